/- Chapter 13: Of, of a small stream, with anything behind. -/
import Derived.Test.YthcecnolmhillaaMr5
import Derived.Test.YthcecnolmhillaaL10
import Derived.Test.YthcecnolmhillaaL11
import Derived.RegionTactic
namespace Go.Proofs.Ythcecnolmhillaa
open Go.RowKit Tt
set_option linter.unusedVariables false
set_option linter.unusedSimpArgs false

theorem infoSz : (Try.prog.info? 63).map (fun i => (i.size, i.bytes)) = some (3, 56) := by kernel_rfl
theorem infoSzz : (Try.prog.info? 63).map (fun i => i.zero.map (fun z => z.cells.size)) = some (some 3) := by kernel_rfl
theorem infoS_parts : ∃ (i : TypeInfo) (z : Value), Try.prog.info? 63 = some i ∧ i.zero = some z ∧ i.size = 3 ∧ i.bytes = 56 ∧ z.cells.size = 3 := by
  have h1 := infoSz
  have h2 := infoSzz
  revert h1 h2
  cases Try.prog.info? 63 with
  | none => intro h1 _; cases h1
  | some i =>
    intro h1 h2
    simp only [Option.map_some, Option.some.injEq, Prod.mk.injEq] at h1 h2
    cases hz : i.zero with
    | none => rw [hz] at h2; cases h2
    | some z => rw [hz] at h2; simp only [Option.map_some, Option.some.injEq] at h2; exact ⟨i, z, rfl, hz, h1.1, h1.2, h2⟩

/-- ahead of the j-th marker -/
structure OS (w : World) (N n c : Nat) (a : Option Addr) (j : Nat) (W : World) : Prop where
  below : Below N w W
  segs : ∃ (a' : Option Addr) (c' : Nat) (cs : List Value), Blk W N 53 #[.slice a' j c'] ∧ W.ownsRow (N + 5) 63 3 (.slice a' j c') j cs ∧ ∀ i, i < j → cs[i * 3]? = some (.int .i64 (cMk i))
  b1 : Blk W (N + 1) 3 #[.int .i64 0]
  b2 : Blk W (N + 2) 3 #[.int .i64 0]
  b3 : Blk W (N + 3) 37 #[.int .i64 0]
  lx : Lx W (N + 4) a n c (cAt j)

set_option maxRecDepth 100000 in
set_option maxHeartbeats 8000000 in
theorem of_core (n c : Nat) (a : Option Addr) (z : List Int) (w : World) (hs : Sl w a n c 1 (ints .u8 z)) (hz : Byt z) (hc : z.take 15 = core15) (hn : 15 ≤ n) (hnn : n ≤ 140737488355328) :
    Calls Try.prog 25 #[.slice a n c] w fun e w' => ∃ a' n' c', e = .returned (.tuple #[.slice a' n' c', .int .i64 15, .int .i64 0, .int .i64 0]) ∧ Below w.heap.size w w' := by
  obtain ⟨i0, z0, hi, hiz, hz1, hz2, hz3⟩ := infoS_parts
  have hmf : ∀ (fn : Fn) (first cap : Array Value) (w : World), (Instr.makeFunc fn first cap).run Try.prog w = .ok (.func fn first cap) w := fun _ _ _ _ => rfl
  have HM := Lib.hid (core_marker (w.heap.size + 4) n c a z w hs hz hc hn)
  have HG := Lib.hid (core_segment (w.heap.size + 4) n c a z w hs hz hc hn hnn (by omega))
  clear hs hz hc
  go_enter_defers Try.func25, Try.ntmps25
  go_wp2
  clear hmf
  obtain ⟨N, hN⟩ : ∃ N, N = w.heap.size := ⟨_, rfl⟩
  go_loopw [] (fun wr => ∃ j : Nat, j ≤ 3 ∧ OS w w.heap.size n c a j wr) (fun wr => 15 - (intOf ((wr.cell? ⟨w.heap.size + 4, 1, none⟩).getD undef)).toNat)
  case atStart =>
    refine ⟨0, by omega, ?_, ⟨none, 0, [], ?_, own_nil _ _ _ _, fun i hi => by omega⟩, ?_, ?_, ?_, ?_⟩
    · exact (((((Below.refl _ _).alloc (Nat.le_refl _) _).alloc (by simp) _).alloc (by simp <;> omega) _).alloc (by simp <;> omega) _).alloc (by simp <;> omega) _
    · exact (heap_old _ _ (by simp <;> omega)).trans ((heap_old _ _ (by simp <;> omega)).trans ((heap_old _ _ (by simp <;> omega)).trans ((heap_old _ _ (by simp)).trans (heap_new _ _))))
    · exact (heap_old _ _ (by simp <;> omega)).trans ((heap_old _ _ (by simp <;> omega)).trans ((heap_old _ _ (by simp)).trans (heap_new' _ _ (by simp))))
    · exact (heap_old _ _ (by simp <;> omega)).trans ((heap_old _ _ (by simp)).trans (heap_new' _ _ (by simp)))
    · exact (heap_old _ _ (by simp)).trans (heap_new' _ _ (by simp))
    · exact heap_new' _ _ (by simp)
  case round =>
    obtain ⟨j, hj, hb, ⟨a', c', cs, bs, own, hcs⟩, b1, b2, b3, lx⟩ := hrel
    have p0 : wr.cell? ⟨w.heap.size, 0, none⟩ = some (.slice a' j c') := bs.cell rfl
    have hsz := lx.lt
    have hb' := Lib.hid hb
    have bs' := Lib.hid bs
    have own' := Lib.hid own
    have hcs' := Lib.hid hcs
    have b1' := Lib.hid b1
    have b2' := Lib.hid b2
    have b3' := Lib.hid b3
    have lx' := Lib.hid lx
    have hN' := Lib.hid hN
    clear hb bs own hcs b1 b2 b3 lx hN
    by_cases hj3 : j < 3
    · have hM := Lib.hid (HM.out j hj3)
      have hG := Lib.hid (HG.out j hj3)
      have hlim : cAt j < cAt (j + 1) ∧ cAt (j + 1) ≤ 15 := by
        have : j = 0 ∨ j = 1 ∨ j = 2 := by omega
        rcases this with rfl | rfl | rfl <;> decide
      have hcase : (j = 0 ∧ ((j : Int) == 0) = true ∧ (j == 0) = true) ∨ (∃ i g, j = i + 1 ∧ ((j : Int) == 0) = false ∧ (j == 0) = false ∧ (j : Int) - 1 = (i : Int) ∧ (i : Int) < (j : Int) ∧ a' = some ⟨g, 0, none⟩ ∧ ∃ m : Int, wr.cell? ⟨g, i * 3, none⟩ = some (.int .i64 m) ∧ (m != 217) = true) := by
        rcases Nat.eq_zero_or_pos j with h0 | h0
        · exact .inl ⟨h0, by simp [h0], by simp [h0]⟩
        · obtain ⟨i, rfl⟩ : ∃ i, j = i + 1 := ⟨j - 1, by omega⟩
          obtain ⟨g, e, _, _, _, hcl⟩ := own_at own'.out (i := i) (by omega)
          refine .inr ⟨i, g, rfl, by simp; omega, by simp, by omega, by omega, e, cMk i, hcl _ _ (hcs'.out i (by omega)), ?_⟩
          have : i = 0 ∨ i = 1 := by omega
          rcases this with rfl | rfl <;> decide
      have hlim' := Lib.hid hlim
      clear hlim
      rcases hcase with ⟨h0, q1, q2⟩ | ⟨i, g, h0, q1, q2, q3, q4, rfl, m, f1, q5⟩
      all_goals
        have h0' := Lib.hid h0
        clear h0
        go_wp2_with fail
        clear q1 q2
        try clear q3 q4 q5 f1
        obtain ⟨Ty, f, hne, hcell, hsurj⟩ := cell_worlds ⟨w.heap.size, 0, none⟩ _ wr p0
        have HS := Lib.hid (hsurj wr.drew p0)
        have hsurj' := Lib.hid hsurj
        have p0' := Lib.hid p0
        clear hsurj p0
        refine wp_noP ?_
        refine till_begin (t := 6) (C := fun W => ∃ s, W = f s) (by kernel_rfl) 8 rfl ?_
        refine till_free [1, 2] 6 (by kernel_rfl) noP_put (by kernel_rfl) (by kernel_rfl) (by kernel_rfl) HS.out ?_
        simp only [pickL, List.map_cons, List.map_nil, List.getD_cons_succ, List.getD_cons_zero]
        iterate 2 (go_big_quiet_step (fail))
        refine wpQuiet_nil ?_
        refine till_take [0] 5 (by kernel_rfl) noP_put (by kernel_rfl) (by kernel_rfl) (by kernel_rfl) HS.out ?_
        simp only [pickL, List.map_cons, List.map_nil, List.getD_cons_succ, List.getD_cons_zero]
        iterate 1 (go_big_quiet_step (fail))
        refine wpQuiet_nil ?_
        refine till_one 3 4 (by kernel_rfl) (by kernel_rfl) ?_
        simp only [pickL, List.map_cons, List.map_nil, List.getD_cons_succ, List.getD_cons_zero]
        go_wp2_with fail
        have HD := Lib.hid ((Below.refl wr.heap.size wr).drew)
        have HB := Lib.hid (hb'.out.trans (HD.out.mono hb'.out.size))
        refine (hM.out _ HB.out (lx'.out.late HD.out)).mono ?_
        rintro e w2 ⟨rfl, hbt, hlx⟩
        have K := Lib.hid ((But.of_below (b := w.heap.size + 4) HD.out).trans hbt)
        have LX := Lib.hid hlx
        have HB := Lib.hid (hb'.out.trans (K.out.below (by omega) hb'.out.size))
        have P0 := Lib.hid ((K.out.cell (p := ⟨w.heap.size, 0, none⟩) (by show w.heap.size < _; omega) (by show w.heap.size ≠ _; omega)).trans p0'.out)
        have HS := Lib.hid (hsurj'.out _ P0.out)
        clear hbt hlx
        go_wp2_with fail
        refine Mid.mk ⟨fun _ => HS.out, ?_⟩
        refine till_one 4 3 (by kernel_rfl) (by kernel_rfl) ?_
        simp only [pickL, List.map_cons, List.map_nil, List.getD_cons_succ, List.getD_cons_zero]
        go_wp2_with fail
        refine (hG.out _ HB.out LX.out).mono ?_
        rintro e w3 ⟨sa1, sn1, sc1, sa2, sn2, sc2, rfl, hbt, hlx⟩
        have K := Lib.hid (K.out.trans hbt)
        have LX := Lib.hid hlx
        have HB := Lib.hid (hb'.out.trans (K.out.below (by omega) hb'.out.size))
        have P0 := Lib.hid ((K.out.cell (p := ⟨w.heap.size, 0, none⟩) (by show w.heap.size < _; omega) (by show w.heap.size ≠ _; omega)).trans p0'.out)
        have HS := Lib.hid (hsurj'.out _ P0.out)
        have OW := Lib.hid (own_but own'.out K.out (own_ne own'.out (by omega)))
        have BS := Lib.hid (bs'.out.but K.out (by omega))
        have B1 := Lib.hid (b1'.out.but K.out (by omega))
        have B2 := Lib.hid (b2'.out.but K.out (by omega))
        have B3 := Lib.hid (b3'.out.but K.out (by omega))
        have hsz3 := K.out.size
        clear hbt hlx
        go_wp2_with fail
        refine Mid.mk ⟨fun _ => HS.out, ?_⟩
        refine till_one 5 2 (by kernel_rfl) (by kernel_rfl) ?_
        simp only [pickL, List.map_cons, List.map_nil, List.getD_cons_succ, List.getD_cons_zero]
        go_wp2_with fail
        obtain ⟨mk, hmk⟩ : ∃ mk, cMk j = mk := ⟨_, rfl⟩
        rw [hmk]
        have hmk' := Lib.hid hmk
        clear hmk
        have AL := Lib.hid ((Below.refl w3.heap.size w3).alloc (Nat.le_refl _) (.cells #[.int .i64 mk, .slice sa1 sn1 sc1, .slice sa2 sn2 sc2] 63))
        refine Mid.mk ⟨fun _ => hsurj'.out _ (late AL.out (by show w.heap.size < _; omega) P0.out), ?_⟩
        refine till_one 6 1 (by kernel_rfl) (by kernel_rfl) ?_
        simp only [pickL, List.map_cons, List.map_nil, List.getD_cons_succ, List.getD_cons_zero]
        go_wp2_with (at_builtin; refine wpList_app rfl _ _ 53 rfl (w.heap.size + 5) 63 i0 z0 3 56 Try.underlying53 hi hiz hz1 hz2 hz3 (by decide) _ j _ rfl (World.ownsRow.alloc OW.out _) _ 1 1 [.int .i64 mk, .slice sa1 sn1 sc1, .slice sa2 sn2 sc2] rfl (Sl.new' _ 63 3 1 #[.int .i64 mk, .slice sa1 sn1 sc1, .slice sa2 sn2 sc2] (0, 0) (by simp) (by omega) rfl) (by simp [Value.oneCell']) (by omega) (by decide) (by simp; omega) ?_; intro a5 c5 w5 ob hb5 hg5; have Ob := Lib.hid ob; have Hb5 := Lib.hid hb5; clear ob hb5 hg5)
        have H5 := Lib.hid ((Below.mono AL.out (show w.heap.size + 5 ≤ w3.heap.size by omega)).trans Hb5.out)
        have BS := Lib.hid (BS.out.mono H5.out (by omega))
        have B1 := Lib.hid (B1.out.mono H5.out (by omega))
        have B2 := Lib.hid (B2.out.mono H5.out (by omega))
        have B3 := Lib.hid (B3.out.mono H5.out (by omega))
        have LX := Lib.hid (show Lx w5 (w.heap.size + 4) a n c (cAt (j + 1)) from Blk.mono LX.out H5.out (by omega))
        have HB := Lib.hid (HB.out.trans (H5.out.mono (by omega)))
        refine Mid.mk ?_
        refine till_one 7 0 (by kernel_rfl) (by kernel_rfl) ?_
        simp only [pickL, List.map_cons, List.map_nil, List.getD_cons_succ, List.getD_cons_zero]
        have p5 : w5.cell? ⟨w.heap.size, 0, none⟩ = some (.slice _ j c') := BS.out.cell rfl
        have z5 : w5.frozen? ⟨w.heap.size, 0, none⟩ = false := BS.out.frozen 0
        go_wp2_with fail
        clear p5 z5
        refine Mid.mk ⟨fun h => (by simp [segL] at h), ?_⟩
        refine till_last (by kernel_rfl) (noP_normal ?_)
        go_wp2_with fail
        have hnew : OS w w.heap.size n c a (j + 1) (w5.setCell ⟨w.heap.size, 0, none⟩ (.slice a5 (j + 1) c5)) := by
          refine ⟨HB.out.setCell (p := ⟨w.heap.size, 0, none⟩) (Nat.le_refl _) _, ⟨a5, c5, _, BS.out.set 0 _, own_set_other Ob.out (by omega) 0 _, fun i hi => ?_⟩, B1.out.set_other (by omega) 0 _, B2.out.set_other (by omega) 0 _, B3.out.set_other (by omega) 0 _, Blk.set_other LX.out (by omega) 0 _⟩
          have hl := own'.out.1
          rcases Nat.lt_or_ge i j with h | h
          · rw [List.getElem?_append_left (by omega)]; exact hcs'.out i h
          · obtain rfl : i = j := by omega
            rw [List.getElem?_append_right (by omega), hl, Nat.sub_self, ← hmk'.out]
            rfl
        have hat : ((w5.setCell ⟨w.heap.size, 0, none⟩ (.slice a5 (j + 1) c5)).cell? ⟨w.heap.size + 4, 1, none⟩).getD undef = .int .i64 (cAt (j + 1) : Nat) := by rw [hnew.lx.c1]; rfl
        have hat0 : (wr.cell? ⟨w.heap.size + 4, 1, none⟩).getD undef = .int .i64 (cAt j : Nat) := by rw [lx'.out.c1]; rfl
        have hnew' := Lib.hid hnew
        have hat' := Lib.hid hat
        have hat0' := Lib.hid hat0
        clear hnew hat hat0
        go_roundw
        case rel => exact ⟨j + 1, by omega, hnew'.out⟩
        case measure =>
          rw [hat'.out, hat0'.out]
          have := hlim'.out
          simp only [intOf]
          omega
    · obtain ⟨i, hi2⟩ : ∃ i, i = 2 := ⟨2, rfl⟩
      have hj3e : j = 3 := by omega
      have q1 : ((j : Int) == 0) = false := by simp; omega
      have q2 : (j == 0) = false := by simp; omega
      have q3 : (j : Int) - 1 = (i : Int) := by omega
      have q4 : (i : Int) < (j : Int) := by omega
      obtain ⟨g, rfl, _, _, _, hcl⟩ := own_at own'.out (i := i) (by omega)
      have f1 : wr.cell? ⟨g, i * 3, none⟩ = some (.int .i64 217) := by
        rw [hcl _ _ (hcs'.out i (by omega)), hi2]; rfl
      have c1 : wr.cell? ⟨w.heap.size + 4, 1, none⟩ = some (.int .i64 15) := by
        have := lx'.out.c1
        rw [hj3e] at this
        exact this
      have e1 := b1'.out.cell (i := 0) rfl
      have e2 := b2'.out.cell (i := 0) rfl
      have e3 := b3'.out.cell (i := 0) rfl
      have y0 := bs'.out.frozen 0
      have y1 := b1'.out.frozen 0
      have y2 := b2'.out.frozen 0
      have y3 := b3'.out.frozen 0
      have hi2' := Lib.hid hi2
      have hj3e' := Lib.hid hj3e
      clear hi2 hj3e
      clear hcl
      go_wp2_with fail
      clear q1 q2 q3 q4 f1
      go_region
      all_goals
        go_wp2
        refine leaves_cons (f := 26) (args := #[.pointer (some ⟨w.heap.size, 0, none⟩), .pointer (some ⟨w.heap.size + 1, 0, none⟩), .pointer (some ⟨w.heap.size + 1 + 1, 0, none⟩), .pointer (some ⟨w.heap.size + 1 + 1 + 1, 0, none⟩)]) (by simp) (by simp [go_sem]) ?_
        refine (of1_idle _ _ _ _ _).mono ?_
        rintro e u' w2 ⟨rfl, rfl, hb2⟩
        have g0 : w2.cell? ⟨w.heap.size, 0, none⟩ = some (.slice (some ⟨g, 0, none⟩) j c') := late hb2 (by simp; omega) (by go_simp)
        have g1 : w2.cell? ⟨w.heap.size + 1, 0, none⟩ = some (.int .i64 15) := late hb2 (by simp; omega) (by go_simp)
        have g2 : w2.cell? ⟨w.heap.size + 1 + 1, 0, none⟩ = some (.int .i64 0) := late hb2 (by simp; omega) (by go_simp)
        have g3 : w2.cell? ⟨w.heap.size + 1 + 1 + 1, 0, none⟩ = some (.int .i64 0) := late hb2 (by simp; omega) (by go_simp)
        refine ⟨.tuple #[.slice (some ⟨g, 0, none⟩) j c', .int .i64 15, .int .i64 0, .int .i64 0], ?_, _, _, _, rfl, ?_⟩
        · simp [results, Try.results25, go_sem, g0, g1, g2, g3]
        · refine Below.trans ?_ (hb2.mono (by simp; omega))
          exact ((((hb'.out.trans ((Below.refl _ _).drew)).setCell (Nat.le_refl _) _).setCell (Nat.le_succ _) _).setCell (by show w.heap.size ≤ w.heap.size + 1 + 1; omega) _).setCell (by show w.heap.size ≤ w.heap.size + 1 + 1 + 1; omega) _
end Go.Proofs.Ythcecnolmhillaa
