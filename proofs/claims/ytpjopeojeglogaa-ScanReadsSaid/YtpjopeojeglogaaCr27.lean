/- Chapter 14: equality of equal arrays of numbers, of equal tables; quantisation tables that are the same: the law's own. | Chapter 12: rows and planes of blocks that are the same: the law's row, the document's Same. | Chapter 12: blocks written: the program. | Chapter 12: blocks written: the program's scan.Write. -/
import Derived.ChangeKeysEq
import Derived.Laws.StructEq
import Derived.Test.YtpjopeojeglogaaCr07
import Derived.Test.YtpjopeojeglogaaCr15
import Derived.Test.YtpjopeojeglogaaCr24
import Derived.Test.YtpjopeojeglogaaCr21
namespace Go.Proofs.Ytpjopeojeglogaa
open Go.RowKit Tt
set_option linter.unusedVariables false
set_option linter.unusedSimpArgs false

theorem info_int : ∃ i, Try.prog.info? 3 = some i := by
  cases h : Try.prog.info? 3 with
  | none =>
    have : (Try.prog.info? 3).isSome = true := by kernel_rfl
    rw [h] at this
    cases this
  | some i => exact ⟨i, rfl⟩
theorem items_same (d : Nat) (W : World) (l : List Int) (A : Array Value) (hA : (ints .i64 l).toArray = A) : ∀ (is : List Nat), (∀ i ∈ is, i < l.length) → (Op.eqItems (d + 1) 3 1 A A is).run Try.prog W = .ok true W
  | [], _ => by simp [Op.eqItems]
  | i :: is, h => by
    have hi := h i List.mem_cons_self; have hp : (part 3 A i).run Try.prog W = .ok (.int .i64 (l.getD i 0)) W := run_part_plain (P := Try.prog) W (e := 3) (by kernel_rfl) (by rw [← hA, List.getElem?_toArray]; exact ints_get hi); have he := run_equalIn_int (P := Try.prog) W d 3 .i64 _ (l.getD i 0) (l.getD i 0) Try.underlying3; rw [beq_self_eq_true] at he; simp only [Op.eqItems, Sem.run_bind, Nat.mul_one, hp, Result.andThen_ok, he, Bool.not_true, Bool.false_eq_true, if_false]; exact items_same d W l A hA is (fun j hj => h j (List.mem_cons_of_mem _ hj))
theorem eq_arr {T : TypeId} {n : Nat} (d : Nat) (W : World) (l : List Int) (A : Array Value) (hA : (ints .i64 l).toArray = A) (hn : l.length = n) (hu : Try.prog.underlying T = some (.array n 3)) : (Op.equalIn (d + 2) T (.agg A) (.agg A)).run Try.prog W = .ok true W := by
  obtain ⟨i, hi⟩ := info_int; have hc : Try.prog.cellsOf 3 = 1 := by kernel_rfl
  rw [run_equalIn_array (w := W) (d + 1) A A hu hi, hc]; exact items_same d W l A hA (List.range n) (fun i hi => by rw [hn]; exact List.mem_range.1 hi)
theorem neq_arr {T : TypeId} {n : Nat} (W : World) (l : List Int) (A : Array Value) (hA : (ints .i64 l).toArray = A) (hn : l.length = n) (hu : Try.prog.underlying T = some (.array n 3)) : (binOp .neq T (.agg A) (.agg A)).run Try.prog W = .ok (.bool false) W := by
  rw [run_neq_struct, eq_arr 9998 W l A hA hn hu]
  rfl
attribute [-go_sem] run_neq_struct
end Go.Proofs.Ytpjopeojeglogaa

namespace Go.Proofs.Ytpjopeojeglogaa
open Go.RowKit Tt
set_option linter.unusedVariables false
set_option linter.unusedSimpArgs false

set_option maxRecDepth 20000 in
set_option maxHeartbeats 2000000 in
theorem lrow_eq (a b : Option Addr) (n c d : Nat) (l : List Int) (w : World) (ha : Sl w a n c 1 (ints .i64 l)) (hb : Sl w b n d 1 (ints .i64 l)) :
    Calls Try.prog 25 #[.slice a n c, .slice b n d] w fun e w' => e = .returned (.bool true) ∧ Below w.heap.size w w' := by
  have hl := ha.ilen; have hmx := ha.max; have hle := ha.le; have hq0 := Qt.refl w; have hnb : ((n : Int) != n) = false := by simp
  have ha' := Lib.hid ha; have hb' := Lib.hid hb; have hl' := Lib.hid hl; have hq0' := Lib.hid hq0; clear ha hb hl hq0
  go_enter Try.func25, Try.ntmps25
  go_wp2
  go_loopw [5] (fun iv wr => ∃ (k : Nat), k ≤ n ∧ iv = .int .i64 k ∧ Hid (Qt w wr)) (fun iv _ => n - (intOf iv).toNat)
  case atStart => exact ⟨0, by omega, rfl, hq0'⟩
  case round =>
    obtain ⟨k, hk, rfl, hq⟩ := hrel; obtain ⟨dq, rfl⟩ := hq.out.ex
    by_cases hlt : k < n
    · obtain ⟨x, hx⟩ : ∃ x, l[k]? = some x := ⟨_, List.getElem?_eq_getElem (by rw [hl'.out]; exact hlt)⟩
      have hxd : l.getD k 0 = x := by rw [List.getD_eq_getElem?_getD, hx]; rfl
      obtain ⟨ba, oa, rfl, _, fa⟩ := ha'.out.at hlt; obtain ⟨bb, ob, rfl, _, fb⟩ := hb'.out.at hlt; have f0 := fa k _ (ints_get (by rw [hl'.out]; exact hlt)); have f1 := fb k _ (ints_get (by rw [hl'.out]; exact hlt)); rw [hxd] at f0 f1; have hbx : (x != x) = false := by simp
      clear fa fb; have hx' := Lib.hid hx; have hxd' := Lib.hid hxd; clear hx hxd
      go_wp2
      go_quiet (fail)
      go_wp2
      go_roundw
      case rel => exact ⟨k + 1, by omega, by go_num, Lib.hid ⟨_, rfl⟩⟩
      case measure => simp [intOf]; omega
    · go_wp2
      go_ret
      exact ⟨rfl, hq.out.below _⟩
theorem BpOk.row {w : World} {b : BpM} (h : BpOk w b) {k : Nat} {x : List Int} (hx : b.1[k]? = some x) : ∃ g o, b.2.1 = some ⟨g, o, none⟩ ∧ g < w.heap.size ∧ ∀ j v, (ints .i64 x)[j]? = some v → w.cell? ⟨g, o + k * 64 + j, none⟩ = some v := by
  have hk : k < b.2.2.1 := by rw [← h.ilen]; exact (List.getElem?_eq_some_iff.1 hx).1
  obtain ⟨g, o, e, hg, _, hc⟩ := h.sl.elem hk; rw [flat_elem (ints .i64) 64 b.1 (fun z hz => by rw [ints_len]; exact h.len z hz) k x hx] at hc; exact ⟨g, o, e, hg, hc⟩
set_option maxRecDepth 20000 in
set_option maxHeartbeats 2000000 in
theorem rsame12_eq (a b : Option Addr) (n c d : Nat) (l m : List BpM) (w : World) (ha : BpsR w a n c l) (hb : BpsR w b n d m) (hlm : l.map (·.1) = m.map (·.1)) (hmx1 : n ≤ maxLen) :
    Calls Try.prog 23 #[.slice a n c, .slice b n d] w fun e w' => e = .returned (.bool true) ∧ Below w.heap.size w w' := by
  have hl := ha.ilen; have hl2 := hb.ilen; have hmx := ha.sl.max; have hle := ha.sl.le; have hq0 := Below.refl w.heap.size w; have hnb : ((n : Int) != n) = false := by simp
  have ha' := Lib.hid ha; have hb' := Lib.hid hb; have hl' := Lib.hid hl; have hl2' := Lib.hid hl2; have hq0' := Lib.hid hq0; have hlm' := Lib.hid hlm; clear ha hb hl hl2 hq0 hlm
  go_enter Try.func23, Try.ntmps23
  go_wp2
  go_loopw [5, 6] (fun iv _ wr => ∃ (k : Nat), k ≤ n ∧ iv = .int .i64 k ∧ Hid (Below w.heap.size w wr)) (fun iv _ _ => n - (intOf iv).toNat)
  case atStart => exact ⟨0, by omega, rfl, hq0'⟩
  case round =>
    obtain ⟨k, hk, rfl, hq⟩ := hrel
    by_cases hlt : k < n
    · obtain ⟨x, hx⟩ : ∃ x, l[k]? = some x := ⟨_, List.getElem?_eq_getElem (by rw [hl'.out]; exact hlt)⟩
      obtain ⟨y, hy⟩ : ∃ y, m[k]? = some y := ⟨_, List.getElem?_eq_getElem (by rw [hl2'.out]; exact hlt)⟩
      have hxy : x.1 = y.1 := by
        have h1 : (l.map (·.1))[k]? = some x.1 := by rw [List.getElem?_map, hx]; rfl
        rw [hlm'.out, List.getElem?_map, hy] at h1; injection h1 with h1; exact h1.symm
      obtain ⟨ga, oa, rfl, hga, fa⟩ := ha'.out.elem hx; obtain ⟨gb, ob, rfl, hgb, fb⟩ := hb'.out.elem hy; have hxo := ha'.out.ok x (List.mem_of_getElem? hx); have hyo := hb'.out.ok y (List.mem_of_getElem? hy); have hxl := hxo.ilen; have hyl := hyo.ilen; have hxm := hxo.sl.max; have hxe := hxo.sl.le; unfold bpV at fa fb; obtain ⟨xl, ta, tn, tc⟩ := x; obtain ⟨yl, ua, un, uc⟩ := y; simp only at hxy hxl hyl fa fb hxm hxe; subst hxy; obtain rfl : un = tn := by omega
      have hnt : ((un : Int) != un) = false := by simp
      have f0 : ∀ W, Below w.heap.size w W → W.cell? ⟨ga, oa + k, none⟩ = some (.slice ta un tc) := fun W h => (h.cell (p := ⟨ga, oa + k, none⟩) hga).trans fa; have f1 : ∀ W, Below w.heap.size w W → W.cell? ⟨gb, ob + k, none⟩ = some (.slice ua un uc) := fun W h => (h.cell (p := ⟨gb, ob + k, none⟩) hgb).trans fb; have g0 := f0 wr hq.out; have g1 := f1 wr hq.out; clear fa fb; have hx' := Lib.hid hx; have hy' := Lib.hid hy; have hxo' := Lib.hid hxo; have hyo' := Lib.hid hyo; have hxl' := Lib.hid hxl; have f0' := Lib.hid f0; have f1' := Lib.hid f1; clear hx hy hxo hyo hxl f0 f1
      go_wp2
      go_quiet (fail)
      have hq1 := hq.out.trans ((Qt.below ⟨nq, rfl⟩ wr.heap.size).mono hq.out.size); obtain ⟨w1, hw1⟩ : ∃ W, wr.drewN nq = W := ⟨_, rfl⟩; rw [hw1] at hq1 ⊢; clear hw1 g0 g1; have hq1' := Lib.hid hq1; clear hq1
      go_wp2
      go_loopw [6] (fun iv wi => ∃ (j : Nat), j ≤ un ∧ iv = .int .i64 j ∧ Hid (Below w.heap.size w wi)) (fun iv _ => un - (intOf iv).toNat)
      case atStart => exact ⟨0, by omega, rfl, hq1'⟩
      case round =>
        rename World => wi
        obtain ⟨j, hj, rfl, hqi⟩ := hrel; have g0 := f0'.out wi hqi.out
        by_cases hjt : j < un
        · obtain ⟨z, hz⟩ : ∃ z, xl[j]? = some z := ⟨_, List.getElem?_eq_getElem (by have := hxl'.out; omega)⟩
          have hzl := hxo'.out.len z (List.mem_of_getElem? hz); obtain ⟨ca, pa, hta, hca, fa⟩ := hxo'.out.row hz; obtain ⟨cb, pb, hua, hcb, fb⟩ := hyo'.out.row hz; simp only at hta hua; subst hta; subst hua; obtain ⟨B, hB⟩ : ∃ B, (ints .i64 z).toArray = B := ⟨_, rfl⟩; have hzi : (ints .i64 z).length = 64 := by rw [ints_len]; exact hzl
          have hnq := fun W => neq_arr (T := 129) W z B hB hzl Try.underlying129; have hD := hqi.out.drew; obtain ⟨wD, hwD⟩ : ∃ wD, wi.drew = wD := ⟨_, rfl⟩; rw [hwD] at hD; obtain ⟨Ty, ff, hne, qq, hsurj⟩ := pr_worlds (fun W => Below w.heap.size w W) wD hD; have HS := Lib.hid (hsurj _ hD); have y0 : ∀ s, (ff s).cell? ⟨ga, oa + k, none⟩ = some (.slice (some ⟨ca, pa, none⟩) un tc) := fun s => f0'.out _ (qq s); have y1 : ∀ s, (ff s).cell? ⟨gb, ob + k, none⟩ = some (.slice (some ⟨cb, pb, none⟩) un uc) := fun s => f1'.out _ (qq s)
          have fA : ∀ W, (∃ s, W = ff s) → ∀ i v, (ints .i64 z)[i]? = some v → W.cell? ⟨ca, pa + j * 64 + i, none⟩ = some v := fun W h i v hv => by
            obtain ⟨s, rfl⟩ := h; exact ((qq s).cell (p := ⟨ca, pa + j * 64 + i, none⟩) hca).trans (fa i v hv)
          have fB : ∀ W, (∃ s, W = ff s) → ∀ i v, (ints .i64 z)[i]? = some v → W.cell? ⟨cb, pb + j * 64 + i, none⟩ = some v := fun W h i v hv => by
            obtain ⟨s, rfl⟩ := h; exact ((qq s).cell (p := ⟨cb, pb + j * 64 + i, none⟩) hcb).trans (fb i v hv)
          clear fa fb qq hsurj; have hz' := Lib.hid hz; have hzl' := Lib.hid hzl; have hB' := Lib.hid hB; have hzi' := Lib.hid hzi; have hwD' := Lib.hid hwD; have hD' := Lib.hid hD; have fA' := Lib.hid fA; have fB' := Lib.hid fB; clear hz hzl hB hzi hwD hD fA fB
          go_upto_region 11 with fail
          refine held_begin (S := fun W => ∃ s, W = ff s) (by kernel_rfl) 15 rfl ?_; rw [hwD'.out]; refine held_take [0, 1, 2, 3, 4, 5, 6, 7, 8, 9, 10, 11, 12, 13] 1 (by kernel_rfl) (fun d _ _ _ _ h => by cases d <;> exact h) (by kernel_rfl) (by kernel_rfl) (by kernel_rfl) HS.out ?_; simp only [pickL, List.map_cons, List.map_nil, List.getD_cons_succ, List.getD_cons_zero]
          iterate 6 (go_big_quiet_step (fail))
          refine wpQuiet_load_at rfl 129 (.tmp 43) rfl ca (pa + j * 64) rfl (ints .i64 z) B hB'.out _ fA'.out Try.underlying129 rfl 64 infoB64 hzi'.out ?_; simp only [Act.put, List.setIfInBounds_toArray, List.set_cons_succ, List.set_cons_zero]
          iterate 6 (go_big_quiet_step (fail))
          refine wpQuiet_load_at rfl 129 (.tmp 50) rfl cb (pb + j * 64) rfl (ints .i64 z) B hB'.out _ fB'.out Try.underlying129 rfl 64 infoB64 hzi'.out ?_; simp only [Act.put, List.setIfInBounds_toArray, List.set_cons_succ, List.set_cons_zero]; refine wpQuiet_nil ?_; clear y0 y1 g0; refine held_one 14 0 (by kernel_rfl) (by kernel_rfl) ?_; simp only [pickL, List.map_cons, List.map_nil, List.getD_cons_succ, List.getD_cons_zero]
          go_wp2_with fail
          refine Mid.mk ⟨HS.out, ?_⟩; refine held_last (by kernel_rfl) ?_; clear HS
          go_wp2
          go_roundw
          case rel => exact ⟨j + 1, by omega, by go_num, hD'⟩
          case measure => simp [intOf]; omega
        · go_wp2
          go_roundw
          case rel => exact ⟨k + 1, by omega, by go_num, hqi⟩
          case measure => simp [intOf]; omega
    · go_wp2
      go_ret
      exact ⟨rfl, hq.out⟩
end Go.Proofs.Ytpjopeojeglogaa

namespace Go.Proofs.Ytpjopeojeglogaa
open Go.RowKit Tt
set_option linter.unusedVariables false
set_option linter.unusedSimpArgs false

/-- what stands in memory while blocks are written: w1 is the world behind the tables -/
structure WJ (w1 : World) (g2 g6 g7 g8 : Nat) (s : ScT) (pa : Option Addr) (pn pc : Nat) (ta : Option Addr) (tc : Nat) (S : Nat → Prop) (t : WrT) (w : World) : Prop where
  bel : Below w1.heap.size w1 w
  bd : ∀ k, S k → w1.heap.size ≤ k ∧ k < w.heap.size ∧ k ≠ g2 ∧ k ≠ g6
  m7 : S g7
  m8 : S g8
  b2 : Blk w g2 24 #[.int .i64 s.ax, .int .i64 s.dn, .slice pa pn pc, .int .i64 s.iv]
  b6 : Blk w g6 130 #[.slice ta pn tc]
  ex : ∃ ao no co wb Sw, Blk w g7 30 #[.slice ao no co] ∧ w.ownsRow 0 5 1 (.slice ao no co) no (ints .u8 t.1) ∧ (∀ k, (Value.slice ao no co).ownBlock = some k → S k ∧ k ≠ g7 ∧ k ≠ g8) ∧
    Blk w g8 123 #[.pointer (some ⟨wb, 0, none⟩)] ∧ Wl Sw w wb t.2 ∧ ∀ k, Sw k → S k ∧ k ≠ g7 ∧ k ≠ g8 ∧ ¬ (Value.slice ao no co).ownBlock = some k
section
variable {w1 : World} {g2 g6 g7 g8 : Nat} {s : ScT} {pa : Option Addr} {pn pc : Nat} {ta : Option Addr} {tc : Nat}
theorem WJ.late {S : Nat → Prop} {t : WrT} {w w' : World} (h : WJ w1 g2 g6 g7 g8 s pa pn pc ta tc S t w) (hb : Below w.heap.size w w') : WJ w1 g2 g6 g7 g8 s pa pn pc ta tc S t w' := by
  obtain ⟨ao, no, co, wb, Sw, h1, h2, h3, h4, h5, h6⟩ := h.ex; exact ⟨h.bel.trans (hb.mono h.bel.size), fun k hk => by have := h.bd k hk; have := hb.size; omega, h.m7, h.m8, h.b2.late hb, h.b6.late hb, ao, no, co, wb, Sw, h1.late hb, own_later h2 hb, h3, h4.late hb, h5.late hb, h6⟩
theorem WJ.but {S : Nat → Prop} {t : WrT} {w w' : World} {g E : Nat} (h : WJ w1 g2 g6 g7 g8 s pa pn pc ta tc S t w) (hb : But g w w') (hE : E ≤ g) (hg : ¬ S g) (h1E : w1.heap.size ≤ E) (h2E : g2 < E) (h6E : g6 < E) : WJ w1 g2 g6 g7 g8 s pa pn pc ta tc S t w' := by
  obtain ⟨ao, no, co, wb, Sw, h1, h2, h3, h4, h5, h6⟩ := h.ex; refine ⟨h.bel.trans (hb.below (by omega) h.bel.size), fun k hk => by have := h.bd k hk; have := hb.size; omega, h.m7, h.m8, h.b2.but hb (by omega), h.b6.but hb (by omega), ao, no, co, wb, Sw, h1.but hb (fun e => hg (e ▸ h.m7)), own_but h2 hb (fun e => hg (h3 g e).1), h3, h4.but hb (fun e => hg (e ▸ h.m8)), h5.mo (S' := fun k => k = g) (Mo.of_but hb rfl) (fun k hk e => hg (e ▸ (h6 k hk).1)), h6⟩
theorem WJ.bd2 {S : Nat → Prop} {t : WrT} {w w' : World} (h : WJ w1 g2 g6 g7 g8 s pa pn pc ta tc S t w) (hsz : w.heap.size ≤ w'.heap.size) : ∀ k, Sx S w w' k → w1.heap.size ≤ k ∧ k < w'.heap.size ∧ k ≠ g2 ∧ k ≠ g6 := fun k hk => by
  have h1 := h.bel.size; have h2 := h.b2.lt; have h3 := h.b6.lt
  rcases hk with hk | hk
  · have := h.bd k hk; omega
  · omega
set_option maxRecDepth 20000 in
theorem writeJ (tl : List (Nat × Nat)) (E : Nat) (h1E : w1.heap.size ≤ E) (h2E : g2 < E) (h6E : g6 < E) (h6b : w1.heap.size ≤ g6) (h78 : g8 ≠ g7) (hrow : Sl w1 ta pn tc 2 (tabsC tl)) (htb : TbsA w1 s.ps tl) (hlt : tl.length = pn) (hps : s.ps.length = pn) (hiv : s.iv ≤ 65535) :
    TellJ (WJ w1 g2 g6 g7 g8 s pa pn pc ta tc) E w1.heap.size 4000000 sizeW pn s.iv 91 93 (.pointer (some ⟨g6, 0, none⟩)) (.pointer (some ⟨g8, 0, none⟩)) (.pointer (some ⟨g7, 0, none⟩)) (.pointer (some ⟨g8, 0, none⟩)) (.pointer (some ⟨g2, 0, none⟩)) (putW s.ps) (againW s.iv) where
  low S t w h k hk := (h.bd k hk).1
  high S t w h k hk := (h.bd k hk).2.1
  late S t w w' h hb := h.late hb
  but S t w w' g h hb hE hg := h.but hb hE hg h1E h2E h6E
  grow t t' part x hx h := putW_grow hx h
  less t n := againW_less s.iv t n
  put S t w part x A hA h hp hz hx := by
    obtain ⟨ao, no, co, wb, Sw, e1, e2, e3, e4, e5, e6⟩ := h.ex; have hbel := h.bel; have hS : ∀ k, Sw k → k < w.heap.size := fun k hk => (h.bd k (e6 k hk).1).2.1; have hm7 := e1.lt; have hm8 := e4.lt; have hol := e2.lt; refine (wput1_any Sw g6 g8 wb ta pn tc tl s.ps t.2 part x A w hA h.b6 (hrow.mono hbel) (htb.late hbel) hlt hps e4 e5 hS (fun k => (h.bd _ (e6 _ k).1).2.2.2 rfl) (fun k => (e6 _ k).2.2.1 rfl) (fun y hy k => ?_) hp hx (by unfold sizeW at hz; omega)).mono ?_
    · have h1 := (h.bd _ (e6 _ k).1).1
      have hpn : 0 < pn := by omega
      obtain ⟨b, o, e, hb, _⟩ := hrow.lies 0 hpn; rw [hy] at e; injection e with e; rw [e] at h1; simp only at h1
      omega
    · rintro e w' ⟨hr, hm⟩
      have hmS := mo_sub hm (S' := S) fun k hk => (e6 k hk).1; refine ⟨?_, hmS⟩
      rcases hr with ⟨X, hX, rfl, hW⟩ | ⟨hX, rfl⟩
      · refine .inl ⟨_, putW_ok hX, rfl, ⟨hbel.trans (Mo.below hm hbel.size fun k hk hn => by have := (h.bd _ (e6 k hn).1).1; omega), h.bd2 hm.size, .inl h.m7, .inl h.m8, h.b2.mo hm (fun k => (h.bd _ (e6 _ k).1).2.2.1 rfl), h.b6.mo hm (fun k => (h.bd _ (e6 _ k).1).2.2.2 rfl),
          ao, no, co, wb, Sx Sw w w', e1.mo hm (fun k => (e6 _ k).2.1 rfl), own_mo e2 hm (fun k hk n => (e6 k n).2.2.2 hk), fun k hk => ⟨.inl (e3 k hk).1, (e3 k hk).2⟩, e4.mo hm (fun k => (e6 _ k).2.2.1 rfl), hW, fun k hk => ?_⟩⟩
        rcases hk with hk | hk
        · exact ⟨.inl (e6 k hk).1, (e6 k hk).2⟩
        · exact ⟨.inr hk, by omega, by omega, fun e => by have := (hol k e).2; omega⟩
      · exact .inr ⟨2, putW_no hX, by decide, rfl⟩
  again S t w n h hr hn hz := by
    obtain ⟨ao, no, co, wb, Sw, e1, e2, e3, e4, e5, e6⟩ := h.ex; have hbel := h.bel; have hm7 := e1.lt; have hm8 := e4.lt; refine (wagain_any Sw g2 g7 g8 wb ao no co t.1 t.2 s.ax s.dn s.iv pa pn pc n w e1 e2 e4 e5 h.b2 (fun k hk => (e6 k hk).2.2.2) (fun k => (e3 _ k).2.1 rfl) (fun k => (e3 _ k).2.2 rfl) (fun k => (h.bd _ (e3 _ k).1).2.2.1 rfl) h78 (by unfold sizeW at hz; omega) hr hiv hn).mono ?_; rintro e w' ⟨rfl, a', n', c', wb', k1, k2, k3, k4, k5, k6, k7, hm⟩
    have hSS : ∀ k, ((Value.slice ao no co).ownBlock = some k ∨ k = g7 ∨ k = g8) → S k := fun k hk => by
      rcases hk with hk | rfl | rfl
      · exact (e3 k hk).1
      · exact h.m7
      · exact h.m8
    have hmS := mo_sub hm (S' := S) hSS; have hol := k2.lt; have hwl := k4.lt
    refine ⟨rfl, ⟨hbel.trans (Mo.below hmS hbel.size fun k hk hn => by have := (h.bd _ hn).1; omega), h.bd2 hm.size, .inl h.m7, .inl h.m8, h.b2.mo hmS (fun k => (h.bd _ k).2.2.1 rfl), h.b6.mo hmS (fun k => (h.bd _ k).2.2.2 rfl),
      a', n', c', wb', _, k1, k2, fun k hk => ?_, k3, k4, fun k hk => ?_⟩, hmS⟩
    · rcases k6 k hk with h1 | h1
      · exact ⟨.inl (e3 k h1).1, (e3 k h1).2⟩
      · exact ⟨.inr ⟨h1, (hol k hk).2⟩, by omega, by omega⟩
    · rw [hk]
      exact ⟨.inr ⟨k5, hwl⟩, by omega, by omega, k7⟩
end
end Go.Proofs.Ytpjopeojeglogaa

namespace Go.Proofs.Ytpjopeojeglogaa
open Go.RowKit Tt
set_option linter.unusedVariables false
set_option linter.unusedSimpArgs false

theorem writeS_no {s : ScT} {bs : List (List (List Int))} (h : wholeS s bs = false) : writeS s bs = .error 1 := by unfold writeS; rw [h]; rfl
theorem writeS_err {s : ScT} {bs : List (List (List Int))} {er : Int} (h : wholeS s bs = true) (he : tellS (putW s.ps) (againW s.iv) s bs ([], []) = .error er) : writeS s bs = .error er := by unfold writeS; rw [h, if_pos rfl, he]; rfl
theorem writeS_ok {s : ScT} {bs : List (List (List Int))} {t : WrT} {l : List Int} (h : wholeS s bs = true) (he : tellS (putW s.ps) (againW s.iv) s bs ([], []) = .ok (t, l)) : writeS s bs = .ok (t.1 ++ bytesS t.2) := by unfold writeS; rw [h, if_pos rfl, he]; rfl
theorem wholeS_mayS {s : ScT} {bs : List (List (List Int))} (h : wholeS s bs = true) : mayS s = true := by
  cases hm : mayS s with
  | true => rfl
  | false => rw [wholeS_may hm] at h; cases h
set_option maxRecDepth 100000 in
set_option maxHeartbeats 4000000 in
theorem write_any (s : ScT) (bs : List BpM) (pa ba : Option Addr) (pn pc bn bc : Nat) (w : World) (hs : PtsR w pa pn pc s.ps) (hbs : BpsR w ba bn bc bs) (hbn : bn ≤ 1000000000) (hbl : ∀ b ∈ bs, b.2.2.1 ≤ 1000000000) (hw1 : Wf s.ax) (hw2 : Wf s.dn) (hw3 : Wf s.iv) (hpw : ∀ p ∈ s.ps, Wf p.1 ∧ Wf p.2.1) (hfew : mayS s = true → (s.ax * s.dn).toNat ≤ 26) :
    Calls Try.prog 20 #[.agg #[.int .i64 s.ax, .int .i64 s.dn, .slice pa pn pc, .int .i64 s.iv], .slice ba bn bc] w fun e w' =>
      ((∃ out a n c, writeS s (bs.map (·.1)) = .ok out ∧ e = .returned (.tuple #[.slice a n c, .int .i64 0]) ∧ Sl w' a n c 1 (ints .u8 out)) ∨ ∃ er, writeS s (bs.map (·.1)) = .error er ∧ ¬ er = 0 ∧ e = .returned (.tuple #[.slice none 0 0, .int .i64 er])) ∧ Below w.heap.size w w' := by
  have HM := fun W (h : Below w.heap.size w W) => whole_any s bs pa ba pn pc bn bc W (hs.mono h) (hbs.mono h) hbn hbl hw1 hw2 hw3 hpw; have HT := fun W (h : Below w.heap.size w W) hm => tables_any s pa pn pc W (hs.mono h) hm; have hps := hs.ilen; have hno := @writeS_no s (bs.map (·.1)); have herr := fun er => @writeS_err s (bs.map (·.1)) er; have hokk := fun t l => @writeS_ok s (bs.map (·.1)) t l; have hmy := @wholeS_mayS s (bs.map (·.1)); obtain ⟨Q, hQ⟩ : ∃ Q, wholeS s (bs.map (·.1)) = Q := ⟨_, rfl⟩; rw [hQ] at HM hno hmy herr hokk; have b1 := Blk.new w 24 #[.int .i64 s.ax, .int .i64 s.dn, .slice pa pn pc, .int .i64 s.iv]; have hb1 := (Below.refl w.heap.size w).alloc (Nat.le_refl _) (.cells #[.int .i64 s.ax, .int .i64 s.dn, .slice pa pn pc, .int .i64 s.iv] 24); obtain ⟨W1, hW1⟩ : ∃ W1, w.alloc (.cells #[.int .i64 s.ax, .int .i64 s.dn, .slice pa pn pc, .int .i64 s.iv] 24) = W1 := ⟨_, rfl⟩; rw [hW1] at b1 hb1; have hcs : ∀ W, Blk W w.heap.size 24 #[.int .i64 s.ax, .int .i64 s.dn, .slice pa pn pc, .int .i64 s.iv] → W.cell? ⟨w.heap.size, 0, none⟩ = some (.int .i64 s.ax) ∧ W.cell? ⟨w.heap.size, 1, none⟩ = some (.int .i64 s.dn) ∧ W.cell? ⟨w.heap.size, 2, none⟩ = some (.slice pa pn pc) ∧ W.cell? ⟨w.heap.size, 3, none⟩ = some (.int .i64 s.iv) := fun W b => ⟨b.cell rfl, b.cell rfl, b.cell rfl, b.cell rfl⟩; obtain ⟨k0, k1, k2, k3⟩ := hcs W1 b1; have hs' := Lib.hid hs; have hbs' := Lib.hid hbs; have hbn' := Lib.hid hbn; have hbl' := Lib.hid hbl; have hw1' := Lib.hid hw1; have hw2' := Lib.hid hw2; have hw3' := Lib.hid hw3; have hpw' := Lib.hid hpw; have HM' := Lib.hid HM; have HT' := Lib.hid HT; have hps' := Lib.hid hps; have hno' := Lib.hid hno; have herr' := Lib.hid herr; have hokk' := Lib.hid hokk; have hmy' := Lib.hid hmy; have b1' := Lib.hid b1; have hb1' := Lib.hid hb1; have hW1' := Lib.hid hW1; have hcs' := Lib.hid hcs; have hfew' := Lib.hid hfew; have hQ' := Lib.hid hQ; clear hs hbs hbn hbl hw1 hw2 hw3 hpw HM HT hps hno herr hokk hmy b1 hb1 hW1 hcs hfew hQ
  go_enter Try.func20, Try.ntmps20
  go_upto_region 1 with fail
  rw [hW1'.out]
  go_wp2_with fail
  refine (HM'.out _ hb1'.out).mono ?_; rintro e w2 ⟨rfl, hb2⟩; have hbw2 := hb1'.out.trans (hb2.mono hb1'.out.size); have b2 := b1'.out.late hb2; clear hb2 k0 k1 k2 k3; obtain ⟨k0, k1, k2, k3⟩ := hcs'.out w2 b2
  cases Q with
  | false =>
    have hw1 := hno'.out rfl; clear k0 k1 k2 k3; have hbw2' := Lib.hid hbw2; have hw1' := Lib.hid hw1; clear hbw2 hw1
    go_wp2
    go_ret2
    exact ⟨.inr ⟨1, hw1'.out, by decide, rfl⟩, hbw2'.out⟩
  | true =>
    have hmay := hmy'.out rfl; have herr := fun er => herr'.out er rfl; have hokk := fun t l => hokk'.out t l rfl; clear herr' hokk'; obtain ⟨htop, hpts, hsum⟩ := mayS_parts hmay; have hN := hfew'.out hmay; have hT := HT'.out w2 hbw2 hmay; have hbw2' := Lib.hid hbw2; have b2' := Lib.hid b2; have hmay' := Lib.hid hmay; have htop' := Lib.hid htop; have hpts' := Lib.hid hpts; have hsum' := Lib.hid hsum; have hN' := Lib.hid hN; have hT' := Lib.hid hT; have herr' := Lib.hid herr; have hokk' := Lib.hid hokk; clear hbw2 b2 hmay htop hpts hsum hN hT herr hokk
    go_wp2_with fail
    refine hT'.out.mono ?_; rintro e w3 ⟨ta, tc, tl, rfl, hb3, ho3, htl, htb⟩; have hbw3 := hbw2'.out.trans (hb3.mono hbw2'.out.size); have b3 := b2'.out.late hb3; have hrow3 := (Sl.of_own ho3).1; clear k0 k1 k2 k3 hb3; have hbw3' := Lib.hid hbw3; have b3' := Lib.hid b3; have ho3' := Lib.hid ho3; have hrow3' := Lib.hid hrow3; have htl' := Lib.hid htl; have htb' := Lib.hid htb; clear hbw3 b3 ho3 hrow3 htl htb
    go_upto_region 4 with fail
    have l6 := (Below.refl w3.heap.size w3).alloc (Nat.le_refl _) (.cells #[.slice ta pn tc] 130); have c6 := Blk.new w3 130 #[.slice ta pn tc]; obtain ⟨u6, hu6⟩ : ∃ W, w3.alloc (.cells #[.slice ta pn tc] 130) = W := ⟨_, rfl⟩; rw [hu6] at l6 c6 ⊢; have z6 : w3.heap.size < u6.heap.size := c6.lt; have l7 := (Below.refl u6.heap.size u6).alloc (Nat.le_refl _) (.cells #[.slice none 0 0] 30); have c7 := Blk.new u6 30 #[.slice none 0 0]; obtain ⟨u7, hu7⟩ : ∃ W, u6.alloc (.cells #[.slice none 0 0] 30) = W := ⟨_, rfl⟩; rw [hu7] at l7 c7; have z7 : u6.heap.size < u7.heap.size := c7.lt; have l9 := (Below.refl u7.heap.size u7).alloc (Nat.le_refl _) (.cells #[.slice none 0 0, .int .u32 0, .int .i64 0] 121); have c9 := Blk.new u7 121 #[.slice none 0 0, .int .u32 0, .int .i64 0]; obtain ⟨u9, hu9⟩ : ∃ W, u7.alloc (.cells #[.slice none 0 0, .int .u32 0, .int .i64 0] 121) = W := ⟨_, rfl⟩; rw [hu9] at l9 c9; have z9 : u9.heap.size = u7.heap.size + 1 := by rw [← hu9]; exact Array.size_push _
    have l8 := (Below.refl u9.heap.size u9).alloc (Nat.le_refl _) (.cells #[.pointer (some ⟨u7.heap.size, 0, none⟩)] 123); have c8 := Blk.new u9 123 #[.pointer (some ⟨u7.heap.size, 0, none⟩)]; obtain ⟨u8, hu8⟩ : ∃ W, u9.alloc (.cells #[.pointer (some ⟨u7.heap.size, 0, none⟩)] 123) = W := ⟨_, rfl⟩; rw [hu8] at l8 c8; rw [z9] at c8; have z8 : u7.heap.size + 1 < u8.heap.size := c8.lt; have m79 : Below u7.heap.size u7 u8 := l9.trans (l8.mono (by omega)); have m68 : Below u6.heap.size u6 u8 := l7.trans (m79.mono (by omega)); have m38 : Below w3.heap.size w3 u8 := l6.trans (m68.mono (by omega)); have hbw8 := hbw3'.out.trans (m38.mono hbw3'.out.size); have d2 := b3'.out.late m38; have d6 := c6.late m68; have d7 := c7.late m79; have d9 := c9.late l8; have hg2 : w.heap.size < w3.heap.size := b3'.out.lt
    have hWJ : WJ w3 w.heap.size w3.heap.size u6.heap.size (u7.heap.size + 1) s pa pn pc ta tc (fun k => u6.heap.size ≤ k ∧ k < u8.heap.size) ([], []) u8 :=
      ⟨m38, fun k hk => by omega, ⟨by omega, by omega⟩, ⟨by omega, by omega⟩, d2, d6, none, 0, 0, u7.heap.size, fun k => k = u7.heap.size, d7, own_nil _ _ _ _, (fun k hk => by cases hk), c8,
        ⟨⟨none, 0, 0, d9, own_nil _ _ _ _, fun k hk => by cases hk⟩, rfl, fun x hx => by cases hx⟩, fun k hk => by
          subst hk; exact ⟨⟨by omega, by omega⟩, by omega, by omega, fun h => by cases h⟩⟩
    have hJ := writeJ (w1 := w3) (g2 := w.heap.size) (g6 := w3.heap.size) (g7 := u6.heap.size) (g8 := u7.heap.size + 1) (s := s) (pa := pa) (pn := pn) (pc := pc) (ta := ta) (tc := tc) tl u8.heap.size (by omega) (by omega) (by omega) (by omega) (by omega) hrow3'.out htb'.out htl'.out hps'.out (by have := htop'.out; omega)
    have HTe := tell_any (WJ w3 w.heap.size w3.heap.size u6.heap.size (u7.heap.size + 1) s pa pn pc ta tc) w3.heap.size 4000000 sizeW 91 93 (.pointer (some ⟨w3.heap.size, 0, none⟩)) (.pointer (some ⟨u7.heap.size + 1, 0, none⟩)) (.pointer (some ⟨u6.heap.size, 0, none⟩)) (.pointer (some ⟨u7.heap.size + 1, 0, none⟩)) (.pointer (some ⟨w.heap.size, 0, none⟩)) (putW s.ps) (againW s.iv)
      s bs pa ba pn pc bn bc u8 rfl rfl hJ (fun W hW => hs'.out.mono (hbw8.trans (hW.mono (by omega)))) (fun W hW => hbs'.out.mono (hbw8.trans (hW.mono (by omega)))) (by omega) hmay'.out hQ'.out _ (fun k hk => hk.2) ([], []) hWJ (by show 0 + 0 + _ ≤ _; have := hN'.out; omega)
    obtain ⟨k0, k1, k2, k3⟩ := hcs'.out u8 d2; rw [← hu8, ← hu9, ← hu7] at k0 k1 k2 k3; clear l6 c6 l7 c7 l9 c9 l8 c8 m79 m68 d6 d7 d9 d2 hJ hWJ; have hu6' := Lib.hid hu6; have hu7' := Lib.hid hu7; have hu9' := Lib.hid hu9; have hu8' := Lib.hid hu8; have z6' := Lib.hid z6; have z7' := Lib.hid z7; have z9' := Lib.hid z9; have z8' := Lib.hid z8; have m38' := Lib.hid m38; have hbw8' := Lib.hid hbw8; have hg2' := Lib.hid hg2; have HTe' := Lib.hid HTe; clear hu6 hu7 hu9 hu8 z6 z7 z9 z8 m38 hbw8 hg2 HTe
    go_upto_region 5 with fail
    rw [hu7'.out] at k0 k1 k2 k3 ⊢
    go_upto_region 6 with fail
    rw [hu9'.out, hu8'.out] at k0 k1 k2 k3 ⊢; clear hu6' hu7' hu9' hu8'
    go_wp2_with fail
    refine HTe'.out.mono ?_; rintro e w5 ⟨hres, hb5⟩; have hbw5 := hbw8'.out.trans (hb5.mono (by have := hg2'.out; omega)); clear k0 k1 k2 k3 hb5
    rcases hres with ⟨⟨O, L⟩, l, S5, hte, rfl, hJ5, hsz5⟩ | ⟨er, hte, hne, rfl⟩
    · have hout := hokk'.out _ _ hte
      obtain ⟨ao, no, co, wb, Sw, e1, e2, e3, e4, e5, e6⟩ := hJ5.ex; simp only at e2 e5 hout
      have hsz6 : O.length + L.length ≤ 4000000 := by
        have h1 : O.length + L.length ≤ 0 + 0 + _ := hsz5; have := hN'.out
        omega
      have hno : no = O.length := by have := (Sl.of_own e2).1.ilen; omega
      have hS5 := fun k hk => (hJ5.bd k hk).1; have hD := (Below.refl w5.heap.size w5).drew; obtain ⟨wD, hwD⟩ : ∃ W, w5.drew = W := ⟨_, rfl⟩; rw [hwD] at hD; have hbwD := hbw5.trans (hD.mono hbw5.size); have oD := own_later e2 hD; have wlD := e5.late hD; obtain ⟨Ty, ff, hne2, hpr, hsurj⟩ := fact_worlds (fun W => W.cell? ⟨u6.heap.size, 0, none⟩ = some (.slice ao no co) ∧ W.cell? ⟨u7.heap.size + 1, 0, none⟩ = some (.pointer (some ⟨wb, 0, none⟩))) w5 ⟨e1.cell rfl, e4.cell rfl⟩; have HS := Lib.hid (hsurj wD ⟨(e1.late hD).cell rfl, (e4.late hD).cell rfl⟩); have hnext : ∀ W, Mo (fun k => (Value.slice ao no co).ownBlock = some k) wD W → ∃ s, W = ff s := fun W m => hsurj W ⟨((e1.late hD).mo m fun h => (e3 _ h).2.1 rfl).cell rfl, ((e4.late hD).mo m fun h => (e3 _ h).2.2 rfl).cell rfl⟩; have z0 := fun s => (hpr s).1; have z1 := fun s => (hpr s).2; have hoB : ∀ k, (Value.slice ao no co).ownBlock = some k → w.heap.size ≤ k := fun k hk => by have h1 := hS5 k (e3 k hk).1; have := hg2'.out; omega
      have hDn := wdone_any Sw wb L wD wlD (by omega); obtain ⟨i0, hi, hz0, hz1, hz2⟩ := info_parts info8; clear hpr hsurj hJ5 hD hte hsz5 e1 e2 e4 e5; have hout' := Lib.hid hout; have hsz6' := Lib.hid hsz6; have hno' := Lib.hid hno; have hS5' := Lib.hid hS5; have hwD' := Lib.hid hwD; have hbwD' := Lib.hid hbwD; have oD' := Lib.hid oD; have wlD' := Lib.hid wlD; have hnext' := Lib.hid hnext; have hoB' := Lib.hid hoB; have hDn' := Lib.hid hDn; have hbw5' := Lib.hid hbw5; have e3' := Lib.hid e3; have e6' := Lib.hid e6; clear hout hsz6 hno hS5 hwD hbwD oD wlD hnext hoB hDn hbw5 e3 e6
      go_upto_region 11 with fail
      refine held_begin (S := fun W => ∃ s, W = ff s) (by kernel_rfl) 6 rfl ?_; rw [hwD'.out]; refine held_take [0, 1] 4 (by kernel_rfl) (fun d _ _ _ _ h => by cases d <;> exact h) (by kernel_rfl) (by kernel_rfl) (by kernel_rfl) HS.out ?_; simp only [pickL, List.map_cons, List.map_nil, List.getD_cons_succ, List.getD_cons_zero]
      iterate 2 (go_big_quiet_step (fail))
      refine wpQuiet_nil ?_; refine held_one 2 3 (by kernel_rfl) (by kernel_rfl) ?_; simp only [pickL, List.map_cons, List.map_nil, List.getD_cons_succ, List.getD_cons_zero]
      go_wp2_with fail
      refine hDn'.out.mono ?_; rintro e w6 ⟨a2, m, c2, rfl, hm, ho6, hb6⟩; have HS6 := Lib.hid (hnext'.out w6 (Mo.of_below hb6)); have o6 := own_later oD'.out hb6; have sl6 := (Sl.of_own ho6).1; have hbw6 := hbwD'.out.trans (hb6.mono hbwD'.out.size); have m6 : Mo (fun k => (Value.slice ao no co).ownBlock = some k) wD w6 := Mo.of_below hb6; clear hb6 ho6; have hm' := Lib.hid hm; have o6' := Lib.hid o6; have sl6' := Lib.hid sl6; have hbw6' := Lib.hid hbw6; have m6' := Lib.hid m6; clear hm o6 sl6 hbw6 m6
      go_wp2_with fail
      refine Mid.mk ⟨HS6.out, ?_⟩; refine held_one 3 2 (by kernel_rfl) (by kernel_rfl) ?_; simp only [pickL, List.map_cons, List.map_nil, List.getD_cons_succ, List.getD_cons_zero]
      go_wp2_with (at_builtin; refine wpList_app3 rfl _ _ 30 rfl 0 5 i0 _ 1 1 Try.underlying30 hi hz0 hz1 hz2 rfl (by decide) (.slice ao no co) no (ints .u8 O) rfl o6'.out a2 m c2 (ints .u8 (bytesS L)) rfl sl6'.out (fun u hu => ints_one u hu) (by have h1 := hm'.out; have h2 := bytesS_le L; have h3 : no = O.length := hno'.out; have h4 := hsz6'.out; omega) (by decide) (Nat.zero_le _) ?_; intro a7 c7 w7 ho7 hg7 hk7; have Ho7 := Lib.hid ho7; have Hg7 := Lib.hid hg7; clear ho7 hg7 hk7)
      have hmg : Mo (fun k => (Value.slice ao no co).ownBlock = some k) w6 w7 := Mo.of_grown Hg7.out fun k hk => hk; have HS7 := Lib.hid (hnext'.out w7 (m6'.out.trans hmg fun _ _ e => e)); have hbw7 := hbw6'.out.trans (Mo.below hmg hbw6'.out.size fun k hk e => by have := hoB'.out k e; omega); have sl7 := (Sl.of_own Ho7.out).1; rw [← ints_append] at sl7; clear hmg; have hbw7' := Lib.hid hbw7; have sl7' := Lib.hid sl7; clear hbw7 sl7; refine Mid.mk ⟨HS7.out, ?_⟩; refine held_one 4 1 (by kernel_rfl) (by kernel_rfl) ?_; simp only [pickL, List.map_cons, List.map_nil, List.getD_cons_succ, List.getD_cons_zero]
      go_wp2_with fail
      refine Mid.mk ⟨HS7.out, ?_⟩; refine held_one 5 0 (by kernel_rfl) (by kernel_rfl) ?_; simp only [pickL, List.map_cons, List.map_nil, List.getD_cons_succ, List.getD_cons_zero]
      go_wp2_with fail
      refine Mid.mk ⟨HS7.out, ?_⟩; refine held_last (by kernel_rfl) ?_
      go_wp2
      go_ret2
      exact ⟨.inl ⟨_, a7, no + m, c7, hout'.out, rfl, sl7'.out⟩, hbw7'.out⟩
    · have herr2 := herr'.out er hte
      clear hte; have herr2' := Lib.hid herr2; have hbw5' := Lib.hid hbw5; clear herr2 hbw5
      go_wp2
      go_ret2
      exact ⟨.inr ⟨er, herr2'.out, hne, rfl⟩, hbw5'.out⟩
end Go.Proofs.Ytpjopeojeglogaa
