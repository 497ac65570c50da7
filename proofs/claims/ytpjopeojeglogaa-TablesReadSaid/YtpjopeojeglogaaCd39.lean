/- Chapter 14: tables of codes read: the document. -/
import Derived.Test.YtpjopeojeglogaaCd37
import Derived.Test.YtpjopeojeglogaaCd38
namespace Go.Proofs.Ytpjopeojeglogaa
open Go.RowKit Tt
set_option linter.unusedVariables false
set_option linter.unusedSimpArgs false

/-- what rows that are read hand back -/
def RCR (t : Int × List Cdr) (w : World) (e : Ending) (w' : World) : Prop :=
  Below w.heap.size w w' ∧ ∃ a m c ms, e = .returned (.tuple #[.slice a m c, .int .i64 t.1]) ∧ w'.ownsRow w.heap.size 165 19 (.slice a m c) m ((ms.map cMC).flatten) ∧ ms.map (·.1) = t.2 ∧ m = ms.length ∧ SymsOk w' w.heap.size ms
theorem builtC2 (A I : Int) : Try.prog.built 165 [(0, .int .i64 A), (1, .int .i64 I)] = some (cMC ((A, I, cK [] 0, []), none, 0, 0)).toArray := by kernel_rfl
theorem own_keep {w w' : World} {B B2 : Nat} {E : TypeId} {sz n : Nat} {v : Value} {xs : List Value} (h : w.ownsRow B E sz v n xs) (hb : Below B2 w w') (hlt : ∀ k, v.ownBlock = some k → k < B2) : w'.ownsRow B E sz v n xs := by
  obtain ⟨hl, hr⟩ := h; refine ⟨hl, ?_⟩
  rcases hr with hn | ⟨g, cap, cur, rfl, hB, hg, r⟩
  · exact .inl hn
  · exact .inr ⟨g, cap, cur, rfl, hB, (hb.block g (hlt g rfl)).trans hg, r⟩
/-- rows of symbols that lie below a block -/
def SymsLt (g : Nat) (ms : List CdM) : Prop := ∀ x ∈ ms, ∀ k, (Value.slice x.2.1 x.2.2.1 x.2.2.2).ownBlock = some k → k < g
theorem SymsOk.keep {w w' : World} {B B2 : Nat} {ms : List CdM} (h : SymsOk w B ms) (hb : Below B2 w w') (hlt : SymsLt B2 ms) : SymsOk w' B ms := fun x hx => ⟨(h x hx).1, own_keep (h x hx).2 hb (hlt x hx)⟩
theorem SymsOk.lt {w : World} {B g : Nat} {ms : List CdM} (h : SymsOk w B ms) (hg : w.heap.size ≤ g) : SymsLt g ms := fun x hx k hk => Nat.lt_of_lt_of_le ((h x hx).2.lt k hk).2 hg
set_option maxRecDepth 100000 in
set_option maxHeartbeats 8000000 in
theorem rreadCoders_any (a : Option Addr) (n c : Nat) (z : List Int) (w : World) (hs : Sl w a n c 1 (ints .u8 z)) (hz : Byt z) (hn : n ≤ 1000) :
    Calls Try.prog 50 #[.slice a n c] w (RCR (readAll takeC (n + 1) z) w) := by
  obtain ⟨i0, zq, hi, hiz, hq1, hq2, hq3⟩ := info_ofz infoC2 infoC3; obtain ⟨ii, hii, hiz0, hiz1, hiz2⟩ := info_parts infoI; have hzl := hs.ilen; obtain ⟨T, hT⟩ : ∃ T, readAll takeC (n + 1) z = T := ⟨_, rfl⟩; rw [hT]; have hrf := Below.refl w.heap.size w; have hs' := Lib.hid hs; have hz' := Lib.hid hz; have hzl' := Lib.hid hzl; have hT' := Lib.hid hT; have hrf' := Lib.hid hrf; clear hs hz hzl hT hrf
  go_enter Try.func50, Try.ntmps50
  go_wp2
  go_loopw [0, 4, 5, 6, 7, 8] (fun bv ov _ _ _ _ wr => ∃ (m nn : Nat) (a3 : Option Addr) (c3 : Nat) (a2 : Option Addr) (c2 : Nat) (ms : List CdM) (z2 : List Int), m + nn ≤ n ∧ bv = .slice a2 nn c2 ∧ ov = .slice a3 m c3 ∧ Hid (m = ms.length) ∧ Hid (wr.ownsRow w.heap.size 165 19 (.slice a3 m c3) m ((ms.map cMC).flatten)) ∧ Hid (SymsOk wr w.heap.size ms) ∧ Hid (Sl w a2 nn c2 1 (ints .u8 z2)) ∧ Hid (Byt z2) ∧ Hid (RdSt takeC T (ms.map (·.1)) z2) ∧ Hid (Below w.heap.size w wr)) (fun bv _ _ _ _ _ _ => sliceLen bv)
  case atStart => exact ⟨0, n, none, 0, a, c, [], z, by omega, rfl, rfl, Lib.hid rfl, Lib.hid (own_nil _ _ _ _), Lib.hid (SymsOk.nil _ _), hs', hz', Lib.hid ⟨n, by rw [hzl'.out]; exact Nat.le_refl _, by rw [List.map_nil, goOn_nil, hT'.out]⟩, hrf'⟩
  case round =>
    obtain ⟨m, nn, a3, c3, a2, c2, ms, z2, hmn, rfl, rfl, hml, Ob, hsy, hs2, hz2, hst, hbel⟩ := hrel; have hz2l := hs2.out.ilen; obtain ⟨f, hf, hTf⟩ := hst.out
    by_cases h17 : nn < 17
    · have d1 : decide ((nn : Int) < 17) = true := by simp; omega
      have ht3 : takeC z2 = (3, (0, 0, [], []), 0) := by unfold takeC; rw [if_pos (by omega)]
      have hTe := goOn_err hTf (by rw [ht3]; decide); rw [ht3] at hTe; clear hTf hf; have hz2l' := Lib.hid hz2l; have hTe' := Lib.hid hTe; have ht3' := Lib.hid ht3; clear hz2l hTe ht3
      go_wp2
      go_ret2
      exact ⟨hbel.out, none, 0, 0, [], by rw [hTe'.out]; rfl, own_nil _ _ _ _, by rw [hTe'.out]; rfl, rfl, SymsOk.nil _ _⟩
    have d1 : decide ((nn : Int) < 17) = false := by simp; omega
    obtain ⟨bb, o, rfl, hbb, fc⟩ := hs2.out.at (show 0 < nn by omega); obtain ⟨tt, htt⟩ : ∃ tt, (z2.drop 1).take 16 = tt := ⟨_, rfl⟩; have htl : tt.length = 16 := by rw [← htt, List.length_take, List.length_drop]; omega
    have htb : Byt tt := by rw [← htt]; exact (hz2.out.drop 1).take 16
    have hgt : ∀ k, k < 16 → tt.getD k 0 = z2.getD (k + 1) 0 := fun k hk => by
      rw [← htt, List.getD_eq_getElem?_getD, List.getElem?_take, if_pos hk, List.getElem?_drop, Nat.add_comm 1 k, ← List.getD_eq_getElem?_getD]
    have hcz : ∀ W, Below w.heap.size w W → ∀ k, k < nn → W.cell? ⟨bb, o + k, none⟩ = some (.int .u8 (z2.getD k 0)) := fun W hW k hk => (hW.cell (p := ⟨bb, o + k, none⟩) hbb).trans (fc k _ (ints_get (by rw [hz2l]; exact hk))); obtain ⟨y0, hy0⟩ : ∃ x, z2.getD 0 0 = x := ⟨_, rfl⟩; have hy0b := hz2.out.get 0; rw [hy0] at hy0b; obtain ⟨hy0a, hy0c⟩ := hy0b; obtain ⟨u1, u2, u3⟩ := quo16 hy0a hy0c; obtain ⟨wD, hwD⟩ : ∃ wD, wr.drew = wD := ⟨_, rfl⟩; have hd := (Below.refl wr.heap.size wr).drew; rw [hwD] at hd; have hbD := hbel.out.trans (hd.mono hbel.out.size); have ObD := own_later Ob.out hd; have SoD := hsy.out.late hd; have hszD := hd.size; obtain ⟨Ty, ff, hne, qq, hsurj⟩ := pr_worlds (fun W => Below w.heap.size w W) wD hbD; have HS := Lib.hid (hsurj _ hbD)
    have f0 : ∀ s, (ff s).cell? ⟨bb, o, none⟩ = some (.int .u8 y0) := fun s => by
      have h := hcz _ (qq s) 0 (by omega); rw [hy0] at h; exact h
    obtain ⟨B0, hB0⟩ : ∃ B, (cMC ((y0 / 16, y0 % 16, cK [] 0, []), none, 0, 0)).toArray = B := ⟨_, rfl⟩; have hbC := builtC2 (y0 / 16) (y0 % 16); rw [hB0] at hbC; have hB19 : B0.size = 19 := by rw [← hB0]; rfl
    have hB1 : B0.all (·.oneCell') = true := by rw [← hB0]; exact cMC_one
    have bA := Blk.new wD 165 #[.int .i64 0, .int .i64 0, .int .i64 0, .int .i64 0, .int .i64 0, .int .i64 0, .int .i64 0, .int .i64 0, .int .i64 0, .int .i64 0, .int .i64 0, .int .i64 0, .int .i64 0, .int .i64 0, .int .i64 0, .int .i64 0, .int .i64 0, .int .i64 0, .slice none 0 0]; have hal := (Below.refl wD.heap.size wD).alloc (Nat.le_refl _) (.cells #[.int .i64 0, .int .i64 0, .int .i64 0, .int .i64 0, .int .i64 0, .int .i64 0, .int .i64 0, .int .i64 0, .int .i64 0, .int .i64 0, .int .i64 0, .int .i64 0, .int .i64 0, .int .i64 0, .int .i64 0, .int .i64 0, .int .i64 0, .int .i64 0, .slice none 0 0] 165); obtain ⟨w6, hw6⟩ : ∃ w6, wD.alloc (.cells #[.int .i64 0, .int .i64 0, .int .i64 0, .int .i64 0, .int .i64 0, .int .i64 0, .int .i64 0, .int .i64 0, .int .i64 0, .int .i64 0, .int .i64 0, .int .i64 0, .int .i64 0, .int .i64 0, .int .i64 0, .int .i64 0, .int .i64 0, .int .i64 0, .slice none 0 0] 165) = w6 := ⟨_, rfl⟩; rw [hw6] at bA hal; have hb7 := rowBelow hal (Nat.le_refl _) B0; have bB : Blk (w6.setRow wD.heap.size B0) wD.heap.size 165 B0 := setRow_heap _ _ _ _ _ _ bA; have HS6 := Lib.hid (hsurj _ (hbD.trans (hal.mono hbD.size))); have HS7 := Lib.hid (hsurj _ (hbD.trans (hb7.mono hbD.size))); clear fc qq hd hal; have hz2l' := Lib.hid hz2l; have htt' := Lib.hid htt; have htl' := Lib.hid htl; have htb' := Lib.hid htb; have hgt' := Lib.hid hgt; have hcz' := Lib.hid hcz; have hy0' := Lib.hid hy0; have hwD' := Lib.hid hwD; have hbD' := Lib.hid hbD; have ObD' := Lib.hid ObD; have SoD' := Lib.hid SoD; have hszD' := Lib.hid hszD; have hsurj' := Lib.hid hsurj; have hB0' := Lib.hid hB0; have hbC' := Lib.hid hbC; have hB19' := Lib.hid hB19; have hB1' := Lib.hid hB1; have bA' := Lib.hid bA; have hw6' := Lib.hid hw6; have hb7' := Lib.hid hb7; have bB' := Lib.hid bB; have hTf' := Lib.hid hTf; have hf' := Lib.hid hf; clear hz2l htt htl htb hgt hcz hy0 hwD hbD ObD SoD hszD hsurj hB0 hbC hB19 hB1 bA hw6 hb7 bB hTf hf
    go_upto_region 4 with fail
    go_cut [5] from 9 to 81 (fun v wx => ∃ g, v = .pointer (some ⟨g, 0, none⟩) ∧ wD.heap.size ≤ g ∧ Hid (Blk wx g 165 B0) ∧ Hid (Below wD.heap.size wD wx))
    case first =>
      refine held_begin (S := fun W => ∃ s, W = ff s) (by kernel_rfl) 13 rfl ?_; rw [hwD'.out]; refine held_take [0, 1, 2, 3, 4, 5, 6, 7, 8, 9] 3 (by kernel_rfl) (fun d _ _ _ _ h => by cases d <;> exact h) (by kernel_rfl) (by kernel_rfl) (by kernel_rfl) HS.out ?_; simp only [pickL, List.map_cons, List.map_nil, List.getD_cons_succ, List.getD_cons_zero]
      iterate 10 (go_big_quiet_step (fail))
      refine wpQuiet_nil ?_; clear f0 hne; refine held_two 10 11 2 (by kernel_rfl) (by kernel_rfl) ?_ ?_
      all_goals simp only [pickL, List.map_cons, List.map_nil, List.getD_cons_succ, List.getD_cons_zero]
      · go_wp2_with (refine wpList_built2 rfl 165 #[(0, .tmp 16), (1, .tmp 21)] rfl [(0, .int .i64 (y0 / 16)), (1, .int .i64 (y0 % 16))] B0 (by simp [Act.eval]) hbC'.out ?_)
        first | refine Mid.mk ⟨HS.out, ?_⟩ | refine Mid.mk ?_
        refine held_one 11 1 (by kernel_rfl) (by kernel_rfl) ?_; simp only [pickL, List.map_cons, List.map_nil, List.getD_cons_succ, List.getD_cons_zero]
        go_wp2_with fail
        rw [hw6'.out]
        first | refine Mid.mk ⟨HS6.out, ?_⟩ | refine Mid.mk ?_
        refine held_one 12 0 (by kernel_rfl) (by kernel_rfl) ?_; simp only [pickL, List.map_cons, List.map_nil, List.getD_cons_succ, List.getD_cons_zero]
        go_wp2_with (refine wpList_store_row rfl 165 (.tmp 5) (.tmp 22) rfl wD.heap.size B0 rfl rfl 165 #[.int .i64 0, .int .i64 0, .int .i64 0, .int .i64 0, .int .i64 0, .int .i64 0, .int .i64 0, .int .i64 0, .int .i64 0, .int .i64 0, .int .i64 0, .int .i64 0, .int .i64 0, .int .i64 0, .int .i64 0, .int .i64 0, .int .i64 0, .int .i64 0, .slice none 0 0] bA'.out (by rw [hB19'.out]; exact infoC) (by rw [hB19'.out]; rfl) hB1'.out ?_)
        first | refine Mid.mk ⟨HS7.out, ?_⟩ | refine Mid.mk ?_
        refine held_last (by kernel_rfl) ?_
        go_wp2_with fail
        go_meet
        case rel => exact ⟨_, rfl, Nat.le_refl _, bB', hb7'⟩
      · go_wp2_with fail
        rw [hw6'.out]
        first | refine Mid.mk ⟨HS6.out, ?_⟩ | refine Mid.mk ?_
        refine held_one 10 1 (by kernel_rfl) (by kernel_rfl) ?_; simp only [pickL, List.map_cons, List.map_nil, List.getD_cons_succ, List.getD_cons_zero]
        go_wp2_with (refine wpList_built2 rfl 165 #[(0, .tmp 16), (1, .tmp 21)] rfl [(0, .int .i64 (y0 / 16)), (1, .int .i64 (y0 % 16))] B0 (by simp [Act.eval]) hbC'.out ?_)
        first | refine Mid.mk ⟨HS6.out, ?_⟩ | refine Mid.mk ?_
        refine held_one 12 0 (by kernel_rfl) (by kernel_rfl) ?_; simp only [pickL, List.map_cons, List.map_nil, List.getD_cons_succ, List.getD_cons_zero]
        go_wp2_with (refine wpList_store_row rfl 165 (.tmp 5) (.tmp 22) rfl wD.heap.size B0 rfl rfl 165 #[.int .i64 0, .int .i64 0, .int .i64 0, .int .i64 0, .int .i64 0, .int .i64 0, .int .i64 0, .int .i64 0, .int .i64 0, .int .i64 0, .int .i64 0, .int .i64 0, .int .i64 0, .int .i64 0, .int .i64 0, .int .i64 0, .int .i64 0, .int .i64 0, .slice none 0 0] bA'.out (by rw [hB19'.out]; exact infoC) (by rw [hB19'.out]; rfl) hB1'.out ?_)
        first | refine Mid.mk ⟨HS7.out, ?_⟩ | refine Mid.mk ?_
        refine held_last (by kernel_rfl) ?_
        go_wp2_with fail
        go_meet
        case rel => exact ⟨_, rfl, Nat.le_refl _, bB', hb7'⟩
    case rest =>
      obtain ⟨g, rfl, hgw, bG, hbc⟩ := hcut; clear HS HS6 HS7 bA' bB' hb7' hw6' hbC' hB19' hB1' hsurj' hwD' hne f0 u1 u2 u3; obtain ⟨A, hA⟩ : ∃ x, y0 / 16 = x := ⟨_, rfl⟩; obtain ⟨I, hI⟩ : ∃ x, y0 % 16 = x := ⟨_, rfl⟩; have hbW := hbD'.out.trans (hbc.out.mono hbD'.out.size); have ObW := own_later ObD'.out hbc.out; have SoW := SoD'.out.late hbc.out; have hltO : ∀ k, (Value.slice a3 m c3).ownBlock = some k → k < g := fun k hk => Nat.lt_of_lt_of_le (ObD'.out.lt k hk).2 hgw; have hltS : SymsLt g ms := SoD'.out.lt hgw; have hneO : (Value.slice a3 m c3).ownBlock ≠ some g := fun h => Nat.lt_irrefl _ (hltO g h); have hwg : w.heap.size ≤ g := Nat.le_trans hbD'.out.size hgw
      have bX : Blk wc g 165 (cMC ((A, I, cK tt 0, []), none, 0, 0)).toArray := by
        have h := bG.out; rw [← hB0'.out, hA, hI] at h; exact h
      clear hgw; have hA' := Lib.hid hA; have hI' := Lib.hid hI; have hbW' := Lib.hid hbW; have ObW' := Lib.hid ObW; have SoW' := Lib.hid SoW; have hltO' := Lib.hid hltO; have hltS' := Lib.hid hltS; have hneO' := Lib.hid hneO; have bX' := Lib.hid bX; clear hA hI hbW ObW SoW hltO hltS hneO bX
      go_wp2
      go_loopw [6, 7] (fun nv kv wr => ∃ (k : Nat) (M : Int), k ≤ 16 ∧ 0 ≤ M ∧ M ≤ 4080 ∧ nv = .int .i64 M ∧ kv = .int .i64 k ∧ Hid (M = manyS tt k) ∧ Hid (Blk wr g 165 (cMC ((A, I, cK tt k, []), none, 0, 0)).toArray) ∧ Hid (wr.ownsRow w.heap.size 165 19 (.slice a3 m c3) m ((ms.map cMC).flatten)) ∧ Hid (SymsOk wr w.heap.size ms) ∧ Hid (Below w.heap.size w wr)) (fun _ kv _ => 16 - (intOf kv).toNat)
      case atStart => exact ⟨0, 0, by omega, by omega, by omega, rfl, rfl, Lib.hid rfl, bX', ObW', SoW', hbW'⟩
      case round =>
        obtain ⟨k, M, hk, hM0, hM1, rfl, rfl, hM, hX, Ob, So, hbe⟩ := hrel
        by_cases hlt2 : k < 16
        · obtain ⟨x, hx⟩ : ∃ x, tt[k]? = some x := ⟨_, List.getElem?_eq_getElem (by rw [htl'.out]; exact hlt2)⟩
          have hxd : tt.getD k 0 = x := by rw [List.getD_eq_getElem?_getD, hx]; rfl
          have f1 := hcz'.out wr hbe.out (k + 1) (by omega); rw [← hgt'.out k hlt2, hxd] at f1; have hxb := htb'.out x (List.mem_of_getElem? hx); obtain ⟨hx0, hx1⟩ := hxb; have hcl := cK_len htl'.out hk; obtain ⟨y, hy⟩ : ∃ y, (cK tt k)[k]? = some y := ⟨_, List.getElem?_eq_getElem (by rw [hcl]; exact hlt2)⟩
          have f2 : wr.cell? ⟨g, 2 + k, none⟩ = some (.int .i64 y) := hX.out.cell (by
            unfold cMC; rw [List.getElem?_toArray, Nat.add_comm 2 k]
            show ((ints .i64 (cK tt k)) ++ _)[k]? = _
            rw [List.getElem?_append_left (by rw [ints_len, hcl]; exact hlt2)]; unfold ints; rw [List.getElem?_map, hy]
            rfl)
          have f3 := hX.out.frozen (2 + k); have n1 := hX.out.set (2 + k) (.int .i64 x)
          have f5 : (wr.setCell ⟨g, 2 + k, none⟩ (.int .i64 x)).cell? ⟨g, 2 + k, none⟩ = some (.int .i64 x) := n1.cell (by
            rw [Array.getElem?_setIfInBounds]
            rw [if_pos rfl, if_pos (by
              have h := cMC_len (m := ((A, I, cK tt k, []), none, 0, 0)) hcl; simp only [List.size_toArray, h]
              omega)])
          rw [cMC_set A I (cK tt k) [] none 0 0 k x (by rw [hcl]; exact hlt2), cK_set htl'.out hlt2 hx] at n1; have hbt : But g wr (wr.setCell ⟨g, 2 + k, none⟩ (.int .i64 x)) := (But.refl g wr).set (2 + k) _; have n2 := own_but Ob.out hbt hneO'.out; have n4 := So.out.but hbt hX.out (by decide); have n3 := hbe.out.setCell (p := ⟨g, 2 + k, none⟩) hwg (.int .i64 x)
          have hmw : M + x = manyS tt (k + 1) := by
            show M + x = manyS tt k + tt.getD k 0
            rw [hM.out, hxd]
          have hnn := many_nonneg htb'.out (k + 1); have hmx : M + x ≤ 4080 := by rw [hmw]; omega
          have hwr : IntKind.i64.wrap (M + x) = M + x := by rw [IntKind.wrap_i64]; omega
          have hwk : IntKind.i64.wrap (1 + (k : Int)) = ((k + 1 : Nat) : Int) := by rw [IntKind.wrap_i64]; omega
          clear hnn hcl hbt; have hx' := Lib.hid hx; have hxd' := Lib.hid hxd; have n1' := Lib.hid n1; have n2' := Lib.hid n2; have n3' := Lib.hid n3; have n4' := Lib.hid n4; have hmw' := Lib.hid hmw; have hy' := Lib.hid hy; clear hx hxd n1 n2 n3 n4 hmw hy
          go_wp2
          go_roundw
          case rel => exact ⟨k + 1, M + x, by omega, by omega, by omega, rfl, by go_num, hmw', n1', n2', n4', n3'⟩
          case measure => simp [intOf]; omega
        · have hk16 : k = 16 := by omega
          have hX16 := hX.out; have hM16 := hM.out; rw [hk16] at hX16 hM16; rw [cK_16 htl'.out] at hX16; obtain ⟨Mn, rfl⟩ : ∃ Mn : Nat, M = Mn := ⟨M.toNat, by omega⟩; obtain ⟨ss, hss⟩ : ∃ ss, (z2.drop 17).take Mn = ss := ⟨_, rfl⟩; have htk := takeC_17 (z := z2) (by rw [hz2l'.out]; omega) htt'.out hM16.symm hss; rw [hy0'.out, hA'.out, hI'.out, hz2l'.out] at htk; have hw17 : IntKind.i64.wrap (17 + (Mn : Int)) = 17 + Mn := by rw [IntKind.wrap_i64]; omega
          by_cases hmn2 : nn < 17 + Mn
          · rw [if_pos hmn2] at htk
            have hTe := goOn_err hTf'.out (by rw [htk]; decide); rw [htk] at hTe; have d2 : decide ((nn : Int) < 17 + Mn) = true := by simp; omega
            clear htk hM0 hM1; have hTe' := Lib.hid hTe; have hk16' := Lib.hid hk16; have hX16' := Lib.hid hX16; have hM16' := Lib.hid hM16; have hss' := Lib.hid hss; clear hTe hk16 hX16 hM16 hss
            go_wp2_with fail
            go_ret2
            exact ⟨hbe.out, none, 0, 0, [], by rw [hTe'.out]; rfl, own_nil _ _ _ _, by rw [hTe'.out]; rfl, rfl, SymsOk.nil _ _⟩
          rw [if_neg hmn2] at htk; have d2 : decide ((nn : Int) < 17 + Mn) = false := by simp; omega
          have hsl : ss.length = Mn := by rw [← hss, List.length_take, List.length_drop]; have := hz2l'.out; omega
          have hsb : Byt ss := by rw [← hss]; exact (hz2.out.drop 17).take Mn
          have hgs : ∀ k, k < Mn → ss.getD k 0 = z2.getD (17 + k) 0 := fun k hk => by
            rw [← hss, List.getD_eq_getElem?_getD, List.getElem?_take, if_pos hk, List.getElem?_drop, ← List.getD_eq_getElem?_getD]
          have hbe3 := hbe.out; have Ob3 := Ob.out; have So3 := So.out; clear hM0 hM1 hX hM; have hk16' := Lib.hid hk16; have hX16' := Lib.hid hX16; have hM16' := Lib.hid hM16; have hss' := Lib.hid hss; have htk' := Lib.hid htk; have hsl' := Lib.hid hsl; have hsb' := Lib.hid hsb; have hgs' := Lib.hid hgs; have hbe3' := Lib.hid hbe3; have Ob3' := Lib.hid Ob3; have So3' := Lib.hid So3; clear hk16 hX16 hM16 hss htk hsl hsb hgs hbe3 Ob3 So3
          go_wp2_with fail
          go_loopw [8] (fun kv wr => ∃ (k : Nat) (a5 : Option Addr) (c5 : Nat), k ≤ Mn ∧ kv = .int .i64 k ∧ Hid (Blk wr g 165 (cMC ((A, I, tt, ss.take k), a5, k, c5)).toArray) ∧ Hid (wr.ownsRow (g + 1) 3 1 (.slice a5 k c5) k (ints .i64 (ss.take k))) ∧ Hid (wr.ownsRow w.heap.size 165 19 (.slice a3 m c3) m ((ms.map cMC).flatten)) ∧ Hid (SymsOk wr w.heap.size ms) ∧ Hid (Below w.heap.size w wr)) (fun kv _ => Mn - (intOf kv).toNat)
          case atStart => exact ⟨0, none, 0, by omega, rfl, hX16', Lib.hid (own_nil _ _ _ _), Ob3', So3', hbe3'⟩
          case round =>
            obtain ⟨k, a5, c5, hk, rfl, hX, Os, Ob, So, hbe⟩ := hrel
            by_cases hlt3 : k < Mn
            · obtain ⟨x, hx⟩ : ∃ x, ss[k]? = some x := ⟨_, List.getElem?_eq_getElem (by rw [hsl'.out]; exact hlt3)⟩
              have hxd : ss.getD k 0 = x := by rw [List.getD_eq_getElem?_getD, hx]; rfl
              have hxb := hsb'.out x (List.mem_of_getElem? hx); obtain ⟨hx0, hx1⟩ := hxb; obtain ⟨wE, hwE⟩ : ∃ wE, wr.drew = wE := ⟨_, rfl⟩; have hd := (Below.refl wr.heap.size wr).drew; rw [hwE] at hd; have XE := hX.out.late hd; have OsE := own_later Os.out hd; have ObE := own_later Ob.out hd; have SoE := So.out.late hd; have hbE := hbe.out.trans (hd.mono hbe.out.size); have hal := (Below.refl wE.heap.size wE).alloc (Nat.le_refl _) (.cells #[.int .i64 x] 3); have sN := Sl.new wE 3 1 1 #[.int .i64 x] (0, 0) (by omega) rfl; obtain ⟨wA, hwA⟩ : ∃ wA, wE.alloc (.cells #[.int .i64 x] 3) = wA := ⟨_, rfl⟩; rw [hwA] at hal sN; have XA := XE.late hal; have OsA := own_later OsE hal; have ObA := own_later ObE hal; have SoA := SoE.late hal; have hbA := hbE.trans (hal.mono hbE.size); have hszA : g + 1 ≤ wA.heap.size := XA.lt
              have hcx : ∀ W, Below w.heap.size w W → W.cell? ⟨bb, o + (17 + k), none⟩ = some (.int .u8 x) := fun W hW => by
                have h := hcz'.out W hW (17 + k) (by omega); rw [← hgs'.out k hlt3, hxd] at h; exact h
              have c18 : ∀ W, Blk W g 165 (cMC ((A, I, tt, ss.take k), a5, k, c5)).toArray → W.cell? ⟨g, 18, none⟩ = some (.slice a5 k c5) := fun W h => (cB_cells (m := ((A, I, tt, ss.take k), a5, k, c5)) htl'.out h).2.2.1; obtain ⟨Ty, ff, hne, qq, hsurj⟩ := pr_worlds (fun W => W.cell? ⟨bb, o + (17 + k), none⟩ = some (.int .u8 x) ∧ W.cell? ⟨g, 18, none⟩ = some (.slice a5 k c5)) wE ⟨hcx wE hbE, c18 wE XE⟩; have q0 := fun s => (qq s).1; have q1 := fun s => (qq s).2; have HS := Lib.hid (hsurj _ ⟨hcx wE hbE, c18 wE XE⟩); have HSA := Lib.hid (hsurj _ ⟨hcx wA hbA, c18 wA XA⟩); have hwk : IntKind.i64.wrap (17 + (k : Int)) = ((17 + k : Nat) : Int) := by rw [IntKind.wrap_i64]; omega
              have hsn : ints .i64 (ss.take k) ++ [.int .i64 x] = ints .i64 (ss.take (k + 1)) := by
                rw [List.take_add_one, hx]; unfold ints
                simp
              clear qq hd XE OsE ObE SoE hal; have hx' := Lib.hid hx; have hxd' := Lib.hid hxd; have hwE' := Lib.hid hwE; have hbE' := Lib.hid hbE; have sN' := Lib.hid sN; have hwA' := Lib.hid hwA; have XA' := Lib.hid XA; have OsA' := Lib.hid OsA; have ObA' := Lib.hid ObA; have SoA' := Lib.hid SoA; have hbA' := Lib.hid hbA; have hcx' := Lib.hid hcx; have c18' := Lib.hid c18; have hsurj' := Lib.hid hsurj; have hsn' := Lib.hid hsn; clear hx hxd hwE hbE sN hwA XA OsA ObA SoA hbA hcx c18 hsurj hsn
              go_wp2_with fail
              refine till_begin (t := 13) (C := fun W => ∃ s, W = ff s) (by kernel_rfl) 14 rfl ?_; rw [hwE'.out]; refine till_take [0, 1, 2, 3, 4, 5, 6, 7, 8] 5 (by kernel_rfl) (fun d _ _ _ _ h => by cases d <;> exact h) (by kernel_rfl) (by kernel_rfl) (by kernel_rfl) HS.out ?_; simp only [pickL, List.map_cons, List.map_nil, List.getD_cons_succ, List.getD_cons_zero]
              iterate 9 (go_big_quiet_step (fail))
              refine wpQuiet_nil ?_; refine till_one 9 4 (by kernel_rfl) (by kernel_rfl) ?_; simp only [pickL, List.map_cons, List.map_nil, List.getD_cons_succ, List.getD_cons_zero]
              go_wp2_with fail
              rw [hwA'.out]
              first | refine Mid.mk ⟨fun _ => HSA.out, ?_⟩ | refine Mid.mk ?_
              clear q0 q1 hne; refine till_one 10 3 (by kernel_rfl) (by kernel_rfl) ?_; simp only [pickL, List.map_cons, List.map_nil, List.getD_cons_succ, List.getD_cons_zero]
              go_wp2_with (at_builtin; refine wpList_app rfl _ _ 35 rfl (g + 1) 3 ii _ 1 8 Try.underlying35 hii hiz0 hiz1 hiz2 rfl (by decide) _ k _ rfl OsA'.out _ 1 1 _ rfl sN'.out (by intro u hu; simp at hu; subst hu; rfl) (by omega) (by decide) hszA ?_; intro a9 c9 w9 ob9 hb9 hg9; have Os9 := Lib.hid ob9; have Hb9 := Lib.hid hb9; clear ob9 hb9 hg9)
              have X9 := XA'.out.mono Hb9.out (Nat.lt_succ_self _); have Ob9 := own_keep ObA'.out Hb9.out (fun j hj => Nat.lt_succ_of_lt (hltO'.out j hj)); have So9 := SoA'.out.keep Hb9.out (fun y hy j hj => Nat.lt_succ_of_lt (hltS'.out y hy j hj)); have hb9 := hbA'.out.trans (Hb9.out.mono (Nat.le_succ_of_le hwg)); have HS9 := Lib.hid (hsurj'.out _ ⟨hcx'.out w9 hb9, c18'.out w9 X9⟩)
              first | refine Mid.mk ⟨fun _ => HS9.out, ?_⟩ | refine Mid.mk ?_
              refine till_one 11 2 (by kernel_rfl) (by kernel_rfl) ?_; simp only [pickL, List.map_cons, List.map_nil, List.getD_cons_succ, List.getD_cons_zero]
              go_wp2_with fail
              first | refine Mid.mk ⟨fun _ => HS9.out, ?_⟩ | refine Mid.mk ?_
              refine till_one 12 1 (by kernel_rfl) (by kernel_rfl) ?_; simp only [pickL, List.map_cons, List.map_nil, List.getD_cons_succ, List.getD_cons_zero]
              go_wp2_with fail
              first | refine Mid.mk ⟨fun _ => HS9.out, ?_⟩ | refine Mid.mk ?_
              have p18 := c18'.out w9 X9; have y18 := X9.frozen 18; have hbt : But g w9 (w9.setCell ⟨g, 18, none⟩ (.slice a9 (k + 1) c9)) := (But.refl g w9).set 18 _; have Xa := X9.set 18 (.slice a9 (k + 1) c9); rw [cMC_set18 A I tt (ss.take k) (ss.take (k + 1)) a5 a9 k c5 (k + 1) c9 htl'.out] at Xa
              have Osa : (w9.setCell ⟨g, 18, none⟩ (.slice a9 (k + 1) c9)).ownsRow (g + 1) 3 1 (.slice a9 (k + 1) c9) (k + 1) (ints .i64 (ss.take (k + 1))) := by
                have h := own_but Os9.out hbt (own_neB Os9.out X9 (by decide)); rw [← hsn'.out]; exact h
              have Oba := own_but Ob9 hbt hneO'.out; have Soa := So9.but hbt X9 (by decide); have hba := hb9.setCell (p := ⟨g, 18, none⟩) hwg (.slice a9 (k + 1) c9); clear hbt X9 Ob9 So9 hb9; have Xa' := Lib.hid Xa; have Osa' := Lib.hid Osa; have Oba' := Lib.hid Oba; have Soa' := Lib.hid Soa; have hba' := Lib.hid hba; clear Xa Osa Oba Soa hba; refine till_one 13 0 (by kernel_rfl) (by kernel_rfl) ?_; simp only [pickL, List.map_cons, List.map_nil, List.getD_cons_succ, List.getD_cons_zero]
              go_wp2_with fail
              first | refine Mid.mk ⟨fun h => (by simp [segL] at h), ?_⟩ | refine Mid.mk ?_
              refine till_last (by kernel_rfl) ?_; clear p18 y18 HS HSA HS9
              go_wp2
              go_roundw
              case rel => exact ⟨k + 1, a9, c9, by omega, by go_num, Xa', Osa', Oba', Soa', hba'⟩
              case measure => simp [intOf]; omega
            · have hkM : k = Mn := by omega
              have hX2 := hX.out; have Os2 := Os.out; rw [hkM, List.take_of_length_le (by rw [hsl'.out]; exact Nat.le_refl _)] at hX2 Os2; obtain ⟨mm, hmm⟩ : ∃ mm : CdM, ((A, I, tt, ss), a5, Mn, c5) = mm := ⟨_, rfl⟩; have hm1 : mm.1 = (A, I, tt, ss) := by rw [← hmm]
              have hm16 : mm.1.2.2.1.length = 16 := by rw [← hmm]; exact htl'.out
              have hCd : CdOk wr mm := by
                rw [← hmm]; exact ⟨htl'.out, (Sl.of_own Os2).1, by show Mn ≤ 1000; omega, byt_wf hsb'.out⟩
              have Os3 : wr.ownsRow w.heap.size 3 1 (.slice mm.2.1 mm.2.2.1 mm.2.2.2) mm.2.2.1 (ints .i64 mm.1.2.2.2) := by
                rw [← hmm]; exact own_mono Os2 (Nat.le_succ_of_le hwg)
              rw [hmm] at hX2; obtain ⟨B, hB⟩ : ∃ B, (cMC mm).toArray = B := ⟨_, rfl⟩; have hcl : (cMC mm).length = 19 := cMC_len hm16; have hB19 : B.size = 19 := by rw [← hB]; simpa using hcl
              have hone : B.all (·.oneCell') = true := by rw [← hB]; exact cMC_one
              rw [hB] at hX2; have cs9 : ∀ W, Blk W g 165 B → ∀ j v, (cMC mm)[j]? = some v → W.cell? ⟨g, 0 + j, none⟩ = some v := fun W h j v hv => h.cell (by rw [← hB, List.getElem?_toArray, Nat.zero_add]; exact hv); have cs1 := cs9 wr hX2; have HC := rcoder_any mm B hB wr hCd; rw [hm1] at HC; obtain ⟨Q, hQ⟩ : ∃ Q, cOk (A, I, tt, ss) = Q := ⟨_, rfl⟩; rw [hQ] at HC; have htk := htk'.out; rw [hQ] at htk; clear Os2; have hkM' := Lib.hid hkM; have hX2' := Lib.hid hX2; have hmm' := Lib.hid hmm; have hm1' := Lib.hid hm1; have hm16' := Lib.hid hm16; have hCd' := Lib.hid hCd; have Os3' := Lib.hid Os3; have hB' := Lib.hid hB; have hcl' := Lib.hid hcl; have hB19' := Lib.hid hB19; have hone' := Lib.hid hone; have cs9' := Lib.hid cs9; have cs1' := Lib.hid cs1; have HC' := Lib.hid HC; have hQ' := Lib.hid hQ; have htk' := Lib.hid htk; clear hkM hX2 hmm hm1 hm16 hCd Os3 hB hcl hB19 hone cs9 cs1 HC hQ htk
              go_wp2_with (refine wpList_load_at rfl 165 (.tmp 5) rfl g 0 rfl (cMC mm) B hB'.out _ cs1'.out Try.underlying165 rfl 19 infoC hcl'.out ?_)
              refine HC'.out.mono ?_; rintro e w8 ⟨rfl, hb8⟩; have hbe8 := hbe.out.trans (hb8.mono hbe.out.size); have X8 := hX2'.out.late hb8; have Ob8 := own_later Ob.out hb8; have So8 := So.out.late hb8; have Os8 := own_later Os3'.out hb8; clear hb8
              cases Q with
              | false =>
                have htk2 : takeC z2 = (2, (0, 0, [], []), 0) := htk'.out; have hTe := goOn_err hTf'.out (by rw [htk2]; decide); rw [htk2] at hTe; clear htk2; have hTe' := Lib.hid hTe; have hbe8' := Lib.hid hbe8; have X8' := Lib.hid X8; have Ob8' := Lib.hid Ob8; have So8' := Lib.hid So8; have Os8' := Lib.hid Os8; clear hTe hbe8 X8 Ob8 So8 Os8
                go_wp2_with fail
                go_ret2
                exact ⟨hbe8'.out, none, 0, 0, [], by rw [hTe'.out]; rfl, own_nil _ _ _ _, by rw [hTe'.out]; rfl, rfl, SymsOk.nil _ _⟩
              | true =>
                have htk2 : takeC z2 = (0, (A, I, tt, ss), 17 + Mn) := htk'.out; have cs2 := cs9'.out w8 X8; have hal5 := (Below.refl w8.heap.size w8).alloc (Nat.le_refl _) (.cells B 165); have sl5 := Sl.new w8 165 19 1 B (0, 0) (by omega) (by rw [hB19'.out]); obtain ⟨W4, hW4⟩ : ∃ W4, w8.alloc (.cells B 165) = W4 := ⟨_, rfl⟩; rw [hW4] at hal5 sl5; have hbw5 := hbe8.trans (hal5.mono hbe8.size); have Ob5 := own_later Ob8 hal5; have So5 := (So8.late hal5).snoc hm16'.out (own_later Os8 hal5) (Nat.le_refl _); have hsz5 := hbw5.size; have hone2 : ∀ u ∈ B.toList, u.oneCell' = true := fun u hu => Array.all_eq_true_iff_forall_mem.1 hone'.out u (by simpa using hu); obtain ⟨n9, hn9⟩ : ∃ x, nn - (17 + Mn) = x := ⟨_, rfl⟩; obtain ⟨c9, hc9⟩ : ∃ x, c2 - (17 + Mn) = x := ⟨_, rfl⟩; obtain ⟨a9, hcut, s9, _⟩ := sub_l (P := Try.prog) Try.underlying30 sizeU8 hs2.out (17 + (Mn : Int)) (by omega) (by omega) n9 c9 (by omega) (by have := hs2.out.le; omega)
                have e9 : (ints .u8 z2).drop ((17 + (Mn : Int)).toNat * 1) = ints .u8 (z2.drop (17 + Mn)) := by
                  unfold ints; rw [← List.map_drop, show (17 + (Mn : Int)).toNat * 1 = 17 + Mn by omega]
                rw [e9] at s9; have hn9e : nn = 17 + Mn + n9 := by omega
                clear hn9 hc9 e9; have htk2' := Lib.hid htk2; have cs2' := Lib.hid cs2; have hal5' := Lib.hid hal5; have sl5' := Lib.hid sl5; have hW4' := Lib.hid hW4; have hbw5' := Lib.hid hbw5; have Ob5' := Lib.hid Ob5; have So5' := Lib.hid So5; have hone2' := Lib.hid hone2; have hbe8' := Lib.hid hbe8; have X8' := Lib.hid X8; have Ob8' := Lib.hid Ob8; have So8' := Lib.hid So8; have Os8' := Lib.hid Os8; have s9' := Lib.hid s9; have hn9e' := Lib.hid hn9e; clear htk2 cs2 hal5 sl5 hW4 hbw5 Ob5 So5 hone2 hbe8 X8 Ob8 So8 Os8 s9 hn9e
                go_upto_region 20 with (first
                  | (refine wpList_load_at rfl 165 (.tmp 5) rfl g 0 rfl (cMC mm) B hB'.out _ cs2'.out Try.underlying165 rfl 19 infoC hcl'.out ?_)
                  | (refine wpList_buildOne rfl 53 165 (.tmp 71) rfl B rfl i0 zq 19 Try.underlying53 hi hiz hq1 (by decide) (by decide) hB19'.out ?_; rw [hW4'.out])
                  | (at_builtin; go_loud (refine wpList_app rfl _ _ 53 rfl w.heap.size 165 i0 _ 19 168 Try.underlying53 hi hiz hq1 hq2 hq3 (by decide) _ m _ rfl Ob5'.out _ 1 1 _ rfl sl5'.out hone2'.out (by omega) (by decide) hsz5 ?_); intro a6 c6 w6 ob6 hb6 hg6; have Ob6 := Lib.hid ob6; have Hb6 := Lib.hid hb6; have So6 := Lib.hid (So5'.out.grown Ob5'.out hg6 (by decide)); clear ob6 hb6 hg6))
                have hbw6 := hbw5'.out.trans Hb6.out
                have Ob7 : w6.ownsRow w.heap.size 165 19 (.slice a6 (m + 1) c6) (m + 1) (((ms ++ [mm]).map cMC).flatten) := by
                  have h := Ob6.out; rw [← hB'.out, List.toList_toArray] at h
                  simpa using h
                have hml7 : m + 1 = (ms ++ [mm]).length := by simp; exact hml.out
                have hmap : (ms ++ [mm]).map (·.1) = ms.map (·.1) ++ [(A, I, tt, ss)] := by rw [List.map_append, ← hm1'.out]; rfl
                by_cases h0 : n9 = 0
                · have hTe := goOn_end hTf'.out (by rw [htk2'.out]) (by rw [htk2'.out, hz2l'.out, hn9e'.out, h0]; exact Nat.le_refl _)
                  rw [htk2'.out, ← hmap] at hTe; have d3 : ((n9 : Int) == 0) = true := by simp; omega
                  subst h0; have hTe' := Lib.hid hTe; have hbw6' := Lib.hid hbw6; have Ob7' := Lib.hid Ob7; have hml7' := Lib.hid hml7; have hmap' := Lib.hid hmap; clear hTe hbw6 Ob7 hml7 hmap
                  go_wp2_with fail
                  go_ret2
                  exact ⟨hbw6'.out, a6, m + 1, c6, ms ++ [mm], by rw [hTe'.out]; rfl, Ob7'.out, by rw [hTe'.out], hml7'.out, So6.out⟩
                · have d3 : ((n9 : Int) == 0) = false := by simp; omega
                  have hTe := goOn_on hTf'.out (by rw [htk2'.out]) (by rw [htk2'.out, hz2l'.out]; show ¬ nn ≤ 17 + Mn; have := hn9e'.out; omega); rw [htk2'.out] at hTe
                  have hst7 : RdSt takeC T ((ms ++ [mm]).map (·.1)) (z2.drop (17 + Mn)) := by
                    have hf2 := hf'.out; have hzz := hz2l'.out; rw [hmap]
                    cases f with
                    | zero => omega
                    | succ f => exact ⟨f, by rw [List.length_drop]; omega, hTe⟩
                  have hz7 := hz2.out.drop (17 + Mn); have hm7 : m + 1 + n9 ≤ n := by have := hn9e'.out; omega
                  have hn9b : n9 < nn := by have := hn9e'.out; omega
                  clear hTe; have hbw6' := Lib.hid hbw6; have Ob7' := Lib.hid Ob7; have hml7' := Lib.hid hml7; have hmap' := Lib.hid hmap; have hst7' := Lib.hid hst7; have hz7' := Lib.hid hz7; clear hbw6 Ob7 hml7 hmap hst7 hz7
                  go_wp2_with fail
                  go_roundw
                  case rel => exact ⟨m + 1, n9, a6, c6, a9, c9, ms ++ [mm], z2.drop (17 + Mn), hm7, rfl, rfl, hml7', Ob7', So6, s9', hz7', hst7', hbw6'⟩
                  case measure => simp [sliceLen]; omega
end Go.Proofs.Ytpjopeojeglogaa
