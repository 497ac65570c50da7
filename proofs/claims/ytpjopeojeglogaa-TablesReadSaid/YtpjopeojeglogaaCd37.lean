/- Chapter 14: quantisation tables read: the document. -/
import Derived.Test.YtpjopeojeglogaaCd34
namespace Go.Proofs.Ytpjopeojeglogaa
open Go.RowKit Tt
set_option linter.unusedVariables false
set_option linter.unusedSimpArgs false

theorem infoA64 : (Try.prog.info? 129).map (·.size) = some 64 := by kernel_rfl
/-- how far the rows are read -/
def RdSt {α : Type} (take : List Int → Int × α × Nat) (T : Int × List α) (l : List α) (z : List Int) : Prop := ∃ f, z.length ≤ f ∧ T = goOn l (readAll take (f + 1) z)
set_option maxRecDepth 100000 in
set_option maxHeartbeats 4000000 in
theorem rreadQuants_any (a : Option Addr) (n c : Nat) (z : List Int) (w : World) (hs : Sl w a n c 1 (ints .u8 z)) (hz : Byt z) (hn : n ≤ 100000) :
    Calls Try.prog 47 #[.slice a n c] w (Read0 172 65 qC (readAll takeQ (n + 1) z) w) := by
  obtain ⟨i0, zq, hi, hiz, hq1, hq2, hq3⟩ := info_ofz infoQ2 infoQ3; have hzl := hs.ilen; obtain ⟨T, hT⟩ : ∃ T, readAll takeQ (n + 1) z = T := ⟨_, rfl⟩; rw [hT]; have hrf := Below.refl w.heap.size w; have hs' := Lib.hid hs; have hz' := Lib.hid hz; have hzl' := Lib.hid hzl; have hT' := Lib.hid hT; have hrf' := Lib.hid hrf; clear hs hz hzl hT hrf
  go_enter Try.func47, Try.ntmps47
  go_wp2
  go_loopw [0, 4, 5, 6, 7] (fun bv ov _ _ _ wr => ∃ (m nn : Nat) (a3 : Option Addr) (c3 : Nat) (a2 : Option Addr) (c2 : Nat) (l : List Qt64) (z2 : List Int), m + nn ≤ n ∧ bv = .slice a2 nn c2 ∧ ov = .slice a3 m c3 ∧ Hid (m = l.length) ∧ Hid (wr.ownsRow w.heap.size 172 65 (.slice a3 m c3) m ((l.map qC).flatten)) ∧ Hid (Sl w a2 nn c2 1 (ints .u8 z2)) ∧ Hid (Byt z2) ∧ Hid (RdSt takeQ T l z2) ∧ Hid (Below w.heap.size w wr)) (fun bv _ _ _ _ _ => sliceLen bv)
  case atStart => exact ⟨0, n, none, 0, a, c, [], z, by omega, rfl, rfl, Lib.hid rfl, Lib.hid (own_nil _ _ _ _), hs', hz', Lib.hid ⟨n, by rw [hzl'.out]; exact Nat.le_refl _, by rw [goOn_nil, hT'.out]⟩, hrf'⟩
  case round =>
    obtain ⟨m, nn, a3, c3, a2, c2, l, z2, hmn, rfl, rfl, hml, Ob, hs2, hz2, hst, hbel⟩ := hrel; have hz2l := hs2.out.ilen; obtain ⟨f, hf, hTf⟩ := hst.out
    by_cases h65 : nn < 65
    · have d1 : decide ((nn : Int) < 65) = true := by simp; omega
      have ht3 : takeQ z2 = (3, (0, []), 0) := by unfold takeQ; rw [if_pos (by omega)]
      have hTe := goOn_err hTf (by rw [ht3]; decide); rw [ht3] at hTe; clear hTf hf; have hz2l' := Lib.hid hz2l; have hTe' := Lib.hid hTe; have ht3' := Lib.hid ht3; clear hz2l hTe ht3
      go_wp2
      go_ret2
      exact ⟨hbel.out, none, 0, 0, by rw [hTe'.out]; rfl, by rw [hTe'.out]; exact own_nil _ _ _ _, by rw [hTe'.out]; rfl⟩
    have d1 : decide ((nn : Int) < 65) = false := by simp; omega
    have sr := hs2.out.mono hbel.out; obtain ⟨bb, o, rfl, hbb, fc⟩ := hs2.out.at (show 0 < nn by omega); obtain ⟨tt, htt⟩ : ∃ tt, (z2.drop 1).take 64 = tt := ⟨_, rfl⟩; have htl : tt.length = 64 := by rw [← htt, List.length_take, List.length_drop]; omega
    have htb : Byt tt := by rw [← htt]; exact (hz2.out.drop 1).take 64
    have hgt : ∀ k, k < 64 → tt.getD k 0 = z2.getD (k + 1) 0 := fun k hk => by
      rw [← htt, List.getD_eq_getElem?_getD, List.getElem?_take, if_pos hk, List.getElem?_drop, Nat.add_comm 1 k, ← List.getD_eq_getElem?_getD]
    have hcz : ∀ W, Below w.heap.size w W → ∀ k, k < nn → W.cell? ⟨bb, o + k, none⟩ = some (.int .u8 (z2.getD k 0)) := fun W hW k hk => (hW.cell (p := ⟨bb, o + k, none⟩) hbb).trans (fc k _ (ints_get (by rw [hz2l]; exact hk))); obtain ⟨z0, hz0⟩ : ∃ x, z2.getD 0 0 = x := ⟨_, rfl⟩; have hz0b := hz2.out.get 0; rw [hz0] at hz0b; obtain ⟨hz0a, hz0c⟩ := hz0b; obtain ⟨q, hq⟩ : ∃ q : Qt64, (z0, frZ tt) = q := ⟨_, rfl⟩
    have htq : takeQ z2 = if qOk q = true then (0, q, 65) else (2, (0, []), 0) := by
      unfold takeQ; rw [if_neg (by omega), htt, hz0, hq]
    obtain ⟨n9, hn9⟩ : ∃ x, nn - 65 = x := ⟨_, rfl⟩; obtain ⟨c9, hc9⟩ : ∃ x, c2 - 65 = x := ⟨_, rfl⟩; obtain ⟨a9, hcut9, s9, _⟩ := sub_l (P := Try.prog) Try.underlying30 sizeU8 hs2.out 65 (by omega) (by omega) n9 c9 (by omega) (by have := hs2.out.le; omega); have hn9e : nn = 65 + n9 := by omega
    have e9 : (ints .u8 z2).drop ((65 : Int).toNat * 1) = ints .u8 (z2.drop 65) := by unfold ints; rw [List.map_drop]; rfl
    rw [e9] at s9; have hal3 := (Below.refl wr.heap.size wr).alloc (Nat.le_refl _) (.cells z64 129); have b6 : B64 (wr.alloc (.cells z64 129)) wr.heap.size 129 (gath (List.range 64) tt 0) := ⟨gath_len _ _ _, by rw [(zeros64 _ _).1]; exact Blk.new wr 129 z64⟩; obtain ⟨w3, hw3⟩ : ∃ w3, wr.alloc (.cells z64 129) = w3 := ⟨_, rfl⟩; rw [hw3] at hal3 b6; unfold z64 at hw3; obtain ⟨g5, hg5⟩ : ∃ g, wr.heap.size = g := ⟨_, rfl⟩; have hwg : w.heap.size ≤ g5 := by rw [← hg5]; exact hbel.out.size
    have hbx := hbel.out.trans (hal3.mono hbel.out.size); have Ob3 := own_later Ob.out hal3; rw [hg5] at b6; clear fc sr e9 hal3; clear hn9 hc9; have hn9e' := Lib.hid hn9e; have hz2l' := Lib.hid hz2l; have htt' := Lib.hid htt; have htl' := Lib.hid htl; have htb' := Lib.hid htb; have hgt' := Lib.hid hgt; have hcz' := Lib.hid hcz; have hz0' := Lib.hid hz0; have hq' := Lib.hid hq; have htq' := Lib.hid htq; have hcut9' := Lib.hid hcut9; have s9' := Lib.hid s9; have b6' := Lib.hid b6; have hw3' := Lib.hid hw3; have hg5' := Lib.hid hg5; have hbx' := Lib.hid hbx; have Ob3' := Lib.hid Ob3; have hTf' := Lib.hid hTf; have hf' := Lib.hid hf; clear hn9e hz2l htt htl htb hgt hcz hz0 hq htq hcut9 s9 b6 hw3 hg5 hbx Ob3 hTf hf
    go_upto_region 5 with fail
    try rw [hg5'.out]
    try rw [hw3'.out]
    go_wp2
    go_loopw [6] (fun iv wr => ∃ k : Nat, k ≤ 64 ∧ iv = .int .i64 k ∧ Hid (B64 wr g5 129 (gath (List.range 64) tt k)) ∧ Hid (wr.ownsRow w.heap.size 172 65 (.slice a3 m c3) m ((l.map qC).flatten)) ∧ Hid (Below w.heap.size w wr)) (fun iv _ => 64 - (intOf iv).toNat)
    case atStart => exact ⟨0, by omega, rfl, b6', Ob3', hbx'⟩
    case round =>
      obtain ⟨k, hk, rfl, h6, Ob, hbe⟩ := hrel
      by_cases hlt2 : k < 64
      · obtain ⟨x, hx⟩ : ∃ x, tt[k]? = some x := ⟨_, List.getElem?_eq_getElem (by rw [htl'.out]; exact hlt2)⟩
        have hxd : tt.getD k 0 = x := by rw [List.getD_eq_getElem?_getD, hx]; rfl
        have f1 := hcz'.out wr hbe.out (k + 1) (by omega); rw [← hgt'.out k hlt2, hxd] at f1; have hxb := htb'.out x (List.mem_of_getElem? hx); obtain ⟨hx0, hx1⟩ := hxb; have hst2 := gath_id_step tt hlt2; rw [hxd] at hst2; have f2 := h6.out.cell hlt2; have f3 := h6.out.frozen k; have n1 := h6.out.set k x; rw [hst2] at n1; have n2 := own_but Ob.out ((But.refl g5 wr).set k (.int .i64 x)) (own_neB Ob.out h6.out.2 (by decide)); have n3 := hbe.out.setCell (p := ⟨g5, k, none⟩) hwg (.int .i64 x); have hwk : IntKind.i64.wrap (1 + (k : Int)) = ((k + 1 : Nat) : Int) := by rw [IntKind.wrap_i64]; omega
        generalize (gath (List.range 64) tt k).getD k 0 = y at f2
        have hx' := Lib.hid hx; have hxd' := Lib.hid hxd; have hst2' := Lib.hid hst2; have n1' := Lib.hid n1; have n2' := Lib.hid n2; have n3' := Lib.hid n3; clear hx hxd hst2 n1 n2 n3
        go_wp2
        go_roundw
        case rel => exact ⟨k + 1, by omega, by go_num, n1', n2', n3'⟩
        case measure => simp [intOf]; omega
      · have hk64 : k = 64 := by omega
        have h6' := h6.out; rw [hk64, gath_id htl'.out] at h6'; obtain ⟨wD, hwD⟩ : ∃ wD, wr.drew = wD := ⟨_, rfl⟩; have hd := (Below.refl wr.heap.size wr).drew; rw [hwD] at hd; have d1 : B64 wD g5 129 tt := ⟨h6'.1, h6'.2.late hd⟩; have hbD := hbe.out.trans (hd.mono hbe.out.size); have ObD := own_later Ob.out hd; obtain ⟨Ty, ff, hne, qq, hsurj⟩ := pr_worlds (fun W => Below w.heap.size w W ∧ B64 W g5 129 tt) wD ⟨hbD, d1⟩; have HS := Lib.hid (hsurj _ ⟨hbD, d1⟩)
        have f0 : ∀ s, (ff s).cell? ⟨bb, o, none⟩ = some (.int .u8 z0) := fun s => by
          have h := hcz'.out _ (qq s).1 0 (by omega); rw [hz0'.out] at h; exact h
        obtain ⟨R, hR⟩ : ∃ R, (ints .i64 tt).toArray = R := ⟨_, rfl⟩
        have fT : ∀ W, (∃ s, W = ff s) → ∀ j v, (ints .i64 tt)[j]? = some v → W.cell? ⟨g5, 0 + j, none⟩ = some v := fun W h j v hv => by
          obtain ⟨s, rfl⟩ := h; exact (qq s).2.2.cell (by rw [Nat.zero_add, List.getElem?_toArray]; exact hv)
        have hl3 : (ints .i64 tt).length = 64 := by rw [ints_len]; exact htl'.out
        have HF := fun W => rfrom_any tt R hR W htl'.out; obtain ⟨Z, hZ⟩ : ∃ Z, (ints .i64 (frZ tt)).toArray = Z := ⟨_, rfl⟩; rw [hZ] at HF; have hbq := builtQ z0 (frZ tt) (frZ_len _); rw [hZ, hq'.out] at hbq; have hql : q.2.length = 64 := by rw [← hq'.out]; exact frZ_len _
        have hone := qC_one (q := q); have hq65 : (qC q).toArray.size = 65 := by simpa using qC_len hql
        obtain ⟨B, hB⟩ : ∃ B, (qC q).toArray = B := ⟨_, rfl⟩; rw [hB] at hbq hone hq65
        have hmk : ∀ W W', Below wD.heap.size wD W → Below W.heap.size W W' → ∃ s, W' = ff s := fun W W' h1 h2 => by
          have h := h1.trans (h2.mono h1.size); exact hsurj _ ⟨hbD.trans (h.mono hbD.size), d1.1, d1.2.late h⟩
        have hrfD := Below.refl wD.heap.size wD; clear h6' qq; have hwD' := Lib.hid hwD; have d1' := Lib.hid d1; have hbD' := Lib.hid hbD; have ObD' := Lib.hid ObD; have hsurj' := Lib.hid hsurj; have fT' := Lib.hid fT; have hl3' := Lib.hid hl3; have HF' := Lib.hid HF; have hZ' := Lib.hid hZ; have hbq' := Lib.hid hbq; have hql' := Lib.hid hql; have hone' := Lib.hid hone; have hq65' := Lib.hid hq65; have hB' := Lib.hid hB; have hmk' := Lib.hid hmk; have hrfD' := Lib.hid hrfD; have hk64' := Lib.hid hk64; have hR' := Lib.hid hR; clear hwD d1 hbD ObD hsurj fT hl3 HF hZ hbq hql hone hq65 hB hmk hrfD hk64 hR
        go_upto_region 9 with fail
        go_cut [7] from 8 to 48 (fun v wx => ∃ g, v = .pointer (some ⟨g, 0, none⟩) ∧ Hid (Blk wx g 172 B) ∧ Hid (Below wD.heap.size wD wx))
        case first =>
          refine held_begin (S := fun W => ∃ s, W = ff s) (by kernel_rfl) 9 rfl ?_; rw [hwD'.out]; refine held_take [0, 1, 2, 3, 4] 4 (by kernel_rfl) (fun d _ _ _ _ h => by cases d <;> exact h) (by kernel_rfl) (by kernel_rfl) (by kernel_rfl) HS.out ?_; simp only [pickL, List.map_cons, List.map_nil, List.getD_cons_succ, List.getD_cons_zero]
          iterate 4 (go_big_quiet_step (fail))
          refine wpQuiet_load_at rfl 129 (.tmp 5) rfl g5 0 rfl (ints .i64 tt) R hR'.out _ fT'.out Try.underlying129 rfl 64 infoA64 hl3'.out ?_; simp only [Act.put, List.setIfInBounds_toArray, List.set_cons_succ, List.set_cons_zero]; refine wpQuiet_nil ?_; clear f0 hne; refine held_two 5 7 3 (by kernel_rfl) (by kernel_rfl) ?_ ?_
          all_goals simp only [pickL, List.map_cons, List.map_nil, List.getD_cons_succ, List.getD_cons_zero]
          · go_wp2_with fail
            refine (HF'.out wD).mono ?_; rintro e w5 ⟨rfl, hb5⟩; have HS5 := Lib.hid (hmk'.out _ _ hrfD'.out hb5); have bA := Blk.new w5 172 Try.zeroCells172; have hal := (Below.refl w5.heap.size w5).alloc (Nat.le_refl _) (.cells Try.zeroCells172 172); obtain ⟨w6, hw6⟩ : ∃ w6, w5.alloc (.cells Try.zeroCells172 172) = w6 := ⟨_, rfl⟩; rw [hw6] at bA hal; have HS6 := Lib.hid (hmk'.out _ _ hb5 hal); have hb6 := hb5.trans (hal.mono hb5.size); have hb7 := rowBelow hb6 hb5.size B; have bB : Blk (w6.setRow w5.heap.size B) w5.heap.size 172 B := setRow_heap _ _ _ _ _ _ bA; have HS7 := Lib.hid (hmk'.out _ _ hrfD'.out hb7); clear hb5 hal; have bA' := Lib.hid bA; have hw6' := Lib.hid hw6; have hb6' := Lib.hid hb6; have hb7' := Lib.hid hb7; have bB' := Lib.hid bB; clear bA hw6 hb6 hb7 bB
            go_wp2_with fail
            first | refine Mid.mk ⟨HS5.out, ?_⟩ | refine Mid.mk ?_
            refine held_two 6 7 2 (by kernel_rfl) (by kernel_rfl) ?_ ?_
            all_goals simp only [pickL, List.map_cons, List.map_nil, List.getD_cons_succ, List.getD_cons_zero]
            · go_wp2_with (refine wpList_built2 rfl 172 #[(0, .tmp 26), (1, .tmp 28)] rfl [(0, .int .i64 z0), (1, .agg Z)] B (by simp [Act.eval]) hbq'.out ?_)
              first | refine Mid.mk ⟨HS5.out, ?_⟩ | refine Mid.mk ?_
              refine held_one 7 1 (by kernel_rfl) (by kernel_rfl) ?_; simp only [pickL, List.map_cons, List.map_nil, List.getD_cons_succ, List.getD_cons_zero]
              go_wp2_with fail
              rw [hw6'.out]
              first | refine Mid.mk ⟨HS6.out, ?_⟩ | refine Mid.mk ?_
              refine held_one 8 0 (by kernel_rfl) (by kernel_rfl) ?_; simp only [pickL, List.map_cons, List.map_nil, List.getD_cons_succ, List.getD_cons_zero]
              go_wp2_with (refine wpList_store_row rfl 172 (.tmp 7) (.tmp 29) rfl w5.heap.size B rfl rfl 172 _ bA'.out (by rw [hq65'.out]; exact infoQ) (by rw [hq65'.out]; exact zeroQ) hone'.out ?_)
              first | refine Mid.mk ⟨HS7.out, ?_⟩ | refine Mid.mk ?_
              refine held_last (by kernel_rfl) ?_
              go_wp2_with fail
              go_meet
              case rel => exact ⟨_, rfl, bB', hb7'⟩
            · go_wp2_with fail
              rw [hw6'.out]
              first | refine Mid.mk ⟨HS6.out, ?_⟩ | refine Mid.mk ?_
              refine held_one 6 1 (by kernel_rfl) (by kernel_rfl) ?_; simp only [pickL, List.map_cons, List.map_nil, List.getD_cons_succ, List.getD_cons_zero]
              go_wp2_with (refine wpList_built2 rfl 172 #[(0, .tmp 26), (1, .tmp 28)] rfl [(0, .int .i64 z0), (1, .agg Z)] B (by simp [Act.eval]) hbq'.out ?_)
              first | refine Mid.mk ⟨HS6.out, ?_⟩ | refine Mid.mk ?_
              refine held_one 8 0 (by kernel_rfl) (by kernel_rfl) ?_; simp only [pickL, List.map_cons, List.map_nil, List.getD_cons_succ, List.getD_cons_zero]
              go_wp2_with (refine wpList_store_row rfl 172 (.tmp 7) (.tmp 29) rfl w5.heap.size B rfl rfl 172 _ bA'.out (by rw [hq65'.out]; exact infoQ) (by rw [hq65'.out]; exact zeroQ) hone'.out ?_)
              first | refine Mid.mk ⟨HS7.out, ?_⟩ | refine Mid.mk ?_
              refine held_last (by kernel_rfl) ?_
              go_wp2_with fail
              go_meet
              case rel => exact ⟨_, rfl, bB', hb7'⟩
          · have bA := Blk.new wD 172 Try.zeroCells172
            have hal := (Below.refl wD.heap.size wD).alloc (Nat.le_refl _) (.cells Try.zeroCells172 172); obtain ⟨w6, hw6⟩ : ∃ w6, wD.alloc (.cells Try.zeroCells172 172) = w6 := ⟨_, rfl⟩; rw [hw6] at bA hal; have HS6 := Lib.hid (hmk'.out _ _ hrfD'.out hal); have bA' := Lib.hid bA; have hal' := Lib.hid hal; have hw6' := Lib.hid hw6; clear bA hal hw6
            go_wp2_with fail
            rw [hw6'.out]
            first | refine Mid.mk ⟨HS6.out, ?_⟩ | refine Mid.mk ?_
            refine held_one 5 2 (by kernel_rfl) (by kernel_rfl) ?_; simp only [pickL, List.map_cons, List.map_nil, List.getD_cons_succ, List.getD_cons_zero]
            go_wp2_with fail
            refine (HF'.out w6).mono ?_; rintro e w5 ⟨rfl, hb5⟩; have HS5 := Lib.hid (hmk'.out _ _ hal'.out hb5); have bA5 := bA'.out.late hb5; have hb6 := hal'.out.trans (hb5.mono hal'.out.size); have hb7 := rowBelow hb6 (Nat.le_refl _) B; have bB : Blk (w5.setRow wD.heap.size B) wD.heap.size 172 B := setRow_heap _ _ _ _ _ _ bA5; have HS7 := Lib.hid (hmk'.out _ _ hrfD'.out hb7); clear hb5; have bA5' := Lib.hid bA5; have hb6' := Lib.hid hb6; have hb7' := Lib.hid hb7; have bB' := Lib.hid bB; clear bA5 hb6 hb7 bB
            go_wp2_with fail
            first | refine Mid.mk ⟨HS5.out, ?_⟩ | refine Mid.mk ?_
            refine held_one 6 1 (by kernel_rfl) (by kernel_rfl) ?_; simp only [pickL, List.map_cons, List.map_nil, List.getD_cons_succ, List.getD_cons_zero]
            go_wp2_with (refine wpList_built2 rfl 172 #[(0, .tmp 26), (1, .tmp 28)] rfl [(0, .int .i64 z0), (1, .agg Z)] B (by simp [Act.eval]) hbq'.out ?_)
            first | refine Mid.mk ⟨HS5.out, ?_⟩ | refine Mid.mk ?_
            refine held_one 8 0 (by kernel_rfl) (by kernel_rfl) ?_; simp only [pickL, List.map_cons, List.map_nil, List.getD_cons_succ, List.getD_cons_zero]
            go_wp2_with (refine wpList_store_row rfl 172 (.tmp 7) (.tmp 29) rfl wD.heap.size B rfl rfl 172 _ bA5'.out (by rw [hq65'.out]; exact infoQ) (by rw [hq65'.out]; exact zeroQ) hone'.out ?_)
            first | refine Mid.mk ⟨HS7.out, ?_⟩ | refine Mid.mk ?_
            refine held_last (by kernel_rfl) ?_
            go_wp2_with fail
            go_meet
            case rel => exact ⟨_, rfl, bB', hb7'⟩
        case rest =>
          obtain ⟨g, rfl, bG, hbc⟩ := hcut; clear HS hsurj' fT' HF' hbq' hmk' hrfD' hR' hwD' d1' f0 hne; have hbW := hbD'.out.trans (hbc.out.mono hbD'.out.size); have ObW := own_later ObD'.out hbc.out; have qb : QB wc g q := ⟨hql'.out, by rw [hB'.out]; exact bG.out⟩; have hq1 : q.1 = z0 := by rw [← hq'.out]
          have hq2 : q.2 = frZ tt := by rw [← hq'.out]
          have c0 := qb.c0; have cs := qb.cs; rw [hq1] at c0; rw [hq2] at cs; have HQ := fun W => rwithin_any (frZ tt) Z hZ'.out 1 255 W (frZ_len _)
          have hqok : qOk q = (decide (z0 ≤ 3) && within (frZ tt) 1 255) := by
            unfold qOk; rw [hq1, hq2]
            congr 1
            exact decide_eq_decide.2 (by omega)
          have htq2 := htq'.out; have hl64 : (ints .i64 (frZ tt)).length = 64 := by rw [ints_len]; exact frZ_len tt
          by_cases hz3 : 3 < z0
          · have hTe := goOn_err hTf'.out (by rw [htq2, hqok, decide_eq_false (by omega), Bool.false_and, if_neg (by decide)]; decide)
            rw [htq2, hqok, decide_eq_false (by omega), Bool.false_and, if_neg (by decide)] at hTe; have dz : decide (3 < z0) = true := by simp; omega
            clear htq2 hqok cs; have hTe' := Lib.hid hTe; have hbW' := Lib.hid hbW; have ObW' := Lib.hid ObW; have qb' := Lib.hid qb; have HQ' := Lib.hid HQ; have hl64' := Lib.hid hl64; have hq1' := Lib.hid hq1; have hq2' := Lib.hid hq2; clear hTe hbW ObW qb HQ hl64 hq1 hq2
            go_wp2_with fail
            go_ret2
            exact ⟨hbW'.out, none, 0, 0, by rw [hTe'.out]; rfl, by rw [hTe'.out]; exact own_nil _ _ _ _, by rw [hTe'.out]; rfl⟩
          · rw [decide_eq_true (by omega), Bool.true_and] at hqok
            obtain ⟨r2, hr2⟩ : ∃ r, within (frZ tt) 1 255 = r := ⟨_, rfl⟩; rw [hr2] at hqok HQ; rw [hqok] at htq2; have dz : decide (3 < z0) = false := by simp; omega
            clear hz3; have hbW' := Lib.hid hbW; have ObW' := Lib.hid ObW; have qb' := Lib.hid qb; have HQ' := Lib.hid HQ; have hl64' := Lib.hid hl64; have hq1' := Lib.hid hq1; have hq2' := Lib.hid hq2; have htq2' := Lib.hid htq2; have hqok' := Lib.hid hqok; have hr2' := Lib.hid hr2; have cs' := Lib.hid cs; clear hbW ObW qb HQ hl64 hq1 hq2 htq2 hqok hr2 cs
            go_wp2_with (refine wpList_load_atW rfl 129 (.tmp 34) rfl g 1 rfl (ints .i64 (frZ tt)) Z hZ'.out _ cs'.out Try.underlying129 rfl 64 infoB64 hl64'.out ?_)
            refine (HQ'.out _).mono ?_; rintro e w8 ⟨rfl, hb8⟩; have hbW8 := hbW'.out.trans (hb8.mono hbW'.out.size); have ObW8 := own_later ObW'.out hb8; have qb8 := qb'.out.late hb8; clear hb8 c0
            cases r2 with
            | false =>
              have htq3 : takeQ z2 = (2, (0, []), 0) := htq2'.out; have hTe := goOn_err hTf'.out (by rw [htq3]; decide); rw [htq3] at hTe; clear htq3; have hTe' := Lib.hid hTe; have hbW8' := Lib.hid hbW8; have ObW8' := Lib.hid ObW8; have qb8' := Lib.hid qb8; clear hTe hbW8 ObW8 qb8
              go_wp2_with fail
              go_ret2
              exact ⟨hbW8'.out, none, 0, 0, by rw [hTe'.out]; rfl, by rw [hTe'.out]; exact own_nil _ _ _ _, by rw [hTe'.out]; rfl⟩
            | true =>
              have htq3 : takeQ z2 = (0, q, 65) := htq2'.out; have hcl : (qC q).length = 65 := qC_len qb8.len; have cs8 : ∀ j v, (qC q)[j]? = some v → w8.cell? ⟨g, 0 + j, none⟩ = some v := fun j v hv => qb8.blk.cell (by rw [List.getElem?_toArray, Nat.zero_add]; exact hv); have hal5 := (Below.refl w8.heap.size w8).alloc (Nat.le_refl _) (.cells B 172); have sl5 := Sl.new w8 172 65 1 B (0, 0) (by omega) (by rw [hq65'.out]); obtain ⟨W4, hW4⟩ : ∃ W4, w8.alloc (.cells B 172) = W4 := ⟨_, rfl⟩; rw [hW4] at hal5 sl5; have hbw5 := hbW8.trans (hal5.mono hbW8.size); have Ob5 := own_later ObW8 hal5; have hsz5 := hbw5.size; have hone2 : ∀ u ∈ B.toList, u.oneCell' = true := fun u hu => Array.all_eq_true_iff_forall_mem.1 hone'.out u (by simpa using hu); have hcut := hcut9'.out; have htq3' := Lib.hid htq3; have hcl' := Lib.hid hcl; have cs8' := Lib.hid cs8; have hal5' := Lib.hid hal5; have sl5' := Lib.hid sl5; have hW4' := Lib.hid hW4; have hbw5' := Lib.hid hbw5; have Ob5' := Lib.hid Ob5; have hone2' := Lib.hid hone2; have hbW8' := Lib.hid hbW8; have ObW8' := Lib.hid ObW8; have qb8' := Lib.hid qb8; clear htq3 hcl cs8 hal5 sl5 hW4 hbw5 Ob5 hone2 hbW8 ObW8 qb8
              go_upto_region 13 with (first
                | (refine wpList_load_at rfl 172 (.tmp 7) rfl g 0 rfl (qC q) B hB'.out _ cs8'.out Try.underlying172 rfl 65 infoQ hcl'.out ?_)
                | (refine wpList_buildOne rfl 52 172 (.tmp 40) rfl B rfl i0 zq 65 Try.underlying52 hi hiz hq1 (by decide) (by decide) hq65'.out ?_; rw [hW4'.out])
                | (at_builtin; go_loud (refine wpList_app rfl _ _ 52 rfl w.heap.size 172 i0 _ 65 520 Try.underlying52 hi hiz hq1 hq2 hq3 (by decide) _ m _ rfl Ob5'.out _ 1 1 _ rfl sl5'.out hone2'.out (by omega) (by decide) hsz5 ?_); intro a6 c6 w6 ob6 hb6 hg6; have Ob6 := Lib.hid ob6; have Hb6 := Lib.hid hb6; clear ob6 hb6 hg6))
              have hbw6 := hbw5'.out.trans Hb6.out
              have Ob7 : w6.ownsRow w.heap.size 172 65 (.slice a6 (m + 1) c6) (m + 1) (((l ++ [q]).map qC).flatten) := by
                have h := Ob6.out; rw [← hB'.out, List.toList_toArray] at h
                simpa using h
              have hml7 : m + 1 = (l ++ [q]).length := by simp; exact hml.out
              have hn9e := hn9e'.out
              by_cases h0 : n9 = 0
              · have hTe := goOn_end hTf'.out (by rw [htq3'.out]) (by rw [htq3'.out, hz2l'.out, hn9e, h0]; exact Nat.le_refl _)
                rw [htq3'.out] at hTe; have d3 : ((n9 : Int) == 0) = true := by simp; omega
                clear hn9e; subst h0; have hTe' := Lib.hid hTe; have hbw6' := Lib.hid hbw6; have Ob7' := Lib.hid Ob7; have hml7' := Lib.hid hml7; clear hTe hbw6 Ob7 hml7
                go_wp2_with fail
                go_ret2
                exact ⟨hbw6'.out, a6, m + 1, c6, by rw [hTe'.out]; rfl, by rw [hTe'.out]; exact Ob7'.out, by rw [hTe'.out]; exact hml7'.out⟩
              · have d3 : ((n9 : Int) == 0) = false := by simp; omega
                have hTe := goOn_on hTf'.out (by rw [htq3'.out]) (by rw [htq3'.out, hz2l'.out]; show ¬ nn ≤ 65; omega); rw [htq3'.out] at hTe
                have hst7 : RdSt takeQ T (l ++ [q]) (z2.drop 65) := by
                  have hf2 := hf'.out; have hzz := hz2l'.out
                  cases f with
                  | zero => omega
                  | succ f => exact ⟨f, by rw [List.length_drop]; omega, hTe⟩
                have hz7 := hz2.out.drop 65; have hm7 : m + 1 + n9 ≤ n := by omega
                have hn9b : n9 < nn := by omega
                clear hTe hn9e; have hbw6' := Lib.hid hbw6; have Ob7' := Lib.hid Ob7; have hml7' := Lib.hid hml7; have hst7' := Lib.hid hst7; have hz7' := Lib.hid hz7; clear hbw6 Ob7 hml7 hst7 hz7
                go_wp2_with fail
                go_roundw
                case rel => exact ⟨m + 1, n9, a6, c6, a9, c9, l ++ [q], z2.drop 65, hm7, rfl, rfl, hml7', Ob7', s9', hz7', hst7', hbw6'⟩
                case measure => simp [sliceLen]; omega
end Go.Proofs.Ytpjopeojeglogaa
