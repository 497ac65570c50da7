/- Chapter 14: tables of codes' bytes: the document. -/
import Derived.Test.YtpjopeojeglogaaCa32
namespace Go.Proofs.Ytpjopeojeglogaa
open Go.RowKit Tt
set_option linter.unusedVariables false
set_option linter.unusedSimpArgs false

set_option maxRecDepth 100000 in
set_option maxHeartbeats 4000000 in
theorem rcoders_any (a : Option Addr) (n c : Nat) (ms : List CdM) (w : World) (hs : CdsR w a n c ms) (hn : n ≤ 60) :
    Calls Try.prog 38 #[.slice a n c] w (RPay w (allW cOk cW (ms.map (·.1)))) := by
  obtain ⟨i0, hi, hz0, hz1, hz2⟩ := info_parts info8; have hl := hs.ilen; obtain ⟨R, hR⟩ : ∃ R, allW cOk cW (ms.map (·.1)) = R := ⟨_, rfl⟩; rw [hR]; have hs' := Lib.hid hs; have hl' := Lib.hid hl; have hR' := Lib.hid hR; clear hs hl hR
  go_enter Try.func38, Try.ntmps38
  go_wp2
  go_loopw [4, 5, 6, 7] (fun bv iv _ _ wr => ∃ (k m : Nat) (a3 : Option Addr) (c3 : Nat), k ≤ n ∧ m ≤ 1017 * k ∧ k ≤ m ∧ iv = .int .i64 k ∧ bv = .slice a3 m c3 ∧ Hid (∀ j x, j < k → ms[j]? = some x → cOk x.1 = true) ∧ Hid (wr.ownsRow w.heap.size 5 1 (.slice a3 m c3) m (ints .u8 (flatW cW (ms.map (·.1)) k))) ∧ Hid (Below w.heap.size w wr)) (fun _ iv _ _ _ => n - (intOf iv).toNat)
  case atStart => exact ⟨0, 0, none, 0, by omega, by omega, by omega, rfl, rfl, Lib.hid (fun j x h => by omega), Lib.hid (own_nil _ _ _ _), Lib.hid (Below.refl _ _)⟩
  case round =>
    obtain ⟨k, m, a3, c3, hk, hm, hkm, rfl, rfl, hall, Ob, hbel⟩ := hrel; have hmb : m ≤ 61020 := by omega
    have hm' := Lib.hid hm; have hkm' := Lib.hid hkm; clear hm hkm
    by_cases hlt : k < n
    · obtain ⟨q, hq⟩ : ∃ q, ms[k]? = some q := ⟨_, List.getElem?_eq_getElem (by rw [hl'.out]; exact hlt)⟩
      have hqo := hs'.out.ok q (List.mem_of_getElem? hq); obtain ⟨bb, o, rfl, hbb, fw⟩ := hs'.out.elem hq; have fW : ∀ W, Below w.heap.size w W → ∀ j v, (cMC q)[j]? = some v → W.cell? ⟨bb, o + k * 19 + j, none⟩ = some v := fun W hW j v hv => (hW.cell (p := ⟨bb, o + k * 19 + j, none⟩) hbb).trans (fw j v hv); have f := fW wr hbel.out; have hcl := cMC_len hqo.len; obtain ⟨B, hB⟩ : ∃ B, (cMC q).toArray = B := ⟨_, rfl⟩; have HQ := rcoder_any q B hB wr (hqo.mono hbel.out); have hfl := flatW_snoc (f := cW) (l := ms.map (·.1)) (x := q.1) (k := k) (by rw [List.getElem?_map, hq]; rfl); obtain ⟨ok, hok⟩ : ∃ ok, cOk q.1 = ok := ⟨_, rfl⟩; rw [hok] at HQ; clear fw; have f' := Lib.hid f; have fW' := Lib.hid fW; have hqo' := Lib.hid hqo; have hB' := Lib.hid hB; have hcl' := Lib.hid hcl; have hq' := Lib.hid hq; have HQ' := Lib.hid HQ; have hfl' := Lib.hid hfl; have hok' := Lib.hid hok; clear f fW hqo hB hcl hq HQ hfl hok
      go_wp2_with (refine wpList_load_at rfl 165 (.tmp 16) rfl bb (o + k * 19) rfl (cMC q) B hB'.out _ f'.out Try.underlying165 rfl 19 infoC hcl'.out ?_)
      refine HQ'.out.mono ?_; rintro e w2 ⟨rfl, hb2⟩; have hbw2 := hbel.out.trans (hb2.mono hbel.out.size); have Ob2 := own_later Ob.out hb2
      cases ok with
      | false =>
        obtain rfl : R = none := by rw [← hR'.out]; exact allW_no (k := k) (x := q.1) (by rw [List.getElem?_map, hq'.out]; rfl) hok'.out
        clear hb2; have hbw2' := Lib.hid hbw2; have Ob2' := Lib.hid Ob2; clear hbw2 Ob2
        go_wp2
        go_ret2
        exact ⟨hbw2'.out, rfl⟩
      | true =>
        have hall2 : ∀ (j : Nat) (x : CdM), j < k + 1 → ms[j]? = some x → cOk x.1 = true := fun j x hj hx => by
          rcases Nat.lt_or_ge j k with h | h
          · exact hall.out j x h hx
          · obtain rfl : j = k := by omega
            rw [hq'.out] at hx; injection hx with hx; rw [← hx]; exact hok'.out
        obtain ⟨⟨cl, id, cnt, ss⟩, sa, sn, sc⟩ := q; have hbyt := cOk_byt hok'.out hqo'.out.len; obtain ⟨⟨p1, p2⟩, ⟨p3, p4⟩, hcb, hsb⟩ := hbyt; have hlen : cnt.length = 16 := hqo'.out.len; have hsn : ss.length = sn := hqo'.out.sl.ilen; have hfew : sn ≤ 1000 := hqo'.out.few; simp only at p1 p2 p3 p4 hcb hsb; have hhd : ((16 * cl + id) % 256 : Int) = 16 * cl + id := by omega
        have g0 : w2.cell? ⟨bb, o + k * 19, none⟩ = some (.int .i64 cl) := fW'.out w2 hbw2 0 _ rfl; have g1 : w2.cell? ⟨bb, o + k * 19 + 1, none⟩ = some (.int .i64 id) := fW'.out w2 hbw2 1 _ rfl; have hsz2 := hbw2.size; clear hb2; have hbw2' := Lib.hid hbw2; have Ob2' := Lib.hid Ob2; have hall2' := Lib.hid hall2; have hcb' := Lib.hid hcb; have hsb' := Lib.hid hsb; have hlen' := Lib.hid hlen; have hsn' := Lib.hid hsn; have hsz2' := Lib.hid hsz2; clear hbw2 Ob2 hall2 hcb hsb hlen hsn hsz2; obtain ⟨w3, hw3⟩ : ∃ w3, w2.drew = w3 := ⟨_, rfl⟩; have hd3 := (Below.refl w2.heap.size w2).drew; rw [hw3] at hd3; have hbw3 := hbw2'.out.trans (hd3.mono hsz2'.out); have Ob3 := own_later Ob2'.out hd3; have hsz3 := hbw3.size; have hcl : ∀ W, Below w.heap.size w W → W.cell? ⟨bb, o + k * 19, none⟩ = some (.int .i64 cl) ∧ W.cell? ⟨bb, o + k * 19 + 1, none⟩ = some (.int .i64 id) := fun W hW => ⟨fW'.out W hW 0 _ rfl, fW'.out W hW 1 _ rfl⟩; obtain ⟨Ty, ff, hne, qq, hsurj⟩ := pr_worlds (fun W => W.cell? ⟨bb, o + k * 19, none⟩ = some (.int .i64 cl) ∧ W.cell? ⟨bb, o + k * 19 + 1, none⟩ = some (.int .i64 id)) w3 (hcl w3 hbw3); have q0 := fun s => (qq s).1; have q1 := fun s => (qq s).2; have hal4 := (Below.refl w3.heap.size w3).alloc (Nat.le_refl _) (.cells #[.int .u8 (16 * cl + id)] 5); have hbw4 := hbw3.trans (hal4.mono hsz3); have Ob4 := own_later Ob3 hal4; have s4 := Sl.new w3 5 1 1 #[.int .u8 (16 * cl + id)] (0, 0) (by omega) rfl; obtain ⟨w4, hw4⟩ : ∃ w4, w3.alloc (.cells #[.int .u8 (16 * cl + id)] 5) = w4 := ⟨_, rfl⟩; rw [hw4] at hbw4 Ob4 s4; have hsz4 := hbw4.size; have HS := Lib.hid (hsurj _ (hcl w3 hbw3)); have HS4 := Lib.hid (hsurj _ (hcl w4 hbw4)); clear qq hal4 g0 g1; have hw3' := Lib.hid hw3; have hd3' := Lib.hid hd3; have hbw3' := Lib.hid hbw3; have Ob3' := Lib.hid Ob3; have hsz3' := Lib.hid hsz3; have hcl' := Lib.hid hcl; have hsurj' := Lib.hid hsurj; have hbw4' := Lib.hid hbw4; have Ob4' := Lib.hid Ob4; have s4' := Lib.hid s4; have hw4' := Lib.hid hw4; have hsz4' := Lib.hid hsz4; clear hw3 hd3 hbw3 Ob3 hsz3 hcl hsurj hbw4 Ob4 s4 hw4 hsz4
        go_wp2
        refine held_begin (S := fun W => ∃ s, W = ff s) (by kernel_rfl) 17 rfl ?_; rw [hw3'.out]; refine held_take [0, 1, 2, 3, 4, 5, 6, 7, 8, 9, 10, 11, 12, 13] 3 (by kernel_rfl) (fun d _ _ _ _ h => by cases d <;> exact h) (by kernel_rfl) (by kernel_rfl) (by kernel_rfl) HS.out ?_; simp only [pickL, List.map_cons, List.map_nil, List.getD_cons_succ, List.getD_cons_zero]
        iterate 14 (go_big_quiet_step (fail))
        refine wpQuiet_nil ?_; refine held_one 14 2 (by kernel_rfl) (by kernel_rfl) ?_; simp only [pickL, List.map_cons, List.map_nil, List.getD_cons_succ, List.getD_cons_zero]
        go_wp2_with fail
        rw [hw4'.out]
        first | refine Mid.mk ⟨HS4.out, ?_⟩ | refine Mid.mk ?_
        clear q0 q1 hne; refine held_one 15 1 (by kernel_rfl) (by kernel_rfl) ?_; simp only [pickL, List.map_cons, List.map_nil, List.getD_cons_succ, List.getD_cons_zero]
        go_wp2_with (at_builtin; refine wpList_app rfl _ _ 30 rfl w.heap.size 5 i0 _ 1 1 Try.underlying30 hi hz0 hz1 hz2 rfl (by decide) _ m _ rfl Ob4'.out _ 1 1 _ rfl s4'.out (by simp [Value.oneCell']) (by omega) (by decide) hsz4'.out ?_; intro a5 c5 w5 ob5 hb5 hg5; have Ob5 := Lib.hid ob5; have Hb5 := Lib.hid (hbw4'.out.trans hb5); have HS5 := Lib.hid (hsurj'.out _ (hcl'.out w5 (hbw4'.out.trans hb5))); clear ob5 hb5 hg5)
        first | refine Mid.mk ⟨HS5.out, ?_⟩ | refine Mid.mk ?_
        refine held_one 16 0 (by kernel_rfl) (by kernel_rfl) ?_; simp only [pickL, List.map_cons, List.map_nil, List.getD_cons_succ, List.getD_cons_zero]
        go_wp2_with fail
        first | refine Mid.mk ⟨HS5.out, ?_⟩ | refine Mid.mk ?_
        refine held_last (by kernel_rfl) ?_; clear HS HS4 HS5; clear hhd
        go_wp2
        go_loopw [4, 6] (fun bv jv wr => ∃ (j : Nat) (a3 : Option Addr) (c3 : Nat), j ≤ 16 ∧ jv = .int .i64 j ∧ bv = .slice a3 (m + 1 + j) c3 ∧ Hid (wr.ownsRow w.heap.size 5 1 (.slice a3 (m + 1 + j) c3) (m + 1 + j) (ints .u8 (flatW cW (ms.map (·.1)) k ++ ((16 * cl + id) :: cnt.take j)))) ∧ Hid (Below w.heap.size w wr)) (fun _ jv _ => 16 - (intOf jv).toNat)
        case atStart => exact ⟨0, a5, c5, by omega, rfl, rfl, Lib.hid (by rw [ints_append]; exact Ob5.out), Hb5⟩
        case round =>
          obtain ⟨j, a3, c3, hj, rfl, rfl, Ob, hbel⟩ := hrel; have hsz8 := hbel.out.size
          by_cases hjl : j < 16
          · obtain ⟨y, hy⟩ : ∃ y, cnt[j]? = some y := ⟨_, List.getElem?_eq_getElem (by rw [hlen'.out]; exact hjl)⟩
            have f8 : wr.cell? ⟨bb, o + k * 19 + 2 + j, none⟩ = some (.int .i64 y) := by
              have := fW'.out wr hbel.out (2 + j) (.int .i64 y) (by
                show (.int .i64 cl :: .int .i64 id :: (ints .i64 cnt ++ _))[2 + j]? = _
                rw [show 2 + j = j + 1 + 1 by omega, List.getElem?_cons_succ, List.getElem?_cons_succ, List.getElem?_append_left (by rw [ints_len, hlen'.out]; exact hjl)]; unfold ints; rw [List.getElem?_map, hy]
                rfl)
              rwa [← Nat.add_assoc] at this
            obtain ⟨hy1, hy2⟩ := hcb'.out y (List.mem_of_getElem? hy); have hyw : y % 256 = y := by omega
            have hsn2 : flatW cW (ms.map (·.1)) k ++ ((16 * cl + id) :: cnt.take (j + 1)) = (flatW cW (ms.map (·.1)) k ++ ((16 * cl + id) :: cnt.take j)) ++ [y] := by
              rw [List.take_add_one, hy]
              simp
            have hy' := Lib.hid hy; have hsn2' := Lib.hid hsn2; have hsz8' := Lib.hid hsz8; clear hy hsn2 hsz8
            go_wp2_with (at_builtin; refine wpList_app rfl _ _ 30 rfl w.heap.size 5 i0 _ 1 1 Try.underlying30 hi hz0 hz1 hz2 rfl (by decide) _ (m + 1 + j) _ rfl (World.ownsRow.alloc Ob.out _) _ 1 1 _ rfl (Sl.new wr 5 1 1 #[.int .u8 y] (0, 0) (by omega) rfl) (by simp [Value.oneCell']) (by omega) (by decide) (by have := hsz8'.out; simp; omega) ?_; intro a6 c6 w8 ob8 hb8 hg8; have Ob8 := Lib.hid ob8; have Hb8 := Lib.hid ((hbel.out.alloc hsz8'.out (.cells #[.int .u8 y] 5)).trans hb8); clear ob8 hb8 hg8)
            clear hyw
            go_roundw
            case rel => exact ⟨j + 1, a6, c6, by omega, by go_num, rfl, Lib.hid (by rw [hsn2'.out, ints_append]; exact Ob8.out), Hb8⟩
            case measure => simp [intOf]; omega
          · have hj16 : j = 16 := by omega
            have Ob9 := Ob.out; rw [hj16, List.take_of_length_le (by rw [hlen'.out]; exact Nat.le_refl _)] at Ob9; obtain ⟨L, hL⟩ : ∃ L, m + 1 + j = L := ⟨_, rfl⟩; have hL2 : L = m + 17 := by omega
            have Ob10 : wr.ownsRow w.heap.size 5 1 (.slice a3 L c3) L (ints .u8 (flatW cW (ms.map (·.1)) k ++ ((16 * cl + id) :: cnt))) := by
              rw [hL2]; exact Ob9
            rw [hL]; have hLb : L ≤ 62000 := by omega
            clear Ob9 Ob; have Ob10' := Lib.hid Ob10; have hj16' := Lib.hid hj16; have hL' := Lib.hid hL; have hL2' := Lib.hid hL2; have hsz8' := Lib.hid hsz8; clear Ob10 hj16 hL hL2 hsz8
            go_wp2
            go_loopw [4, 7] (fun bv jv wr => ∃ (j : Nat) (a3 : Option Addr) (c3 : Nat), j ≤ sn ∧ jv = .int .i64 j ∧ bv = .slice a3 (L + j) c3 ∧ Hid (wr.ownsRow w.heap.size 5 1 (.slice a3 (L + j) c3) (L + j) (ints .u8 (flatW cW (ms.map (·.1)) k ++ ((16 * cl + id) :: (cnt ++ ss.take j))))) ∧ Hid (Below w.heap.size w wr)) (fun _ jv _ => sn - (intOf jv).toNat)
            case atStart => exact ⟨0, a3, c3, by omega, rfl, rfl, Lib.hid (by rw [List.take_zero, List.append_nil]; exact Ob10'.out), hbel⟩
            case round =>
              obtain ⟨j, a3, c3, hj, rfl, rfl, Ob, hbel⟩ := hrel; have hsz8 := hbel.out.size
              have f8 : wr.cell? ⟨bb, o + k * 19 + 18, none⟩ = some (.slice sa sn sc) := fW'.out wr hbel.out 18 _ (by
                show (.int .i64 cl :: .int .i64 id :: (ints .i64 cnt ++ _))[16 + 1 + 1]? = _
                rw [List.getElem?_cons_succ, List.getElem?_cons_succ, List.getElem?_append_right (by rw [ints_len, hlen'.out]; exact Nat.le_refl _), ints_len, hlen'.out]
                rfl)
              by_cases hjl : j < sn
              · obtain ⟨y, hy⟩ : ∃ y, ss[j]? = some y := ⟨_, List.getElem?_eq_getElem (by rw [hsn'.out]; exact hjl)⟩
                have hyd : ss.getD j 0 = y := by rw [List.getD_eq_getElem?_getD, hy]; rfl
                obtain ⟨sb, so, hsa, hsb2, f9⟩ := (hqo'.out.sl.mono hbel.out).at hjl; simp only at hsa; subst hsa; have f0 := f9 j _ (ints_get (by rw [hsn'.out]; exact hjl)); rw [hyd] at f0; obtain ⟨hy1, hy2⟩ := hsb'.out y (List.mem_of_getElem? hy); have hyw : y % 256 = y := by omega
                have hsn2 : flatW cW (ms.map (·.1)) k ++ ((16 * cl + id) :: (cnt ++ ss.take (j + 1))) = (flatW cW (ms.map (·.1)) k ++ ((16 * cl + id) :: (cnt ++ ss.take j))) ++ [y] := by
                  rw [List.take_add_one, hy]
                  simp
                clear f9; have hy' := Lib.hid hy; have hyd' := Lib.hid hyd; have hsn2' := Lib.hid hsn2; have hsz8' := Lib.hid hsz8; clear hy hyd hsn2 hsz8
                go_wp2_with (at_builtin; refine wpList_app rfl _ _ 30 rfl w.heap.size 5 i0 _ 1 1 Try.underlying30 hi hz0 hz1 hz2 rfl (by decide) _ (L + j) _ rfl (World.ownsRow.alloc Ob.out _) _ 1 1 _ rfl (Sl.new wr 5 1 1 #[.int .u8 y] (0, 0) (by omega) rfl) (by simp [Value.oneCell']) (by omega) (by decide) (by have := hsz8'.out; simp; omega) ?_; intro a6 c6 w8 ob8 hb8 hg8; have Ob8 := Lib.hid ob8; have Hb8 := Lib.hid ((hbel.out.alloc hsz8'.out (.cells #[.int .u8 y] 5)).trans hb8); clear ob8 hb8 hg8)
                clear hyw
                go_roundw
                case rel => exact ⟨j + 1, a6, c6, by omega, by go_num, rfl, Lib.hid (by rw [hsn2'.out, ints_append]; exact Ob8.out), Hb8⟩
                case measure => simp [intOf]; omega
              · have hjs : j = sn := by omega
                have Ob9 := Ob.out; have e1 : ss.take j = ss := List.take_of_length_le (by rw [hsn'.out]; omega); rw [e1, show (16 * cl + id) :: (cnt ++ ss) = cW (cl, id, cnt, ss) from rfl, ← hfl'.out] at Ob9; have hL3 := hL2'.out; have hm3 := hm'.out; have hb1 : L + j ≤ 1017 * (k + 1) := by omega
                have hb2 : k + 1 ≤ L + j := by have := hkm'.out; omega
                clear e1 hL3 hm3; have Ob9' := Lib.hid Ob9; have hjs' := Lib.hid hjs; have hsz8' := Lib.hid hsz8; have hb1' := Lib.hid hb1; have hb2' := Lib.hid hb2; clear Ob9 hjs hsz8 hb1 hb2
                go_wp2
                go_roundw
                case rel => exact ⟨k + 1, L + j, a3, c3, by omega, hb1'.out, hb2'.out, by go_num, rfl, hall2', Ob9', hbel⟩
                case measure => simp [intOf]; omega
    · have hkn : k = n := by omega
      have Ob2 := Ob.out
      have hall2 : ∀ (j : Nat) (x : Cdr), (ms.map fun m : CdM => m.1)[j]? = some x → cOk x = true := fun j x hx => by
        rw [List.getElem?_map] at hx
        cases hy : ms[j]? with
        | none => rw [hy] at hx; cases hx
        | some y =>
          rw [hy] at hx; injection hx with hx; subst hx; exact hall.out j y (by rw [hkn, ← hl'.out]; exact (List.getElem?_eq_some_iff.1 hy).1) hy
      rw [hkn, ← hl'.out] at Ob2; have h1 := hm'.out; have h2 := hkm'.out
      by_cases hn0 : n = 0
      · obtain rfl : R = none := by
          rw [← hR'.out]; have : ms = [] := List.eq_nil_of_length_eq_zero (by rw [hl'.out, hn0]); rw [this]; rfl
        obtain rfl : m = 0 := by omega
        clear h1 h2; have Ob2' := Lib.hid Ob2; have hall2' := Lib.hid hall2; have hkn' := Lib.hid hkn; have hn0' := Lib.hid hn0; clear Ob2 hall2 hkn hn0
        go_wp2
        go_ret2
        exact ⟨hbel.out, rfl⟩
      · obtain rfl : R = some (flatW cW (ms.map (·.1)) ms.length) := by
          have hlm : (ms.map (fun x : CdM => x.1)).length = ms.length := List.length_map _; rw [← hR'.out, ← hlm]; exact allW_yes hall2 (fun h => hn0 (by rw [← hl'.out, List.map_eq_nil_iff.1 h]; rfl))
        have hnb : ((m : Int) == 0) = false := by simp; omega
        have hnc : decide ((65533 : Int) < m) = false := by simp; omega
        clear h1 h2; have Ob2' := Lib.hid Ob2; have hall2' := Lib.hid hall2; have hkn' := Lib.hid hkn; clear Ob2 hall2 hkn; clear hn0
        go_wp2
        go_ret2
        exact ⟨hbel.out, a3, m, c3, rfl, Ob2'.out⟩
end Go.Proofs.Ytpjopeojeglogaa
