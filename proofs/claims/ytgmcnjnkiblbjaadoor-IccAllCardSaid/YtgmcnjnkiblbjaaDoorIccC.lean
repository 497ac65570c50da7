import Derived.Test.YtgmcnjnkiblbjaaDoorIccB
namespace Go.Proofs.YtgmcnjnkiblbjaaDoor
open Go.RowKit Tt
set_option linter.unusedVariables false

/-- what a join hands back -/
def Joined (w : World) (ls : List (List Int)) (e : Ending) (w' : World) : Prop :=
  ∃ a n c, e = .returned (.tuple #[.slice a n c, .int .i64 (joinS ls).2]) ∧ w'.ownsRow w.heap.size 5 1 (.slice a n c) n (ints .u8 (joinS ls).1) ∧ Below w.heap.size w w'

theorem joined_err {w w' : World} {ls : List (List Int)} {x : Int} (h : joinS ls = ([], x)) (hb : Below w.heap.size w w') : Joined w ls (.returned (.tuple #[.slice none 0 0, .int .i64 x])) w' :=
  ⟨none, 0, 0, by rw [h], by rw [h]; exact own_nil _ _ _ _, hb⟩

theorem joined_ok {w w' : World} {ls : List (List Int)} {l : List Int} {a : Option Addr} {n c : Nat} (h : joinS ls = (l, 0)) (ho : w'.ownsRow w.heap.size 5 1 (.slice a n c) n (ints .u8 l)) (hb : Below w.heap.size w w') : Joined w ls (.returned (.tuple #[.slice a n c, .int .i64 0])) w' :=
  ⟨a, n, c, by rw [h], by rw [h]; exact ho, hb⟩

theorem joinS_err {ls : List (List Int)} {x : Int} (h : ls.length ≤ 255) (hx : x ≠ 0) (he : joinE ls.length 0 ls = x) : joinS ls = ([], x) := by
  unfold joinS
  rw [if_neg (by omega), if_neg (by rw [he]; exact hx), he]

theorem joinS_ok {ls : List (List Int)} (h : ls.length ≤ 255) {k : Nat} (hk : ls.length ≤ k) (he : joinE ls.length 0 ls = joinE ls.length k (ls.drop k)) : joinS ls = (parts ls, 0) := by
  have h0 : joinE ls.length 0 ls = 0 := by rw [he, List.drop_of_length_le hk]; rfl
  unfold joinS
  rw [if_neg (by omega), if_pos h0]

set_option maxHeartbeats 1000000 in
theorem join_any (a : Option Addr) (n c : Nat) (ls : List (List Int)) (w : World) (hx : Rs w a n c ls) (bl : ∀ l ∈ ls, Byt l) :
    Calls Tryd.prog 18 #[.slice a n c] w (Joined w ls) := by
  obtain ⟨i0, hi, hz0, hz1, hz2⟩ := info_parts info5
  have hxl := hx.len
  obtain ⟨⟨vs, hv1, hv2⟩, _⟩ := hx
  have hn := hv1.le
  have hm := hv1.max
  have Hv2 := Lib.hid hv2
  have Hx := Lib.hid hxl
  have Bl := Lib.hid bl
  clear hv2 hxl bl
  by_cases h255 : n ≤ 255
  · have hd : decide ((255 : Int) < n) = false := by simp; omega
    go_enter Tryd.func18, Tryd.ntmps18
    go_wp2
    go_loopw [4, 12] (fun v i wr => ∃ (k m c4 : Nat) (a4 : Option Addr), k ≤ n ∧ i = .int .i64 k ∧ Hid (joinE n 0 ls = joinE n k (ls.drop k)) ∧ v = .slice a4 m c4 ∧ wr.ownsRow w.heap.size 5 1 (.slice a4 m c4) m (ints .u8 (parts (ls.take k))) ∧ m ≤ k * 65519 ∧ Below w.heap.size w wr) (fun _ i _ => n - (intOf i).toNat)
    case atStart => exact ⟨0, 0, 0, none, Nat.zero_le _, rfl, Lib.hid rfl, rfl, own_nil _ _ _ _, by omega, Below.refl _ _⟩
    case round =>
      obtain ⟨k, m, c4, a4, hk, rfl, hj, rfl, ho, hmk, hb⟩ := hrel
      have Ho := Lib.hid ho
      clear ho
      by_cases hlt : k < n
      · obtain ⟨b, o, rfl, hbx, cx⟩ := (hv1.mono hb).at hlt
        obtain ⟨a1, n1, c1, e1, s1⟩ := Hv2.out k hlt
        have f1 := cx k _ e1
        clear cx e1
        have s1' := s1.mono hb
        have b1 : Byt (ls.getD k []) := Bl.out _ (by rw [List.getD_eq_getElem?_getD, List.getElem?_eq_getElem (by rw [Hx.out]; exact hlt)]; exact List.getElem_mem _)
        have hl1 := s1.ilen
        have hle1 := s1.le
        have hm1 := s1.max
        have hst := hj.out
        rw [drop_cons (by rw [Hx.out]; exact hlt), joinE_cons] at hst
        have Hts := Lib.hid (take_snoc (l := ls) (k := k) (by rw [Hx.out]; exact hlt))
        generalize ls.getD k [] = row at *
        have Hl1 := Lib.hid hl1
        have Hst := Lib.hid hst
        clear hst hl1
        by_cases h14 : n1 < 14
        · have hs : joinS ls = ([], 3) := joinS_err (by rw [Hx.out]; exact h255) (by decide) (by rw [Hx.out, Hst.out, if_pos (by rw [Hl1.out]; exact h14)])
          have Hs := Lib.hid hs
          clear hs
          go_wp2
          go_ret2
          exact joined_err Hs.out hb
        · have hR := fun W h => right_any a1 n1 c1 row k n W h b1 (by omega) (by omega) (by omega) (by omega) (by omega)
          have HR := Lib.hid hR
          clear hR
          cases hr : rightB row k n
          · rw [hr] at HR
            have hs : joinS ls = ([], 2) := joinS_err (by rw [Hx.out]; exact h255) (by decide) (by rw [Hx.out, Hst.out, if_neg (by rw [Hl1.out]; exact h14), if_pos hr])
            have Hs := Lib.hid hs
            clear hs hr
            go_wp2_with (go_at_call 27; refine (HR.out _ s1').mono ?_; rintro e w1 ⟨rfl, hb1⟩)
            go_ret2
            exact joined_err Hs.out (hb.trans (hb1.mono hb.size))
          · rw [hr] at HR
            have hn2 := rightB_len hr
            rw [Hl1.out] at hn2
            have hj2 : joinE n 0 ls = joinE n (k + 1) (ls.drop (k + 1)) := by rw [Hst.out, if_neg (by rw [Hl1.out]; exact h14), if_neg (by rw [hr]; decide)]
            have Hj2 := Lib.hid hj2
            clear hj2 hr
            obtain ⟨a2, hcut, hs2⟩ := cut_l (P := Tryd.prog) Tryd.underlying22 size5 s1' 14 (by omega) (by omega) (n1 - 14) (c1 - 14) (by omega) (by omega)
            have hs2' : Sl wr a2 (n1 - 14) (c1 - 14) 1 (ints .u8 (row.drop 14)) := by
              rw [ints, List.map_drop]; exact hs2
            clear hs2
            go_wp2_with (first
              | (go_at_call 27; refine (HR.out _ s1').mono ?_; rintro e w1 ⟨rfl, hb1⟩)
              | (at_builtin; refine wpList_app rfl _ _ 22 rfl w.heap.size 5 i0 _ 1 1 Tryd.underlying22 hi hz0 hz1 hz2 rfl (by decide) _ m _ rfl (own_later Ho.out hb1) a2 (n1 - 14) (c1 - 14) _ rfl (hs2'.mono hb1) ints_one (by omega) (by decide) (Nat.le_trans hb.size hb1.size) ?_; intro a' c' w2 hown hbel hgrow; clear hgrow; rw [← ints_append] at hown; have Hown := Lib.hid hown; clear hown))
            go_roundw
            case rel => exact ⟨k + 1, m + (n1 - 14), c', a', by omega, by go_num, Lib.hid Hj2.out, rfl, by rw [parts, Hts.out, ← parts_snoc]; exact Hown.out, by omega, (hb.trans (hb1.mono hb.size)).trans hbel⟩
            case measure => simp [intOf]; omega
      · have hs := joinS_ok (ls := ls) (by rw [Hx.out]; exact h255) (k := k) (by rw [Hx.out]; omega) (by rw [Hx.out]; exact hj.out)
        have Hs := Lib.hid hs
        clear hs
        go_wp2
        go_ret2
        exact joined_ok Hs.out (by have := Ho.out; rw [List.take_of_length_le (by rw [Hx.out]; omega)] at this; exact this) hb
  · have hd : decide ((255 : Int) < n) = true := by simp; omega
    have hs : joinS ls = ([], 7) := by unfold joinS; rw [if_pos (by rw [Hx.out]; omega)]
    have Hs := Lib.hid hs
    clear hs
    go_enter Tryd.func18, Tryd.ntmps18
    go_wp2
    go_ret2
    exact joined_err Hs.out (Below.refl _ _)

set_option maxHeartbeats 1000000 in
theorem rjoin_any (a : Option Addr) (n c : Nat) (ls : List (List Int)) (w : World) (hx : Rs w a n c ls) (bl : ∀ l ∈ ls, Byt l) :
    Calls Tryd.prog 19 #[.slice a n c] w (Joined w ls) := by
  obtain ⟨i0, hi, hz0, hz1, hz2⟩ := info_parts info5
  have hxl := hx.len
  obtain ⟨⟨vs, hv1, hv2⟩, _⟩ := hx
  have hn := hv1.le
  have hm := hv1.max
  have Hv2 := Lib.hid hv2
  have Hx := Lib.hid hxl
  have Bl := Lib.hid bl
  clear hv2 hxl bl
  by_cases h255 : n ≤ 255
  · have hd : decide ((255 : Int) < n) = false := by simp; omega
    go_enter Tryd.func19, Tryd.ntmps19
    go_wp2
    go_loopw [4, 5] (fun v i wr => ∃ (k m c4 : Nat) (a4 : Option Addr), k ≤ n ∧ i = .int .i64 k ∧ Hid (joinE n 0 ls = joinE n k (ls.drop k)) ∧ v = .slice a4 m c4 ∧ wr.ownsRow w.heap.size 5 1 (.slice a4 m c4) m (ints .u8 (parts (ls.take k))) ∧ m ≤ k * 65519 ∧ Below w.heap.size w wr) (fun _ i _ => n - (intOf i).toNat)
    case atStart => exact ⟨0, 0, 0, none, Nat.zero_le _, rfl, Lib.hid rfl, rfl, own_nil _ _ _ _, by omega, Below.refl _ _⟩
    case round =>
      obtain ⟨k, m, c4, a4, hk, rfl, hj, rfl, ho, hmk, hb⟩ := hrel
      have Ho := Lib.hid ho
      clear ho
      by_cases hlt : k < n
      · obtain ⟨b, o, rfl, hbx, cx⟩ := (hv1.mono hb).at hlt
        obtain ⟨a1, n1, c1, e1, s1⟩ := Hv2.out k hlt
        have f1 := cx k _ e1
        clear cx e1
        have s1' := s1.mono hb
        have b1 : Byt (ls.getD k []) := Bl.out _ (by rw [List.getD_eq_getElem?_getD, List.getElem?_eq_getElem (by rw [Hx.out]; exact hlt)]; exact List.getElem_mem _)
        have hl1 := s1.ilen
        have hle1 := s1.le
        have hm1 := s1.max
        have hst := hj.out
        rw [drop_cons (by rw [Hx.out]; exact hlt), joinE_cons] at hst
        have Hts := Lib.hid (take_snoc (l := ls) (k := k) (by rw [Hx.out]; exact hlt))
        generalize ls.getD k [] = row at *
        have Hl1 := Lib.hid hl1
        have Hst := Lib.hid hst
        clear hst hl1
        by_cases h14 : n1 < 14
        · have hs : joinS ls = ([], 3) := joinS_err (by rw [Hx.out]; exact h255) (by decide) (by rw [Hx.out, Hst.out, if_pos (by rw [Hl1.out]; exact h14)])
          have Hs := Lib.hid hs
          clear hs
          go_wp2
          go_ret2
          exact joined_err Hs.out hb
        · obtain ⟨b', o', rfl, hbx', cx'⟩ := s1'.at (show 0 < n1 by omega)
          have f2 := cx' 12 _ (ints_get (by rw [Hl1.out]; omega))
          have f3 := cx' 13 _ (ints_get (by rw [Hl1.out]; omega))
          clear cx'
          have g1 := b1.get 12
          have g2 := b1.get 13
          have hR : rightB row k n = (isB row && (row.getD 12 0 == (k : Int) + 1) && (row.getD 13 0 == (n : Int)) && (decide (n1 = 65533) || (decide ((k : Int) = (n : Int) - 1) && decide (15 ≤ n1) && decide (n1 < 65533)))) := by unfold rightB; rw [Hl1.out]
          have hI := fun W h => ris_any (some ⟨b', o', none⟩) n1 c1 row W h
          have HI := Lib.hid hI
          have hj2 : rightB row k n = true → joinE n 0 ls = joinE n (k + 1) (ls.drop (k + 1)) := fun hr => by rw [Hst.out, if_neg (by rw [Hl1.out]; exact h14), if_neg (by rw [hr]; decide)]
          have hs2 : rightB row k n = false → joinS ls = ([], 2) := fun hr => joinS_err (by rw [Hx.out]; exact h255) (by decide) (by rw [Hx.out, Hst.out, if_neg (by rw [Hl1.out]; exact h14), if_pos hr])
          rw [hR] at hj2 hs2
          have Hj2 := Lib.hid hj2
          have Hs2 := Lib.hid hs2
          clear hj2 hs2 hR hI
          generalize row.getD 12 0 = u at *
          generalize row.getD 13 0 = v at *
          generalize isB row = q at *
          cases q
          · go_wp2_with (go_at_call 14; refine (HI.out _ s1').mono ?_; rintro e w1 ⟨rfl, hb1⟩)
            go_ret2
            exact joined_err (Hs2.out (by simp)) (hb.trans (hb1.mono hb.size))
          · by_cases h1 : u = (k : Int) + 1
            · have t1 : (u != (k : Int) + 1) = false := by simp [h1]
              have H1 := Lib.hid h1
              clear h1
              by_cases h2 : v = (n : Int)
              · have t2 : (v != (n : Int)) = false := by simp [h2]
                have H2 := Lib.hid h2
                clear h2
                by_cases h3 : n1 ≤ 65533
                · by_cases h4 : 15 ≤ n1
                  · by_cases h5 : k + 1 < n
                    · by_cases h6 : n1 = 65533
                      · have t6 : ((n1 : Int) - 14 != 65519) = false := by simp; omega
                        have H6 := Lib.hid h6
                        clear h6
                        have Hj3 := Lib.hid (Hj2.out (by first | (simp [H1.out, H2.out, H6.out]; done) | (simp [H1.out, H2.out, H6.out]; omega)))
                        obtain ⟨a2, hcut, hs2⟩ := cut_l (P := Tryd.prog) Tryd.underlying22 size5 s1' 14 (by omega) (by omega) (n1 - 14) (c1 - 14) (by omega) (by omega)
                        have hs2' : Sl wr a2 (n1 - 14) (c1 - 14) 1 (ints .u8 (row.drop 14)) := by
                          rw [ints, List.map_drop]; exact hs2
                        clear hs2
                        go_wp2_with (first | (go_at_call 14; refine (HI.out _ s1').mono ?_; rintro e w1 ⟨rfl, hb1⟩; have k2 := late hb1 hbx' f2; have k3 := late hb1 hbx' f3) | (at_builtin; refine wpList_app rfl _ _ 22 rfl w.heap.size 5 i0 _ 1 1 Tryd.underlying22 hi hz0 hz1 hz2 rfl (by decide) _ m _ rfl (own_later Ho.out hb1) a2 (n1 - 14) (c1 - 14) _ rfl (hs2'.mono hb1) ints_one (by omega) (by decide) (Nat.le_trans hb.size hb1.size) ?_; intro a' c' w2 hown hbel hgrow; clear hgrow; rw [← ints_append] at hown; have Hown := Lib.hid hown; clear hown))
                        go_roundw
                        case rel => exact ⟨k + 1, m + (n1 - 14), c', a', by omega, by go_num, Lib.hid Hj3.out, rfl, by rw [parts, Hts.out, ← parts_snoc]; exact Hown.out, by omega, (hb.trans (hb1.mono hb.size)).trans hbel⟩
                        case measure => simp [intOf]; omega
                      · have t6 : ((n1 : Int) - 14 != 65519) = true := by simp; omega
                        go_wp2_with (first | (go_at_call 14; refine (HI.out _ s1').mono ?_; rintro e w1 ⟨rfl, hb1⟩; have k2 := late hb1 hbx' f2; have k3 := late hb1 hbx' f3))
                        go_ret2
                        exact joined_err (Hs2.out (by first | (simp [H1.out, H2.out, h6]; done) | (simp [H1.out, H2.out, h6]; omega))) (hb.trans (hb1.mono hb.size))
                    · have Hj3 := Lib.hid (Hj2.out (by first | (simp [H1.out, H2.out, h4]; done) | (simp [H1.out, H2.out, h4]; omega)))
                      obtain ⟨a2, hcut, hs2⟩ := cut_l (P := Tryd.prog) Tryd.underlying22 size5 s1' 14 (by omega) (by omega) (n1 - 14) (c1 - 14) (by omega) (by omega)
                      have hs2' : Sl wr a2 (n1 - 14) (c1 - 14) 1 (ints .u8 (row.drop 14)) := by
                        rw [ints, List.map_drop]; exact hs2
                      clear hs2
                      go_wp2_with (first | (go_at_call 14; refine (HI.out _ s1').mono ?_; rintro e w1 ⟨rfl, hb1⟩; have k2 := late hb1 hbx' f2; have k3 := late hb1 hbx' f3) | (at_builtin; refine wpList_app rfl _ _ 22 rfl w.heap.size 5 i0 _ 1 1 Tryd.underlying22 hi hz0 hz1 hz2 rfl (by decide) _ m _ rfl (own_later Ho.out hb1) a2 (n1 - 14) (c1 - 14) _ rfl (hs2'.mono hb1) ints_one (by omega) (by decide) (Nat.le_trans hb.size hb1.size) ?_; intro a' c' w2 hown hbel hgrow; clear hgrow; rw [← ints_append] at hown; have Hown := Lib.hid hown; clear hown))
                      go_roundw
                      case rel => exact ⟨k + 1, m + (n1 - 14), c', a', by omega, by go_num, Lib.hid Hj3.out, rfl, by rw [parts, Hts.out, ← parts_snoc]; exact Hown.out, by omega, (hb.trans (hb1.mono hb.size)).trans hbel⟩
                      case measure => simp [intOf]; omega
                  · go_wp2_with (first | (go_at_call 14; refine (HI.out _ s1').mono ?_; rintro e w1 ⟨rfl, hb1⟩; have k2 := late hb1 hbx' f2; have k3 := late hb1 hbx' f3))
                    go_ret2
                    exact joined_err (Hs2.out (by first | (simp [H1.out, H2.out, h4]; done) | (simp [H1.out, H2.out, h4]; omega))) (hb.trans (hb1.mono hb.size))
                · go_wp2_with (first | (go_at_call 14; refine (HI.out _ s1').mono ?_; rintro e w1 ⟨rfl, hb1⟩; have k2 := late hb1 hbx' f2; have k3 := late hb1 hbx' f3))
                  go_ret2
                  exact joined_err (Hs2.out (by first | (simp [H1.out, H2.out]; done) | (simp [H1.out, H2.out]; omega))) (hb.trans (hb1.mono hb.size))
              · have t2 : (v != (n : Int)) = true := by simpa using h2
                have H2 := Lib.hid h2
                clear h2
                go_wp2_with (first | (go_at_call 14; refine (HI.out _ s1').mono ?_; rintro e w1 ⟨rfl, hb1⟩; have k2 := late hb1 hbx' f2; have k3 := late hb1 hbx' f3))
                go_ret2
                exact joined_err (Hs2.out (by first | (simp [H1.out, H2.out]; done) | (simp [H1.out, H2.out]; omega))) (hb.trans (hb1.mono hb.size))
            · have t1 : (u != (k : Int) + 1) = true := by simpa using h1
              have H1 := Lib.hid h1
              clear h1
              go_wp2_with (first | (go_at_call 14; refine (HI.out _ s1').mono ?_; rintro e w1 ⟨rfl, hb1⟩; have k2 := late hb1 hbx' f2; have k3 := late hb1 hbx' f3))
              go_ret2
              exact joined_err (Hs2.out (by first | (simp [H1.out]; done) | (simp [H1.out]; omega))) (hb.trans (hb1.mono hb.size))
      · have hs := joinS_ok (ls := ls) (by rw [Hx.out]; exact h255) (k := k) (by rw [Hx.out]; omega) (by rw [Hx.out]; exact hj.out)
        have Hs := Lib.hid hs
        clear hs
        go_wp2
        go_ret2
        exact joined_ok Hs.out (by have := Ho.out; rw [List.take_of_length_le (by rw [Hx.out]; omega)] at this; exact this) hb
  · have hd : decide ((255 : Int) < n) = true := by simp; omega
    have hs : joinS ls = ([], 7) := by unfold joinS; rw [if_pos (by rw [Hx.out]; omega)]
    have Hs := Lib.hid hs
    clear hs
    go_enter Tryd.func19, Tryd.ntmps19
    go_wp2
    go_ret2
    exact joined_err Hs.out (Below.refl _ _)
end Go.Proofs.YtgmcnjnkiblbjaaDoor
