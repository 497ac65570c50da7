import Derived.Test.YtgmcnjnkiblbjaaDoorIccG
namespace Go.Proofs.YtgmcnjnkiblbjaaDoor
open Go.RowKit Tt
set_option linter.unusedVariables false

theorem rows_at {w : World} {a : Option Addr} {n c : Nat} {ls : List (List Int)} (hx : Rs w a n c ls) {k : Nat} (hk : k < n) :
    ∃ b o a1 n1 c1, a = some ⟨b, o, none⟩ ∧ b < w.heap.size ∧ w.cell? ⟨b, o + k, none⟩ = some (.slice a1 n1 c1) ∧ Sl w a1 n1 c1 1 (ints .u8 (ls.getD k [])) := by
  obtain ⟨⟨vs, hv1, hv2⟩, _⟩ := hx
  obtain ⟨b, o, rfl, hbx, cx⟩ := hv1.at hk
  obtain ⟨a1, n1, c1, e1, s1⟩ := hv2 k hk
  exact ⟨b, o, a1, n1, c1, rfl, hbx, cx k _ e1, s1⟩
theorem row_mem {ls : List (List Int)} {k n : Nat} (hl : ls.length = n) (hk : k < n) : ls.getD k [] ∈ ls := by
  rw [List.getD_eq_getElem?_getD, List.getElem?_eq_getElem (by omega)]; exact List.getElem_mem _
theorem Rs.cap {w : World} {a : Option Addr} {n c : Nat} {ls : List (List Int)} (hx : Rs w a n c ls) : n ≤ 9223372036854775807 := by
  obtain ⟨⟨vs, hv1, hv2⟩, _⟩ := hx
  exact Nat.le_trans hv1.le hv1.max

set_option maxHeartbeats 2000000 in
theorem joins_any (a : Option Addr) (n c : Nat) (ls : List (List Int)) (w : World) (hx : Rs w a n c ls) (bl : ∀ l ∈ ls, Byt l) (ml : ∀ l ∈ ls, l.length ≤ 140737488355328) :
    Calls Tryd.prog 4 #[.slice a n c] w fun e w' => e = .returned (.bool true) ∧ Below w.heap.size w w' := by
  obtain ⟨j0, hj, hy0, hy1, hy2⟩ := info_parts info25
  have Hx := Lib.hid hx
  have Bl := Lib.hid bl
  have Ml := Lib.hid ml
  have hn := hx.cap
  have hxl := Lib.hid hx.len
  clear hx bl ml
  go_enter Tryd.func4, Tryd.ntmps4
  go_wp2
  go_loopw [3] (fun i wr => ∃ k : Nat, 4 ≤ k ∧ i = .int .i64 k ∧ Hid (wr = w)) (fun i _ => n + 4 - (intOf i).toNat)
  case atStart => exact ⟨4, by omega, rfl, Lib.hid rfl⟩
  case round =>
    obtain ⟨k, hk, rfl, hw⟩ := hrel
    obtain rfl := hw.out.symm
    clear hw
    by_cases hlt : k < n
    · obtain ⟨b, o, a1, n1, c1, rfl, hb1, f1, s1⟩ := rows_at Hx.out hlt
      clear s1
      by_cases hbig : 300 < n1
      · have hd : decide ((300 : Int) < n1) = true := by simp; omega
        go_wp2_with fail
        refine (awake_any w).mono ?_
        rintro e w9 ⟨rfl, hb9⟩
        go_wp2
        go_ret
        exact ⟨ret_bool rfl, hb9⟩
      · have hd : decide ((300 : Int) < n1) = false := by simp; omega
        go_wp2
        go_roundw
        case rel => exact ⟨k + 1, by omega, by go_num, Lib.hid trivial⟩
        case measure => simp [intOf]; omega
    · by_cases hmany : 260 < n
      · have hd : decide ((260 : Int) < n) = true := by simp; omega
        go_wp2_with fail
        refine (awake_any w).mono ?_
        rintro e w9 ⟨rfl, hb9⟩
        go_wp2
        go_ret
        exact ⟨ret_bool rfl, hb9⟩
      · have hd : decide ((260 : Int) < n) = false := by simp; omega
        have hk1 : ¬ k < n := hlt
        clear hk hk1
        go_wp2
        go_loopw [4, 5] (fun v i wr => ∃ (k c4 : Nat) (a4 : Option Addr), k ≤ n ∧ i = .int .i64 k ∧ v = .slice a4 k c4 ∧ Ro wr w.heap.size a4 k c4 (ls.take k) ∧ Below w.heap.size w wr) (fun _ i _ => n - (intOf i).toNat)
        case atStart => exact ⟨0, 0, none, Nat.zero_le _, rfl, rfl, Ro.nil _ _, Below.refl _ _⟩
        case round =>
          obtain ⟨k, c4, a4, hk, rfl, rfl, hr, hb⟩ := hrel
          have Hr := Lib.hid hr
          clear hr
          by_cases hlt : k < n
          · obtain ⟨b, o, a1, n1, c1, rfl, hb1, f1, s1⟩ := rows_at (Hx.out.mono hb) hlt
            have hl1 := s1.ilen
            have hm1 := Ml.out _ (row_mem hxl.out hlt)
            have Hts := Lib.hid (take_snoc (l := ls) (k := k) (by rw [hxl.out]; exact hlt))
            generalize ls.getD k [] = row at *
            rw [hl1] at hm1
            clear hl1
            obtain ⟨⟨vs, hv1, hv2⟩, hv3⟩ := Hr.out
            have V1 := Lib.hid hv1
            have V2 := Lib.hid hv2
            have V3 := Lib.hid hv3
            clear hv1 hv2 hv3 Hr
            go_wp2_with (first | (go_at_call 8; refine (own_any a1 n1 c1 row wr s1 hm1).mono ?_; rintro e w1 ⟨a2, c2, rfl, o2, hb2⟩; have O2 := Lib.hid o2; clear o2) | (at_builtin; refine wpList_app rfl _ _ 25 rfl w.heap.size 22 j0 _ 1 24 Tryd.underlying25 hj hy0 hy1 hy2 rfl (by decide) _ k _ rfl (World.ownsRow.alloc (own_later V1.out hb2) _) _ 1 1 _ rfl (Sl.new w1 22 1 1 _ (0, 0) (by omega) rfl) (by simp [Value.oneCell']) (by omega) (by decide) (by have := hb.size; have := hb2.size; simp at *; omega) ?_; intro a7 c7 w4 od hb4 hg4; have Od := Lib.hid od; have Hg4 := Lib.hid hg4; clear od hg4))
            have hpush := Ro.push (ls := ls.take k) (World.ownsRow.alloc (own_later V1.out hb2) _) (fun i hi => by obtain ⟨x1, x2, x3, x4, x5⟩ := V2.out i hi; exact ⟨x1, x2, x3, x4, World.ownsRow.alloc (own_later x5 hb2) _⟩) V3.out (World.ownsRow.alloc (own_mono O2.out hb.size) _) Od.out Hg4.out
            rw [← Hts.out] at hpush
            have Hpush := Lib.hid hpush
            clear hpush
            go_wp2
            go_roundw
            case rel => exact ⟨k + 1, c7, a7, by omega, by go_num, rfl, Hpush.out, ((hb.trans (hb2.mono hb.size)).alloc (by have := hb.size; have := hb2.size; omega) _).trans hb4⟩
            case measure => simp [intOf]; omega
          · obtain rfl : k = n := by omega
            have hr := Hr.out
            rw [List.take_of_length_le (by rw [hxl.out]; exact Nat.le_refl _)] at hr
            have hself : (ls == ls) = true := by simp
            have Hself := Lib.hid hself
            clear hself Hr
            go_wp2_with fail
            refine (join_any a4 k c4 ls wr hr.rs Bl.out).mono ?_
            rintro e w5 ⟨a5, n5, c5, rfl, ho5, hb5⟩
            have hr5 := hr.later hb5
            have HB5 := hb.trans (hb5.mono hb.size)
            go_wp2_with fail
            refine (rjoin_any a k c ls w5 (Hx.out.mono HB5) Bl.out).mono ?_
            rintro e w6 ⟨a6, n6, c6, rfl, ho6, hb6⟩
            have ho56 := own_later ho5 hb6
            have HB6 := HB5.trans (hb6.mono HB5.size)
            have hB56 : Below wr.heap.size wr w6 := hb5.trans (hb6.mono hb5.size)
            have hpp : ((joinS ls).1 == (joinS ls).1) = true := by simp
            have hsame : ((joinS ls).2 != (joinS ls).2) = false := by simp
            have hs1 := same_any a5 a6 n5 n6 c5 c6 _ _ w6 (Sl.of_own ho56).1 (Sl.of_own ho6).1
            rw [hpp] at hs1
            have Ho56 := Lib.hid ho56
            clear hpp ho5 ho6 ho56 hr5 hb5 hb6 HB5
            generalize (joinS ls).2 = ev at *
            generalize (joinS ls).1 = ys at *
            go_wp2_with (first | (go_at_call 12; refine hs1.mono ?_; rintro e w7 ⟨rfl, hq7⟩; have Ho7 := Lib.hid (own_later Ho56.out (hq7.below _)); have hB7 : Below wr.heap.size wr w7 := hB56.trans (hq7.below _); clear hq7 Ho56) | (refine wpList_clear rfl (.tmp 60) 22 rfl rfl 5 (.int .u8 0) Tryd.underlying22 zero5 rfl rfl a5 n5 c5 wr.heap.size _ rfl Ho7.out ?_; intro w8 hw8))
            have hB8 : Below wr.heap.size wr w8 := below_cleared hB7 hw8
            have hrows := rows_any a4 a k k c4 c _ _ w8 (hr.later hB8).rs (Hx.out.mono (hb.trans (hB8.mono hb.size)))
            rw [Hself.out] at hrows
            clear hs1 hw8 Ho7 hB7 hB56 HB6
            refine hrows.mono ?_
            rintro e w9 ⟨rfl, hq9⟩
            have hB9 : Below w.heap.size w w9 := hb.trans ((hB8.trans (hq9.below _)).mono hb.size)
            clear hrows hq9 hB8
            go_wp2_with fail
            refine (awake_any w9).mono ?_
            rintro e w10 ⟨rfl, hb10⟩
            go_wp2
            go_ret
            exact ⟨ret_bool rfl, hB9.trans (hb10.mono hB9.size)⟩
end Go.Proofs.YtgmcnjnkiblbjaaDoor
