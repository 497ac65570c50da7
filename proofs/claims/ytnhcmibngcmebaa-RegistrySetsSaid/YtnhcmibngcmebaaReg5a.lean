import Derived.Test.YtnhcmibngcmebaaReg4image
import Derived.Test.YtnhcmibngcmebaaReg4photo
import Derived.Test.YtnhcmibngcmebaaReg4others
import Derived.Deep.QuietTactic
import Derived.BigQuiet
namespace Go.Proofs.Ytnhcmibngcmebaa
open Go.RowKit Tt
set_option linter.unusedVariables false

set_option maxHeartbeats 1000000 in
theorem rknown_any (dir tag : Int) (w : World) :
    Calls Try.prog 10 #[.int .i64 dir, .int .i64 tag] w fun e w' => ∃ a n c, e = .returned (.tuple #[.slice a n c, .int .i64 (knownS dir tag).2]) ∧ Sl w' a n c 1 (ints .i64 (knownS dir tag).1) ∧ Below w.heap.size w w' := by
  by_cases h0 : dir = 0
  · subst h0
    have e : knownS 0 tag = look imageT tag := rfl
    rw [e]
    go_enter Try.func10, Try.ntmps10
    go_wp2_with fail
    refine (rimage_any tag w).mono ?_
    rintro e w1 ⟨a, n, c, rfl, hs, hb⟩
    go_wp2
    go_ret2
    exact ⟨a, n, c, rfl, hs, hb⟩
  by_cases h1 : dir = 1
  · subst h1
    have e : knownS 1 tag = look imageT tag := rfl
    rw [e]
    go_enter Try.func10, Try.ntmps10
    go_wp2_with fail
    refine (rimage_any tag w).mono ?_
    rintro e w1 ⟨a, n, c, rfl, hs, hb⟩
    go_wp2
    go_ret2
    exact ⟨a, n, c, rfl, hs, hb⟩
  by_cases h2 : dir = 2
  · subst h2
    have e : knownS 2 tag = look photoT tag := rfl
    rw [e]
    go_enter Try.func10, Try.ntmps10
    go_wp2_with fail
    refine (rphoto_any tag w).mono ?_
    rintro e w1 ⟨a, n, c, rfl, hs, hb⟩
    go_wp2
    go_ret2
    exact ⟨a, n, c, rfl, hs, hb⟩
  have f0 : (dir == 0) = false := by simp [h0]
  have f1 : (dir == 1) = false := by simp [h1]
  have f2 : (dir == 2) = false := by simp [h2]
  by_cases h3 : dir = 3
  · subst h3
    have e : knownS 3 tag = look gpsT tag := rfl
    rw [e]
    go_enter Try.func10, Try.ntmps10
    go_wp2_with fail
    refine (roth3_any tag w).mono ?_
    rintro e w1 ⟨a, n, c, rfl, hs, hb⟩
    go_wp2
    go_ret2
    exact ⟨a, n, c, rfl, hs, hb⟩
  by_cases h4 : dir = 4
  · subst h4
    have e : knownS 4 tag = look interT tag := rfl
    rw [e]
    go_enter Try.func10, Try.ntmps10
    go_wp2_with fail
    refine (roth4_any tag w).mono ?_
    rintro e w1 ⟨a, n, c, rfl, hs, hb⟩
    go_wp2
    go_ret2
    exact ⟨a, n, c, rfl, hs, hb⟩
  by_cases h5 : dir = 5
  · subst h5
    have e : knownS 5 tag = look viewT tag := rfl
    rw [e]
    go_enter Try.func10, Try.ntmps10
    go_wp2_with fail
    refine (roth5_any tag w).mono ?_
    rintro e w1 ⟨a, n, c, rfl, hs, hb⟩
    go_wp2
    go_ret2
    exact ⟨a, n, c, rfl, hs, hb⟩
  have e : knownS dir tag = ([], -1) := by unfold knownS tab; rw [if_neg h0, if_neg h1, if_neg h2, if_neg h3, if_neg h4, if_neg h5]; rfl
  rw [e]
  go_enter Try.func10, Try.ntmps10
  go_wp2_with fail
  refine (roth_any dir tag w h3 h4 h5).mono ?_
  rintro e w1 ⟨rfl, rfl⟩
  go_wp2
  go_ret2
  exact ⟨none, 0, 0, rfl, Sl.nil _ _, Below.refl _ _⟩

theorem known_nonneg : ∀ x ∈ allE, 0 ≤ x.2.2 ∧ x.2.2 ≤ 100 := by decide +kernel

theorem ret3 {a b c : Value} {a' b' c' : Value} (h1 : a = a') (h2 : b = b') (h3 : c = c') : Ending.returned (.tuple #[a, b, c]) = .returned (.tuple #[a', b', c']) := by rw [h1, h2, h3]

set_option maxHeartbeats 2000000 in
theorem known_any (dir tag : Int) (w : World) (hd : (Lit.int .i64 dir).wf = true) (ht : (Lit.int .i64 tag).wf = true) :
    Calls Try.prog 9 #[.int .i64 dir, .int .i64 tag] w fun e w' => ∃ a n c, e = .returned (.tuple #[.slice a n c, .int .i64 (max (knownS dir tag).2 0), .bool (decide (0 ≤ (knownS dir tag).2))]) ∧ Sl w' a n c 1 (ints .i64 (knownS dir tag).1) ∧ Below w.heap.size w w' := by
  have Hd := Lib.hid hd
  have Ht := Lib.hid ht
  clear hd ht
  by_cases hex : ∃ x ∈ allE, x.1 = (dir, tag)
  · go_enter Try.func9, Try.ntmps9
    go_wp2_with fail
    refine (rules_any w).mono ?_
    rintro e w1 ⟨b, rfl, hb, hr, hbl⟩
    go_wp2_with (at_lookup; refine wpList_look_yes rfl (.tmp 9) (.tmp 12) rfl b allE dir tag rfl rfl hr Hd.out Ht.out hex ?_; intro x hx he a1 n1 c1 hs)
    have hk := allE_known x hx
    have hnn := (known_nonneg x hx).1
    rw [he] at hk
    simp only at hk
    have Hk := Lib.hid hk
    have Hx := Lib.hid hx
    have Hex := Lib.hid hex
    have He := Lib.hid he
    clear hk hx hex he
    obtain ⟨⟨xd, xt⟩, xl, xc⟩ := x
    simp only at hs hnn
    have Hs := Lib.hid hs
    clear hs
    go_wp2_with fail
    go_quiet (fail)
    have hk2 : knownS dir tag = (xl, xc) := Hk.out
    go_wp2
    go_ret3
    rw [hk2]
    exact ⟨a1, n1, c1, ret3 rfl (by show Value.int .i64 xc = .int .i64 (max xc 0); rw [show max xc 0 = xc by omega]) (by show Value.bool true = .bool (decide (0 ≤ xc)); rw [decide_eq_true hnn]), (sl_alloc Hs.out _).drewN, (hbl.alloc hbl.size _).trans (Qt.below ⟨_, rfl⟩ _)⟩
  · have hno : ∀ x ∈ allE, x.1 ≠ (dir, tag) := fun x hx he => hex ⟨x, hx, he⟩
    have hk := allE_none hno
    rw [hk]
    go_enter Try.func9, Try.ntmps9
    go_wp2_with fail
    refine (rules_any w).mono ?_
    rintro e w1 ⟨b, rfl, hb, hr, hbl⟩
    have Hno := Lib.hid hno
    clear hno hex hk
    go_wp2_with (at_lookup; refine wpList_look_no rfl (.tmp 9) (.tmp 12) rfl b allE dir tag rfl rfl hr Hd.out Ht.out Hno.out ?_)
    go_quiet (fail)
    go_wp2
    go_ret3
    exact ⟨none, 0, 0, ret3 rfl rfl rfl, Sl.nil _ _, (hbl.alloc hbl.size _).trans (Qt.below ⟨_, rfl⟩ _)⟩
end Go.Proofs.Ytnhcmibngcmebaa
