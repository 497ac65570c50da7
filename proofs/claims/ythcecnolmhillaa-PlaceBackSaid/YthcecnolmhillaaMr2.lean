/- Chapter 13: the next marker, where it may be. -/
import Derived.Test.YthcecnolmhillaaMr1
namespace Go.Proofs.Ythcecnolmhillaa
open Go.RowKit Tt
set_option linter.unusedVariables false

set_option maxRecDepth 20000 in
set_option maxHeartbeats 2000000 in
theorem marker_ok (g n c : Nat) (a : Option Addr) (z : List Int) (at_ : Nat) (m : Int) (w : World) (hs : Sl w a n c 1 (ints .u8 z)) (hz : Byt z) (h0 : w.cell? ⟨g, 0, none⟩ = some (.slice a n c)) (h1 : w.cell? ⟨g, 1, none⟩ = some (.int .i64 at_)) (hf : w.frozen? ⟨g, 1, none⟩ = false)
    (hn : at_ + 2 ≤ n) (hff : z.getD at_ 0 = 255) (hm : z.getD (at_ + 1) 0 = m) (hfirst : at_ = 0 ↔ m = 216) (hmay : m = 217 ∨ at_ = 0 ∨ headB m = true) :
    Calls Try.prog 28 #[.pointer (some ⟨g, 0, none⟩)] w fun e w' => e = .returned (.int .i64 m) ∧ ∃ j, w' = (w.drewN j).setCell ⟨g, 1, none⟩ (.int .i64 (at_ + 2 : Nat)) := by
  have hzl := hs.ilen
  have hle := hs.le
  have hmx := hs.max
  obtain ⟨b, o, rfl, hbb, hc⟩ := hs.at (i := at_) (by omega)
  have f1 := hc at_ _ (ints_get (by omega))
  have f2 := hc (at_ + 1) _ (ints_get (by omega))
  have hmb := hz.get (at_ + 1)
  rw [hff] at f1
  rw [hm] at f2 hmb
  obtain ⟨hm0, hm255⟩ := hmb
  have hw1 : IntKind.i64.wrap ((at_ : Int) + 1) = at_ + 1 := by rw [IntKind.wrap_i64]; omega
  have hw2 : IntKind.i64.wrap ((at_ : Int) + 2) = at_ + 2 := by rw [IntKind.wrap_i64]; omega
  have hlt1 : (at_ : Int) < n := by omega
  have hlt2 : (at_ : Int) + 1 < n := by omega
  have N1 := Lib.hid (fun (w : World) k h0 h1 hk => need_ok g n c (some ⟨b, o, none⟩) at_ k w h0 h1 (by omega) (by omega) hk)
  have hh := fun W => head_any m W
  have hpush : ((at_ + 2 : Nat) : Int) = (at_ : Int) + 2 := by omega
  rw [hpush]
  clear hff hm hc hs hz hpush
  have hcase : (at_ = 0 ∧ m = 216) ∨ (at_ ≠ 0 ∧ m = 217) ∨ (at_ ≠ 0 ∧ m ≠ 216 ∧ m ≠ 217 ∧ headB m = true) := by
    by_cases h : at_ = 0
    · exact .inl ⟨h, hfirst.1 h⟩
    · have hne : m ≠ 216 := fun hh => h (hfirst.2 hh)
      by_cases h2 : m = 217
      · exact .inr (.inl ⟨h, h2⟩)
      · exact .inr (.inr ⟨h, hne, h2, by rcases hmay with h3 | h3 | h3 <;> first | exact h3 | omega⟩)
  clear hfirst hmay
  obtain ⟨b1, hb1⟩ : ∃ r, ((at_ : Int) == 0) = r := ⟨_, rfl⟩
  obtain ⟨b1', hb1'⟩ : ∃ r, (at_ == 0) = r := ⟨_, rfl⟩
  obtain ⟨b2, hb2⟩ : ∃ r, (m == 216) = r := ⟨_, rfl⟩
  obtain ⟨b3, hb3⟩ : ∃ r, (m != 217) = r := ⟨_, rfl⟩
  obtain ⟨b4, hb4⟩ : ∃ r, headB m = r := ⟨_, rfl⟩
  rw [hb4] at hh
  have hbs : (b1 = true ∧ b1' = true ∧ b2 = true ∧ b3 = true) ∨ (b1 = false ∧ b1' = false ∧ b2 = false ∧ b3 = false) ∨ (b1 = false ∧ b1' = false ∧ b2 = false ∧ b3 = true ∧ b4 = true) := by
    rcases hcase with ⟨h, h2⟩ | ⟨h, h2⟩ | ⟨h, h2, h3, h4⟩
    · left; subst h h2; simp at hb1 hb1' hb2 hb3; exact ⟨hb1, hb1', hb2, hb3⟩
    · right; left; subst h2; simp at hb2 hb3
      exact ⟨by rw [← hb1]; simp; omega, by rw [← hb1']; simp; omega, hb2, hb3⟩
    · right; right
      exact ⟨by rw [← hb1]; simp; omega, by rw [← hb1']; simp; omega, by rw [← hb2]; simp; omega, by rw [← hb3]; simp; omega, by rw [← hb4]; exact h4⟩
  clear hcase hb4
  have hh' := Lib.hid hh
  clear hh
  rcases hbs with ⟨rfl, rfl, rfl, rfl⟩ | ⟨rfl, rfl, rfl, rfl⟩ | ⟨rfl, rfl, rfl, rfl, rfl⟩
  all_goals
    go_enter Try.func28, Try.ntmps28
    go_wp2_with fail
    refine (N1.out _ _ (by go_simp) (by go_simp) (by omega)).mono ?_
    rintro e w1 ⟨rfl, j1, rfl⟩
    go_wp2_with fail
    go_quiet (fail)
    go_wp2_with fail
    refine (N1.out _ _ (by go_simp) (by go_simp) (by omega)).mono ?_
    rintro e w1 ⟨rfl, j2, rfl⟩
    go_wp2_with fail
    go_quiet (fail)
    go_wp2_with (go_at_call 34; refine (hh'.out _).mono ?_; rintro e w' ⟨rfl, rfl⟩)
    go_ret
    exact ⟨rfl, _, rfl⟩
end Go.Proofs.Ythcecnolmhillaa
