import Derived.Test.YtnhcmibngcmebaaReg5a
import Derived.Test.YtnhcmibngcmebaaReg5b
import Derived.Test.YtnhcmibngcmebaaReg8
/- Chapter 23: which tags may be in a directory. -/
namespace Go.Proofs.Ytnhcmibngcmebaa
open Go.RowKit Tt
set_option linter.unusedVariables false

/-- whether a tag may be -/
def tmayS (dir tag ty cnt : Int) (d : List Int) : Bool :=
  decide (0 ≤ dir) && decide (dir ≤ 5) && decide (0 ≤ tag) && decide (tag ≤ 65535) && !resS dir tag && mayS ty cnt d &&
    (decide ((knownS dir tag).2 < 0) || ((knownS dir tag).1.contains ty && ((knownS dir tag).2 == 0 || (knownS dir tag).2 == cnt)))
theorem tmay_no {dir tag ty cnt : Int} {d : List Int} (h : dir < 0 ∨ 5 < dir ∨ tag < 0 ∨ 65535 < tag ∨ resS dir tag = true ∨ mayS ty cnt d = false) : tmayS dir tag ty cnt d = false := by
  unfold tmayS
  rcases h with h | h | h | h | h | h
  · rw [decide_eq_false (show ¬ 0 ≤ dir by omega)]; simp
  · rw [decide_eq_false (show ¬ dir ≤ 5 by omega)]; simp
  · rw [decide_eq_false (show ¬ 0 ≤ tag by omega)]; simp
  · rw [decide_eq_false (show ¬ tag ≤ 65535 by omega)]; simp
  · rw [h]; simp
  · rw [h]; simp
theorem tmay_else {dir tag ty cnt : Int} {d : List Int} (h1 : ¬ dir < 0) (h2 : ¬ 5 < dir) (h3 : ¬ tag < 0) (h4 : ¬ 65535 < tag) (h5 : resS dir tag = false) (h6 : mayS ty cnt d = true) :
    tmayS dir tag ty cnt d = (decide ((knownS dir tag).2 < 0) || ((knownS dir tag).1.contains ty && ((knownS dir tag).2 == 0 || (knownS dir tag).2 == cnt))) := by
  unfold tmayS
  rw [decide_eq_true (show 0 ≤ dir by omega), decide_eq_true (show dir ≤ 5 by omega), decide_eq_true (show 0 ≤ tag by omega), decide_eq_true (show tag ≤ 65535 by omega), h5, h6]
  simp

/-- the four cells of a tag, in block g -/
structure TagAt (w : World) (g : Nat) (tag ty cnt : Int) (a : Option Addr) (n c : Nat) : Prop where
  c0 : w.cell? ⟨g, 0, none⟩ = some (.int .i64 tag)
  c1 : w.cell? ⟨g, 1, none⟩ = some (.int .i64 ty)
  c2 : w.cell? ⟨g, 2, none⟩ = some (.int .i64 cnt)
  c3 : w.cell? ⟨g, 3, none⟩ = some (.slice a n c)
  lt : g < w.heap.size
theorem TagAt.new (w : World) (tag ty cnt : Int) (a : Option Addr) (n c : Nat) (E : TypeId) : TagAt (w.alloc (.cells #[.int .i64 tag, .int .i64 ty, .int .i64 cnt, .slice a n c] E)) w.heap.size tag ty cnt a n c := by
  have h := heap_new w (.cells #[.int .i64 tag, .int .i64 ty, .int .i64 cnt, .slice a n c] E)
  refine ⟨?_, ?_, ?_, ?_, by simp⟩ <;> (unfold World.cell?; rw [h]; rfl)
theorem TagAt.mono {w w' : World} {g : Nat} {tag ty cnt : Int} {a : Option Addr} {n c : Nat} (h : TagAt w g tag ty cnt a n c) (hb : Below w.heap.size w w') : TagAt w' g tag ty cnt a n c :=
  ⟨(hb.cell (p := ⟨g, 0, none⟩) h.lt).trans h.c0, (hb.cell (p := ⟨g, 1, none⟩) h.lt).trans h.c1, (hb.cell (p := ⟨g, 2, none⟩) h.lt).trans h.c2, (hb.cell (p := ⟨g, 3, none⟩) h.lt).trans h.c3, Nat.lt_of_lt_of_le h.lt hb.size⟩

set_option maxHeartbeats 4000000 in
theorem may2_any (b : Nat) (dir tag ty cnt : Int) (a : Option Addr) (n c : Nat) (d : List Int) (w : World) (hr : Rules w b allE) (hs : Sl w a n c 1 (ints .u8 d)) (bd : Byt d)
    (hd : (Lit.int .i64 dir).wf = true) (ht : (Lit.int .i64 tag).wf = true) :
    Calls Try.prog 39 #[.map (some b), .int .i64 dir, .agg #[.int .i64 tag, .int .i64 ty, .int .i64 cnt, .slice a n c]] w fun e w' => e = .returned (.bool (tmayS dir tag ty cnt d)) ∧ Below w.heap.size w w' := by
  obtain ⟨m, hm⟩ : ∃ m, tmayS dir tag ty cnt d = m := ⟨_, rfl⟩
  rw [hm]
  have Hm := Lib.hid hm
  have Hd := Lib.hid hd
  have Ht := Lib.hid ht
  have Bd := Lib.hid bd
  obtain ⟨w1, hw1⟩ : ∃ w1, w1 = w.alloc (.cells #[.int .i64 tag, .int .i64 ty, .int .i64 cnt, .slice a n c] 26) := ⟨_, rfl⟩
  have hb1 : Below w.heap.size w w1 := by rw [hw1]; exact (Below.refl _ _).alloc (Nat.le_refl _) _
  have Hs1 := Lib.hid (hs.mono hb1)
  have Hr1 := Lib.hid (hr.mono hb1)
  obtain ⟨g, hg⟩ : ∃ g, g = w.heap.size := ⟨_, rfl⟩
  have ht1 : TagAt w1 g tag ty cnt a n c := by rw [hg, hw1]; exact TagAt.new ..
  obtain ⟨c0, c1, c2, c3, hlt⟩ := ht1
  have HT1 : Hid (TagAt w1 g tag ty cnt a n c) := Lib.hid ⟨c0, c1, c2, c3, hlt⟩
  have HB := Lib.hid hb1
  clear hm hd ht bd hr hs hb1
  go_enter Try.func39, Try.ntmps39
  by_cases t1 : dir < 0
  · obtain rfl : m = false := by rw [← Hm.out]; exact tmay_no (.inl t1)
    go_wp2
    go_ret
    exact ⟨rfl, (Below.refl _ _).alloc (Nat.le_refl _) _⟩
  have f1 : decide (dir < 0) = false := by simp; omega
  by_cases t2 : 5 < dir
  · obtain rfl : m = false := by rw [← Hm.out]; exact tmay_no (.inr (.inl t2))
    go_wp2
    go_ret
    exact ⟨rfl, (Below.refl _ _).alloc (Nat.le_refl _) _⟩
  have f2 : decide (6 ≤ dir) = false := by simp; omega
  by_cases t3 : tag < 0
  · obtain rfl : m = false := by rw [← Hm.out]; exact tmay_no (.inr (.inr (.inl t3)))
    go_wp2
    go_ret
    exact ⟨rfl, (Below.refl _ _).alloc (Nat.le_refl _) _⟩
  have f3 : decide (tag < 0) = false := by simp; omega
  by_cases t4 : 65535 < tag
  · obtain rfl : m = false := by rw [← Hm.out]; exact tmay_no (.inr (.inr (.inr (.inl t4))))
    go_wp2
    go_ret
    exact ⟨rfl, (Below.refl _ _).alloc (Nat.le_refl _) _⟩
  have f4 : decide (65535 < tag) = false := by simp; omega
  go_wp2_with fail
  rw [← hw1, ← hg]
  have HG := Lib.hid hg
  clear hw1 hg
  refine (reserved_any dir tag w1).mono ?_
  rintro e w2 ⟨rfl, hb2⟩
  have HB2 := Lib.hid (HB.out.trans (hb2.mono HB.out.size))
  obtain ⟨c0, c1, c2, c3, hlt⟩ := HT1.out.mono hb2
  have HT2 : Hid (TagAt w2 g tag ty cnt a n c) := Lib.hid ⟨c0, c1, c2, c3, hlt⟩
  have Hs2 := Lib.hid (Hs1.out.mono hb2)
  have Hr2 := Lib.hid (Hr1.out.mono hb2)
  clear hb2 HT1 Hs1 Hr1
  cases hres : resS dir tag
  case true =>
    obtain rfl : m = false := by rw [← Hm.out]; exact tmay_no (.inr (.inr (.inr (.inr (.inl hres)))))
    clear hres
    go_wp2
    go_ret
    exact ⟨rfl, HB2.out⟩
  have Hres := Lib.hid hres
  clear hres
  go_wp2_with fail
  refine (may_any ty cnt a n c d w2 Hs2.out Bd.out).mono ?_
  rintro e w3 ⟨rfl, hb3⟩
  have HB3 := Lib.hid (HB2.out.trans (hb3.mono HB2.out.size))
  obtain ⟨c0, c1, c2, c3, hlt⟩ := HT2.out.mono hb3
  have Hr3 := Lib.hid (Hr2.out.mono hb3)
  clear hb3 HT2 Hs2 Hr2 HB2 HB
  cases hmay : mayS ty cnt d
  case false =>
    obtain rfl : m = false := by rw [← Hm.out]; exact tmay_no (.inr (.inr (.inr (.inr (.inr hmay)))))
    clear hmay
    go_wp2
    go_ret
    exact ⟨rfl, HB3.out⟩
  have hme := tmay_else (d := d) (by omega) (by omega) (by omega) (by omega) Hres.out hmay
  rw [Hm.out] at hme
  clear hmay t1 t2 t3 t4
  by_cases hex : ∃ x ∈ allE, x.1 = (dir, tag)
  · have Hex := Lib.hid hex
    clear hex
    have Hme := Lib.hid hme
    clear hme
    go_wp2_with (at_lookup; refine wpList_look_yes rfl (.tmp 38) (.tmp 42) rfl b allE dir tag rfl rfl Hr3.out Hd.out Ht.out Hex.out ?_; intro x hx he a1 n1 c1' hs1)
    have hk := allE_known x hx
    have hnn := (known_nonneg x hx).1
    rw [he] at hk
    simp only at hk
    clear hx he Hex
    obtain ⟨⟨xd, xt⟩, xl, xc⟩ := x
    simp only at hs1 hnn hk
    have hme2 := Hme.out
    rw [hk, decide_eq_false (show ¬ xc < 0 by omega), Bool.false_or] at hme2
    have hs1' := sl_alloc hs1 (.cells #[.slice a1 n1 c1', .int .i64 xc] 56)
    clear hs1 hk Hme
    have hcc := cint_any a1 n1 c1' xl ty _ hs1'
    obtain ⟨r, hrr⟩ : ∃ r, xl.contains ty = r := ⟨_, rfl⟩
    rw [hrr] at hme2 hcc
    have Hme2 := Lib.hid hme2
    clear hme2 hrr hs1'
    go_wp2_with fail
    refine hcc.mono ?_
    rintro e w4 ⟨rfl, rfl⟩
    have hE := HB3.out.alloc HB3.out.size (.cells #[.slice a1 n1 c1', .int .i64 xc] 56)
    cases r
    · obtain rfl : m = false := by rw [Hme2.out]; rfl
      go_wp2
      go_ret
      exact ⟨rfl, hE⟩
    · by_cases t5 : xc = 0
      · have g1 : (xc == 0) = true := by simp [t5]
        obtain rfl : m = true := by rw [Hme2.out, g1]; rfl
        go_wp2
        go_ret
        exact ⟨rfl, HB3.out.alloc HB3.out.size _⟩
      · have g1 : (xc == 0) = false := by simp [t5]
        obtain rfl : m = (xc == cnt) := by rw [Hme2.out, g1]; simp
        go_wp2
        go_ret
        exact ⟨rfl, hE⟩
  · have hno : ∀ x ∈ allE, x.1 ≠ (dir, tag) := fun x hx he => hex ⟨x, hx, he⟩
    have hkn := allE_none hno
    rw [hkn] at hme
    obtain rfl : m = true := by rw [hme]; rfl
    have Hno := Lib.hid hno
    clear hno hex hkn hme
    go_wp2_with (at_lookup; refine wpList_look_no rfl (.tmp 38) (.tmp 42) rfl b allE dir tag rfl rfl Hr3.out Hd.out Ht.out Hno.out ?_)
    go_ret
    exact ⟨rfl, HB3.out.alloc HB3.out.size _⟩
end Go.Proofs.Ytnhcmibngcmebaa
