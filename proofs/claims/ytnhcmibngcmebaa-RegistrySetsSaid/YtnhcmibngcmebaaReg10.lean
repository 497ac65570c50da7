import Derived.Test.YtnhcmibngcmebaaReg9b
import Derived.Deep.RegionWith
/- Chapter 23: rows of tags. -/
namespace Go.Proofs.Ytnhcmibngcmebaa
open Go.RowKit Tt
set_option linter.unusedVariables false

abbrev Tg := Int × Int × Int × List Int
/-- a row of tags that is read -/
structure Ts (w : World) (a : Option Addr) (n cap : Nat) (ts : List Tg) : Prop where
  vs : ∃ vs : List Value, Sl w a n cap 4 vs ∧ ∀ i, i < n → ∃ a' n' c', vs[i * 4]? = some (.int .i64 (ts.getD i (0, 0, 0, [])).1) ∧ vs[i * 4 + 1]? = some (.int .i64 (ts.getD i (0, 0, 0, [])).2.1) ∧ vs[i * 4 + 2]? = some (.int .i64 (ts.getD i (0, 0, 0, [])).2.2.1) ∧
    vs[i * 4 + 3]? = some (.slice a' n' c') ∧ Sl w a' n' c' 1 (ints .u8 (ts.getD i (0, 0, 0, [])).2.2.2)
  len : ts.length = n
theorem Ts.mono {w w' : World} {a : Option Addr} {n cap : Nat} {ts : List Tg} (h : Ts w a n cap ts) (hb : Below w.heap.size w w') : Ts w' a n cap ts := by
  obtain ⟨⟨vs, h1, h2⟩, h3⟩ := h
  exact ⟨⟨vs, h1.mono hb, fun i hi => by obtain ⟨a', n', c', e0, e1, e2, e3, hs⟩ := h2 i hi; exact ⟨a', n', c', e0, e1, e2, e3, hs.mono hb⟩⟩, h3⟩
theorem Ts.max {w : World} {a : Option Addr} {n cap : Nat} {ts : List Tg} (h : Ts w a n cap ts) : n ≤ 9223372036854775807 := by
  obtain ⟨⟨vs, h1, h2⟩, h3⟩ := h
  exact Nat.le_trans h1.le h1.max
theorem Ts.at {w : World} {a : Option Addr} {n cap : Nat} {ts : List Tg} (h : Ts w a n cap ts) {k : Nat} (hk : k < n) :
    ∃ b o a' n' c', a = some ⟨b, o, none⟩ ∧ b < w.heap.size ∧ w.cell? ⟨b, o + k * 4, none⟩ = some (.int .i64 (ts.getD k (0, 0, 0, [])).1) ∧ w.cell? ⟨b, o + k * 4 + 1, none⟩ = some (.int .i64 (ts.getD k (0, 0, 0, [])).2.1) ∧
      w.cell? ⟨b, o + k * 4 + 2, none⟩ = some (.int .i64 (ts.getD k (0, 0, 0, [])).2.2.1) ∧ w.cell? ⟨b, o + k * 4 + 3, none⟩ = some (.slice a' n' c') ∧ Sl w a' n' c' 1 (ints .u8 (ts.getD k (0, 0, 0, [])).2.2.2) := by
  obtain ⟨⟨vs, h1, h2⟩, h3⟩ := h
  obtain ⟨b, o, rfl, hb, hc⟩ := h1.at hk
  obtain ⟨a', n', c', e0, e1, e2, e3, hs⟩ := h2 k hk
  exact ⟨b, o, a', n', c', rfl, hb, hc _ _ e0, hc _ _ e1, hc _ _ e2, hc _ _ e3, hs⟩

/-- the numbers and bytes of a tag are of their kinds -/
def TgOk (x : Tg) : Prop := (Lit.int .i64 x.1).wf = true ∧ Byt x.2.2.2
def tmayT (dir : Int) (x : Tg) : Bool := tmayS dir x.1 x.2.1 x.2.2.1 x.2.2.2

set_option maxHeartbeats 4000000 in
theorem rmay1_any (dir tag ty cnt : Int) (a : Option Addr) (n c : Nat) (d : List Int) (w : World) (hs : Sl w a n c 1 (ints .u8 d)) (bd : Byt d)
    (hd : (Lit.int .i64 dir).wf = true) (ht : (Lit.int .i64 tag).wf = true) :
    Calls Try.prog 14 #[.int .i64 dir, .agg #[.int .i64 tag, .int .i64 ty, .int .i64 cnt, .slice a n c]] w fun e w' => e = .returned (.bool (tmayS dir tag ty cnt d)) ∧ Below w.heap.size w w' := by
  obtain ⟨m, hm⟩ : ∃ m, tmayS dir tag ty cnt d = m := ⟨_, rfl⟩
  rw [hm]
  have Hm := Lib.hid hm
  have Hd := Lib.hid hd
  have Ht := Lib.hid ht
  have Bd := Lib.hid bd
  obtain ⟨w1, hw1⟩ : ∃ w1, w1 = w.alloc (.cells #[.int .i64 tag, .int .i64 ty, .int .i64 cnt, .slice a n c] 26) := ⟨_, rfl⟩
  have hb1 : Below w.heap.size w w1 := by rw [hw1]; exact (Below.refl _ _).alloc (Nat.le_refl _) _
  have Hs1 := Lib.hid (hs.mono hb1)
  obtain ⟨g, hg⟩ : ∃ g, g = w.heap.size := ⟨_, rfl⟩
  have ht1 : TagAt w1 g tag ty cnt a n c := by rw [hg, hw1]; exact TagAt.new ..
  have HT1 := Lib.hid ht1
  obtain ⟨c0, c1, c2, c3, hlt⟩ := ht1
  have HB := Lib.hid hb1
  clear hm hd ht bd hs hb1
  go_enter Try.func14, Try.ntmps14
  go_wp2_with fail
  rw [← hw1, ← hg]
  have HG := Lib.hid hg
  clear hw1 hg
  have hq1 : Below w1.heap.size w1 w1.drew := (Below.refl _ _).drew
  have Hq1 := Lib.hid hq1
  clear hq1
  go_region_with (first
    | (go_at_call 34; refine (rules_any _).mono ?_; rintro e w2 ⟨b, rfl, hbb, hr2, hb2⟩; have Hr2 := Lib.hid hr2; have HB2 := Lib.hid (Hq1.out.trans (hb2.mono Hq1.out.size)); obtain ⟨c0, c1, c2, c3, hlt⟩ := HT1.out.mono HB2.out; clear hr2 hb2 hbb)
    | (go_at_call 39; refine (may2_any b dir tag ty cnt a n c d _ Hr2.out (Hs1.out.mono HB2.out) Bd.out Hd.out Ht.out).mono ?_; rw [Hm.out]; rintro e w3 ⟨rfl, hb3⟩; have HB3 := Lib.hid (HB2.out.trans (hb3.mono HB2.out.size)); clear hb3))
  all_goals go_wp2
  all_goals go_ret
  all_goals exact ⟨rfl, HB.out.trans (HB3.out.mono HB.out.size)⟩
end Go.Proofs.Ytnhcmibngcmebaa
