/- A drawn region with calls that write: what only reads is taken first, as long as one later operation waits for it. | slices.IndexFunc, ContainsFunc over ints, with a function that only reads. | Words on bits: or, and, xor of two numbers from 0 on; numbers out of bytes. | Chapter 1 of the document's answer: Own, Same, Top, Put: what each computes. | A range over a function, walked with its iterator in one: of whatever program. | append onto what the call owns: the row lies where it lay, or in a new block. | slices.Sort, Values, AppendSeq, Collect, Sorted over ints. -/
import Derived.Test.YtpjopeojeglogaaCw01
import Derived.Test.YtpjopeojeglogaaCw00
import Derived.Laws.Bits64
import Derived.StillTail
import Derived.StillTailTactics
import Derived.BigQuiet
import Derived.Deep.RegionLaw
import Derived.Deep.CutRange
import Derived.Deep.Cut
import Derived.BigRegion
import Derived.Lib.SliceRun
import Derived.RangeFuncNested
import Derived.RangeFuncBound
import Derived.RangeFuncCalls
import Derived.RangeFuncLeaves
import Derived.RangeFuncBox
import Derived.Shelf.Abstract
import Derived.Shelf.RegionOpen
import Derived.OwnWalkIn
import Derived.TacticsInMore
import Derived.LoopNIn
import Derived.LoopIn
import Derived.ArgAppend
import Derived.Sort.OwnSortedInts
import Derived.Test.YtpjopeojeglogaaShelf
namespace Tt
open Go Go.RowKit
set_option linter.unusedVariables false

section
variable {P : Program} {ops : Array Oper} {Q : Exit → Act → World → Prop} {t : Nat} {C : World → Prop}
/-- Whatever order is picked from here on; C holds behind every operation, till number t has come up. -/
def wpAnyT (P : Program) (ops : Array Oper) (Q : Exit → Act → World → Prop) (t : Nat) (C : World → Prop) : Nat → Array Bool → Act → World → Prop
  | 0, listed, a, w => Region.ready .any ops listed = [] ∧ Q .normal a w
  | fuel + 1, listed, a, w =>
    (Region.ready .any ops listed = [] → Q .normal a w) ∧
    ∀ i ∈ Region.ready .any ops listed, wpOp P ops Q i (fun a' w' => ((listed.setIfInBounds i true).getD t true = false → C w') ∧ wpAnyT P ops Q t C fuel (listed.setIfInBounds i true) a' w') a w
theorem wpAny_of_t : ∀ (fuel : Nat) (listed : Array Bool) (a : Act) (w : World), wpAnyT P ops Q t C fuel listed a w → wpAny P .any ops Q fuel listed a w
  | 0, _, _, _, h => h
  | fuel + 1, _, _, _, h => ⟨h.1, fun i hi => wpOp_mono (fun a' w' h' => wpAny_of_t fuel _ a' w' h'.2) (h.2 i hi)⟩
/-- does t wait for i? -/
def waitsB (ops : Array Oper) (t i : Nat) : Bool := match ops[t]? with
  | some o => o.after.any fun e => Region.binds .any e && e.on == i
  | none => false
theorem not_ready_of_waits {i : Nat} {listed : Array Bool} (hw : waitsB ops t i = true) (hr : i ∈ Region.ready .any ops listed) : t ∉ Region.ready .any ops listed := fun ht => by
  obtain ⟨hun, ot, hot, hall⟩ := mem_ready.1 ht; unfold waitsB at hw; rw [hot] at hw; simp only [Array.any_eq_true, Bool.and_eq_true, beq_iff_eq] at hw; obtain ⟨k, hk, hb, he⟩ := hw; have h1 := hall ot.after[k] (Array.getElem_mem hk) hb; have h0 := (mem_ready.1 hr).1; rw [he] at h1
  rcases Nat.lt_or_ge i listed.size with h' | h'
  · simp [h'] at h0 h1; rw [h0] at h1; cases h1
  · simp [Array.getElem?_eq_none h'] at h1

theorem wpAnyT_first {i : Nat} {oi : Oper} {v : Value} (hi : ops[i]? = some oi) (hsel : ∀ (j : Nat) (o : Oper) cs b, ops[j]? = some o → o.op ≠ .select cs b)
    (hQ : ∀ c a w, Q (.panic c) (a.put oi.dst v) w → Q (.panic c) a w) (hwt : waitsB ops t i = true) :
    ∀ (fuel : Nat) (listed : Array Bool) (a : Act) (w : World),
      (∀ j oj, ops[j]? = some oj → j ≠ i → listed.getD j true = false → (∀ e ∈ oj.after, Region.binds .any e = true → e.on ≠ i) → oi.apart ops oj = true) →
      i ∈ Region.ready .any ops listed → listed.getD t true = false → t ≠ i → YieldsIf P ops C oi v a → C w →
      wpAnyT P ops Q t C fuel (listed.setIfInBounds i true) (a.put oi.dst v) w → wpAnyT P ops Q t C (fuel + 1) listed a w := by
  intro fuel
  induction fuel with
  | zero =>
    intro listed a w _ hr ht hti hy hS H; refine ⟨fun h => (by rw [h] at hr; cases hr), fun j hj => ?_⟩
    by_cases hji : j = i
    · subst hji; exact hy.wpOp hi hS ⟨fun _ => hS, H⟩
    · have := ready_mono hj hji
      rw [H.1] at this
      cases this
  | succ fuel ih =>
    intro listed a w hfree hr ht hti hy hS H; refine ⟨fun h => (by rw [h] at hr; cases hr), fun j hj => ?_⟩
    by_cases hji : j = i
    · subst hji; exact hy.wpOp hi hS ⟨fun _ => hS, H⟩
    · have hjt : j ≠ t := by rintro rfl; exact not_ready_of_waits hwt hr hj
      have h1 := H.2 j (ready_mono hj hji); obtain ⟨hjun, oj, hoj, hall⟩ := mem_ready.1 hj
      have hnot : ∀ e ∈ oj.after, Region.binds .any e = true → e.on ≠ i := fun e he hb heq => by
        have h1 := hall e he hb; have h0 := (mem_ready.1 hr).1; rw [heq] at h1
        rcases Nat.lt_or_ge i listed.size with h' | h'
        · simp [h'] at h0 h1; rw [h0] at h1; cases h1
        · simp [Array.getElem?_eq_none h'] at h1
      have h2 := wpOp_putIf hoj (hfree j oj hoj hji hjun hnot) (fun cs b => hsel i oi cs b hi) (fun cs b => hsel j oj cs b hoj) hQ hy h1
      have hfree' : ∀ k ok, ops[k]? = some ok → k ≠ i → (listed.setIfInBounds j true).getD k true = false →
          (∀ e ∈ ok.after, Region.binds .any e = true → e.on ≠ i) → oi.apart ops ok = true := fun k ok hk hki hun hno => by
        refine hfree k ok hk hki ?_ hno
        by_cases hjk : j = k
        · subst hjk; exact hjun
        · rw [getD_set_ne true hjk] at hun; exact hun
      have ht2 : (listed.setIfInBounds j true).getD t true = false := by rw [getD_set_ne true hjt]; exact ht
      have ht3 : ((listed.setIfInBounds i true).setIfInBounds j true).getD t true = false := by rw [getD_set_ne true hjt, getD_set_ne true (Ne.symm hti)]; exact ht
      refine wpOp_mono (fun a' w' h3 => ⟨fun _ => h3.2.1 ht3, ih (listed.setIfInBounds j true) a' w' hfree' (ready_mono hr (Ne.symm hji)) ht2 hti h3.1 (h3.2.1 ht3) ?_⟩) h2; rw [Array.setIfInBounds_comm _ _ hji]; exact h3.2.2
/-- the same for what yields in every world -/
theorem wpAnyT_free {i : Nat} {oi : Oper} {v : Value} (hi : ops[i]? = some oi) (hsel : ∀ (j : Nat) (o : Oper) cs b, ops[j]? = some o → o.op ≠ .select cs b)
    (hQ : ∀ c a w, Q (.panic c) (a.put oi.dst v) w → Q (.panic c) a w) (hti : t ≠ i) :
    ∀ (fuel : Nat) (listed : Array Bool) (a : Act) (w : World),
      (∀ j oj, ops[j]? = some oj → j ≠ i → listed.getD j true = false → (∀ e ∈ oj.after, Region.binds .any e = true → e.on ≠ i) → oi.apart ops oj = true) →
      i ∈ Region.ready .any ops listed → YieldsIf P ops (fun _ => True) oi v a → (listed.getD t true = false → C w) →
      wpAnyT P ops Q t C fuel (listed.setIfInBounds i true) (a.put oi.dst v) w → wpAnyT P ops Q t C (fuel + 1) listed a w := by
  intro fuel
  induction fuel with
  | zero =>
    intro listed a w _ hr hy hS H; refine ⟨fun h => (by rw [h] at hr; cases hr), fun j hj => ?_⟩
    by_cases hji : j = i
    · subst hji; exact hy.wpOp hi trivial ⟨fun h => hS (by rwa [getD_set_ne true (Ne.symm hti)] at h), H⟩
    · have := ready_mono hj hji
      rw [H.1] at this
      cases this
  | succ fuel ih =>
    intro listed a w hfree hr hy hS H; refine ⟨fun h => (by rw [h] at hr; cases hr), fun j hj => ?_⟩
    by_cases hji : j = i
    · subst hji; exact hy.wpOp hi trivial ⟨fun h => hS (by rwa [getD_set_ne true (Ne.symm hti)] at h), H⟩
    · have h1 := H.2 j (ready_mono hj hji)
      obtain ⟨hjun, oj, hoj, hall⟩ := mem_ready.1 hj
      have hnot : ∀ e ∈ oj.after, Region.binds .any e = true → e.on ≠ i := fun e he hb heq => by
        have h1 := hall e he hb; have h0 := (mem_ready.1 hr).1; rw [heq] at h1
        rcases Nat.lt_or_ge i listed.size with h' | h'
        · simp [h'] at h0 h1; rw [h0] at h1; cases h1
        · simp [Array.getElem?_eq_none h'] at h1
      have h2 := wpOp_putIf hoj (hfree j oj hoj hji hjun hnot) (fun cs b => hsel i oi cs b hi) (fun cs b => hsel j oj cs b hoj) hQ hy h1
      have hfree' : ∀ k ok, ops[k]? = some ok → k ≠ i → (listed.setIfInBounds j true).getD k true = false →
          (∀ e ∈ ok.after, Region.binds .any e = true → e.on ≠ i) → oi.apart ops ok = true := fun k ok hk hki hun hno => by
        refine hfree k ok hk hki ?_ hno
        by_cases hjk : j = k
        · subst hjk; exact hjun
        · rw [getD_set_ne true hjk] at hun; exact hun
      have hsw : ∀ (w' : World), (((listed.setIfInBounds i true).setIfInBounds j true).getD t true = false → C w') → ((listed.setIfInBounds j true).getD t true = false → C w') := fun w' h h' => h (by
        rw [Array.setIfInBounds_comm _ _ (Ne.symm hji), getD_set_ne true (Ne.symm hti)]; exact h')
      refine wpOp_mono (fun a' w' h3 => ⟨hsw w' h3.2.1, ih (listed.setIfInBounds j true) a' w' hfree' (ready_mono hr (Ne.symm hji)) h3.1 (hsw w' h3.2.1) ?_⟩) h2; rw [Array.setIfInBounds_comm _ _ hji]; exact h3.2.2

def segT (ops : Array Oper) (t : Nat) : List Nat → Array Bool → Bool
  | [], _ => true
  | i :: r, listed => (Region.ready .any ops listed).contains i && Region.free .any ops listed i && waitsB ops t i && (t != i) && (listed.getD t true == false) && segT ops t r (listed.setIfInBounds i true)
def segU (ops : Array Oper) (t : Nat) : List Nat → Array Bool → Bool
  | [], _ => true
  | i :: r, listed => (Region.ready .any ops listed).contains i && Region.free .any ops listed i && (t != i) && segU ops t r (listed.setIfInBounds i true)
theorem till_seg (hs : Region.noSelect ops = true) (hQ : ∀ d v c a w, Q (.panic c) (a.put d v) w → Q (.panic c) a w) :
    ∀ (idx : List Nat) (q : List Oper) (fuel : Nat) (listed : Array Bool) (a : Act) (w : World), idx.map (fun i => ops[i]?) = q.map some → segT ops t idx listed = true → q.all pureKind = true → C w →
      wpQuiet P ops C (fun a' => wpAnyT P ops Q t C fuel (segL idx listed) a' w) q a → wpAnyT P ops Q t C (fuel + idx.length) listed a w := by
  intro idx
  induction idx with
  | nil =>
    intro q fuel listed a w hm _ _ _ h
    cases q with
    | nil => exact h
    | cons o q => simp at hm
  | cons i idx ih =>
    intro q fuel listed a w hm hB hp hS h
    cases q with
    | nil => simp at hm
    | cons o q =>
      simp only [List.map_cons, List.cons.injEq] at hm; simp only [segT, Bool.and_eq_true, bne_iff_ne, beq_iff_eq] at hB; obtain ⟨⟨⟨⟨⟨b1, b2⟩, b3⟩, b4⟩, b5⟩, b6⟩ := hB; simp only [List.all_cons, Bool.and_eq_true] at hp; unfold wpQuiet at h
      have key : ∀ v, YieldsIf P ops C o v a → wpQuiet P ops C (fun a' => wpAnyT P ops Q t C fuel (segL idx (listed.setIfInBounds i true)) a' w) q (a.put o.dst v) → wpAnyT P ops Q t C (fuel + (i :: idx).length) listed a w := fun v hy hr =>
        wpAnyT_first hm.1 (Region.noSelect_spec hs) (fun c a w h => hQ _ _ c a w h) b3 _ _ _ _ (Region.free_spec hm.1 b2) (by simpa using b1) b5 b4 hy hS (ih q fuel _ _ w hm.2 b6 hp.2 hS hr)
      by_cases hw : Region.wanted o (yielded ops a.tmps) = true
      · rw [if_pos hw] at h
        obtain ⟨v, h1, h2⟩ := h; exact key v (yieldsIf_of_quiet hp.1 hS hw h1) h2
      · rw [if_neg hw] at h
        exact key undef (.inr ⟨by simpa using hw, rfl⟩) h
theorem till_segU (hs : Region.noSelect ops = true) (hQ : ∀ d v c a w, Q (.panic c) (a.put d v) w → Q (.panic c) a w) :
    ∀ (idx : List Nat) (q : List Oper) (fuel : Nat) (listed : Array Bool) (a : Act) (w : World), idx.map (fun i => ops[i]?) = q.map some → segU ops t idx listed = true → q.all pureKind = true → C w →
      wpQuiet P ops (fun _ => True) (fun a' => wpAnyT P ops Q t C fuel (segL idx listed) a' w) q a → wpAnyT P ops Q t C (fuel + idx.length) listed a w := by
  intro idx
  induction idx with
  | nil =>
    intro q fuel listed a w hm _ _ _ h
    cases q with
    | nil => exact h
    | cons o q => simp at hm
  | cons i idx ih =>
    intro q fuel listed a w hm hB hp hS h
    cases q with
    | nil => simp at hm
    | cons o q =>
      simp only [List.map_cons, List.cons.injEq] at hm; simp only [segU, Bool.and_eq_true, bne_iff_ne] at hB; obtain ⟨⟨⟨b1, b2⟩, b4⟩, b6⟩ := hB; simp only [List.all_cons, Bool.and_eq_true] at hp; unfold wpQuiet at h
      have key : ∀ v, YieldsIf P ops (fun _ => True) o v a → wpQuiet P ops (fun _ => True) (fun a' => wpAnyT P ops Q t C fuel (segL idx (listed.setIfInBounds i true)) a' w) q (a.put o.dst v) → wpAnyT P ops Q t C (fuel + (i :: idx).length) listed a w := fun v hy hr =>
        wpAnyT_free hm.1 (Region.noSelect_spec hs) (fun c a w h => hQ _ _ c a w h) b4 _ _ _ _ (Region.free_spec hm.1 b2) (by simpa using b1) hy (fun _ => hS) (ih q fuel _ _ w hm.2 b6 hp.2 hS hr)
      by_cases hw : Region.wanted o (yielded ops a.tmps) = true
      · rw [if_pos hw] at h
        obtain ⟨v, h1, h2⟩ := h; exact key v (yieldsIf_of_quiet (w0 := w) hp.1 trivial hw h1) h2
      · rw [if_neg hw] at h
        exact key undef (.inr ⟨by simpa using hw, rfl⟩) h
theorem till_take {l : List Oper} {listed : Array Bool} {a : Act} {w : World} (idx : List Nat) (fuel : Nat) (hs : Region.noSelect l.toArray = true) (hQ : ∀ d v c a w, Q (.panic c) (a.put d v) w → Q (.panic c) a w)
    (hb : idx.all (· < l.length) = true) (hB : segT l.toArray t idx listed = true) (hp : (pickL l idx).all pureKind = true) (hS : C w)
    (h : wpQuiet P l.toArray C (fun a' => wpAnyT P l.toArray Q t C fuel (segL idx listed) a' w) (pickL l idx) a) : wpAnyT P l.toArray Q t C (fuel + idx.length) listed a w :=
  till_seg hs hQ idx _ fuel listed a w (pickL_map idx hb) hB hp hS h
theorem till_free {l : List Oper} {listed : Array Bool} {a : Act} {w : World} (idx : List Nat) (fuel : Nat) (hs : Region.noSelect l.toArray = true) (hQ : ∀ d v c a w, Q (.panic c) (a.put d v) w → Q (.panic c) a w)
    (hb : idx.all (· < l.length) = true) (hB : segU l.toArray t idx listed = true) (hp : (pickL l idx).all pureKind = true) (hS : C w)
    (h : wpQuiet P l.toArray (fun _ => True) (fun a' => wpAnyT P l.toArray Q t C fuel (segL idx listed) a' w) (pickL l idx) a) : wpAnyT P l.toArray Q t C (fuel + idx.length) listed a w :=
  till_segU hs hQ idx _ fuel listed a w (pickL_map idx hb) hB hp hS h
theorem till_call {i fuel : Nat} {o : Oper} {listed : Array Bool} {a : Act} {w : World} (hr : Region.ready .any ops listed = [i]) (ho : ops[i]? = some o)
    (h : wpList P ops (Mid (fun a' w' => ((listed.setIfInBounds i true).getD t true = false → C w') ∧ wpAnyT P ops Q t C fuel (listed.setIfInBounds i true) a' w') Q) [o] a w) : wpAnyT P ops Q t C (fuel + 1) listed a w := by
  refine ⟨fun h0 => (by rw [hr] at h0; cases h0), fun j hj => ?_⟩; rw [hr] at hj; obtain rfl : j = i := by simpa using hj
  unfold wpOp; simp only [ho]; unfold wpList at h
  split
  · rename_i hw
    rw [if_pos hw] at h
    rcases h with h | ⟨h1, a2, w2, h2⟩
    · exact .inl (upon_mid h)
    · exact .inr ⟨h1, a2, w2, h2⟩
  · rename_i hw
    rw [if_neg hw] at h; exact h
theorem till_one {l : List Oper} {listed : Array Bool} {a : Act} {w : World} (i fuel : Nat) (hb : decide (i < l.length) = true) (hr : Region.ready .any l.toArray listed = [i])
    (h : wpList P l.toArray (Mid (fun a' w' => ((listed.setIfInBounds i true).getD t true = false → C w') ∧ wpAnyT P l.toArray Q t C fuel (listed.setIfInBounds i true) a' w') Q) (pickL l [i]) a w) : wpAnyT P l.toArray Q t C (fuel + 1) listed a w := by
  have hi : i < l.length := of_decide_eq_true hb; exact till_call (o := l.getD i noOp) hr (by rw [List.getD_eq_getElem?_getD, List.getElem?_eq_getElem hi]; simp [hi]) h
theorem till_begin {id : Nat} {a : Act} {w : World} {l : List Oper} (hm : P.follows .mixedOrders = true) (n : Nat) (hn : l.length = n)
    (h : wpAnyT P l.toArray Q t C n (Array.replicate n false) a w.drew) : (Code.region id l.toArray true).wp P Q a w := by
  refine wp_region_any hm (wpAny_of_t (t := t) (C := C) _ _ _ _ ?_); have e : l.toArray.size = n := by simpa using hn
  rw [e]; exact h

/-- as Q, and no panic -/
def noP (Q : Exit → Act → World → Prop) : Exit → Act → World → Prop
  | .panic _, _, _ => False
  | e, a, w => Q e a w
theorem wp_noP {c : Code} {a : Act} {w : World} (h : c.wp P (noP Q) a w) : c.wp P Q a w := wp_mono h (fun e a w h => by cases e <;> first | exact h | exact h.elim)
theorem noP_normal {a : Act} {w : World} (h : Q .normal a w) : noP Q .normal a w := h
theorem noP_put : ∀ (d : Option Tmp) (v : Value) (c : List PanicEntry) (a : Act) (w : World), noP Q (.panic c) (a.put d v) w → noP Q (.panic c) a w := fun _ _ _ _ _ h => h
end
end Tt

namespace Go.Proofs.Ytpjopeojeglogaa
open Go.RowKit Tt
set_option linter.unusedVariables false
set_option linter.unusedSimpArgs false

/-- the place of the first that p holds for, from k on; the length if there is none -/
def fst {α : Type} (p : α → Bool) (l : List α) : Int := match l.findIdx? p with | some i => i | none => -1
end Go.Proofs.Ytpjopeojeglogaa

namespace Tt
open Go Go.RowKit
set_option linter.unusedVariables false

theorem or_i64 (a b : Nat) (ha : a < 9223372036854775808) (hb : b < 9223372036854775808) : bits .or .i64 (a : Int) (b : Int) = ((a ||| b : Nat) : Int) := by
  have hx : a ||| b < 2 ^ 63 := Nat.or_lt_two_pow (by omega) (by omega)
  have h1 : (BitVec.ofInt 64 (a : Int)).toNat = a := by rw [BitVec.ofInt_natCast, BitVec.toNat_ofNat]; exact Nat.mod_eq_of_lt (by omega)
  have h2 : (BitVec.ofInt 64 (b : Int)).toNat = b := by rw [BitVec.ofInt_natCast, BitVec.toNat_ofNat]; exact Nat.mod_eq_of_lt (by omega)
  show IntKind.i64.wrap ((BitVec.ofInt 64 (a : Int) ||| BitVec.ofInt 64 (b : Int)).toNat : Int) = _
  rw [BitVec.toNat_or, h1, h2, IntKind.wrap_i64]
  omega
theorem and_i64 (a b : Nat) (ha : a < 9223372036854775808) (hb : b < 9223372036854775808) : bits .and .i64 (a : Int) (b : Int) = ((a &&& b : Nat) : Int) := by
  have hx : a &&& b < 2 ^ 63 := Nat.and_lt_two_pow _ (by omega); have h1 : (BitVec.ofInt 64 (a : Int)).toNat = a := by rw [BitVec.ofInt_natCast, BitVec.toNat_ofNat]; exact Nat.mod_eq_of_lt (by omega)
  have h2 : (BitVec.ofInt 64 (b : Int)).toNat = b := by rw [BitVec.ofInt_natCast, BitVec.toNat_ofNat]; exact Nat.mod_eq_of_lt (by omega)
  show IntKind.i64.wrap ((BitVec.ofInt 64 (a : Int) &&& BitVec.ofInt 64 (b : Int)).toNat : Int) = _
  rw [BitVec.toNat_and, h1, h2, IntKind.wrap_i64]
  omega
/-- the number that bytes are, the first one the highest -/
def be (l : List Int) : Int := l.foldl (fun n b => n * 256 + b) 0
theorem take_snoc' {l : List Int} {j : Nat} (h : j < l.length) : l.take (j + 1) = l.take j ++ [l.getD j 0] := by
  rw [List.take_add_one, List.getElem?_eq_getElem h, List.getD_eq_getElem?_getD, List.getElem?_eq_getElem h]
  rfl
end Tt

namespace Go.Proofs.Ytpjopeojeglogaa
open Go.RowKit Tt
set_option linter.unusedVariables false

theorem info8 : (Try.prog.info? 5).map (fun i => (i.zero, i.size, i.bytes)) = some (some (.int .u8 0), 1, 1) := by kernel_rfl

end Go.Proofs.Ytpjopeojeglogaa

namespace Tt
open Go Go.RowKit
variable {F : Fence} {n : Nat} {P : Program}

/-- The record of a loop, in a state, with a pending jump. -/
def recOf (fn : FuncId) (tmps : Array Value) (ps : Array Tmp) (assign body : Code) (D : Nat) (st : LoopState) (pe : Option Code) : Loop :=
  { state := st, pending := pe, fn, tmps, params := ps, assign, body, defers := D }

/-- Behind the iterator. -/
def rfDone (F : Fence) (n : Nat) (P : Program) (Q : Exit → Act → World → Prop) (a : Act) (w : World) (rec : LoopState → Option Code → Loop) (e : Ending) (W2 : World) : Prop :=
  (∃ v, e = .returned v) ∧ ∃ st c, st ≠ .busy ∧ W2.heap[w.heap.size + 1]? = some (.loop (rec st c)) ∧
    (match c with
     | none => Q .normal { a with defers := { target := .collected w.heap.size, args := #[] } :: a.defers } (W2.putObj (w.heap.size + 1) (.loop (rec .exhausted c)))
     | some j => j.wpIn F n P Q { a with defers := { target := .collected w.heap.size, args := #[] } :: a.defers } (W2.putObj (w.heap.size + 1) (.loop (rec .exhausted c))))

theorem rf_law {g : Operand} {ps : Array Tmp} {assign body : Code} {Q : Exit → Act → World → Prop} {a : Act} {w : World}
    (hro : F.round = none) (h1 : 1 ≤ n) {gf : Nat} {lb : Array Value} (hg : a.eval g = .func (.func gf) #[] lb) (hFg : F.fn gf) (eg : ∀ args w, (callFunc gf args).run P w = .ok (.enter gf args) w)
    (h : ∀ fn, F.fn fn → CallsIn F (n - 1) P gf (#[.func (.yield (w.heap.size + 1)) #[] #[]] ++ lb)
      ((w.alloc (.deferred (some []))).alloc (.loop (recOf fn a.tmps ps assign body w.heap.size .ready none)))
      (rfDone F n P Q a w (recOf fn a.tmps ps assign body w.heap.size))) :
    (Code.rangeFunc g ps assign body).wpIn F n P Q a w := by
  refine wpIn_rangeFunc ?_; intro fn hfn; rw [hro]; have hh := h fn hfn; have hen := run_enterLoop_outer (P := P) (w := w) fn a.tmps ps assign body; have hrec : ({ state := .ready, pending := none, fn, tmps := a.tmps, params := ps, assign, body, defers := w.heap.size } : Loop) = recOf fn a.tmps ps assign body w.heap.size .ready none := rfl
  have hE : ∀ (W2 : World) (st : LoopState) (c : Option Code), st ≠ .busy → W2.heap[w.heap.size + 1]? = some (.loop (recOf fn a.tmps ps assign body w.heap.size st c)) →
      (Instr.endLoop (w.heap.size + 1)).run P W2 = .ok c (W2.putObj (w.heap.size + 1) (.loop (recOf fn a.tmps ps assign body w.heap.size .exhausted c))) := fun W2 st c hs hl => run_endLoop hl hs
  rw [hrec] at hen; clear hrec h
  generalize recOf fn a.tmps ps assign body w.heap.size = rec at *
  generalize (w.alloc (.deferred (some []))).alloc (.loop (rec .ready none)) = W1 at *
  refine ⟨w.heap.size + 1, [{ target := .collected w.heap.size, args := #[] }], W1, { target := .fn (.func gf) lb, args := #[.func (.yield (w.heap.size + 1)) #[] #[]] }, W1, gf, #[.func (.yield (w.heap.size + 1)) #[] #[]] ++ lb, W1, hen, ?_, ?_, ?_, fun _ => h1, ?_⟩
  · simp only [resolve, hg]
    simp [go_sem]
  · intro f' hf'; simp [Target.leads] at hf'; subst hf'; exact hFg
  · simp [invoke, go_sem, eg]
  · refine CallsIn.mono hh ?_
    rintro e W2 ⟨⟨v, rfl⟩, st, c, hs, hl, hq⟩; have hend := hE W2 st c hs hl; exact ⟨c, _, hend, hq⟩

/-- How a round may be left. -/
def rfPost (l : Nat) (rec : LoopState → Option Code → Loop) (R : Ending → World → Prop) : Exit → Act → World → Prop
  | .normal, _, W3 => W3.heap[l]? = some (.loop (rec .busy none)) ∧ R (.returned (.bool true)) (W3.putObj l (.loop (rec .ready none)))
  | .ret, _, W3 => W3.heap[l]? = some (.loop (rec .busy none)) ∧ R (.returned (.bool false)) (W3.putObj l (.loop (rec .done (some .ret))))
  | .exit id, _, W3 => W3.heap[l]? = some (.loop (rec .busy none)) ∧ R (.returned (.bool false)) (W3.putObj l (.loop (rec .done (some (.exit id)))))
  | _, _, _ => False

theorem rf_round {m : Nat} {l : Nat} {fn : FuncId} {tmps : Array Value} {ps : Array Tmp} {assign body : Code} {D : Nat} {W : World} {args : Array Value} {R : Ending → World → Prop}
    (hfn : F.fn fn) (hl : W.heap[l]? = some (.loop (recOf fn tmps ps assign body D .ready none))) (hps : args.size = ps.size)
    (h : assign.wpIn (F.inRound l) m P (Exit.then (fun a₁ w₁ => w₁.heap[l]? = some (.loop (recOf fn tmps ps assign body D .ready none)) ∧
        body.wpIn (F.inRound l) m P (rfPost l (recOf fn tmps ps assign body D) R) a₁ (w₁.putObj l (.loop (recOf fn tmps ps assign body D .busy none)))) (fun _ _ _ => False))
      { tmps := (ps.zip args).foldl (fun t (p, v) => t.setIfInBounds p v) tmps, defers := [] } W) : YieldAt F m P l args W R := by
  refine ⟨fn, _, assign, body, run_yield hl hps, roundIn_of_wpIn hfn (wpIn_mono h ?_)⟩; intro e a1 w1 hq
  cases e with
  | normal =>
    obtain ⟨h1, h2⟩ := hq; refine ⟨_, run_beginRound h1 rfl, wpIn_mono h2 ?_⟩; intro e a3 W3 hp
    cases e with
    | normal => obtain ⟨h3, h4⟩ := hp; exact ⟨_, _, run_endRound none h3, h4⟩
    | ret => obtain ⟨h3, h4⟩ := hp; exact ⟨_, _, run_endRound (some .ret) h3, h4⟩
    | exit id => obtain ⟨h3, h4⟩ := hp; exact ⟨_, _, run_endRound (some (.exit id)) h3, h4⟩
    | goto t => exact hp.elim
    | panic c => exact hp.elim
    | outgrown => exact hp.elim
  | ret => exact hq.elim
  | exit id => exact hq.elim
  | goto t => exact hq.elim
  | panic c => exact hq.elim
  | outgrown => exact hq.elim

theorem rf_law' {g : Operand} {ps : Array Tmp} {assign body : Code} {Q : Exit → Act → World → Prop} {a : Act} {w : World}
    (hro : F.round = none) (h1 : 1 ≤ n) {gf : Nat} {lb : Array Value} (hg : a.eval g = .func (.func gf) #[] lb) (hFg : F.fn gf) (eg : ∀ args w, (callFunc gf args).run P w = .ok (.enter gf args) w)
    (h : ∀ fn rec, F.fn fn → Hid (rec = recOf fn a.tmps ps assign body w.heap.size) → CallsIn F (n - 1) P gf (#[.func (.yield (w.heap.size + 1)) #[] #[]] ++ lb)
      ((w.alloc (.deferred (some []))).alloc (.loop (rec .ready none)))
      (rfDone F n P Q a w rec)) :
    (Code.rangeFunc g ps assign body).wpIn F n P Q a w :=
  rf_law hro h1 hg hFg eg fun fn hfn => h fn _ hfn rfl

theorem rf_round' {m : Nat} {l : Nat} {fn : FuncId} {tmps : Array Value} {ps : Array Tmp} {assign body : Code} {D : Nat} {W : World} {args : Array Value} {R : Ending → World → Prop} {rec : LoopState → Option Code → Loop}
    (hfn : F.fn fn) (hrec : Hid (rec = recOf fn tmps ps assign body D)) (hl : W.heap[l]? = some (.loop (rec .ready none))) (hps : args.size = ps.size)
    (h : assign.wpIn (F.inRound l) m P (Exit.then (fun a₁ w₁ => w₁.heap[l]? = some (.loop (rec .ready none)) ∧
        body.wpIn (F.inRound l) m P (rfPost l rec R) a₁ (w₁.putObj l (.loop (rec .busy none)))) (fun _ _ _ => False))
      { tmps := (ps.zip args).foldl (fun t (p, v) => t.setIfInBounds p v) tmps, defers := [] } W) : YieldAt F m P l args W R := by
  have hr := hrec.out; subst hr; exact rf_round hfn hl hps h

end Tt

namespace Tt
open Go Go.RowKit
set_option linter.unusedVariables false

section
variable {P : Program} {w : World} {ops : Array Oper} {rest : List Oper} {o : Oper} {a : Act} {Q : Exit → Act → World → Prop}
theorem wpList_app2 (hgd : o.guard = none) (s x : Operand) (t : TypeId)
    (ho : o.op = .call { callee := .builtin .append, args := #[s, x], argTypes := #[t, t] })
    (base : Nat) (e : TypeId) (i : TypeInfo) (z : Value) (size bytes : Nat) (ht : P.underlying t = some (.slice e)) (hi : P.info? e = some i) (hz : i.zero = some z)
    (hsize : i.size = size) (hby : i.bytes = bytes) (hzs : z.cells.size = size) (hsz : 0 < size)
    (v : Value) (n : Nat) (xs : List Value) (hs : a.eval s = v) (hown : w.ownsRow base e size v n xs)
    (xa : Addr) (m c : Nat) (news : List Value) (hx : a.eval x = .slice (some xa) m c) (hS : Sl w (some xa) m c size news) (h1 : ∀ u ∈ news, u.oneCell' = true)
    (hbytes : (n + m) * bytes ≤ 140737488355328) (hb0 : 0 < bytes) (hbase : base ≤ w.heap.size)
    (h : ∀ (a' : Option Addr) (c' : Nat) (w' : World), w'.ownsRow base e size (.slice a' (n + m) c') (n + m) (xs ++ news) → w.grownBy w' v.ownBlock → (∀ k, (Value.slice a' (n + m) c').ownBlock = some k → v.ownBlock = some k ∨ w.heap.size ≤ k) → wpList P ops Q rest (a.put o.dst (.slice a' (n + m) c')) w') : wpList P ops Q (o :: rest) a w := by
  have h63 : n + m ≤ maxLen := by
    have : (n + m) * 1 ≤ (n + m) * bytes := Nat.mul_le_mul_left _ hb0; unfold maxLen; omega
  have hv' : ∀ (B : Nat) (v' : Value) (w' : World), w'.ownsRow B e size v' (n + m) (xs ++ news) → ∃ (a' : Option Addr) (c' : Nat), v' = .slice a' (n + m) c' := by
    intro B v' w' hw
    rcases hw.2 with ⟨rfl, h0⟩ | ⟨g, cap, cur, rfl, _⟩
    · exact ⟨none, 0, by rw [h0]⟩
    · exact ⟨_, _, rfl⟩
  have hnews : ∀ j u, news[j]? = some u → w.cell? (xa.add j) = some u := fun j u hu => by
    have hj : j < news.length := (List.getElem?_eq_some_iff.1 hu).1
    have hm : 0 < m := by
      rcases Nat.eq_zero_or_pos m with h0 | h0
      · rw [hS.len, h0] at hj; omega
      · exact h0
    obtain ⟨b, off, e1, _, hc⟩ := hS.lies 0 hm; injection e1 with e1; subst e1; rw [Addr.add_lit]; exact hc j u hu
  have grow : ∀ (ao : Option Addr) (cap : Nat), v = .slice ao n cap → cap < n + m → wpList P ops Q (o :: rest) a w := fun ao cap hv hfull => by
    subst hv; have hsl := (Sl.of_own hown).1; refine wpList_append_grows w hgd s x t ho e i z size bytes ht hi hz hsize hby hzs hsz ao n cap xs hs (fun hn => ?_) hsl.len (fun b hb j u hj => ?_) xa m c news hx hS.len hnews h1 hfull h63 hbytes ?_
    · subst hn
      have := hsl.fit rfl; have := hsl.le; exact ⟨by omega, by omega⟩
    · subst hb
      have hj2 : j < xs.length := (List.getElem?_eq_some_iff.1 hj).1
      have hn0 : 0 < n := by
        rcases Nat.eq_zero_or_pos n with h0 | h0
        · rw [hsl.len, h0] at hj2; omega
        · exact h0
      obtain ⟨b', off, e1, _, hc⟩ := hsl.lies 0 hn0; injection e1 with e1; subst e1; rw [Addr.add_lit]; exact hc j u hj
    · intro v' w' h2 h3
      obtain ⟨a', c', rfl⟩ := hv' _ v' w' h2; refine h _ _ w' (own_mono h2 hbase) ⟨h3.os, h3.tape, h3.output, h3.size, fun k hk _ => h3.block k hk (by simp)⟩ (fun k hk => .inr (h2.lt k hk).1)
  rcases hown.2 with ⟨hv, hn⟩ | ⟨g, cap, cur, hv, _⟩
  · by_cases hm : 0 < m
    · exact grow none 0 (by rw [hv, hn]) (by omega)
    · subst hv hn
      have hm0 : m = 0 := by omega
      have hn0 : news = [] := List.eq_nil_of_length_eq_zero (by rw [hS.len, hm0]; simp); have hx0 : xs = [] := List.eq_nil_of_length_eq_zero (by rw [hown.1]; simp)
      exact wpList_append_own w hgd s x t ho base e i z size bytes ht hi hz hsize hby hzs hsz (.slice none 0 0) 0 xs hs hown xa m c news hx hS.len hnews h1 h63 hbytes hbase fun v' w' h2 h3 h4 => by
        obtain rfl := h4.2 ⟨rfl, hm0⟩; have := h none 0 w' (by rw [hm0]; rw [hm0] at h2; exact h2) h3 (fun k hk => by cases hk); rw [hm0] at this; exact this
  · by_cases hfit : n + m ≤ cap
    · subst hv
      exact wpList_append_fits w hgd s x t ho base e i size ht hi hsize g n cap xs hs hown xa m c news hx hS.len hnews h1 hfit fun w' h2 h3 => h _ _ w' h2 h3 (fun k hk => .inl hk)
    · exact grow _ cap hv (by omega)
end
end Tt

namespace Go.Proofs.Ytpjopeojeglogaa
open Go.RowKit Tt
attribute [local go_sem] Oper.semAt_some
set_option linter.unusedVariables false
set_option linter.unusedSimpArgs false

theorem infoI : (Try.prog.info? 3).map (fun i => (i.zero, i.size, i.bytes)) = some (some (.int .i64 0), 1, 8) := by kernel_rfl
end Go.Proofs.Ytpjopeojeglogaa
