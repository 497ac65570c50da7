/- A drawn region with calls that write: what only reads is taken first, as long as one later operation waits for it. -/
import Derived.Test.YtpjopeojeglogaaCd02
namespace Tt
open Go Go.RowKit
set_option linter.unusedVariables false

section
variable {P : Program} {ops : Array Oper} {Q : Exit → Act → World → Prop} {t : Nat} {C : World → Prop}
/-- Whatever order is picked from here on; C holds behind every operation, till number t has come up. -/
def wpAnyT (P : Program) (ops : Array Oper) (Q : Exit → Act → World → Prop) (t : Nat) (C : World → Prop) : Nat → Array Bool → Act → World → Prop
  | 0, listed, a, w => Region.ready .any ops listed = [] ∧ Q .normal a w
  | fuel + 1, listed, a, w =>
    (Region.ready .any ops listed = [] → Q .normal a w) ∧
    ∀ i ∈ Region.ready .any ops listed, wpOp P ops Q i (fun a' w' => ((listed.setIfInBounds i true).getD t true = false → C w') ∧ wpAnyT P ops Q t C fuel (listed.setIfInBounds i true) a' w') a w
theorem wpAny_of_t : ∀ (fuel : Nat) (listed : Array Bool) (a : Act) (w : World), wpAnyT P ops Q t C fuel listed a w → wpAny P .any ops Q fuel listed a w
  | 0, _, _, _, h => h
  | fuel + 1, _, _, _, h => ⟨h.1, fun i hi => wpOp_mono (fun a' w' h' => wpAny_of_t fuel _ a' w' h'.2) (h.2 i hi)⟩
/-- does t wait for i? -/
def waitsB (ops : Array Oper) (t i : Nat) : Bool := match ops[t]? with
  | some o => o.after.any fun e => Region.binds .any e && e.on == i
  | none => false
theorem not_ready_of_waits {i : Nat} {listed : Array Bool} (hw : waitsB ops t i = true) (hr : i ∈ Region.ready .any ops listed) : t ∉ Region.ready .any ops listed := fun ht => by
  obtain ⟨hun, ot, hot, hall⟩ := mem_ready.1 ht; unfold waitsB at hw; rw [hot] at hw; simp only [Array.any_eq_true, Bool.and_eq_true, beq_iff_eq] at hw; obtain ⟨k, hk, hb, he⟩ := hw; have h1 := hall ot.after[k] (Array.getElem_mem hk) hb; have h0 := (mem_ready.1 hr).1; rw [he] at h1
  rcases Nat.lt_or_ge i listed.size with h' | h'
  · simp [h'] at h0 h1; rw [h0] at h1; cases h1
  · simp [Array.getElem?_eq_none h'] at h1

theorem wpAnyT_first {i : Nat} {oi : Oper} {v : Value} (hi : ops[i]? = some oi) (hsel : ∀ (j : Nat) (o : Oper) cs b, ops[j]? = some o → o.op ≠ .select cs b)
    (hQ : ∀ c a w, Q (.panic c) (a.put oi.dst v) w → Q (.panic c) a w) (hwt : waitsB ops t i = true) :
    ∀ (fuel : Nat) (listed : Array Bool) (a : Act) (w : World),
      (∀ j oj, ops[j]? = some oj → j ≠ i → listed.getD j true = false → (∀ e ∈ oj.after, Region.binds .any e = true → e.on ≠ i) → oi.apart ops oj = true) →
      i ∈ Region.ready .any ops listed → listed.getD t true = false → t ≠ i → YieldsIf P ops C oi v a → C w →
      wpAnyT P ops Q t C fuel (listed.setIfInBounds i true) (a.put oi.dst v) w → wpAnyT P ops Q t C (fuel + 1) listed a w := by
  intro fuel
  induction fuel with
  | zero =>
    intro listed a w _ hr ht hti hy hS H; refine ⟨fun h => (by rw [h] at hr; cases hr), fun j hj => ?_⟩
    by_cases hji : j = i
    · subst hji; exact hy.wpOp hi hS ⟨fun _ => hS, H⟩
    · have := ready_mono hj hji
      rw [H.1] at this
      cases this
  | succ fuel ih =>
    intro listed a w hfree hr ht hti hy hS H; refine ⟨fun h => (by rw [h] at hr; cases hr), fun j hj => ?_⟩
    by_cases hji : j = i
    · subst hji; exact hy.wpOp hi hS ⟨fun _ => hS, H⟩
    · have hjt : j ≠ t := by rintro rfl; exact not_ready_of_waits hwt hr hj
      have h1 := H.2 j (ready_mono hj hji); obtain ⟨hjun, oj, hoj, hall⟩ := mem_ready.1 hj
      have hnot : ∀ e ∈ oj.after, Region.binds .any e = true → e.on ≠ i := fun e he hb heq => by
        have h1 := hall e he hb; have h0 := (mem_ready.1 hr).1; rw [heq] at h1
        rcases Nat.lt_or_ge i listed.size with h' | h'
        · simp [h'] at h0 h1; rw [h0] at h1; cases h1
        · simp [Array.getElem?_eq_none h'] at h1
      have h2 := wpOp_putIf hoj (hfree j oj hoj hji hjun hnot) (fun cs b => hsel i oi cs b hi) (fun cs b => hsel j oj cs b hoj) hQ hy h1
      have hfree' : ∀ k ok, ops[k]? = some ok → k ≠ i → (listed.setIfInBounds j true).getD k true = false →
          (∀ e ∈ ok.after, Region.binds .any e = true → e.on ≠ i) → oi.apart ops ok = true := fun k ok hk hki hun hno => by
        refine hfree k ok hk hki ?_ hno
        by_cases hjk : j = k
        · subst hjk; exact hjun
        · rw [getD_set_ne true hjk] at hun; exact hun
      have ht2 : (listed.setIfInBounds j true).getD t true = false := by rw [getD_set_ne true hjt]; exact ht
      have ht3 : ((listed.setIfInBounds i true).setIfInBounds j true).getD t true = false := by rw [getD_set_ne true hjt, getD_set_ne true (Ne.symm hti)]; exact ht
      refine wpOp_mono (fun a' w' h3 => ⟨fun _ => h3.2.1 ht3, ih (listed.setIfInBounds j true) a' w' hfree' (ready_mono hr (Ne.symm hji)) ht2 hti h3.1 (h3.2.1 ht3) ?_⟩) h2; rw [Array.setIfInBounds_comm _ _ hji]; exact h3.2.2
/-- the same for what yields in every world -/
theorem wpAnyT_free {i : Nat} {oi : Oper} {v : Value} (hi : ops[i]? = some oi) (hsel : ∀ (j : Nat) (o : Oper) cs b, ops[j]? = some o → o.op ≠ .select cs b)
    (hQ : ∀ c a w, Q (.panic c) (a.put oi.dst v) w → Q (.panic c) a w) (hti : t ≠ i) :
    ∀ (fuel : Nat) (listed : Array Bool) (a : Act) (w : World),
      (∀ j oj, ops[j]? = some oj → j ≠ i → listed.getD j true = false → (∀ e ∈ oj.after, Region.binds .any e = true → e.on ≠ i) → oi.apart ops oj = true) →
      i ∈ Region.ready .any ops listed → YieldsIf P ops (fun _ => True) oi v a → (listed.getD t true = false → C w) →
      wpAnyT P ops Q t C fuel (listed.setIfInBounds i true) (a.put oi.dst v) w → wpAnyT P ops Q t C (fuel + 1) listed a w := by
  intro fuel
  induction fuel with
  | zero =>
    intro listed a w _ hr hy hS H; refine ⟨fun h => (by rw [h] at hr; cases hr), fun j hj => ?_⟩
    by_cases hji : j = i
    · subst hji; exact hy.wpOp hi trivial ⟨fun h => hS (by rwa [getD_set_ne true (Ne.symm hti)] at h), H⟩
    · have := ready_mono hj hji
      rw [H.1] at this
      cases this
  | succ fuel ih =>
    intro listed a w hfree hr hy hS H; refine ⟨fun h => (by rw [h] at hr; cases hr), fun j hj => ?_⟩
    by_cases hji : j = i
    · subst hji; exact hy.wpOp hi trivial ⟨fun h => hS (by rwa [getD_set_ne true (Ne.symm hti)] at h), H⟩
    · have h1 := H.2 j (ready_mono hj hji)
      obtain ⟨hjun, oj, hoj, hall⟩ := mem_ready.1 hj
      have hnot : ∀ e ∈ oj.after, Region.binds .any e = true → e.on ≠ i := fun e he hb heq => by
        have h1 := hall e he hb; have h0 := (mem_ready.1 hr).1; rw [heq] at h1
        rcases Nat.lt_or_ge i listed.size with h' | h'
        · simp [h'] at h0 h1; rw [h0] at h1; cases h1
        · simp [Array.getElem?_eq_none h'] at h1
      have h2 := wpOp_putIf hoj (hfree j oj hoj hji hjun hnot) (fun cs b => hsel i oi cs b hi) (fun cs b => hsel j oj cs b hoj) hQ hy h1
      have hfree' : ∀ k ok, ops[k]? = some ok → k ≠ i → (listed.setIfInBounds j true).getD k true = false →
          (∀ e ∈ ok.after, Region.binds .any e = true → e.on ≠ i) → oi.apart ops ok = true := fun k ok hk hki hun hno => by
        refine hfree k ok hk hki ?_ hno
        by_cases hjk : j = k
        · subst hjk; exact hjun
        · rw [getD_set_ne true hjk] at hun; exact hun
      have hsw : ∀ (w' : World), (((listed.setIfInBounds i true).setIfInBounds j true).getD t true = false → C w') → ((listed.setIfInBounds j true).getD t true = false → C w') := fun w' h h' => h (by
        rw [Array.setIfInBounds_comm _ _ (Ne.symm hji), getD_set_ne true (Ne.symm hti)]; exact h')
      refine wpOp_mono (fun a' w' h3 => ⟨hsw w' h3.2.1, ih (listed.setIfInBounds j true) a' w' hfree' (ready_mono hr (Ne.symm hji)) h3.1 (hsw w' h3.2.1) ?_⟩) h2; rw [Array.setIfInBounds_comm _ _ hji]; exact h3.2.2

def segT (ops : Array Oper) (t : Nat) : List Nat → Array Bool → Bool
  | [], _ => true
  | i :: r, listed => (Region.ready .any ops listed).contains i && Region.free .any ops listed i && waitsB ops t i && (t != i) && (listed.getD t true == false) && segT ops t r (listed.setIfInBounds i true)
def segU (ops : Array Oper) (t : Nat) : List Nat → Array Bool → Bool
  | [], _ => true
  | i :: r, listed => (Region.ready .any ops listed).contains i && Region.free .any ops listed i && (t != i) && segU ops t r (listed.setIfInBounds i true)
theorem till_seg (hs : Region.noSelect ops = true) (hQ : ∀ d v c a w, Q (.panic c) (a.put d v) w → Q (.panic c) a w) :
    ∀ (idx : List Nat) (q : List Oper) (fuel : Nat) (listed : Array Bool) (a : Act) (w : World), idx.map (fun i => ops[i]?) = q.map some → segT ops t idx listed = true → q.all pureKind = true → C w →
      wpQuiet P ops C (fun a' => wpAnyT P ops Q t C fuel (segL idx listed) a' w) q a → wpAnyT P ops Q t C (fuel + idx.length) listed a w := by
  intro idx
  induction idx with
  | nil =>
    intro q fuel listed a w hm _ _ _ h
    cases q with
    | nil => exact h
    | cons o q => simp at hm
  | cons i idx ih =>
    intro q fuel listed a w hm hB hp hS h
    cases q with
    | nil => simp at hm
    | cons o q =>
      simp only [List.map_cons, List.cons.injEq] at hm; simp only [segT, Bool.and_eq_true, bne_iff_ne, beq_iff_eq] at hB; obtain ⟨⟨⟨⟨⟨b1, b2⟩, b3⟩, b4⟩, b5⟩, b6⟩ := hB; simp only [List.all_cons, Bool.and_eq_true] at hp; unfold wpQuiet at h
      have key : ∀ v, YieldsIf P ops C o v a → wpQuiet P ops C (fun a' => wpAnyT P ops Q t C fuel (segL idx (listed.setIfInBounds i true)) a' w) q (a.put o.dst v) → wpAnyT P ops Q t C (fuel + (i :: idx).length) listed a w := fun v hy hr =>
        wpAnyT_first hm.1 (Region.noSelect_spec hs) (fun c a w h => hQ _ _ c a w h) b3 _ _ _ _ (Region.free_spec hm.1 b2) (by simpa using b1) b5 b4 hy hS (ih q fuel _ _ w hm.2 b6 hp.2 hS hr)
      by_cases hw : Region.wanted o (yielded ops a.tmps) = true
      · rw [if_pos hw] at h
        obtain ⟨v, h1, h2⟩ := h; exact key v (yieldsIf_of_quiet hp.1 hS hw h1) h2
      · rw [if_neg hw] at h
        exact key undef (.inr ⟨by simpa using hw, rfl⟩) h
theorem till_segU (hs : Region.noSelect ops = true) (hQ : ∀ d v c a w, Q (.panic c) (a.put d v) w → Q (.panic c) a w) :
    ∀ (idx : List Nat) (q : List Oper) (fuel : Nat) (listed : Array Bool) (a : Act) (w : World), idx.map (fun i => ops[i]?) = q.map some → segU ops t idx listed = true → q.all pureKind = true → C w →
      wpQuiet P ops (fun _ => True) (fun a' => wpAnyT P ops Q t C fuel (segL idx listed) a' w) q a → wpAnyT P ops Q t C (fuel + idx.length) listed a w := by
  intro idx
  induction idx with
  | nil =>
    intro q fuel listed a w hm _ _ _ h
    cases q with
    | nil => exact h
    | cons o q => simp at hm
  | cons i idx ih =>
    intro q fuel listed a w hm hB hp hS h
    cases q with
    | nil => simp at hm
    | cons o q =>
      simp only [List.map_cons, List.cons.injEq] at hm; simp only [segU, Bool.and_eq_true, bne_iff_ne] at hB; obtain ⟨⟨⟨b1, b2⟩, b4⟩, b6⟩ := hB; simp only [List.all_cons, Bool.and_eq_true] at hp; unfold wpQuiet at h
      have key : ∀ v, YieldsIf P ops (fun _ => True) o v a → wpQuiet P ops (fun _ => True) (fun a' => wpAnyT P ops Q t C fuel (segL idx (listed.setIfInBounds i true)) a' w) q (a.put o.dst v) → wpAnyT P ops Q t C (fuel + (i :: idx).length) listed a w := fun v hy hr =>
        wpAnyT_free hm.1 (Region.noSelect_spec hs) (fun c a w h => hQ _ _ c a w h) b4 _ _ _ _ (Region.free_spec hm.1 b2) (by simpa using b1) hy (fun _ => hS) (ih q fuel _ _ w hm.2 b6 hp.2 hS hr)
      by_cases hw : Region.wanted o (yielded ops a.tmps) = true
      · rw [if_pos hw] at h
        obtain ⟨v, h1, h2⟩ := h; exact key v (yieldsIf_of_quiet (w0 := w) hp.1 trivial hw h1) h2
      · rw [if_neg hw] at h
        exact key undef (.inr ⟨by simpa using hw, rfl⟩) h
theorem till_take {l : List Oper} {listed : Array Bool} {a : Act} {w : World} (idx : List Nat) (fuel : Nat) (hs : Region.noSelect l.toArray = true) (hQ : ∀ d v c a w, Q (.panic c) (a.put d v) w → Q (.panic c) a w)
    (hb : idx.all (· < l.length) = true) (hB : segT l.toArray t idx listed = true) (hp : (pickL l idx).all pureKind = true) (hS : C w)
    (h : wpQuiet P l.toArray C (fun a' => wpAnyT P l.toArray Q t C fuel (segL idx listed) a' w) (pickL l idx) a) : wpAnyT P l.toArray Q t C (fuel + idx.length) listed a w :=
  till_seg hs hQ idx _ fuel listed a w (pickL_map idx hb) hB hp hS h
theorem till_free {l : List Oper} {listed : Array Bool} {a : Act} {w : World} (idx : List Nat) (fuel : Nat) (hs : Region.noSelect l.toArray = true) (hQ : ∀ d v c a w, Q (.panic c) (a.put d v) w → Q (.panic c) a w)
    (hb : idx.all (· < l.length) = true) (hB : segU l.toArray t idx listed = true) (hp : (pickL l idx).all pureKind = true) (hS : C w)
    (h : wpQuiet P l.toArray (fun _ => True) (fun a' => wpAnyT P l.toArray Q t C fuel (segL idx listed) a' w) (pickL l idx) a) : wpAnyT P l.toArray Q t C (fuel + idx.length) listed a w :=
  till_segU hs hQ idx _ fuel listed a w (pickL_map idx hb) hB hp hS h
theorem till_call {i fuel : Nat} {o : Oper} {listed : Array Bool} {a : Act} {w : World} (hr : Region.ready .any ops listed = [i]) (ho : ops[i]? = some o)
    (h : wpList P ops (Mid (fun a' w' => ((listed.setIfInBounds i true).getD t true = false → C w') ∧ wpAnyT P ops Q t C fuel (listed.setIfInBounds i true) a' w') Q) [o] a w) : wpAnyT P ops Q t C (fuel + 1) listed a w := by
  refine ⟨fun h0 => (by rw [hr] at h0; cases h0), fun j hj => ?_⟩; rw [hr] at hj; obtain rfl : j = i := by simpa using hj
  unfold wpOp; simp only [ho]; unfold wpList at h
  split
  · rename_i hw
    rw [if_pos hw] at h
    rcases h with h | ⟨h1, a2, w2, h2⟩
    · exact .inl (upon_mid h)
    · exact .inr ⟨h1, a2, w2, h2⟩
  · rename_i hw
    rw [if_neg hw] at h; exact h
theorem till_one {l : List Oper} {listed : Array Bool} {a : Act} {w : World} (i fuel : Nat) (hb : decide (i < l.length) = true) (hr : Region.ready .any l.toArray listed = [i])
    (h : wpList P l.toArray (Mid (fun a' w' => ((listed.setIfInBounds i true).getD t true = false → C w') ∧ wpAnyT P l.toArray Q t C fuel (listed.setIfInBounds i true) a' w') Q) (pickL l [i]) a w) : wpAnyT P l.toArray Q t C (fuel + 1) listed a w := by
  have hi : i < l.length := of_decide_eq_true hb; exact till_call (o := l.getD i noOp) hr (by rw [List.getD_eq_getElem?_getD, List.getElem?_eq_getElem hi]; simp [hi]) h
theorem till_last {l : List Oper} {listed : Array Bool} {a : Act} {w : World} (hr : Region.ready .any l.toArray listed = []) (h : Q .normal a w) : wpAnyT P l.toArray Q t C 0 listed a w := ⟨hr, h⟩
theorem till_begin {id : Nat} {a : Act} {w : World} {l : List Oper} (hm : P.follows .mixedOrders = true) (n : Nat) (hn : l.length = n)
    (h : wpAnyT P l.toArray Q t C n (Array.replicate n false) a w.drew) : (Code.region id l.toArray true).wp P Q a w := by
  refine wp_region_any hm (wpAny_of_t (t := t) (C := C) _ _ _ _ ?_); have e : l.toArray.size = n := by simpa using hn
  rw [e]; exact h

end
end Tt
