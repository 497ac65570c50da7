/- Chapters 5, 6, 14 (plain): the zigzag; tables and heads as bytes. | Chapter 14 (plain): what bytes are read as; there and back. | A drawn region with calls in a row: what only reads is taken first, in one walk; then a call; and so on. | Rows that are owned, of elements of more cells; worlds in which a cell holds a value. | A drawn region with calls that write: what only reads is taken first, as long as one later operation waits for it. -/
import Derived.Test.YtpjopeojeglogaaCs00
import Derived.Deep.RegionHeld
namespace Go.Proofs.Ytpjopeojeglogaa
open Go.RowKit Tt
set_option linter.unusedVariables false

/-- the places of a block as the zigzag goes over them; and of each place its step -/
def zzL : List Nat := [0, 1, 8, 16, 9, 2, 3, 10, 17, 24, 32, 25, 18, 11, 4, 5, 12, 19, 26, 33, 40, 48, 41, 34, 27, 20, 13, 6, 7, 14, 21, 28, 35, 42, 49, 56, 57, 50, 43, 36, 29, 22, 15, 23, 30, 37, 44, 51, 58, 59, 52, 45, 38, 31, 39, 46, 53, 60, 61, 54, 47, 55, 62, 63]
def zzI : List Nat := (List.range 64).map fun i => zzL.idxOf i
theorem zzL_len : zzL.length = 64 := rfl
theorem zzI_len : zzI.length = 64 := by simp [zzI]
theorem zz_lt : ∀ i, i < 64 → zzL.getD i 0 < 64 ∧ zzI.getD i 0 < 64 ∧ zzI.getD (zzL.getD i 0) 0 = i ∧ zzL.getD (zzI.getD i 0) 0 = i := by decide +kernel
/-- a block in zigzag order, and back -/
def toZ (t : List Int) : List Int := zzL.map fun i => t.getD i 0
def frZ (t : List Int) : List Int := zzI.map fun i => t.getD i 0
theorem toZ_len (t : List Int) : (toZ t).length = 64 := by simp [toZ, zzL_len]
theorem frZ_len (t : List Int) : (frZ t).length = 64 := by simp [frZ, zzI_len]
theorem toZ_get (t : List Int) {i : Nat} (h : i < 64) : (toZ t).getD i 0 = t.getD (zzL.getD i 0) 0 := by
  unfold toZ; simp only [List.getD_eq_getElem?_getD, List.getElem?_map]; rw [List.getElem?_eq_getElem (show i < zzL.length by rw [zzL_len]; exact h)]
  rfl
theorem frZ_get (t : List Int) {i : Nat} (h : i < 64) : (frZ t).getD i 0 = t.getD (zzI.getD i 0) 0 := by
  unfold frZ; simp only [List.getD_eq_getElem?_getD, List.getElem?_map]; rw [List.getElem?_eq_getElem (show i < zzI.length by rw [zzI_len]; exact h)]
  rfl
theorem ext64 {x y : List Int} (hx : x.length = 64) (hy : y.length = 64) (h : ∀ i, i < 64 → x.getD i 0 = y.getD i 0) : x = y := by
  apply List.ext_getElem (by omega)
  intro i h1 h2; have := h i (by omega)
  rwa [List.getD_eq_getElem?_getD, List.getElem?_eq_getElem h1, List.getD_eq_getElem?_getD, List.getElem?_eq_getElem h2] at this
theorem frZ_toZ {t : List Int} (h : t.length = 64) : frZ (toZ t) = t :=
  ext64 (frZ_len _) h fun i hi => by rw [frZ_get _ hi, toZ_get _ (zz_lt i hi).2.1, (zz_lt i hi).2.2.2]
theorem mem_get {t : List Int} {x : Int} (h : x ∈ t) : ∃ i, i < t.length ∧ t.getD i 0 = x := by
  obtain ⟨i, hi, rfl⟩ := List.mem_iff_getElem.1 h; exact ⟨i, hi, by rw [List.getD_eq_getElem?_getD, List.getElem?_eq_getElem hi]; rfl⟩
theorem get_mem {t : List Int} {i : Nat} (h : i < t.length) : t.getD i 0 ∈ t := by
  rw [List.getD_eq_getElem?_getD, List.getElem?_eq_getElem h]; exact List.getElem_mem h
theorem mem_toZ {t : List Int} (h : t.length = 64) {x : Int} : x ∈ toZ t ↔ x ∈ t := by
  constructor
  · intro hx
    obtain ⟨i, hi, rfl⟩ := mem_get hx; rw [toZ_len] at hi; rw [toZ_get _ hi]; exact get_mem (by rw [h]; exact (zz_lt i hi).1)
  · intro hx
    rw [← frZ_toZ h] at hx; obtain ⟨i, hi, rfl⟩ := mem_get hx; rw [frZ_len] at hi; rw [frZ_get _ hi]; exact get_mem (by rw [toZ_len]; exact (zz_lt i hi).2.1)
end Go.Proofs.Ytpjopeojeglogaa

namespace Go.Proofs.Ytpjopeojeglogaa
open Go.RowKit Tt
set_option linter.unusedVariables false

def nB (b : List Int) (i : Nat) : Nat := (b.getD i 0).toNat
end Go.Proofs.Ytpjopeojeglogaa

namespace Tt
open Go Go.RowKit
set_option linter.unusedVariables false

/-- What hands on a value and does nothing else, or stops. -/
def pureKind (o : Oper) : Bool :=
  match o.op with
  | .move _ | .assign _ | .pick .. | .build .. | .load .. | .binOp .. | .unOp .. | .fieldAddr .. | .field .. | .indexAddr .. | .index .. | .extract .. | .slice .. | .convert .. | .makeInterface .. | .makeFunc .. | .lookup .. | .nilCheck _ => true
  | .call c => match c.callee with | .builtin .len => true | .builtin .max => true | .builtin .min => true | _ => false
  | _ => false

theorem run_v {P : Program} {s : Sem Value} {w w' : World} {n : Next} (h : ((do pure (Next.value (← s))) : Sem Next).run P w = .ok n w') : ∃ v, n = .value v := by
  rw [Sem.run_bind] at h
  cases hs : s.run P w with
  | ok v w1 =>
    rw [hs] at h; simp only [Result.andThen, Sem.run_pure] at h; injection h with h1 h2; exact ⟨v, h1.symm⟩
  | halt x w1 =>
    rw [hs] at h; simp only [Result.andThen] at h
    cases h

theorem pure_value {P : Program} {o : Oper} {ρ : Operand → Value} {w w' : World} {n : Next} (hp : pureKind o = true) (h : (execOp ρ o).run P w = .ok n w') : ∃ v, n = .value v := by
  unfold pureKind at hp; unfold execOp at h
  cases ho : o.op <;> rw [ho] at hp h <;> first
    | exact absurd (show false = true from hp) Bool.false_ne_true
    | exact run_v h
    | (dsimp only at h; exact run_v h)
    | (dsimp only at h; rw [Sem.run_pure] at h; injection h with h1 _; exact ⟨_, h1.symm⟩)
    | (dsimp only at h
       rw [Sem.run_bind] at h
       revert h
       generalize (asBool (ρ _)).run P w = r
       intro h
       cases r with
       | ok v w1 => simp only [Result.andThen, Sem.run_pure] at h; injection h with h1 _; exact ⟨_, h1.symm⟩
       | halt x w1 => simp only [Result.andThen] at h; cases h)
    | skip
  case nilCheck x =>
    dsimp only at h
    have rp : ∀ (w w' : World) (n : Next), (runtimePanic .nilDeref : Sem Next).run P w = .ok n w' → ∃ v, n = .value v := by
      intro w w' n h
      simp [runtimePanic, go_sem] at h
    split at h
    · exact rp _ _ _ h
    · exact rp _ _ _ h
    · exact rp _ _ _ h
    · split at h
      · exact rp _ _ _ h
      · rw [Sem.run_bind] at h
        revert h
        generalize (program : Sem Program).run P w = r0
        intro h
        cases r0 with
        | halt x w1 => simp only [Result.andThen] at h; cases h
        | ok p w1 =>
          simp only [Result.andThen] at h; rw [Sem.run_bind] at h
          revert h
          generalize Sem.run P _ w1 = r1
          intro h
          cases r1 with
          | halt x w2 => simp only [Result.andThen] at h; cases h
          | ok q w2 =>
            simp only [Result.andThen] at h
            split at h
            · rw [Sem.run_bind] at h
              simp [unsupported, go_sem] at h
            · simp [go_sem] at h
              exact ⟨_, h.1.symm⟩
      · rw [Sem.run_pure] at h; injection h with h1 _; exact ⟨_, h1.symm⟩
    · rw [Sem.run_pure] at h; injection h with h1 _; exact ⟨_, h1.symm⟩
  rename_i c
  obtain ⟨callee, ars, ats⟩ := c
  cases callee with
  | builtin b =>
    dsimp only at h
    simp only [resolve, Sem.run_bind, Sem.run_pure, Result.andThen_ok, invoke] at h
    cases b <;> first
      | exact absurd (show false = true from hp) Bool.false_ne_true
      | exact run_v h
  | invoke r n => exact absurd (show false = true from hp) Bool.false_ne_true
  | value f => exact absurd (show false = true from hp) Bool.false_ne_true

section
variable {P : Program} {ops : Array Oper} {Q : Exit → Act → World → Prop} {S : World → Prop}
theorem yieldsIf_of_quiet {o : Oper} {a : Act} {v : Value} {w0 : World} (hp : pureKind o = true) (h0 : S w0) (hw : Region.wanted o (yielded ops a.tmps) = true) (h : ∀ w, S w → o.quietAt P a S w v) : YieldsIf P ops S o v a := by
  refine .inl ⟨hw, fun w hS => ?_⟩; have h1 := h w hS; unfold Oper.quietAt at h1
  cases hr : (execOp a.eval o).run P w with
  | ok n w' =>
    obtain ⟨u, rfl⟩ := pure_value hp hr; rw [hr] at h1; simp only [Oper.quietUpon] at h1; rw [h1.1, h1.2]
  | halt x w' =>
    rw [hr] at h1; simp only [Oper.quietUpon] at h1

def segB (ops : Array Oper) : List Nat → Array Bool → Bool
  | [], _ => true
  | i :: r, listed => (Region.ready .any ops listed).contains i && Region.free .any ops listed i && segB ops r (listed.setIfInBounds i true)
def segL : List Nat → Array Bool → Array Bool
  | [], listed => listed
  | i :: r, listed => segL r (listed.setIfInBounds i true)

/-- What only reads is taken first, in one walk. -/
theorem held_seg (hs : Region.noSelect ops = true) (hQ : ∀ d v c a w, Q (.panic c) (a.put d v) w → Q (.panic c) a w) :
    ∀ (idx : List Nat) (q : List Oper) (fuel : Nat) (listed : Array Bool) (a : Act) (w : World), idx.map (fun i => ops[i]?) = q.map some → segB ops idx listed = true → q.all pureKind = true → S w →
      wpQuiet P ops S (fun a' => wpAnyH P .any ops Q S fuel (segL idx listed) a' w) q a → wpAnyH P .any ops Q S (fuel + idx.length) listed a w := by
  intro idx
  induction idx with
  | nil =>
    intro q fuel listed a w hm _ _ _ h
    cases q with
    | nil => exact h
    | cons o q => simp at hm
  | cons i idx ih =>
    intro q fuel listed a w hm hB hp hS h
    cases q with
    | nil => simp at hm
    | cons o q =>
      simp only [List.map_cons, List.cons.injEq] at hm; simp only [segB, Bool.and_eq_true] at hB; simp only [List.all_cons, Bool.and_eq_true] at hp; unfold wpQuiet at h
      have key : ∀ v, YieldsIf P ops S o v a → wpQuiet P ops S (fun a' => wpAnyH P .any ops Q S fuel (segL idx (listed.setIfInBounds i true)) a' w) q (a.put o.dst v) → wpAnyH P .any ops Q S (fuel + (i :: idx).length) listed a w := fun v hy hr =>
        wpAnyH_take hm.1 hs hB.1.2 hB.1.1 (fun c a w h => hQ _ _ c a w h) hy hS (ih q fuel _ _ w hm.2 hB.2 hp.2 hS hr)
      by_cases hw : Region.wanted o (yielded ops a.tmps) = true
      · rw [if_pos hw] at h
        obtain ⟨v, h1, h2⟩ := h; exact key v (yieldsIf_of_quiet hp.1 hS hw h1) h2
      · rw [if_neg hw] at h
        exact key undef (.inr ⟨by simpa using hw, rfl⟩) h

/-- The post of one operation in the midst of a region. -/
def Mid (K : Act → World → Prop) (Q : Exit → Act → World → Prop) : Exit → Act → World → Prop
  | .normal, a, w => K a w
  | .exit i, a, w => Q (.exit i) a w
  | .goto l, a, w => Q (.goto l) a w
  | .ret, a, w => Q .ret a w
  | .panic c, a, w => Q (.panic c) a w
  | .outgrown, a, w => Q .outgrown a w
theorem Mid.mk {K : Act → World → Prop} {Q : Exit → Act → World → Prop} {a : Act} {w : World} (h : K a w) : Mid K Q .normal a w := h

theorem upon_mid {o : Oper} {a : Act} {K K' : Act → World → Prop} {r : Result Next} (h : o.upon P a K (Mid K' Q) r) : o.upon P a K Q r := by
  cases r with
  | ok n w' =>
    cases n <;> first
      | exact h
      | (simp only [Oper.upon] at h ⊢
         refine Calls.mono h ?_; intro e w'' he
         cases e with
         | returned v => exact he
         | panicked c => exact he
         | outgrown => obtain ⟨a, w, h2⟩ := he; exact ⟨a, w, h2⟩)
  | halt x w' => cases x <;> exact h

/-- One operation, when nothing else may come up. -/
theorem held_call {i fuel : Nat} {o : Oper} {listed : Array Bool} {a : Act} {w : World} (hr : Region.ready .any ops listed = [i]) (ho : ops[i]? = some o)
    (h : wpList P ops (Mid (fun a' w' => S w' ∧ wpAnyH P .any ops Q S fuel (listed.setIfInBounds i true) a' w') Q) [o] a w) : wpAnyH P .any ops Q S (fuel + 1) listed a w := by
  refine wpAnyH_all hr (by simp) fun j hj => ?_; obtain rfl : j = i := by simpa using hj
  unfold wpOp; simp only [ho]; unfold wpList at h
  split
  · rename_i hw
    rw [if_pos hw] at h
    rcases h with h | ⟨h1, a2, w2, h2⟩
    · exact .inl (upon_mid h)
    · exact .inr ⟨h1, a2, w2, h2⟩
  · rename_i hw
    rw [if_neg hw] at h; exact h

def noOp : Oper := { dst := none, op := .move (.const undef), type := 0, pos := "", after := #[], guard := none }
def pickL (l : List Oper) (idx : List Nat) : List Oper := idx.map fun i => l.getD i noOp
theorem pickL_map {l : List Oper} : ∀ (idx : List Nat), idx.all (· < l.length) = true → idx.map (fun i => l.toArray[i]?) = (pickL l idx).map some
  | [], _ => rfl
  | i :: idx, h => by
    simp only [List.all_cons, Bool.and_eq_true, decide_eq_true_eq] at h; have ih := pickL_map (l := l) idx h.2; unfold pickL at ih ⊢; rw [List.map_cons, ih, List.map_cons, List.map_cons, List.getD_eq_getElem?_getD, List.getElem?_eq_getElem h.1]
    simp [h.1]
theorem held_take {l : List Oper} {listed : Array Bool} {a : Act} {w : World} (idx : List Nat) (fuel : Nat) (hs : Region.noSelect l.toArray = true) (hQ : ∀ d v c a w, Q (.panic c) (a.put d v) w → Q (.panic c) a w)
    (hb : idx.all (· < l.length) = true) (hB : segB l.toArray idx listed = true) (hp : (pickL l idx).all pureKind = true) (hS : S w)
    (h : wpQuiet P l.toArray S (fun a' => wpAnyH P .any l.toArray Q S fuel (segL idx listed) a' w) (pickL l idx) a) : wpAnyH P .any l.toArray Q S (fuel + idx.length) listed a w := by
  exact held_seg hs hQ idx _ fuel listed a w (pickL_map idx hb) hB hp hS h

theorem held_one {l : List Oper} {listed : Array Bool} {a : Act} {w : World} (i fuel : Nat) (hb : decide (i < l.length) = true) (hr : Region.ready .any l.toArray listed = [i])
    (h : wpList P l.toArray (Mid (fun a' w' => S w' ∧ wpAnyH P .any l.toArray Q S fuel (listed.setIfInBounds i true) a' w') Q) (pickL l [i]) a w) : wpAnyH P .any l.toArray Q S (fuel + 1) listed a w := by
  have hi : i < l.length := of_decide_eq_true hb; refine held_call (o := l.getD i noOp) hr (by rw [List.getD_eq_getElem?_getD, List.getElem?_eq_getElem hi]; simp [hi]) h
theorem held_two {l : List Oper} {listed : Array Bool} {a : Act} {w : World} (i j fuel : Nat) (hb : (decide (i < l.length) && decide (j < l.length)) = true) (hr : Region.ready .any l.toArray listed = [i, j])
    (h : wpList P l.toArray (Mid (fun a' w' => S w' ∧ wpAnyH P .any l.toArray Q S fuel (listed.setIfInBounds i true) a' w') Q) (pickL l [i]) a w)
    (h2 : wpList P l.toArray (Mid (fun a' w' => S w' ∧ wpAnyH P .any l.toArray Q S fuel (listed.setIfInBounds j true) a' w') Q) (pickL l [j]) a w) : wpAnyH P .any l.toArray Q S (fuel + 1) listed a w := by
  simp only [Bool.and_eq_true, decide_eq_true_eq] at hb
  have key : ∀ k (o : Oper), l.toArray[k]? = some o → wpList P l.toArray (Mid (fun a' w' => S w' ∧ wpAnyH P .any l.toArray Q S fuel (listed.setIfInBounds k true) a' w') Q) [o] a w → wpOp P l.toArray Q k (fun a' w' => S w' ∧ wpAnyH P .any l.toArray Q S fuel (listed.setIfInBounds k true) a' w') a w := fun k o ho h => by
    unfold wpOp; simp only [ho]; unfold wpList at h
    split
    · rename_i hw
      rw [if_pos hw] at h
      rcases h with h | ⟨h1, a2, w2, h2⟩
      · exact .inl (upon_mid h)
      · exact .inr ⟨h1, a2, w2, h2⟩
    · rename_i hw
      rw [if_neg hw] at h; exact h
  refine wpAnyH_all hr (by simp) fun k hk => ?_; simp only [List.mem_cons, List.not_mem_nil, or_false] at hk
  rcases hk with rfl | rfl
  · exact key _ (l.getD k noOp) (by rw [List.getD_eq_getElem?_getD, List.getElem?_eq_getElem hb.1]; simp [hb.1]) h
  · exact key _ (l.getD k noOp) (by rw [List.getD_eq_getElem?_getD, List.getElem?_eq_getElem hb.2]; simp [hb.2]) h2
theorem held_last {l : List Oper} {listed : Array Bool} {a : Act} {w : World} (hr : Region.ready .any l.toArray listed = []) (h : Q .normal a w) : wpAnyH P .any l.toArray Q S 0 listed a w := wpAnyH_done hr h 0

theorem held_begin {id : Nat} {a : Act} {w : World} {l : List Oper} (hm : P.follows .mixedOrders = true) (n : Nat) (hn : l.length = n)
    (h : wpAnyH P .any l.toArray Q S n (Array.replicate n false) a w.drew) : (Code.region id l.toArray true).wp P Q a w := by
  refine wp_region_held (S := S) hm ?_; have e : l.toArray.size = n := by simpa using hn
  rw [e]; exact h
end
end Tt

namespace Tt
open Go Go.RowKit
set_option linter.unusedVariables false

theorem own_put {w : World} {B : Nat} {E : TypeId} {sz g n c m : Nat} {xs : List Value} (h : w.ownsRow B E sz (.slice (some ⟨g, 0, none⟩) n c) m xs) (i : Nat) (u : Value) : (w.setCell ⟨g, i, none⟩ u).ownsRow B E sz (.slice (some ⟨g, 0, none⟩) n c) m (xs.set i u) := by
  obtain ⟨hl, hr⟩ := h; refine ⟨by rw [List.length_set]; exact hl, ?_⟩
  rcases hr with ⟨hv, _⟩ | ⟨g', cap, cur, hv, hB, hg, hnc, hcm, hcs, htk⟩
  · cases hv
  · injection hv with h1 h2 h3
    injection h1 with h1; injection h1 with h1; subst h1; refine .inr ⟨g, cap, cur.setIfInBounds i u, by rw [h2, h3], hB, by simp [World.setCell, Array.getElem?_modify, hg], hnc, hcm, by simp [hcs], ?_⟩; rw [← htk]
    simp [List.take_set]
theorem own_at {w : World} {B : Nat} {E : TypeId} {sz : Nat} {a : Option Addr} {n c m : Nat} {xs : List Value} (h : w.ownsRow B E sz (.slice a n c) m xs) {i : Nat} (hi : i < n) :
    ∃ g, a = some ⟨g, 0, none⟩ ∧ B ≤ g ∧ g < w.heap.size ∧ (∀ j, w.frozen? ⟨g, j, none⟩ = false) ∧ ∀ j v, xs[j]? = some v → w.cell? ⟨g, j, none⟩ = some v := by
  obtain ⟨hs, hm⟩ := Sl.of_own h; subst hm; obtain ⟨b, off, rfl, hlt, hc⟩ := hs.at hi
  rcases h.2 with ⟨hv, _⟩ | ⟨g, cap, cur, hv, hB, hg, _⟩
  · cases hv
  · injection hv with h1 h2 h3
    injection h1 with h1; injection h1 with h1 h4; subst h1 h4; exact ⟨b, rfl, hB, hlt, fun j => by simp [World.frozen?, hg], fun j v hj => by have := hc j v hj; rwa [Nat.zero_add] at this⟩
end Tt

namespace Tt
open Go Go.RowKit
set_option linter.unusedVariables false

section
variable {P : Program} {ops : Array Oper} {Q : Exit → Act → World → Prop} {t : Nat} {C : World → Prop}
/-- Whatever order is picked from here on; C holds behind every operation, till number t has come up. -/
def wpAnyT (P : Program) (ops : Array Oper) (Q : Exit → Act → World → Prop) (t : Nat) (C : World → Prop) : Nat → Array Bool → Act → World → Prop
  | 0, listed, a, w => Region.ready .any ops listed = [] ∧ Q .normal a w
  | fuel + 1, listed, a, w =>
    (Region.ready .any ops listed = [] → Q .normal a w) ∧
    ∀ i ∈ Region.ready .any ops listed, wpOp P ops Q i (fun a' w' => ((listed.setIfInBounds i true).getD t true = false → C w') ∧ wpAnyT P ops Q t C fuel (listed.setIfInBounds i true) a' w') a w
theorem wpAny_of_t : ∀ (fuel : Nat) (listed : Array Bool) (a : Act) (w : World), wpAnyT P ops Q t C fuel listed a w → wpAny P .any ops Q fuel listed a w
  | 0, _, _, _, h => h
  | fuel + 1, _, _, _, h => ⟨h.1, fun i hi => wpOp_mono (fun a' w' h' => wpAny_of_t fuel _ a' w' h'.2) (h.2 i hi)⟩
/-- does t wait for i? -/
def waitsB (ops : Array Oper) (t i : Nat) : Bool := match ops[t]? with
  | some o => o.after.any fun e => Region.binds .any e && e.on == i
  | none => false
theorem not_ready_of_waits {i : Nat} {listed : Array Bool} (hw : waitsB ops t i = true) (hr : i ∈ Region.ready .any ops listed) : t ∉ Region.ready .any ops listed := fun ht => by
  obtain ⟨hun, ot, hot, hall⟩ := mem_ready.1 ht; unfold waitsB at hw; rw [hot] at hw; simp only [Array.any_eq_true, Bool.and_eq_true, beq_iff_eq] at hw; obtain ⟨k, hk, hb, he⟩ := hw; have h1 := hall ot.after[k] (Array.getElem_mem hk) hb; have h0 := (mem_ready.1 hr).1; rw [he] at h1
  rcases Nat.lt_or_ge i listed.size with h' | h'
  · simp [h'] at h0 h1; rw [h0] at h1; cases h1
  · simp [Array.getElem?_eq_none h'] at h1

theorem wpAnyT_first {i : Nat} {oi : Oper} {v : Value} (hi : ops[i]? = some oi) (hsel : ∀ (j : Nat) (o : Oper) cs b, ops[j]? = some o → o.op ≠ .select cs b)
    (hQ : ∀ c a w, Q (.panic c) (a.put oi.dst v) w → Q (.panic c) a w) (hwt : waitsB ops t i = true) :
    ∀ (fuel : Nat) (listed : Array Bool) (a : Act) (w : World),
      (∀ j oj, ops[j]? = some oj → j ≠ i → listed.getD j true = false → (∀ e ∈ oj.after, Region.binds .any e = true → e.on ≠ i) → oi.apart ops oj = true) →
      i ∈ Region.ready .any ops listed → listed.getD t true = false → t ≠ i → YieldsIf P ops C oi v a → C w →
      wpAnyT P ops Q t C fuel (listed.setIfInBounds i true) (a.put oi.dst v) w → wpAnyT P ops Q t C (fuel + 1) listed a w := by
  intro fuel
  induction fuel with
  | zero =>
    intro listed a w _ hr ht hti hy hS H; refine ⟨fun h => (by rw [h] at hr; cases hr), fun j hj => ?_⟩
    by_cases hji : j = i
    · subst hji; exact hy.wpOp hi hS ⟨fun _ => hS, H⟩
    · have := ready_mono hj hji
      rw [H.1] at this
      cases this
  | succ fuel ih =>
    intro listed a w hfree hr ht hti hy hS H; refine ⟨fun h => (by rw [h] at hr; cases hr), fun j hj => ?_⟩
    by_cases hji : j = i
    · subst hji; exact hy.wpOp hi hS ⟨fun _ => hS, H⟩
    · have hjt : j ≠ t := by rintro rfl; exact not_ready_of_waits hwt hr hj
      have h1 := H.2 j (ready_mono hj hji); obtain ⟨hjun, oj, hoj, hall⟩ := mem_ready.1 hj
      have hnot : ∀ e ∈ oj.after, Region.binds .any e = true → e.on ≠ i := fun e he hb heq => by
        have h1 := hall e he hb; have h0 := (mem_ready.1 hr).1; rw [heq] at h1
        rcases Nat.lt_or_ge i listed.size with h' | h'
        · simp [h'] at h0 h1; rw [h0] at h1; cases h1
        · simp [Array.getElem?_eq_none h'] at h1
      have h2 := wpOp_putIf hoj (hfree j oj hoj hji hjun hnot) (fun cs b => hsel i oi cs b hi) (fun cs b => hsel j oj cs b hoj) hQ hy h1
      have hfree' : ∀ k ok, ops[k]? = some ok → k ≠ i → (listed.setIfInBounds j true).getD k true = false →
          (∀ e ∈ ok.after, Region.binds .any e = true → e.on ≠ i) → oi.apart ops ok = true := fun k ok hk hki hun hno => by
        refine hfree k ok hk hki ?_ hno
        by_cases hjk : j = k
        · subst hjk; exact hjun
        · rw [getD_set_ne true hjk] at hun; exact hun
      have ht2 : (listed.setIfInBounds j true).getD t true = false := by rw [getD_set_ne true hjt]; exact ht
      have ht3 : ((listed.setIfInBounds i true).setIfInBounds j true).getD t true = false := by rw [getD_set_ne true hjt, getD_set_ne true (Ne.symm hti)]; exact ht
      refine wpOp_mono (fun a' w' h3 => ⟨fun _ => h3.2.1 ht3, ih (listed.setIfInBounds j true) a' w' hfree' (ready_mono hr (Ne.symm hji)) ht2 hti h3.1 (h3.2.1 ht3) ?_⟩) h2; rw [Array.setIfInBounds_comm _ _ hji]; exact h3.2.2
/-- the same for what yields in every world -/
theorem wpAnyT_free {i : Nat} {oi : Oper} {v : Value} (hi : ops[i]? = some oi) (hsel : ∀ (j : Nat) (o : Oper) cs b, ops[j]? = some o → o.op ≠ .select cs b)
    (hQ : ∀ c a w, Q (.panic c) (a.put oi.dst v) w → Q (.panic c) a w) (hti : t ≠ i) :
    ∀ (fuel : Nat) (listed : Array Bool) (a : Act) (w : World),
      (∀ j oj, ops[j]? = some oj → j ≠ i → listed.getD j true = false → (∀ e ∈ oj.after, Region.binds .any e = true → e.on ≠ i) → oi.apart ops oj = true) →
      i ∈ Region.ready .any ops listed → YieldsIf P ops (fun _ => True) oi v a → (listed.getD t true = false → C w) →
      wpAnyT P ops Q t C fuel (listed.setIfInBounds i true) (a.put oi.dst v) w → wpAnyT P ops Q t C (fuel + 1) listed a w := by
  intro fuel
  induction fuel with
  | zero =>
    intro listed a w _ hr hy hS H; refine ⟨fun h => (by rw [h] at hr; cases hr), fun j hj => ?_⟩
    by_cases hji : j = i
    · subst hji; exact hy.wpOp hi trivial ⟨fun h => hS (by rwa [getD_set_ne true (Ne.symm hti)] at h), H⟩
    · have := ready_mono hj hji
      rw [H.1] at this
      cases this
  | succ fuel ih =>
    intro listed a w hfree hr hy hS H; refine ⟨fun h => (by rw [h] at hr; cases hr), fun j hj => ?_⟩
    by_cases hji : j = i
    · subst hji; exact hy.wpOp hi trivial ⟨fun h => hS (by rwa [getD_set_ne true (Ne.symm hti)] at h), H⟩
    · have h1 := H.2 j (ready_mono hj hji)
      obtain ⟨hjun, oj, hoj, hall⟩ := mem_ready.1 hj
      have hnot : ∀ e ∈ oj.after, Region.binds .any e = true → e.on ≠ i := fun e he hb heq => by
        have h1 := hall e he hb; have h0 := (mem_ready.1 hr).1; rw [heq] at h1
        rcases Nat.lt_or_ge i listed.size with h' | h'
        · simp [h'] at h0 h1; rw [h0] at h1; cases h1
        · simp [Array.getElem?_eq_none h'] at h1
      have h2 := wpOp_putIf hoj (hfree j oj hoj hji hjun hnot) (fun cs b => hsel i oi cs b hi) (fun cs b => hsel j oj cs b hoj) hQ hy h1
      have hfree' : ∀ k ok, ops[k]? = some ok → k ≠ i → (listed.setIfInBounds j true).getD k true = false →
          (∀ e ∈ ok.after, Region.binds .any e = true → e.on ≠ i) → oi.apart ops ok = true := fun k ok hk hki hun hno => by
        refine hfree k ok hk hki ?_ hno
        by_cases hjk : j = k
        · subst hjk; exact hjun
        · rw [getD_set_ne true hjk] at hun; exact hun
      have hsw : ∀ (w' : World), (((listed.setIfInBounds i true).setIfInBounds j true).getD t true = false → C w') → ((listed.setIfInBounds j true).getD t true = false → C w') := fun w' h h' => h (by
        rw [Array.setIfInBounds_comm _ _ (Ne.symm hji), getD_set_ne true (Ne.symm hti)]; exact h')
      refine wpOp_mono (fun a' w' h3 => ⟨hsw w' h3.2.1, ih (listed.setIfInBounds j true) a' w' hfree' (ready_mono hr (Ne.symm hji)) h3.1 (hsw w' h3.2.1) ?_⟩) h2; rw [Array.setIfInBounds_comm _ _ hji]; exact h3.2.2

def segT (ops : Array Oper) (t : Nat) : List Nat → Array Bool → Bool
  | [], _ => true
  | i :: r, listed => (Region.ready .any ops listed).contains i && Region.free .any ops listed i && waitsB ops t i && (t != i) && (listed.getD t true == false) && segT ops t r (listed.setIfInBounds i true)
def segU (ops : Array Oper) (t : Nat) : List Nat → Array Bool → Bool
  | [], _ => true
  | i :: r, listed => (Region.ready .any ops listed).contains i && Region.free .any ops listed i && (t != i) && segU ops t r (listed.setIfInBounds i true)
theorem till_seg (hs : Region.noSelect ops = true) (hQ : ∀ d v c a w, Q (.panic c) (a.put d v) w → Q (.panic c) a w) :
    ∀ (idx : List Nat) (q : List Oper) (fuel : Nat) (listed : Array Bool) (a : Act) (w : World), idx.map (fun i => ops[i]?) = q.map some → segT ops t idx listed = true → q.all pureKind = true → C w →
      wpQuiet P ops C (fun a' => wpAnyT P ops Q t C fuel (segL idx listed) a' w) q a → wpAnyT P ops Q t C (fuel + idx.length) listed a w := by
  intro idx
  induction idx with
  | nil =>
    intro q fuel listed a w hm _ _ _ h
    cases q with
    | nil => exact h
    | cons o q => simp at hm
  | cons i idx ih =>
    intro q fuel listed a w hm hB hp hS h
    cases q with
    | nil => simp at hm
    | cons o q =>
      simp only [List.map_cons, List.cons.injEq] at hm; simp only [segT, Bool.and_eq_true, bne_iff_ne, beq_iff_eq] at hB; obtain ⟨⟨⟨⟨⟨b1, b2⟩, b3⟩, b4⟩, b5⟩, b6⟩ := hB; simp only [List.all_cons, Bool.and_eq_true] at hp; unfold wpQuiet at h
      have key : ∀ v, YieldsIf P ops C o v a → wpQuiet P ops C (fun a' => wpAnyT P ops Q t C fuel (segL idx (listed.setIfInBounds i true)) a' w) q (a.put o.dst v) → wpAnyT P ops Q t C (fuel + (i :: idx).length) listed a w := fun v hy hr =>
        wpAnyT_first hm.1 (Region.noSelect_spec hs) (fun c a w h => hQ _ _ c a w h) b3 _ _ _ _ (Region.free_spec hm.1 b2) (by simpa using b1) b5 b4 hy hS (ih q fuel _ _ w hm.2 b6 hp.2 hS hr)
      by_cases hw : Region.wanted o (yielded ops a.tmps) = true
      · rw [if_pos hw] at h
        obtain ⟨v, h1, h2⟩ := h; exact key v (yieldsIf_of_quiet hp.1 hS hw h1) h2
      · rw [if_neg hw] at h
        exact key undef (.inr ⟨by simpa using hw, rfl⟩) h
theorem till_segU (hs : Region.noSelect ops = true) (hQ : ∀ d v c a w, Q (.panic c) (a.put d v) w → Q (.panic c) a w) :
    ∀ (idx : List Nat) (q : List Oper) (fuel : Nat) (listed : Array Bool) (a : Act) (w : World), idx.map (fun i => ops[i]?) = q.map some → segU ops t idx listed = true → q.all pureKind = true → C w →
      wpQuiet P ops (fun _ => True) (fun a' => wpAnyT P ops Q t C fuel (segL idx listed) a' w) q a → wpAnyT P ops Q t C (fuel + idx.length) listed a w := by
  intro idx
  induction idx with
  | nil =>
    intro q fuel listed a w hm _ _ _ h
    cases q with
    | nil => exact h
    | cons o q => simp at hm
  | cons i idx ih =>
    intro q fuel listed a w hm hB hp hS h
    cases q with
    | nil => simp at hm
    | cons o q =>
      simp only [List.map_cons, List.cons.injEq] at hm; simp only [segU, Bool.and_eq_true, bne_iff_ne] at hB; obtain ⟨⟨⟨b1, b2⟩, b4⟩, b6⟩ := hB; simp only [List.all_cons, Bool.and_eq_true] at hp; unfold wpQuiet at h
      have key : ∀ v, YieldsIf P ops (fun _ => True) o v a → wpQuiet P ops (fun _ => True) (fun a' => wpAnyT P ops Q t C fuel (segL idx (listed.setIfInBounds i true)) a' w) q (a.put o.dst v) → wpAnyT P ops Q t C (fuel + (i :: idx).length) listed a w := fun v hy hr =>
        wpAnyT_free hm.1 (Region.noSelect_spec hs) (fun c a w h => hQ _ _ c a w h) b4 _ _ _ _ (Region.free_spec hm.1 b2) (by simpa using b1) hy (fun _ => hS) (ih q fuel _ _ w hm.2 b6 hp.2 hS hr)
      by_cases hw : Region.wanted o (yielded ops a.tmps) = true
      · rw [if_pos hw] at h
        obtain ⟨v, h1, h2⟩ := h; exact key v (yieldsIf_of_quiet (w0 := w) hp.1 trivial hw h1) h2
      · rw [if_neg hw] at h
        exact key undef (.inr ⟨by simpa using hw, rfl⟩) h
theorem till_take {l : List Oper} {listed : Array Bool} {a : Act} {w : World} (idx : List Nat) (fuel : Nat) (hs : Region.noSelect l.toArray = true) (hQ : ∀ d v c a w, Q (.panic c) (a.put d v) w → Q (.panic c) a w)
    (hb : idx.all (· < l.length) = true) (hB : segT l.toArray t idx listed = true) (hp : (pickL l idx).all pureKind = true) (hS : C w)
    (h : wpQuiet P l.toArray C (fun a' => wpAnyT P l.toArray Q t C fuel (segL idx listed) a' w) (pickL l idx) a) : wpAnyT P l.toArray Q t C (fuel + idx.length) listed a w :=
  till_seg hs hQ idx _ fuel listed a w (pickL_map idx hb) hB hp hS h
theorem till_free {l : List Oper} {listed : Array Bool} {a : Act} {w : World} (idx : List Nat) (fuel : Nat) (hs : Region.noSelect l.toArray = true) (hQ : ∀ d v c a w, Q (.panic c) (a.put d v) w → Q (.panic c) a w)
    (hb : idx.all (· < l.length) = true) (hB : segU l.toArray t idx listed = true) (hp : (pickL l idx).all pureKind = true) (hS : C w)
    (h : wpQuiet P l.toArray (fun _ => True) (fun a' => wpAnyT P l.toArray Q t C fuel (segL idx listed) a' w) (pickL l idx) a) : wpAnyT P l.toArray Q t C (fuel + idx.length) listed a w :=
  till_segU hs hQ idx _ fuel listed a w (pickL_map idx hb) hB hp hS h
theorem till_call {i fuel : Nat} {o : Oper} {listed : Array Bool} {a : Act} {w : World} (hr : Region.ready .any ops listed = [i]) (ho : ops[i]? = some o)
    (h : wpList P ops (Mid (fun a' w' => ((listed.setIfInBounds i true).getD t true = false → C w') ∧ wpAnyT P ops Q t C fuel (listed.setIfInBounds i true) a' w') Q) [o] a w) : wpAnyT P ops Q t C (fuel + 1) listed a w := by
  refine ⟨fun h0 => (by rw [hr] at h0; cases h0), fun j hj => ?_⟩; rw [hr] at hj; obtain rfl : j = i := by simpa using hj
  unfold wpOp; simp only [ho]; unfold wpList at h
  split
  · rename_i hw
    rw [if_pos hw] at h
    rcases h with h | ⟨h1, a2, w2, h2⟩
    · exact .inl (upon_mid h)
    · exact .inr ⟨h1, a2, w2, h2⟩
  · rename_i hw
    rw [if_neg hw] at h; exact h
theorem till_one {l : List Oper} {listed : Array Bool} {a : Act} {w : World} (i fuel : Nat) (hb : decide (i < l.length) = true) (hr : Region.ready .any l.toArray listed = [i])
    (h : wpList P l.toArray (Mid (fun a' w' => ((listed.setIfInBounds i true).getD t true = false → C w') ∧ wpAnyT P l.toArray Q t C fuel (listed.setIfInBounds i true) a' w') Q) (pickL l [i]) a w) : wpAnyT P l.toArray Q t C (fuel + 1) listed a w := by
  have hi : i < l.length := of_decide_eq_true hb; exact till_call (o := l.getD i noOp) hr (by rw [List.getD_eq_getElem?_getD, List.getElem?_eq_getElem hi]; simp [hi]) h
theorem till_begin {id : Nat} {a : Act} {w : World} {l : List Oper} (hm : P.follows .mixedOrders = true) (n : Nat) (hn : l.length = n)
    (h : wpAnyT P l.toArray Q t C n (Array.replicate n false) a w.drew) : (Code.region id l.toArray true).wp P Q a w := by
  refine wp_region_any hm (wpAny_of_t (t := t) (C := C) _ _ _ _ ?_); have e : l.toArray.size = n := by simpa using hn
  rw [e]; exact h

/-- as Q, and no panic -/
def noP (Q : Exit → Act → World → Prop) : Exit → Act → World → Prop
  | .panic _, _, _ => False
  | e, a, w => Q e a w
theorem wp_noP {c : Code} {a : Act} {w : World} (h : c.wp P (noP Q) a w) : c.wp P Q a w := wp_mono h (fun e a w h => by cases e <;> first | exact h | exact h.elim)
theorem noP_normal {a : Act} {w : World} (h : Q .normal a w) : noP Q .normal a w := h
theorem noP_put : ∀ (d : Option Tmp) (v : Value) (c : List PanicEntry) (a : Act) (w : World), noP Q (.panic c) (a.put d v) w → noP Q (.panic c) a w := fun _ _ _ _ _ h => h
end
end Tt
