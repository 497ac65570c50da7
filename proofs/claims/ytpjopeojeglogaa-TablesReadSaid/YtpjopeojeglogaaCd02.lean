/- Only one of the old blocks has turned. | Sub-slices, with what block they lie in; stores. | A drawn region with calls in a row: what only reads is taken first, in one walk; then a call; and so on. -/
import Derived.Test.YtpjopeojeglogaaCd01
import Derived.Deep.RegionHeld
namespace Tt
open Go Go.RowKit
set_option linter.unusedVariables false

structure But (b : Nat) (w w' : World) : Prop where
  os : w'.os = w.os
  tape : w'.tape = w.tape
  output : w'.output = w.output
  size : w.heap.size ≤ w'.heap.size
  block : ∀ k, k < w.heap.size → k ≠ b → w'.heap[k]? = w.heap[k]?
theorem But.refl (b : Nat) (w : World) : But b w w := ⟨rfl, rfl, rfl, Nat.le_refl _, fun _ _ _ => rfl⟩
theorem But.trans {b : Nat} {w w' w'' : World} (h : But b w w') (k : But b w' w'') : But b w w'' :=
  ⟨k.os.trans h.os, k.tape.trans h.tape, k.output.trans h.output, Nat.le_trans h.size k.size, fun i hi hb => (k.block i (Nat.lt_of_lt_of_le hi h.size) hb).trans (h.block i hi hb)⟩
theorem But.of_below {b : Nat} {w w' : World} (h : Below w.heap.size w w') : But b w w' := ⟨h.os, h.tape, h.output, h.size, fun k hk _ => h.block k hk⟩
theorem But.below {b : Nat} {w w' : World} (h : But b w w') {B : Nat} (h1 : B ≤ b) (h2 : B ≤ w.heap.size) : Below B w w' := ⟨h.os, h.tape, h.output, h.size, fun k hk => h.block k (by omega) (by omega)⟩
theorem But.cell {b : Nat} {w w' : World} (h : But b w w') {p : Addr} (h1 : p.block < w.heap.size) (h2 : p.block ≠ b) : w'.cell? p = w.cell? p := by
  unfold World.cell?; rw [h.block _ h1 h2]
theorem But.set {b : Nat} {w w' : World} (h : But b w w') (i : Nat) (v : Value) : But b w (w'.setCell ⟨b, i, none⟩ v) :=
  h.trans ⟨rfl, rfl, rfl, by simp, fun k _ hk => Below.heap_setCell w' ⟨b, i, none⟩ v k hk⟩
theorem Sl.but {w w' : World} {a : Option Addr} {n cap sz b : Nat} {cs : List Value} (h : Sl w a n cap sz cs) (hb : But b w w') (ha : ∀ x, a = some x → x.block ≠ b) : Sl w' a n cap sz cs :=
  ⟨h.len, h.le, h.max, fun i hi => by
    obtain ⟨g, off, e, hlt, hc⟩ := h.lies i hi; have hg : g ≠ b := ha _ e; exact ⟨g, off, e, Nat.lt_of_lt_of_le hlt hb.size, fun j v hv => by rw [hb.cell (p := ⟨g, off + j, none⟩) hlt hg]; exact hc j v hv⟩, h.fit⟩
theorem Blk.but {b : Nat} {w w' : World} {g : Nat} {T : TypeId} {cs : Array Value} (h : Blk w g T cs) (hb : But b w w') (hg : g ≠ b) : Blk w' g T cs := (hb.block g h.lt hg).trans h
theorem own_but {b : Nat} {w w' : World} {B : Nat} {E : TypeId} {sz : Nat} {v : Value} {n : Nat} {xs : List Value} (h : w.ownsRow B E sz v n xs) (hb : But b w w') (hv : v.ownBlock ≠ some b) : w'.ownsRow B E sz v n xs := by
  obtain ⟨hl, hr⟩ := h; refine ⟨hl, ?_⟩
  rcases hr with hn | ⟨g, cap, cur, rfl, hB, hg, r⟩
  · exact .inl hn
  · exact .inr ⟨g, cap, cur, rfl, hB, by rw [hb.block g (Array.getElem?_eq_some_iff.1 hg).1 (fun e => hv (by rw [e]; rfl))]; exact hg, r⟩
end Tt

namespace Tt
open Go Go.RowKit
set_option linter.unusedVariables false

theorem add_block (a : Addr) (k : Nat) : (a.add k).block = a.block := by
  unfold Addr.add
  split <;> rfl
/-- the slice value lies where the other one does -/
def In (a2 a : Option Addr) : Prop := ∀ x, a2 = some x → ∃ y, a = some y ∧ y.block = x.block
theorem In.ne {a2 a : Option Addr} {g : Nat} (h : In a2 a) (ha : ∀ x, a = some x → x.block ≠ g) : ∀ x, a2 = some x → x.block ≠ g := fun x hx => by
  obtain ⟨y, h1, h2⟩ := h x hx; rw [← h2]; exact ha y h1
theorem In.sub (a : Option Addr) (c l k : Nat) : In (if c = l then a else a.map (·.add k)) a := fun x hx => by
  split at hx
  · exact ⟨x, hx, rfl⟩
  · cases a with
    | none => cases hx
    | some y =>
      simp only [Option.map_some, Option.some.injEq] at hx; exact ⟨y, rfl, by rw [← hx, add_block]⟩
section
variable {P : Program} {T E : TypeId} {sz : Nat} (ht : P.underlying T = some (.slice E)) (hE : ∀ w, (Go.sizeOf E).run P w = .ok sz w)
include ht hE
theorem sub_h {w : World} {a : Option Addr} {n c : Nat} {cs : List Value} (h : Sl w a n c sz cs) (hi : Int) (h1 : 0 ≤ hi) (h2 : hi ≤ n) (n2 : Nat) (hn2 : (n2 : Int) = hi) :
    ∃ a2, (∀ W, (Instr.sliceAt T (.slice a n c) none (some (.int .i64 hi)) none).run P W = .ok (.slice a2 n2 c) W) ∧ Sl w a2 n2 c sz (cs.take (n2 * sz)) ∧ In a2 a := by
  have he : P.elem T = E := by unfold Program.elem; rw [ht]
  have hle := h.le; have hs := sl_sub h 0 hi.toNat (by omega) (by omega) n2 c (by omega) (by omega); rw [Nat.zero_mul, List.drop_zero] at hs; refine ⟨_, fun W => ?_, hs, In.sub _ _ _ _⟩; rw [run_sliceAt_slice (h := by rw [he]; exact ht), run_slice_h (ht := by rw [he]; exact ht) (h0 := h1) (h2 := by omega), he, hE]; simp only [Result.andThen, sliced, Nat.zero_mul]
  congr 2; omega
theorem sub_l {w : World} {a : Option Addr} {n c : Nat} {cs : List Value} (h : Sl w a n c sz cs) (l : Int) (h0 : 0 ≤ l) (h1 : l ≤ n) (n2 c2 : Nat) (hn2 : (n2 : Int) = n - l) (hc2 : (c2 : Int) = c - l) :
    ∃ a2, (∀ W, (Instr.sliceAt T (.slice a n c) (some (.int .i64 l)) none none).run P W = .ok (.slice a2 n2 c2) W) ∧ Sl w a2 n2 c2 sz (cs.drop (l.toNat * sz)) ∧ In a2 a := by
  have he : P.elem T = E := by unfold Program.elem; rw [ht]
  have hle := h.le; have hs := sl_sub h l.toNat n (by omega) (by omega) n2 c2 (by omega) (by omega); rw [List.take_of_length_le (by rw [List.length_drop, h.len, show n2 = n - l.toNat by omega, Nat.sub_mul]; omega)] at hs; refine ⟨_, fun W => ?_, hs, In.sub _ _ _ _⟩; rw [run_sliceAt_slice (h := by rw [he]; exact ht), run_slice_l (ht := by rw [he]; exact ht) (h0 := h0) (h1 := by omega), he, hE]; simp only [Result.andThen, sliced]
  congr 2 <;> omega
end
end Tt

namespace Tt
open Go Go.RowKit
set_option linter.unusedVariables false

/-- What hands on a value and does nothing else, or stops. -/
def pureKind (o : Oper) : Bool :=
  match o.op with
  | .move _ | .assign _ | .pick .. | .build .. | .load .. | .binOp .. | .unOp .. | .fieldAddr .. | .field .. | .indexAddr .. | .index .. | .extract .. | .slice .. | .convert .. | .makeInterface .. | .makeFunc .. | .lookup .. | .nilCheck _ => true
  | .call c => match c.callee with | .builtin .len => true | .builtin .max => true | .builtin .min => true | _ => false
  | _ => false

theorem run_v {P : Program} {s : Sem Value} {w w' : World} {n : Next} (h : ((do pure (Next.value (← s))) : Sem Next).run P w = .ok n w') : ∃ v, n = .value v := by
  rw [Sem.run_bind] at h
  cases hs : s.run P w with
  | ok v w1 =>
    rw [hs] at h; simp only [Result.andThen, Sem.run_pure] at h; injection h with h1 h2; exact ⟨v, h1.symm⟩
  | halt x w1 =>
    rw [hs] at h; simp only [Result.andThen] at h
    cases h

theorem pure_value {P : Program} {o : Oper} {ρ : Operand → Value} {w w' : World} {n : Next} (hp : pureKind o = true) (h : (execOp ρ o).run P w = .ok n w') : ∃ v, n = .value v := by
  unfold pureKind at hp; unfold execOp at h
  cases ho : o.op <;> rw [ho] at hp h <;> first
    | exact absurd (show false = true from hp) Bool.false_ne_true
    | exact run_v h
    | (dsimp only at h; exact run_v h)
    | (dsimp only at h; rw [Sem.run_pure] at h; injection h with h1 _; exact ⟨_, h1.symm⟩)
    | (dsimp only at h
       rw [Sem.run_bind] at h
       revert h
       generalize (asBool (ρ _)).run P w = r
       intro h
       cases r with
       | ok v w1 => simp only [Result.andThen, Sem.run_pure] at h; injection h with h1 _; exact ⟨_, h1.symm⟩
       | halt x w1 => simp only [Result.andThen] at h; cases h)
    | skip
  case nilCheck x =>
    dsimp only at h
    have rp : ∀ (w w' : World) (n : Next), (runtimePanic .nilDeref : Sem Next).run P w = .ok n w' → ∃ v, n = .value v := by
      intro w w' n h
      simp [runtimePanic, go_sem] at h
    split at h
    · exact rp _ _ _ h
    · exact rp _ _ _ h
    · exact rp _ _ _ h
    · split at h
      · exact rp _ _ _ h
      · rw [Sem.run_bind] at h
        revert h
        generalize (program : Sem Program).run P w = r0
        intro h
        cases r0 with
        | halt x w1 => simp only [Result.andThen] at h; cases h
        | ok p w1 =>
          simp only [Result.andThen] at h; rw [Sem.run_bind] at h
          revert h
          generalize Sem.run P _ w1 = r1
          intro h
          cases r1 with
          | halt x w2 => simp only [Result.andThen] at h; cases h
          | ok q w2 =>
            simp only [Result.andThen] at h
            split at h
            · rw [Sem.run_bind] at h
              simp [unsupported, go_sem] at h
            · simp [go_sem] at h
              exact ⟨_, h.1.symm⟩
      · rw [Sem.run_pure] at h; injection h with h1 _; exact ⟨_, h1.symm⟩
    · rw [Sem.run_pure] at h; injection h with h1 _; exact ⟨_, h1.symm⟩
  rename_i c
  obtain ⟨callee, ars, ats⟩ := c
  cases callee with
  | builtin b =>
    dsimp only at h
    simp only [resolve, Sem.run_bind, Sem.run_pure, Result.andThen_ok, invoke] at h
    cases b <;> first
      | exact absurd (show false = true from hp) Bool.false_ne_true
      | exact run_v h
  | invoke r n => exact absurd (show false = true from hp) Bool.false_ne_true
  | value f => exact absurd (show false = true from hp) Bool.false_ne_true

section
variable {P : Program} {ops : Array Oper} {Q : Exit → Act → World → Prop} {S : World → Prop}
theorem yieldsIf_of_quiet {o : Oper} {a : Act} {v : Value} {w0 : World} (hp : pureKind o = true) (h0 : S w0) (hw : Region.wanted o (yielded ops a.tmps) = true) (h : ∀ w, S w → o.quietAt P a S w v) : YieldsIf P ops S o v a := by
  refine .inl ⟨hw, fun w hS => ?_⟩; have h1 := h w hS; unfold Oper.quietAt at h1
  cases hr : (execOp a.eval o).run P w with
  | ok n w' =>
    obtain ⟨u, rfl⟩ := pure_value hp hr; rw [hr] at h1; simp only [Oper.quietUpon] at h1; rw [h1.1, h1.2]
  | halt x w' =>
    rw [hr] at h1; simp only [Oper.quietUpon] at h1

def segB (ops : Array Oper) : List Nat → Array Bool → Bool
  | [], _ => true
  | i :: r, listed => (Region.ready .any ops listed).contains i && Region.free .any ops listed i && segB ops r (listed.setIfInBounds i true)
def segL : List Nat → Array Bool → Array Bool
  | [], listed => listed
  | i :: r, listed => segL r (listed.setIfInBounds i true)

/-- What only reads is taken first, in one walk. -/
theorem held_seg (hs : Region.noSelect ops = true) (hQ : ∀ d v c a w, Q (.panic c) (a.put d v) w → Q (.panic c) a w) :
    ∀ (idx : List Nat) (q : List Oper) (fuel : Nat) (listed : Array Bool) (a : Act) (w : World), idx.map (fun i => ops[i]?) = q.map some → segB ops idx listed = true → q.all pureKind = true → S w →
      wpQuiet P ops S (fun a' => wpAnyH P .any ops Q S fuel (segL idx listed) a' w) q a → wpAnyH P .any ops Q S (fuel + idx.length) listed a w := by
  intro idx
  induction idx with
  | nil =>
    intro q fuel listed a w hm _ _ _ h
    cases q with
    | nil => exact h
    | cons o q => simp at hm
  | cons i idx ih =>
    intro q fuel listed a w hm hB hp hS h
    cases q with
    | nil => simp at hm
    | cons o q =>
      simp only [List.map_cons, List.cons.injEq] at hm; simp only [segB, Bool.and_eq_true] at hB; simp only [List.all_cons, Bool.and_eq_true] at hp; unfold wpQuiet at h
      have key : ∀ v, YieldsIf P ops S o v a → wpQuiet P ops S (fun a' => wpAnyH P .any ops Q S fuel (segL idx (listed.setIfInBounds i true)) a' w) q (a.put o.dst v) → wpAnyH P .any ops Q S (fuel + (i :: idx).length) listed a w := fun v hy hr =>
        wpAnyH_take hm.1 hs hB.1.2 hB.1.1 (fun c a w h => hQ _ _ c a w h) hy hS (ih q fuel _ _ w hm.2 hB.2 hp.2 hS hr)
      by_cases hw : Region.wanted o (yielded ops a.tmps) = true
      · rw [if_pos hw] at h
        obtain ⟨v, h1, h2⟩ := h; exact key v (yieldsIf_of_quiet hp.1 hS hw h1) h2
      · rw [if_neg hw] at h
        exact key undef (.inr ⟨by simpa using hw, rfl⟩) h

/-- The post of one operation in the midst of a region. -/
def Mid (K : Act → World → Prop) (Q : Exit → Act → World → Prop) : Exit → Act → World → Prop
  | .normal, a, w => K a w
  | .exit i, a, w => Q (.exit i) a w
  | .goto l, a, w => Q (.goto l) a w
  | .ret, a, w => Q .ret a w
  | .panic c, a, w => Q (.panic c) a w
  | .outgrown, a, w => Q .outgrown a w
theorem Mid.mk {K : Act → World → Prop} {Q : Exit → Act → World → Prop} {a : Act} {w : World} (h : K a w) : Mid K Q .normal a w := h

theorem upon_mid {o : Oper} {a : Act} {K K' : Act → World → Prop} {r : Result Next} (h : o.upon P a K (Mid K' Q) r) : o.upon P a K Q r := by
  cases r with
  | ok n w' =>
    cases n <;> first
      | exact h
      | (simp only [Oper.upon] at h ⊢
         refine Calls.mono h ?_; intro e w'' he
         cases e with
         | returned v => exact he
         | panicked c => exact he
         | outgrown => obtain ⟨a, w, h2⟩ := he; exact ⟨a, w, h2⟩)
  | halt x w' => cases x <;> exact h

/-- One operation, when nothing else may come up. -/
theorem held_call {i fuel : Nat} {o : Oper} {listed : Array Bool} {a : Act} {w : World} (hr : Region.ready .any ops listed = [i]) (ho : ops[i]? = some o)
    (h : wpList P ops (Mid (fun a' w' => S w' ∧ wpAnyH P .any ops Q S fuel (listed.setIfInBounds i true) a' w') Q) [o] a w) : wpAnyH P .any ops Q S (fuel + 1) listed a w := by
  refine wpAnyH_all hr (by simp) fun j hj => ?_; obtain rfl : j = i := by simpa using hj
  unfold wpOp; simp only [ho]; unfold wpList at h
  split
  · rename_i hw
    rw [if_pos hw] at h
    rcases h with h | ⟨h1, a2, w2, h2⟩
    · exact .inl (upon_mid h)
    · exact .inr ⟨h1, a2, w2, h2⟩
  · rename_i hw
    rw [if_neg hw] at h; exact h

def noOp : Oper := { dst := none, op := .move (.const undef), type := 0, pos := "", after := #[], guard := none }
def pickL (l : List Oper) (idx : List Nat) : List Oper := idx.map fun i => l.getD i noOp
theorem pickL_map {l : List Oper} : ∀ (idx : List Nat), idx.all (· < l.length) = true → idx.map (fun i => l.toArray[i]?) = (pickL l idx).map some
  | [], _ => rfl
  | i :: idx, h => by
    simp only [List.all_cons, Bool.and_eq_true, decide_eq_true_eq] at h; have ih := pickL_map (l := l) idx h.2; unfold pickL at ih ⊢; rw [List.map_cons, ih, List.map_cons, List.map_cons, List.getD_eq_getElem?_getD, List.getElem?_eq_getElem h.1]
    simp [h.1]
theorem held_take {l : List Oper} {listed : Array Bool} {a : Act} {w : World} (idx : List Nat) (fuel : Nat) (hs : Region.noSelect l.toArray = true) (hQ : ∀ d v c a w, Q (.panic c) (a.put d v) w → Q (.panic c) a w)
    (hb : idx.all (· < l.length) = true) (hB : segB l.toArray idx listed = true) (hp : (pickL l idx).all pureKind = true) (hS : S w)
    (h : wpQuiet P l.toArray S (fun a' => wpAnyH P .any l.toArray Q S fuel (segL idx listed) a' w) (pickL l idx) a) : wpAnyH P .any l.toArray Q S (fuel + idx.length) listed a w := by
  exact held_seg hs hQ idx _ fuel listed a w (pickL_map idx hb) hB hp hS h

theorem held_one {l : List Oper} {listed : Array Bool} {a : Act} {w : World} (i fuel : Nat) (hb : decide (i < l.length) = true) (hr : Region.ready .any l.toArray listed = [i])
    (h : wpList P l.toArray (Mid (fun a' w' => S w' ∧ wpAnyH P .any l.toArray Q S fuel (listed.setIfInBounds i true) a' w') Q) (pickL l [i]) a w) : wpAnyH P .any l.toArray Q S (fuel + 1) listed a w := by
  have hi : i < l.length := of_decide_eq_true hb; refine held_call (o := l.getD i noOp) hr (by rw [List.getD_eq_getElem?_getD, List.getElem?_eq_getElem hi]; simp [hi]) h
theorem held_two {l : List Oper} {listed : Array Bool} {a : Act} {w : World} (i j fuel : Nat) (hb : (decide (i < l.length) && decide (j < l.length)) = true) (hr : Region.ready .any l.toArray listed = [i, j])
    (h : wpList P l.toArray (Mid (fun a' w' => S w' ∧ wpAnyH P .any l.toArray Q S fuel (listed.setIfInBounds i true) a' w') Q) (pickL l [i]) a w)
    (h2 : wpList P l.toArray (Mid (fun a' w' => S w' ∧ wpAnyH P .any l.toArray Q S fuel (listed.setIfInBounds j true) a' w') Q) (pickL l [j]) a w) : wpAnyH P .any l.toArray Q S (fuel + 1) listed a w := by
  simp only [Bool.and_eq_true, decide_eq_true_eq] at hb
  have key : ∀ k (o : Oper), l.toArray[k]? = some o → wpList P l.toArray (Mid (fun a' w' => S w' ∧ wpAnyH P .any l.toArray Q S fuel (listed.setIfInBounds k true) a' w') Q) [o] a w → wpOp P l.toArray Q k (fun a' w' => S w' ∧ wpAnyH P .any l.toArray Q S fuel (listed.setIfInBounds k true) a' w') a w := fun k o ho h => by
    unfold wpOp; simp only [ho]; unfold wpList at h
    split
    · rename_i hw
      rw [if_pos hw] at h
      rcases h with h | ⟨h1, a2, w2, h2⟩
      · exact .inl (upon_mid h)
      · exact .inr ⟨h1, a2, w2, h2⟩
    · rename_i hw
      rw [if_neg hw] at h; exact h
  refine wpAnyH_all hr (by simp) fun k hk => ?_; simp only [List.mem_cons, List.not_mem_nil, or_false] at hk
  rcases hk with rfl | rfl
  · exact key _ (l.getD k noOp) (by rw [List.getD_eq_getElem?_getD, List.getElem?_eq_getElem hb.1]; simp [hb.1]) h
  · exact key _ (l.getD k noOp) (by rw [List.getD_eq_getElem?_getD, List.getElem?_eq_getElem hb.2]; simp [hb.2]) h2
theorem held_last {l : List Oper} {listed : Array Bool} {a : Act} {w : World} (hr : Region.ready .any l.toArray listed = []) (h : Q .normal a w) : wpAnyH P .any l.toArray Q S 0 listed a w := wpAnyH_done hr h 0

theorem held_begin {id : Nat} {a : Act} {w : World} {l : List Oper} (hm : P.follows .mixedOrders = true) (n : Nat) (hn : l.length = n)
    (h : wpAnyH P .any l.toArray Q S n (Array.replicate n false) a w.drew) : (Code.region id l.toArray true).wp P Q a w := by
  refine wp_region_held (S := S) hm ?_; have e : l.toArray.size = n := by simpa using hn
  rw [e]; exact h
end
end Tt
