/- A range over a function, walked with its iterator in one: of whatever program. -/
import Derived.RangeFuncNested
import Derived.RangeFuncBound
import Derived.RangeFuncCalls
import Derived.RangeFuncLeaves
import Derived.RangeFuncBox
import Derived.Shelf.Abstract
import Derived.Shelf.RegionOpen
import Derived.OwnWalkIn
import Derived.TacticsInMore
import Derived.LoopNIn
import Derived.LoopIn
import Derived.Test.YtpjopeojeglogaaCc00
namespace Tt
open Go Go.RowKit
variable {F : Fence} {n : Nat} {P : Program}

/-- The record of a loop, in a state, with a pending jump. -/
def recOf (fn : FuncId) (tmps : Array Value) (ps : Array Tmp) (assign body : Code) (D : Nat) (st : LoopState) (pe : Option Code) : Loop :=
  { state := st, pending := pe, fn, tmps, params := ps, assign, body, defers := D }

/-- Behind the iterator. -/
def rfDone (F : Fence) (n : Nat) (P : Program) (Q : Exit → Act → World → Prop) (a : Act) (w : World) (rec : LoopState → Option Code → Loop) (e : Ending) (W2 : World) : Prop :=
  (∃ v, e = .returned v) ∧ ∃ st c, st ≠ .busy ∧ W2.heap[w.heap.size + 1]? = some (.loop (rec st c)) ∧
    (match c with
     | none => Q .normal { a with defers := { target := .collected w.heap.size, args := #[] } :: a.defers } (W2.putObj (w.heap.size + 1) (.loop (rec .exhausted c)))
     | some j => j.wpIn F n P Q { a with defers := { target := .collected w.heap.size, args := #[] } :: a.defers } (W2.putObj (w.heap.size + 1) (.loop (rec .exhausted c))))

theorem rf_law {g : Operand} {ps : Array Tmp} {assign body : Code} {Q : Exit → Act → World → Prop} {a : Act} {w : World}
    (hro : F.round = none) (h1 : 1 ≤ n) {gf : Nat} {lb : Array Value} (hg : a.eval g = .func (.func gf) #[] lb) (hFg : F.fn gf) (eg : ∀ args w, (callFunc gf args).run P w = .ok (.enter gf args) w)
    (h : ∀ fn, F.fn fn → CallsIn F (n - 1) P gf (#[.func (.yield (w.heap.size + 1)) #[] #[]] ++ lb)
      ((w.alloc (.deferred (some []))).alloc (.loop (recOf fn a.tmps ps assign body w.heap.size .ready none)))
      (rfDone F n P Q a w (recOf fn a.tmps ps assign body w.heap.size))) :
    (Code.rangeFunc g ps assign body).wpIn F n P Q a w := by
  refine wpIn_rangeFunc ?_; intro fn hfn; rw [hro]; have hh := h fn hfn; have hen := run_enterLoop_outer (P := P) (w := w) fn a.tmps ps assign body; have hrec : ({ state := .ready, pending := none, fn, tmps := a.tmps, params := ps, assign, body, defers := w.heap.size } : Loop) = recOf fn a.tmps ps assign body w.heap.size .ready none := rfl
  have hE : ∀ (W2 : World) (st : LoopState) (c : Option Code), st ≠ .busy → W2.heap[w.heap.size + 1]? = some (.loop (recOf fn a.tmps ps assign body w.heap.size st c)) →
      (Instr.endLoop (w.heap.size + 1)).run P W2 = .ok c (W2.putObj (w.heap.size + 1) (.loop (recOf fn a.tmps ps assign body w.heap.size .exhausted c))) := fun W2 st c hs hl => run_endLoop hl hs
  rw [hrec] at hen; clear hrec h
  generalize recOf fn a.tmps ps assign body w.heap.size = rec at *
  generalize (w.alloc (.deferred (some []))).alloc (.loop (rec .ready none)) = W1 at *
  refine ⟨w.heap.size + 1, [{ target := .collected w.heap.size, args := #[] }], W1, { target := .fn (.func gf) lb, args := #[.func (.yield (w.heap.size + 1)) #[] #[]] }, W1, gf, #[.func (.yield (w.heap.size + 1)) #[] #[]] ++ lb, W1, hen, ?_, ?_, ?_, fun _ => h1, ?_⟩
  · simp only [resolve, hg]
    simp [go_sem]
  · intro f' hf'; simp [Target.leads] at hf'; subst hf'; exact hFg
  · simp [invoke, go_sem, eg]
  · refine CallsIn.mono hh ?_
    rintro e W2 ⟨⟨v, rfl⟩, st, c, hs, hl, hq⟩; have hend := hE W2 st c hs hl; exact ⟨c, _, hend, hq⟩

/-- How a round may be left. -/
def rfPost (l : Nat) (rec : LoopState → Option Code → Loop) (R : Ending → World → Prop) : Exit → Act → World → Prop
  | .normal, _, W3 => W3.heap[l]? = some (.loop (rec .busy none)) ∧ R (.returned (.bool true)) (W3.putObj l (.loop (rec .ready none)))
  | .ret, _, W3 => W3.heap[l]? = some (.loop (rec .busy none)) ∧ R (.returned (.bool false)) (W3.putObj l (.loop (rec .done (some .ret))))
  | .exit id, _, W3 => W3.heap[l]? = some (.loop (rec .busy none)) ∧ R (.returned (.bool false)) (W3.putObj l (.loop (rec .done (some (.exit id)))))
  | _, _, _ => False

theorem rf_round {m : Nat} {l : Nat} {fn : FuncId} {tmps : Array Value} {ps : Array Tmp} {assign body : Code} {D : Nat} {W : World} {args : Array Value} {R : Ending → World → Prop}
    (hfn : F.fn fn) (hl : W.heap[l]? = some (.loop (recOf fn tmps ps assign body D .ready none))) (hps : args.size = ps.size)
    (h : assign.wpIn (F.inRound l) m P (Exit.then (fun a₁ w₁ => w₁.heap[l]? = some (.loop (recOf fn tmps ps assign body D .ready none)) ∧
        body.wpIn (F.inRound l) m P (rfPost l (recOf fn tmps ps assign body D) R) a₁ (w₁.putObj l (.loop (recOf fn tmps ps assign body D .busy none)))) (fun _ _ _ => False))
      { tmps := (ps.zip args).foldl (fun t (p, v) => t.setIfInBounds p v) tmps, defers := [] } W) : YieldAt F m P l args W R := by
  refine ⟨fn, _, assign, body, run_yield hl hps, roundIn_of_wpIn hfn (wpIn_mono h ?_)⟩; intro e a1 w1 hq
  cases e with
  | normal =>
    obtain ⟨h1, h2⟩ := hq; refine ⟨_, run_beginRound h1 rfl, wpIn_mono h2 ?_⟩; intro e a3 W3 hp
    cases e with
    | normal => obtain ⟨h3, h4⟩ := hp; exact ⟨_, _, run_endRound none h3, h4⟩
    | ret => obtain ⟨h3, h4⟩ := hp; exact ⟨_, _, run_endRound (some .ret) h3, h4⟩
    | exit id => obtain ⟨h3, h4⟩ := hp; exact ⟨_, _, run_endRound (some (.exit id)) h3, h4⟩
    | goto t => exact hp.elim
    | panic c => exact hp.elim
    | outgrown => exact hp.elim
  | ret => exact hq.elim
  | exit id => exact hq.elim
  | goto t => exact hq.elim
  | panic c => exact hq.elim
  | outgrown => exact hq.elim

theorem rf_law' {g : Operand} {ps : Array Tmp} {assign body : Code} {Q : Exit → Act → World → Prop} {a : Act} {w : World}
    (hro : F.round = none) (h1 : 1 ≤ n) {gf : Nat} {lb : Array Value} (hg : a.eval g = .func (.func gf) #[] lb) (hFg : F.fn gf) (eg : ∀ args w, (callFunc gf args).run P w = .ok (.enter gf args) w)
    (h : ∀ fn rec, F.fn fn → Hid (rec = recOf fn a.tmps ps assign body w.heap.size) → CallsIn F (n - 1) P gf (#[.func (.yield (w.heap.size + 1)) #[] #[]] ++ lb)
      ((w.alloc (.deferred (some []))).alloc (.loop (rec .ready none)))
      (rfDone F n P Q a w rec)) :
    (Code.rangeFunc g ps assign body).wpIn F n P Q a w :=
  rf_law hro h1 hg hFg eg fun fn hfn => h fn _ hfn rfl

theorem rf_round' {m : Nat} {l : Nat} {fn : FuncId} {tmps : Array Value} {ps : Array Tmp} {assign body : Code} {D : Nat} {W : World} {args : Array Value} {R : Ending → World → Prop} {rec : LoopState → Option Code → Loop}
    (hfn : F.fn fn) (hrec : Hid (rec = recOf fn tmps ps assign body D)) (hl : W.heap[l]? = some (.loop (rec .ready none))) (hps : args.size = ps.size)
    (h : assign.wpIn (F.inRound l) m P (Exit.then (fun a₁ w₁ => w₁.heap[l]? = some (.loop (rec .ready none)) ∧
        body.wpIn (F.inRound l) m P (rfPost l rec R) a₁ (w₁.putObj l (.loop (rec .busy none)))) (fun _ _ _ => False))
      { tmps := (ps.zip args).foldl (fun t (p, v) => t.setIfInBounds p v) tmps, defers := [] } W) : YieldAt F m P l args W R := by
  have hr := hrec.out; subst hr; exact rf_round hfn hl hps h

end Tt
