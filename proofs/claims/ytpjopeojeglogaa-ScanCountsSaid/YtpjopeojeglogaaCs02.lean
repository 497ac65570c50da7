/- slices.IndexFunc, ContainsFunc over ints, with a function that only reads. | Words on bits: or, and, xor of two numbers from 0 on; numbers out of bytes. | Chapter 1 of the document's answer: Own, Same, Top, Put: what each computes. | A range over a function, walked with its iterator in one: of whatever program. | append onto what the call owns: the row lies where it lay, or in a new block. | slices.Sort, Values, AppendSeq, Collect, Sorted over ints. | Arrays as values, of whatever program: an element, a field that is an array, a load out of a row, a store. | Chapter 5: the zigzag: the document's Before, Place; what the copies are step by step (plain). | Boxes: a few blocks laid one behind the other: of whatever program. -/
import Derived.Test.YtpjopeojeglogaaCs00
import Derived.Laws.Bits64
import Derived.StillTail
import Derived.StillTailTactics
import Derived.BigQuiet
import Derived.Deep.RegionLaw
import Derived.Deep.CutRange
import Derived.Deep.Cut
import Derived.BigRegion
import Derived.Lib.SliceRun
import Derived.RangeFuncNested
import Derived.RangeFuncBound
import Derived.RangeFuncCalls
import Derived.RangeFuncLeaves
import Derived.RangeFuncBox
import Derived.Shelf.Abstract
import Derived.Shelf.RegionOpen
import Derived.OwnWalkIn
import Derived.TacticsInMore
import Derived.LoopNIn
import Derived.LoopIn
import Derived.ArgAppend
import Derived.Test.YtpjopeojeglogaaCs01
import Derived.Sort.OwnSortedInts
import Derived.Test.YtpjopeojeglogaaShelf
import Derived.ChangeKeysEq
namespace Go.Proofs.Ytpjopeojeglogaa
open Go.RowKit Tt
set_option linter.unusedVariables false
set_option linter.unusedSimpArgs false

/-- the place of the first that p holds for, from k on; the length if there is none -/
def fst {α : Type} (p : α → Bool) (l : List α) : Int := match l.findIdx? p with | some i => i | none => -1
end Go.Proofs.Ytpjopeojeglogaa

namespace Tt
open Go Go.RowKit
set_option linter.unusedVariables false

theorem or_i64 (a b : Nat) (ha : a < 9223372036854775808) (hb : b < 9223372036854775808) : bits .or .i64 (a : Int) (b : Int) = ((a ||| b : Nat) : Int) := by
  have hx : a ||| b < 2 ^ 63 := Nat.or_lt_two_pow (by omega) (by omega)
  have h1 : (BitVec.ofInt 64 (a : Int)).toNat = a := by rw [BitVec.ofInt_natCast, BitVec.toNat_ofNat]; exact Nat.mod_eq_of_lt (by omega)
  have h2 : (BitVec.ofInt 64 (b : Int)).toNat = b := by rw [BitVec.ofInt_natCast, BitVec.toNat_ofNat]; exact Nat.mod_eq_of_lt (by omega)
  show IntKind.i64.wrap ((BitVec.ofInt 64 (a : Int) ||| BitVec.ofInt 64 (b : Int)).toNat : Int) = _
  rw [BitVec.toNat_or, h1, h2, IntKind.wrap_i64]
  omega
theorem and_i64 (a b : Nat) (ha : a < 9223372036854775808) (hb : b < 9223372036854775808) : bits .and .i64 (a : Int) (b : Int) = ((a &&& b : Nat) : Int) := by
  have hx : a &&& b < 2 ^ 63 := Nat.and_lt_two_pow _ (by omega); have h1 : (BitVec.ofInt 64 (a : Int)).toNat = a := by rw [BitVec.ofInt_natCast, BitVec.toNat_ofNat]; exact Nat.mod_eq_of_lt (by omega)
  have h2 : (BitVec.ofInt 64 (b : Int)).toNat = b := by rw [BitVec.ofInt_natCast, BitVec.toNat_ofNat]; exact Nat.mod_eq_of_lt (by omega)
  show IntKind.i64.wrap ((BitVec.ofInt 64 (a : Int) &&& BitVec.ofInt 64 (b : Int)).toNat : Int) = _
  rw [BitVec.toNat_and, h1, h2, IntKind.wrap_i64]
  omega
/-- the number that bytes are, the first one the highest -/
def be (l : List Int) : Int := l.foldl (fun n b => n * 256 + b) 0
theorem take_snoc' {l : List Int} {j : Nat} (h : j < l.length) : l.take (j + 1) = l.take j ++ [l.getD j 0] := by
  rw [List.take_add_one, List.getElem?_eq_getElem h, List.getD_eq_getElem?_getD, List.getElem?_eq_getElem h]
  rfl
end Tt

namespace Go.Proofs.Ytpjopeojeglogaa
open Go.RowKit Tt
set_option linter.unusedVariables false

def topS (s : Int) : Int := if s = 1 then 256 else if s = 2 then 65536 else if s = 4 then 4294967296 else 0
def leb : Nat → Int → List Int
  | 0, _ => []
  | k + 1, n => n % 256 :: leb k (n / 256)
def putOk (n s o : Int) : Bool := decide (1 ≤ o) && decide (o ≤ 2) && decide (0 ≤ n) && decide (n < topS s)
def putS (n s o : Int) : List Int := if putOk n s o = true then (if o = 1 then leb s.toNat n else (leb s.toNat n).reverse) else []

theorem info8 : (Try.prog.info? 5).map (fun i => (i.zero, i.size, i.bytes)) = some (some (.int .u8 0), 1, 1) := by kernel_rfl

end Go.Proofs.Ytpjopeojeglogaa

namespace Tt
open Go Go.RowKit
variable {F : Fence} {n : Nat} {P : Program}

/-- The record of a loop, in a state, with a pending jump. -/
def recOf (fn : FuncId) (tmps : Array Value) (ps : Array Tmp) (assign body : Code) (D : Nat) (st : LoopState) (pe : Option Code) : Loop :=
  { state := st, pending := pe, fn, tmps, params := ps, assign, body, defers := D }

/-- Behind the iterator. -/
def rfDone (F : Fence) (n : Nat) (P : Program) (Q : Exit → Act → World → Prop) (a : Act) (w : World) (rec : LoopState → Option Code → Loop) (e : Ending) (W2 : World) : Prop :=
  (∃ v, e = .returned v) ∧ ∃ st c, st ≠ .busy ∧ W2.heap[w.heap.size + 1]? = some (.loop (rec st c)) ∧
    (match c with
     | none => Q .normal { a with defers := { target := .collected w.heap.size, args := #[] } :: a.defers } (W2.putObj (w.heap.size + 1) (.loop (rec .exhausted c)))
     | some j => j.wpIn F n P Q { a with defers := { target := .collected w.heap.size, args := #[] } :: a.defers } (W2.putObj (w.heap.size + 1) (.loop (rec .exhausted c))))

theorem rf_law {g : Operand} {ps : Array Tmp} {assign body : Code} {Q : Exit → Act → World → Prop} {a : Act} {w : World}
    (hro : F.round = none) (h1 : 1 ≤ n) {gf : Nat} {lb : Array Value} (hg : a.eval g = .func (.func gf) #[] lb) (hFg : F.fn gf) (eg : ∀ args w, (callFunc gf args).run P w = .ok (.enter gf args) w)
    (h : ∀ fn, F.fn fn → CallsIn F (n - 1) P gf (#[.func (.yield (w.heap.size + 1)) #[] #[]] ++ lb)
      ((w.alloc (.deferred (some []))).alloc (.loop (recOf fn a.tmps ps assign body w.heap.size .ready none)))
      (rfDone F n P Q a w (recOf fn a.tmps ps assign body w.heap.size))) :
    (Code.rangeFunc g ps assign body).wpIn F n P Q a w := by
  refine wpIn_rangeFunc ?_; intro fn hfn; rw [hro]; have hh := h fn hfn; have hen := run_enterLoop_outer (P := P) (w := w) fn a.tmps ps assign body; have hrec : ({ state := .ready, pending := none, fn, tmps := a.tmps, params := ps, assign, body, defers := w.heap.size } : Loop) = recOf fn a.tmps ps assign body w.heap.size .ready none := rfl
  have hE : ∀ (W2 : World) (st : LoopState) (c : Option Code), st ≠ .busy → W2.heap[w.heap.size + 1]? = some (.loop (recOf fn a.tmps ps assign body w.heap.size st c)) →
      (Instr.endLoop (w.heap.size + 1)).run P W2 = .ok c (W2.putObj (w.heap.size + 1) (.loop (recOf fn a.tmps ps assign body w.heap.size .exhausted c))) := fun W2 st c hs hl => run_endLoop hl hs
  rw [hrec] at hen; clear hrec h
  generalize recOf fn a.tmps ps assign body w.heap.size = rec at *
  generalize (w.alloc (.deferred (some []))).alloc (.loop (rec .ready none)) = W1 at *
  refine ⟨w.heap.size + 1, [{ target := .collected w.heap.size, args := #[] }], W1, { target := .fn (.func gf) lb, args := #[.func (.yield (w.heap.size + 1)) #[] #[]] }, W1, gf, #[.func (.yield (w.heap.size + 1)) #[] #[]] ++ lb, W1, hen, ?_, ?_, ?_, fun _ => h1, ?_⟩
  · simp only [resolve, hg]
    simp [go_sem]
  · intro f' hf'; simp [Target.leads] at hf'; subst hf'; exact hFg
  · simp [invoke, go_sem, eg]
  · refine CallsIn.mono hh ?_
    rintro e W2 ⟨⟨v, rfl⟩, st, c, hs, hl, hq⟩; have hend := hE W2 st c hs hl; exact ⟨c, _, hend, hq⟩

/-- How a round may be left. -/
def rfPost (l : Nat) (rec : LoopState → Option Code → Loop) (R : Ending → World → Prop) : Exit → Act → World → Prop
  | .normal, _, W3 => W3.heap[l]? = some (.loop (rec .busy none)) ∧ R (.returned (.bool true)) (W3.putObj l (.loop (rec .ready none)))
  | .ret, _, W3 => W3.heap[l]? = some (.loop (rec .busy none)) ∧ R (.returned (.bool false)) (W3.putObj l (.loop (rec .done (some .ret))))
  | .exit id, _, W3 => W3.heap[l]? = some (.loop (rec .busy none)) ∧ R (.returned (.bool false)) (W3.putObj l (.loop (rec .done (some (.exit id)))))
  | _, _, _ => False

theorem rf_round {m : Nat} {l : Nat} {fn : FuncId} {tmps : Array Value} {ps : Array Tmp} {assign body : Code} {D : Nat} {W : World} {args : Array Value} {R : Ending → World → Prop}
    (hfn : F.fn fn) (hl : W.heap[l]? = some (.loop (recOf fn tmps ps assign body D .ready none))) (hps : args.size = ps.size)
    (h : assign.wpIn (F.inRound l) m P (Exit.then (fun a₁ w₁ => w₁.heap[l]? = some (.loop (recOf fn tmps ps assign body D .ready none)) ∧
        body.wpIn (F.inRound l) m P (rfPost l (recOf fn tmps ps assign body D) R) a₁ (w₁.putObj l (.loop (recOf fn tmps ps assign body D .busy none)))) (fun _ _ _ => False))
      { tmps := (ps.zip args).foldl (fun t (p, v) => t.setIfInBounds p v) tmps, defers := [] } W) : YieldAt F m P l args W R := by
  refine ⟨fn, _, assign, body, run_yield hl hps, roundIn_of_wpIn hfn (wpIn_mono h ?_)⟩; intro e a1 w1 hq
  cases e with
  | normal =>
    obtain ⟨h1, h2⟩ := hq; refine ⟨_, run_beginRound h1 rfl, wpIn_mono h2 ?_⟩; intro e a3 W3 hp
    cases e with
    | normal => obtain ⟨h3, h4⟩ := hp; exact ⟨_, _, run_endRound none h3, h4⟩
    | ret => obtain ⟨h3, h4⟩ := hp; exact ⟨_, _, run_endRound (some .ret) h3, h4⟩
    | exit id => obtain ⟨h3, h4⟩ := hp; exact ⟨_, _, run_endRound (some (.exit id)) h3, h4⟩
    | goto t => exact hp.elim
    | panic c => exact hp.elim
    | outgrown => exact hp.elim
  | ret => exact hq.elim
  | exit id => exact hq.elim
  | goto t => exact hq.elim
  | panic c => exact hq.elim
  | outgrown => exact hq.elim

theorem rf_law' {g : Operand} {ps : Array Tmp} {assign body : Code} {Q : Exit → Act → World → Prop} {a : Act} {w : World}
    (hro : F.round = none) (h1 : 1 ≤ n) {gf : Nat} {lb : Array Value} (hg : a.eval g = .func (.func gf) #[] lb) (hFg : F.fn gf) (eg : ∀ args w, (callFunc gf args).run P w = .ok (.enter gf args) w)
    (h : ∀ fn rec, F.fn fn → Hid (rec = recOf fn a.tmps ps assign body w.heap.size) → CallsIn F (n - 1) P gf (#[.func (.yield (w.heap.size + 1)) #[] #[]] ++ lb)
      ((w.alloc (.deferred (some []))).alloc (.loop (rec .ready none)))
      (rfDone F n P Q a w rec)) :
    (Code.rangeFunc g ps assign body).wpIn F n P Q a w :=
  rf_law hro h1 hg hFg eg fun fn hfn => h fn _ hfn rfl

theorem rf_round' {m : Nat} {l : Nat} {fn : FuncId} {tmps : Array Value} {ps : Array Tmp} {assign body : Code} {D : Nat} {W : World} {args : Array Value} {R : Ending → World → Prop} {rec : LoopState → Option Code → Loop}
    (hfn : F.fn fn) (hrec : Hid (rec = recOf fn tmps ps assign body D)) (hl : W.heap[l]? = some (.loop (rec .ready none))) (hps : args.size = ps.size)
    (h : assign.wpIn (F.inRound l) m P (Exit.then (fun a₁ w₁ => w₁.heap[l]? = some (.loop (rec .ready none)) ∧
        body.wpIn (F.inRound l) m P (rfPost l rec R) a₁ (w₁.putObj l (.loop (rec .busy none)))) (fun _ _ _ => False))
      { tmps := (ps.zip args).foldl (fun t (p, v) => t.setIfInBounds p v) tmps, defers := [] } W) : YieldAt F m P l args W R := by
  have hr := hrec.out; subst hr; exact rf_round hfn hl hps h

end Tt

namespace Tt
open Go Go.RowKit
set_option linter.unusedVariables false

section
variable {P : Program} {w : World} {ops : Array Oper} {rest : List Oper} {o : Oper} {a : Act} {Q : Exit → Act → World → Prop}
theorem wpList_app2 (hgd : o.guard = none) (s x : Operand) (t : TypeId)
    (ho : o.op = .call { callee := .builtin .append, args := #[s, x], argTypes := #[t, t] })
    (base : Nat) (e : TypeId) (i : TypeInfo) (z : Value) (size bytes : Nat) (ht : P.underlying t = some (.slice e)) (hi : P.info? e = some i) (hz : i.zero = some z)
    (hsize : i.size = size) (hby : i.bytes = bytes) (hzs : z.cells.size = size) (hsz : 0 < size)
    (v : Value) (n : Nat) (xs : List Value) (hs : a.eval s = v) (hown : w.ownsRow base e size v n xs)
    (xa : Addr) (m c : Nat) (news : List Value) (hx : a.eval x = .slice (some xa) m c) (hS : Sl w (some xa) m c size news) (h1 : ∀ u ∈ news, u.oneCell' = true)
    (hbytes : (n + m) * bytes ≤ 140737488355328) (hb0 : 0 < bytes) (hbase : base ≤ w.heap.size)
    (h : ∀ (a' : Option Addr) (c' : Nat) (w' : World), w'.ownsRow base e size (.slice a' (n + m) c') (n + m) (xs ++ news) → w.grownBy w' v.ownBlock → (∀ k, (Value.slice a' (n + m) c').ownBlock = some k → v.ownBlock = some k ∨ w.heap.size ≤ k) → wpList P ops Q rest (a.put o.dst (.slice a' (n + m) c')) w') : wpList P ops Q (o :: rest) a w := by
  have h63 : n + m ≤ maxLen := by
    have : (n + m) * 1 ≤ (n + m) * bytes := Nat.mul_le_mul_left _ hb0; unfold maxLen; omega
  have hv' : ∀ (B : Nat) (v' : Value) (w' : World), w'.ownsRow B e size v' (n + m) (xs ++ news) → ∃ (a' : Option Addr) (c' : Nat), v' = .slice a' (n + m) c' := by
    intro B v' w' hw
    rcases hw.2 with ⟨rfl, h0⟩ | ⟨g, cap, cur, rfl, _⟩
    · exact ⟨none, 0, by rw [h0]⟩
    · exact ⟨_, _, rfl⟩
  have hnews : ∀ j u, news[j]? = some u → w.cell? (xa.add j) = some u := fun j u hu => by
    have hj : j < news.length := (List.getElem?_eq_some_iff.1 hu).1
    have hm : 0 < m := by
      rcases Nat.eq_zero_or_pos m with h0 | h0
      · rw [hS.len, h0] at hj; omega
      · exact h0
    obtain ⟨b, off, e1, _, hc⟩ := hS.lies 0 hm; injection e1 with e1; subst e1; rw [Addr.add_lit]; exact hc j u hu
  have grow : ∀ (ao : Option Addr) (cap : Nat), v = .slice ao n cap → cap < n + m → wpList P ops Q (o :: rest) a w := fun ao cap hv hfull => by
    subst hv; have hsl := (Sl.of_own hown).1; refine wpList_append_grows w hgd s x t ho e i z size bytes ht hi hz hsize hby hzs hsz ao n cap xs hs (fun hn => ?_) hsl.len (fun b hb j u hj => ?_) xa m c news hx hS.len hnews h1 hfull h63 hbytes ?_
    · subst hn
      have := hsl.fit rfl; have := hsl.le; exact ⟨by omega, by omega⟩
    · subst hb
      have hj2 : j < xs.length := (List.getElem?_eq_some_iff.1 hj).1
      have hn0 : 0 < n := by
        rcases Nat.eq_zero_or_pos n with h0 | h0
        · rw [hsl.len, h0] at hj2; omega
        · exact h0
      obtain ⟨b', off, e1, _, hc⟩ := hsl.lies 0 hn0; injection e1 with e1; subst e1; rw [Addr.add_lit]; exact hc j u hj
    · intro v' w' h2 h3
      obtain ⟨a', c', rfl⟩ := hv' _ v' w' h2; refine h _ _ w' (own_mono h2 hbase) ⟨h3.os, h3.tape, h3.output, h3.size, fun k hk _ => h3.block k hk (by simp)⟩ (fun k hk => .inr (h2.lt k hk).1)
  rcases hown.2 with ⟨hv, hn⟩ | ⟨g, cap, cur, hv, _⟩
  · by_cases hm : 0 < m
    · exact grow none 0 (by rw [hv, hn]) (by omega)
    · subst hv hn
      have hm0 : m = 0 := by omega
      have hn0 : news = [] := List.eq_nil_of_length_eq_zero (by rw [hS.len, hm0]; simp); have hx0 : xs = [] := List.eq_nil_of_length_eq_zero (by rw [hown.1]; simp)
      exact wpList_append_own w hgd s x t ho base e i z size bytes ht hi hz hsize hby hzs hsz (.slice none 0 0) 0 xs hs hown xa m c news hx hS.len hnews h1 h63 hbytes hbase fun v' w' h2 h3 h4 => by
        obtain rfl := h4.2 ⟨rfl, hm0⟩; have := h none 0 w' (by rw [hm0]; rw [hm0] at h2; exact h2) h3 (fun k hk => by cases hk); rw [hm0] at this; exact this
  · by_cases hfit : n + m ≤ cap
    · subst hv
      exact wpList_append_fits w hgd s x t ho base e i size ht hi hsize g n cap xs hs hown xa m c news hx hS.len hnews h1 hfit fun w' h2 h3 => h _ _ w' h2 h3 (fun k hk => .inl hk)
    · exact grow _ cap hv (by omega)
end
end Tt

namespace Go.Proofs.Ytpjopeojeglogaa
open Go.RowKit Tt
attribute [local go_sem] Oper.semAt_some
set_option linter.unusedVariables false
set_option linter.unusedSimpArgs false

theorem infoI : (Try.prog.info? 3).map (fun i => (i.zero, i.size, i.bytes)) = some (some (.int .i64 0), 1, 8) := by kernel_rfl
end Go.Proofs.Ytpjopeojeglogaa

namespace Tt
open Go Go.RowKit
set_option linter.unusedVariables false
set_option linter.unusedSimpArgs false

def isAggD (d : TypeDesc) : Bool := match d with | .struct _ | .array _ _ => true | _ => false
theorem run_isAgg_agg {P : Program} {t : TypeId} {d : TypeDesc} (h : P.underlying t = some d) (hd : isAggD d = true) (w : World) : (isAgg t).run P w = .ok true w := by
  cases d <;> first | (exfalso; exact Bool.false_ne_true hd) | simp [isAgg, run_underlying h]
theorem run_sizeOf {P : Program} {t : TypeId} {n : Nat} (h : (P.info? t).map (·.size) = some n) (w : World) : (Go.sizeOf t).run P w = .ok n w := by
  cases hq : P.info? t with
  | none => simp [hq] at h
  | some i =>
    have : i.size = n := by simpa [hq] using h
    simp [Go.sizeOf, typeInfo, hq, this]
/-- an element, of one cell, of an array's value -/
theorem run_index_arr {P : Program} (t e : TypeId) (n : Nat) (l : List Int) (k : IntKind) (i : Nat) (x : Int) (hu : P.underlying t = some (.array n e)) (he : P.underlying e = some (.int k)) (hi : (P.info? e).map (·.size) = some 1) (hx : l[i]? = some x) (h : i < n) (w : World) :
    (Instr.index t (.agg (ints k l).toArray) (.int .i64 i)).run P w = .ok (.int k x) w := by
  have h1 := run_sizeOf hi w; have h2 : (isAgg e).run P w = .ok false w := Go.Proofs.run_isAgg_plain he rfl w; have h3 : (ints k l)[i]? = some (.int k x) := by simp [ints, hx]
  simp [Instr.index, run_underlying hu, asIntOf, h1, part, h2, h3, h, go_sem]
/-- a whole variable, from some cell on -/
theorem run_loadVar_at {P : Program} (w : World) (g o : Nat) (ty : TypeId) (cs : List Value) (d : TypeDesc) (hc : ∀ j v, cs[j]? = some v → w.cell? ⟨g, o + j, none⟩ = some v)
    (hu : P.underlying ty = some d) (hd : isAggD d = true) (hi : (P.info? ty).map (·.size) = some cs.length) : (loadVar ty ⟨g, o, none⟩).run P w = .ok (.agg cs.toArray) w := by
  have hl : (loadCells ⟨g, o, none⟩ cs.length).run P w = .ok cs.toArray w := run_loadCells_list (P := P) w ⟨g, o, none⟩ cs (fun j v hv => by rw [Addr.add_lit]; exact hc j v hv); have h1 := run_sizeOf hi w; have h2 : (isAgg ty).run P w = .ok true w := run_isAgg_agg hu hd w
  simp [loadVar, Sem.run_bind, h1, h2, hl]
section
variable {P : Program} {ops : Array Oper} {rest : List Oper} {o : Oper} {a : Act} {w : World} {Q : Exit → Act → World → Prop}
theorem wpList_load_at (hgd : o.guard = none) (ty : TypeId) (x : Operand) (ho : o.op = .load ty x) (g f : Nat) (hx : a.eval x = .pointer (some ⟨g, f, none⟩)) (cs : List Value) (A : Array Value) (hA : cs.toArray = A) (d : TypeDesc) (hc : ∀ j v, cs[j]? = some v → w.cell? ⟨g, f + j, none⟩ = some v)
    (hu : P.underlying ty = some d) (hd : isAggD d = true) (z : Nat) (hi : (P.info? ty).map (·.size) = some z) (hz : cs.length = z) (h : wpList P ops Q rest (a.put o.dst (.agg A)) w) : wpList P ops Q (o :: rest) a w := by
  refine wpList_plain hgd fun K hK => ?_; unfold Oper.wp execOp; simp only [ho, hx, Instr.loadAt, Instr.sureAddr, Sem.run_bind, Sem.run_pure, Result.andThen_ok, run_loadVar_at w g f ty cs d hc hu hd (by rw [hz]; exact hi), hA]; exact hK _ _ h
end
/-- the i-th element of a row of elements of z cells -/
theorem Sl.elem {w : World} {a : Option Addr} {n c z : Nat} {cs : List Value} (h : Sl w a n c z cs) {i : Nat} (hi : i < n) :
    ∃ b o, a = some ⟨b, o, none⟩ ∧ b < w.heap.size ∧ ((cs.drop (i * z)).take z).length = z ∧ ∀ j v, ((cs.drop (i * z)).take z)[j]? = some v → w.cell? ⟨b, o + i * z + j, none⟩ = some v := by
  obtain ⟨b, o, rfl, hb, hc⟩ := h.at hi; refine ⟨b, o, rfl, hb, ?_, fun j v hj => ?_⟩
  · rw [List.length_take, List.length_drop, h.len]
    have : (i + 1) * z ≤ n * z := Nat.mul_le_mul_right _ hi; rw [Nat.add_mul] at this
    omega
  · rw [List.getElem?_take] at hj
    split at hj
    · rw [List.getElem?_drop] at hj
      rw [Nat.add_assoc]; exact hc _ v hj
    · cases hj
theorem rowBelow {B : Nat} {w w' : World} (h : Below B w w') {g : Nat} (hg : B ≤ g) (cs : Array Value) : Below B w (w'.setRow g cs) :=
  ⟨h.os, h.tape, h.output, by rw [show (w'.setRow g cs).heap.size = w'.heap.size by simp [World.setRow]]; exact h.size, fun k hk => by rw [setRow_other _ _ _ _ (by omega)]; exact h.block k hk⟩
/-- worlds of which a fact holds -/
theorem pr_worlds (C : World → Prop) (w : World) (h : C w) : ∃ (S : Type) (f : S → World), Nonempty S ∧ (∀ s, C (f s)) ∧ ∀ W, C W → ∃ s, W = f s :=
  ⟨{W : World // C W}, Subtype.val, ⟨⟨w, h⟩⟩, fun s => s.2, fun W h => ⟨⟨W, h⟩, rfl⟩⟩
/-- rows of elements of one length, laid flat -/
theorem flat_elem {α β : Type} (f : α → List β) (z : Nat) : ∀ (l : List α), (∀ x ∈ l, (f x).length = z) → ∀ (i : Nat) (x : α), l[i]? = some x → (((l.map f).flatten).drop (i * z)).take z = f x
  | [], _, i, x, h => by simp at h
  | y :: l, hl, 0, x, h => by
    obtain rfl : y = x := by simpa using h
    have hy := hl y (List.mem_cons_self ..); simp only [List.map_cons, List.flatten_cons, Nat.zero_mul, List.drop_zero]; rw [List.take_append_of_le_length (by omega), List.take_of_length_le (by omega)]
  | y :: l, hl, i + 1, x, h => by
    have hy := hl y (List.mem_cons_self ..); simp only [List.map_cons, List.flatten_cons]; rw [show (i + 1) * z = (f y).length + i * z by rw [hy, Nat.add_mul, Nat.one_mul, Nat.add_comm], List.drop_append, List.drop_of_length_le (by omega), Nat.add_sub_cancel_left, List.nil_append]; exact flat_elem f z l (fun x hx => hl x (List.mem_cons_of_mem _ hx)) i x (by simpa using h)
theorem flat_len {α β : Type} (f : α → List β) (z : Nat) : ∀ (l : List α), (∀ x ∈ l, (f x).length = z) → ((l.map f).flatten).length = l.length * z
  | [], _ => by simp
  | y :: l, hl => by
    simp only [List.map_cons, List.flatten_cons, List.length_append, List.length_cons]; rw [flat_len f z l (fun x hx => hl x (List.mem_cons_of_mem _ hx)), hl y (List.mem_cons_self ..), Nat.add_mul, Nat.one_mul, Nat.add_comm]
end Tt
namespace Tt
open Go Go.RowKit
section
variable {P : Program} {ops : Array Oper} {rest : List Oper} {o : Oper} {a : Act} {w : World} {Q : Exit → Act → World → Prop}
/-- the same where the operation is guarded, and wanted -/
theorem wpList_load_atW (hw : Region.wanted o (yielded ops a.tmps) = true) (ty : TypeId) (x : Operand) (ho : o.op = .load ty x) (g f : Nat) (hx : a.eval x = .pointer (some ⟨g, f, none⟩)) (cs : List Value) (A : Array Value) (hA : cs.toArray = A) (d : TypeDesc) (hc : ∀ j v, cs[j]? = some v → w.cell? ⟨g, f + j, none⟩ = some v)
    (hu : P.underlying ty = some d) (hd : isAggD d = true) (z : Nat) (hi : (P.info? ty).map (·.size) = some z) (hz : cs.length = z) (h : wpList P ops Q rest (a.put o.dst (.agg A)) w) : wpList P ops Q (o :: rest) a w := by
  refine wpList_want hw fun K hK => ?_; unfold Oper.wp execOp; simp only [ho, hx, Instr.loadAt, Instr.sureAddr, Sem.run_bind, Sem.run_pure, Result.andThen_ok, run_loadVar_at w g f ty cs d hc hu hd (by rw [hz]; exact hi), hA]; exact hK _ _ h
end
end Tt
namespace Tt
open Go Go.RowKit
/-- a new variable, stored whole -/
theorem setRow_alloc (w : World) (z cs : Array Value) (T : TypeId) : (w.alloc (.cells z T)).setRow w.heap.size cs = w.alloc (.cells cs T) := by
  unfold World.setRow World.alloc
  congr 1
  apply Array.ext_getElem?
  intro k; rw [Array.getElem?_modify]
  by_cases hk : w.heap.size = k
  · subst hk
    simp
  · have hk' : k ≠ w.heap.size := fun e => hk e.symm
    simp [hk, hk', Array.getElem?_push]
end Tt

namespace Go.Proofs.Ytpjopeojeglogaa
open Go.RowKit Tt
set_option linter.unusedVariables false
set_option linter.unusedSimpArgs false

def befP (a b : Int) : Bool := if a / 8 + a % 8 ≠ b / 8 + b % 8 then decide (a / 8 + a % 8 < b / 8 + b % 8) else if (a / 8 + a % 8) % 2 = 1 then decide (a / 8 < b / 8) else decide (b / 8 < a / 8)
def cntP (a : Nat) : Nat → Nat
  | 0 => 0
  | k + 1 => cntP a k + if befP k a then 1 else 0
theorem cntP_zz : ∀ a, a < 64 → cntP a 64 = zzI.getD a 0 := by decide +kernel
set_option maxHeartbeats 1000000 in
theorem rbef_any (a b : Nat) (w : World) (ha : a < 64) (hb : b < 64) : Calls Try.prog 190 #[.int .i64 a, .int .i64 b] w fun e w' => e = .returned (.bool (befP a b)) ∧ w = w' := by
  obtain ⟨r, hr⟩ : ∃ r, befP a b = r := ⟨_, rfl⟩; rw [hr]; unfold befP at hr; have h1 : (0 : Int) ≤ a := by omega
  have h2 : (0 : Int) ≤ b := by omega
  have h3 : (a : Int) < 64 := by omega
  have h4 : (b : Int) < 64 := by omega
  generalize (a : Int) = x at *
  generalize (b : Int) = y at *
  by_cases c1 : x / 8 + x % 8 = y / 8 + y % 8
  · rw [if_neg (by simp [c1])] at hr
    have c1b : (x / 8 + x % 8 == y / 8 + y % 8) = true := by simp [c1]
    have c1c : (x / 8 + x % 8 != y / 8 + y % 8) = false := by simp [c1]
    clear c1
    by_cases c2 : (x / 8 + x % 8) % 2 = 1
    · rw [if_pos c2] at hr
      have c2b : ((x / 8 + x % 8) % 2 == 1) = true := by simp [c2]
      clear c2; have hr' := Lib.hid hr; clear hr
      go_enter Try.func190, Try.ntmps190
      go_wp2
      go_ret
      exact ⟨by rw [← hr'.out]; rfl, rfl⟩
    · rw [if_neg c2] at hr
      have c2b : ((x / 8 + x % 8) % 2 == 1) = false := by simpa using c2
      clear c2; have hr' := Lib.hid hr; clear hr
      go_enter Try.func190, Try.ntmps190
      go_wp2
      go_ret
      exact ⟨by rw [← hr'.out]; rfl, rfl⟩
  · rw [if_pos c1] at hr
    have c1b : (x / 8 + x % 8 == y / 8 + y % 8) = false := by simpa using c1
    have c1c : (x / 8 + x % 8 != y / 8 + y % 8) = true := by simpa using c1
    clear c1; have hr' := Lib.hid hr; clear hr
    go_enter Try.func190, Try.ntmps190
    go_wp2
    go_ret
    exact ⟨by rw [← hr'.out]; rfl, rfl⟩
set_option maxHeartbeats 1000000 in
theorem rplace_any (a : Nat) (w : World) (ha : a < 64) : Calls Try.prog 158 #[.int .i64 a] w fun e w' => e = .returned (.int .i64 ((zzI.getD a 0 : Nat) : Int)) ∧ w = w' := by
  have hz := cntP_zz a ha; rw [← hz]; have hB := fun (k : Nat) (hk : k < 64) => rbef_any k a w hk ha; have hB' := Lib.hid hB; have hz' := Lib.hid hz; clear hB hz
  go_enter Try.func158, Try.ntmps158
  go_wp2
  go_loop [3, 4] (fun nv iv => ∃ k q : Nat, k ≤ 64 ∧ q ≤ k ∧ iv = .int .i64 k ∧ nv = .int .i64 q ∧ Hid (q = cntP a k)) (fun _ iv => 64 - (intOf iv).toNat)
  case atStart => exact ⟨0, 0, by omega, by omega, rfl, rfl, Lib.hid rfl⟩
  case round =>
    obtain ⟨k, q, hk, hqk, rfl, rfl, hq⟩ := hrel
    by_cases hlt : k < 64
    · have H := hB'.out k hlt
      have hs : cntP a (k + 1) = cntP a k + if befP k a then 1 else 0 := rfl; rw [← hq.out] at hs
      cases hb : befP k a
      · rw [hb] at H hs
        have hs' : q = cntP a (k + 1) := by rw [hs]; rfl
        have H' := Lib.hid H; have hs'' := Lib.hid hs'; have hb' := Lib.hid hb; clear H hs' hb; clear hs
        go_wp2_with (go_at_call 190; refine (H'.out).mono ?_; rintro e w' ⟨rfl, rfl⟩)
        go_round
        case rel => exact ⟨k + 1, q, by omega, by omega, by go_num, rfl, hs''⟩
        case measure => simp [intOf]; omega
      · rw [hb] at H hs
        have hs' : q + 1 = cntP a (k + 1) := by rw [hs]; rfl
        have H' := Lib.hid H; have hs'' := Lib.hid hs'; have hb' := Lib.hid hb; clear H hs' hb; clear hs
        go_wp2_with (go_at_call 190; refine (H'.out).mono ?_; rintro e w' ⟨rfl, rfl⟩)
        go_round
        case rel => exact ⟨k + 1, q + 1, by omega, by omega, by go_num, by go_num, hs''⟩
        case measure => simp [intOf]; omega
    · have hk64 : k = 64 := by omega
      have hq' := hq.out; rw [hk64] at hq'; have hk64' := Lib.hid hk64; have hq'' := Lib.hid hq'; clear hk64 hq'
      go_wp2
      go_ret
      exact ⟨by rw [← hq''.out]; rfl, rfl⟩

/-- a copy by places, and one to places, when n numbers have been copied -/
def gath (p : List Nat) (t : List Int) (n : Nat) : List Int := (List.range 64).map fun j => if j < n then t.getD (p.getD j 0) 0 else 0
def scat (p : List Nat) (t : List Int) (n : Nat) : List Int := (List.range 64).map fun j => if p.getD j 0 < n then t.getD (p.getD j 0) 0 else 0
theorem gath_len (p : List Nat) (t : List Int) (n : Nat) : (gath p t n).length = 64 := by simp [gath]
theorem scat_len (p : List Nat) (t : List Int) (n : Nat) : (scat p t n).length = 64 := by simp [scat]
theorem gath_get (p : List Nat) (t : List Int) (n : Nat) {j : Nat} (hj : j < 64) : (gath p t n).getD j 0 = if j < n then t.getD (p.getD j 0) 0 else 0 := by
  unfold gath; rw [List.getD_eq_getElem?_getD, List.getElem?_map, List.getElem?_range hj]
  rfl
theorem scat_get (p : List Nat) (t : List Int) (n : Nat) {j : Nat} (hj : j < 64) : (scat p t n).getD j 0 = if p.getD j 0 < n then t.getD (p.getD j 0) 0 else 0 := by
  unfold scat; rw [List.getD_eq_getElem?_getD, List.getElem?_map, List.getElem?_range hj]
  rfl
theorem set_get {l : List Int} {i j : Nat} (hi : i < l.length) (x : Int) : (l.set i x).getD j 0 = if j = i then x else l.getD j 0 := by
  rw [List.getD_eq_getElem?_getD, List.getElem?_set, List.getD_eq_getElem?_getD]
  by_cases h : i = j
  · subst h; simp [hi]
  · simp [h, Ne.symm h]
theorem zeros64 (p : List Nat) (t : List Int) : gath p t 0 = List.replicate 64 0 ∧ scat p t 0 = List.replicate 64 0 := by
  constructor
  · refine ext64 (gath_len _ _ _) (by simp) fun i hi => ?_
    rw [gath_get _ _ _ hi, if_neg (by omega), List.getD_eq_getElem?_getD, List.getElem?_replicate, if_pos hi]; rfl
  · refine ext64 (scat_len _ _ _) (by simp) fun i hi => ?_
    rw [scat_get _ _ _ hi, if_neg (by omega), List.getD_eq_getElem?_getD, List.getElem?_replicate, if_pos hi]; rfl
theorem gath_step (p : List Nat) (t : List Int) {n : Nat} (hn : n < 64) : (gath p t n).set n (t.getD (p.getD n 0) 0) = gath p t (n + 1) := by
  refine ext64 (by rw [List.length_set, gath_len]) (gath_len _ _ _) fun i hi => ?_; rw [set_get (by rw [gath_len]; exact hn), gath_get _ _ _ hi, gath_get _ _ _ hi]
  by_cases h : i = n
  · subst h; rw [if_pos rfl, if_pos (by omega)]
  · rw [if_neg h]
    by_cases h2 : i < n
    · rw [if_pos h2, if_pos (by omega)]
    · rw [if_neg h2, if_neg (by omega)]
theorem scat_step (p q : List Nat) (t : List Int) {n : Nat} (hn : n < 64) (hq : q.getD n 0 < 64) (h1 : p.getD (q.getD n 0) 0 = n) (h2 : ∀ i, i < 64 → q.getD (p.getD i 0) 0 = i) : (scat p t n).set (q.getD n 0) (t.getD n 0) = scat p t (n + 1) := by
  refine ext64 (by rw [List.length_set, scat_len]) (scat_len _ _ _) fun i hi => ?_; rw [set_get (by rw [scat_len]; exact hq), scat_get _ _ _ hi, scat_get _ _ _ hi]
  by_cases h : i = q.getD n 0
  · rw [if_pos h, h, h1, if_pos (by omega)]
  · have hne : p.getD i 0 ≠ n := fun e => h (by rw [← h2 i hi, e])
    rw [if_neg h]
    by_cases h3 : p.getD i 0 < n
    · rw [if_pos h3, if_pos (by omega)]
    · rw [if_neg h3, if_neg (by omega)]
theorem gath_toZ (t : List Int) : gath zzL t 64 = toZ t := ext64 (gath_len _ _ _) (toZ_len _) fun i hi => by rw [gath_get _ _ _ hi, toZ_get _ hi, if_pos hi]
theorem scat_toZ (t : List Int) : scat zzL t 64 = toZ t := ext64 (scat_len _ _ _) (toZ_len _) fun i hi => by rw [scat_get _ _ _ hi, toZ_get _ hi, if_pos (zz_lt i hi).1]
end Go.Proofs.Ytpjopeojeglogaa

namespace Tt
open Go Go.RowKit
theorem three_boxes (w : World) (T : TypeId) (a : Array Value) (U : TypeId) (b : Array Value) (V : TypeId) (c : Array Value) : ∃ WC, ((w.alloc (.cells a T)).alloc (.cells b U)).alloc (.cells c V) = WC ∧ Blk WC w.heap.size T a ∧ Blk WC (w.heap.size + 1) U b ∧ Blk WC (w.heap.size + 2) V c ∧ Below w.heap.size w WC ∧ WC.heap.size = w.heap.size + 3 := by
  have hA := Blk.new w T a; have hB := Blk.new (w.alloc (.cells a T)) U b; have hC := Blk.new ((w.alloc (.cells a T)).alloc (.cells b U)) V c; rw [show (w.alloc (.cells a T)).heap.size = w.heap.size + 1 by simp] at hB; rw [show ((w.alloc (.cells a T)).alloc (.cells b U)).heap.size = w.heap.size + 2 by simp] at hC; exact ⟨_, rfl, (hA.alloc _).alloc _, hB.alloc _, hC, (((Below.refl w.heap.size w).alloc (Nat.le_refl _) _).alloc (by simp) _).alloc (by simp <;> omega) _, by simp⟩
theorem two_boxes (w : World) (T : TypeId) (a : Array Value) (U : TypeId) (b : Array Value) : ∃ WC, (w.alloc (.cells a T)).alloc (.cells b U) = WC ∧ Blk WC w.heap.size T a ∧ Blk WC (w.heap.size + 1) U b ∧ Below w.heap.size w WC ∧ WC.heap.size = w.heap.size + 2 := by
  have hA := Blk.new w T a; have hB := Blk.new (w.alloc (.cells a T)) U b; rw [show (w.alloc (.cells a T)).heap.size = w.heap.size + 1 by simp] at hB; exact ⟨_, rfl, hA.alloc _, hB, ((Below.refl w.heap.size w).alloc (Nat.le_refl _) _).alloc (by simp) _, by simp⟩
end Tt
