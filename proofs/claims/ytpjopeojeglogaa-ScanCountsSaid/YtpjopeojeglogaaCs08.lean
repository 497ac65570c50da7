/- Some of the old blocks may have turned, no others; sums and pieces of 32 bits. | Chapter 14: tables read one behind the other: the program. | A load of a great array in a drawn region. -/
import Derived.Test.YtpjopeojeglogaaCs02
import Derived.Test.YtpjopeojeglogaaCs07
import Derived.Great.BuildSlice
import Derived.Test.YtpjopeojeglogaaCs05
import Derived.BigQuiet
namespace Tt
open Go Go.RowKit
set_option linter.unusedVariables false
set_option linter.unusedSimpArgs false

structure Mo (S : Nat → Prop) (w w' : World) : Prop where
  os : w'.os = w.os
  tape : w'.tape = w.tape
  output : w'.output = w.output
  size : w.heap.size ≤ w'.heap.size
  block : ∀ k, k < w.heap.size → ¬ S k → w'.heap[k]? = w.heap[k]?
/-- these, and what is new since w -/
def Sx (S : Nat → Prop) (w w' : World) : Nat → Prop := fun k => S k ∨ (w.heap.size ≤ k ∧ k < w'.heap.size)
theorem Mo.refl (S : Nat → Prop) (w : World) : Mo S w w := ⟨rfl, rfl, rfl, Nat.le_refl _, fun _ _ _ => rfl⟩
theorem Mo.trans {S S' : Nat → Prop} {w w' w'' : World} (h : Mo S w w') (k : Mo S' w' w'') (hS : ∀ i, i < w.heap.size → S' i → S i) : Mo S w w'' :=
  ⟨k.os.trans h.os, k.tape.trans h.tape, k.output.trans h.output, Nat.le_trans h.size k.size, fun i hi hn => (k.block i (Nat.lt_of_lt_of_le hi h.size) fun e => hn (hS i hi e)).trans (h.block i hi hn)⟩
theorem Sx.old {S : Nat → Prop} {w w' : World} {i : Nat} (hi : i < w.heap.size) (h : Sx S w w' i) : S i := by
  rcases h with h | h
  · exact h
  · omega
theorem Sx.mono {S : Nat → Prop} {w w' w'' : World} {i : Nat} (h : Sx S w w' i) (hs : w'.heap.size ≤ w''.heap.size) : Sx S w w'' i := by
  rcases h with h | h
  · exact .inl h
  · exact .inr ⟨h.1, by omega⟩
theorem Sx.twice {S : Nat → Prop} {w w' w'' : World} {i : Nat} (h : Sx (Sx S w w') w' w'' i) (h1 : w.heap.size ≤ w'.heap.size) (h2 : w'.heap.size ≤ w''.heap.size) : Sx S w w'' i := by
  rcases h with h | h
  · exact h.mono h2
  · exact .inr ⟨by omega, h.2⟩
theorem Mo.more {S : Nat → Prop} {w w' w'' : World} (h : Mo S w w') (k : Mo (Sx S w w') w' w'') : Mo S w w'' := h.trans k fun _ hi e => e.old hi
theorem Mo.of_below {S : Nat → Prop} {w w' : World} (h : Below w.heap.size w w') : Mo S w w' := ⟨h.os, h.tape, h.output, h.size, fun k hk _ => h.block k hk⟩
theorem Mo.of_but {S : Nat → Prop} {g : Nat} {w w' : World} (h : But g w w') (hg : S g) : Mo S w w' := ⟨h.os, h.tape, h.output, h.size, fun k hk hn => h.block k hk (fun e => hn (e ▸ hg))⟩
theorem Mo.of_grown {S : Nat → Prop} {w w' : World} {row : Option Nat} (h : w.grownBy w' row) (hr : ∀ k, row = some k → S k) : Mo S w w' :=
  ⟨h.os, h.tape, h.output, h.size, fun k hk hn => h.block k hk (fun e => hn (hr k e.symm))⟩
theorem Mo.alloc {S : Nat → Prop} {w w' : World} (h : Mo S w w') (o : Obj) : Mo S w (w'.alloc o) := h.trans (S' := S) (Mo.of_below ((Below.refl _ _).alloc (Nat.le_refl _) _)) fun _ _ e => e
theorem Mo.set {S : Nat → Prop} {w w' : World} (h : Mo S w w') {g : Nat} (hg : S g ∨ w.heap.size ≤ g) (i : Nat) (v : Value) : Mo S w (w'.setCell ⟨g, i, none⟩ v) :=
  ⟨h.os, h.tape, h.output, by have := h.size; simpa using this, fun k hk hn => (Below.heap_setCell w' ⟨g, i, none⟩ v k (by
    show k ≠ g
    rintro rfl
    rcases hg with hg | hg
    · exact hn hg
    · omega)).trans (h.block k hk hn)⟩
theorem Mo.below {S : Nat → Prop} {B : Nat} {w w' : World} (h : Mo S w w') (hB : B ≤ w.heap.size) (hS : ∀ k, k < B → ¬ S k) : Below B w w' := ⟨h.os, h.tape, h.output, h.size, fun k hk => h.block k (by omega) (hS k hk)⟩
theorem Mo.cell {S : Nat → Prop} {w w' : World} (h : Mo S w w') {p : Addr} (h1 : p.block < w.heap.size) (h2 : ¬ S p.block) : w'.cell? p = w.cell? p := by
  unfold World.cell?; rw [h.block _ h1 h2]
theorem Sl.mo {S : Nat → Prop} {w w' : World} {a : Option Addr} {n cap sz : Nat} {cs : List Value} (h : Sl w a n cap sz cs) (m : Mo S w w') (ha : ∀ x, a = some x → ¬ S x.block) : Sl w' a n cap sz cs :=
  ⟨h.len, h.le, h.max, fun i hi => by
    obtain ⟨g, off, e, hlt, hc⟩ := h.lies i hi; exact ⟨g, off, e, Nat.lt_of_lt_of_le hlt m.size, fun j v hv => by rw [m.cell (p := ⟨g, off + j, none⟩) hlt (show ¬ S g from ha _ e)]; exact hc j v hv⟩, h.fit⟩
theorem Blk.mo {S : Nat → Prop} {w w' : World} {g : Nat} {T : TypeId} {cs : Array Value} (h : Blk w g T cs) (m : Mo S w w') (hg : ¬ S g) : Blk w' g T cs := (m.block g h.lt hg).trans h
theorem AM.mo {S : Nat → Prop} {P : Program} {k : TypeId} {w w' : World} {b : Nat} {l : List (Value × Value)} (h : AM P k w b l) (m : Mo S w w') (hg : ¬ S b) : AM P k w' b l := h.same (m.block b h.lt hg)
theorem own_mo {S : Nat → Prop} {w w' : World} {B : Nat} {E : TypeId} {sz : Nat} {v : Value} {n : Nat} {xs : List Value} (h : w.ownsRow B E sz v n xs) (m : Mo S w w') (hv : ∀ k, v.ownBlock = some k → ¬ S k) : w'.ownsRow B E sz v n xs := by
  obtain ⟨hl, hr⟩ := h; refine ⟨hl, ?_⟩
  rcases hr with hn | ⟨g, cap, cur, rfl, hB, hg, r⟩
  · exact .inl hn
  · exact .inr ⟨g, cap, cur, rfl, hB, by rw [m.block g (Array.getElem?_eq_some_iff.1 hg).1 (hv g rfl)]; exact hg, r⟩
theorem or_u32 (a b : Nat) (ha : a < 4294967296) (hb : b < 4294967296) : bits .or .u32 (a : Int) (b : Int) = ((a ||| b : Nat) : Int) := by
  have hx : a ||| b < 2 ^ 32 := Nat.or_lt_two_pow (by omega) (by omega)
  have h1 : (BitVec.ofInt 32 (a : Int)).toNat = a := by rw [BitVec.ofInt_natCast, BitVec.toNat_ofNat]; exact Nat.mod_eq_of_lt (by omega)
  have h2 : (BitVec.ofInt 32 (b : Int)).toNat = b := by rw [BitVec.ofInt_natCast, BitVec.toNat_ofNat]; exact Nat.mod_eq_of_lt (by omega)
  show IntKind.u32.wrap ((BitVec.ofInt 32 (a : Int) ||| BitVec.ofInt 32 (b : Int)).toNat : Int) = _
  rw [BitVec.toNat_or, h1, h2, IntKind.wrap_u32]
  omega
theorem and_u32 (a b : Nat) (ha : a < 4294967296) (hb : b < 4294967296) : bits .and .u32 (a : Int) (b : Int) = ((a &&& b : Nat) : Int) := by
  have hx : a &&& b < 2 ^ 32 := Nat.and_lt_two_pow _ (by omega); have h1 : (BitVec.ofInt 32 (a : Int)).toNat = a := by rw [BitVec.ofInt_natCast, BitVec.toNat_ofNat]; exact Nat.mod_eq_of_lt (by omega)
  have h2 : (BitVec.ofInt 32 (b : Int)).toNat = b := by rw [BitVec.ofInt_natCast, BitVec.toNat_ofNat]; exact Nat.mod_eq_of_lt (by omega)
  show IntKind.u32.wrap ((BitVec.ofInt 32 (a : Int) &&& BitVec.ofInt 32 (b : Int)).toNat : Int) = _
  rw [BitVec.toNat_and, h1, h2, IntKind.wrap_u32]
  omega
theorem low_u32 {x : Int} {k : Nat} (h0 : 0 ≤ x) (h1 : x < 4294967296) (hk : k ≤ 31) : bits .and .u32 x ((2 ^ k - 1) % 4294967296) = x % 2 ^ k := by
  obtain ⟨a, rfl⟩ : ∃ a : Nat, x = a := ⟨x.toNat, by omega⟩; have hp : 2 ^ k ≤ 2 ^ 31 := Nat.pow_le_pow_right (by decide) hk; have hq : 0 < 2 ^ k := Nat.pow_pos (by decide)
  have e : ((2 : Int) ^ k - 1) % 4294967296 = ((2 ^ k - 1 : Nat) : Int) := by
    have e1 : ((2 ^ k : Nat) : Int) = (2 : Int) ^ k := by simp
    rw [← e1]
    omega
  rw [e, and_u32 a _ (by omega) (by omega), Nat.and_two_pow_sub_one_eq_mod]
  simp
/-- what is put behind r, of k bits -/
theorem put_u32 {r v : Int} {m k : Nat} (h0 : 0 ≤ r) (h1 : r < 2 ^ m) (hm : m < 8) (hk : k ≤ 16) :
    bits .or .u32 (r * 2 ^ k % 4294967296) (bits .and .u32 (v % 4294967296) ((2 ^ k - 1) % 4294967296)) = r * 2 ^ k + v % 2 ^ k := by
  rw [low_u32 (Int.emod_nonneg _ (by decide)) (Int.emod_lt_of_pos _ (by decide)) (by omega)]; obtain ⟨a, rfl⟩ : ∃ a : Nat, r = a := ⟨r.toNat, by omega⟩; have hd : (2 : Int) ^ k ∣ 4294967296 := ⟨2 ^ (32 - k), by rw [← Int.pow_add, show k + (32 - k) = 32 by omega]; rfl⟩; rw [Int.emod_emod_of_dvd _ hd]; have hq : (0 : Int) < 2 ^ k := Int.pow_pos (by decide); have h2 := Int.emod_nonneg v (Int.ne_of_gt hq); have h3 := Int.emod_lt_of_pos v hq; obtain ⟨b, hb⟩ : ∃ b : Nat, v % 2 ^ k = b := ⟨(v % 2 ^ k).toNat, by omega⟩; rw [hb] at h2 h3 ⊢; have e1 : ((2 ^ k : Nat) : Int) = (2 : Int) ^ k := by simp
  have e2 : ((2 ^ m : Nat) : Int) = (2 : Int) ^ m := by simp
  rw [← e1] at h3 ⊢; rw [← e2] at h1; have hbn : b < 2 ^ k := by omega
  have han : a < 2 ^ m := by omega
  have hm7 : 2 ^ m ≤ 2 ^ 7 := Nat.pow_le_pow_right (by decide) (by omega); have hk16 : 2 ^ k ≤ 2 ^ 16 := Nat.pow_le_pow_right (by decide) hk; have hle : a * 2 ^ k ≤ 2 ^ 7 * 2 ^ 16 := Nat.mul_le_mul (by omega) hk16
  have e3 : ((a : Int) * ((2 ^ k : Nat) : Int)) % 4294967296 = ((a * 2 ^ k : Nat) : Int) := by
    rw [← Int.natCast_mul]
    omega
  rw [e3, or_u32 _ _ (by omega) (by omega), Nat.mul_comm a, ← Nat.two_pow_add_eq_or_of_lt hbn a, Nat.mul_comm]
  simp [Int.natCast_add, Int.natCast_mul]
end Tt

namespace Tt
open Go Go.RowKit
set_option linter.unusedVariables false
set_option linter.unusedSimpArgs false
theorem fill_one (sz : Nat) (Z B : Array Value) (hZ : Z.size = sz) (hB : B.size = sz) : Instr.fill (fun i => some (i * sz, sz)) Z [(0, .agg B)] = some B := by
  simp only [Instr.fill, Value.cells, Nat.zero_mul, Nat.zero_add]; rw [if_neg (by simp [hZ, hB])]
  congr 1
  apply Array.ext'
  have hF : Array.foldl (fun cs (x : Value × Nat) => cs.setIfInBounds x.snd x.fst) Z B.zipIdx = List.foldl (fun cs (x : Value × Nat) => cs.setIfInBounds (0 + x.snd) x.fst) Z (B.toList.zipIdx) := by
    rw [← Array.foldl_toList]
    simp
  rw [hF, fold_set 0 B.toList 0 Z (by simp [hZ, hB])]
  simp [hZ, hB]
section
variable {P : Program} {ops : Array Oper} {rest : List Oper} {o : Oper} {a : Act} {w : World} {Q : Exit → Act → World → Prop}
theorem wpList_buildOne (hg : o.guard = none) (t e : TypeId) (x : Operand) (ho : o.op = .buildSlice t 1 #[(0, x)]) (B : Array Value) (hx : a.eval x = .agg B) (ie : TypeInfo) (z : Value) (sz : Nat) (hu : P.underlying t = some (.slice e)) (hie : P.info? e = some ie) (hz : ie.zero = some z) (hsz : ie.size = sz) (h0 : 0 < sz) (h1 : sz ≤ 1000) (hB : B.size = sz)
    (h : wpList P ops Q rest (a.put o.dst (.slice (some ⟨w.heap.size, 0, none⟩) 1 1)) (w.alloc (.cells B e))) : wpList P ops Q (o :: rest) a w := by
  subst hsz; refine wpList_buildSlice hg t e 1 #[(0, x)] ho B ie z hu hie hz (by omega) (by omega) ?_ h; have e1 : (#[(0, x)].map fun (i, x) => (i, a.eval x)).toList = [(0, Value.agg B)] := by simp [hx]
  rw [e1]; exact fill_one ie.size _ B (by simp) hB
end
end Tt
namespace Go.Proofs.Ytpjopeojeglogaa
open Go.RowKit Tt
set_option linter.unusedVariables false
set_option linter.unusedSimpArgs false

theorem info_ofz {T : TypeId} {sz by_ : Nat} (h1 : (Try.prog.info? T).map (fun i => (i.size, i.bytes)) = some (sz, by_)) (h2 : (Try.prog.info? T).map (fun i => i.zero.map (fun z => z.cells.size)) = some (some sz)) :
    ∃ (i : TypeInfo) (z : Value), Try.prog.info? T = some i ∧ i.zero = some z ∧ i.size = sz ∧ i.bytes = by_ ∧ z.cells.size = sz := by
  cases hi : Try.prog.info? T with
  | none => rw [hi] at h1; cases h1
  | some i =>
    rw [hi] at h1 h2; simp only [Option.map_some, Option.some.injEq, Prod.mk.injEq] at h1 h2
    cases hz : i.zero with
    | none => rw [hz] at h2; cases h2
    | some z =>
      rw [hz] at h2; simp only [Option.map_some, Option.some.injEq] at h2; exact ⟨i, z, rfl, hz, h1.1, h1.2, h2⟩
end Go.Proofs.Ytpjopeojeglogaa

namespace Tt
open Go Go.RowKit Go.BigFrame
set_option linter.unusedVariables false
set_option linter.unusedSimpArgs false
section
variable {P : Program} {ops : Array Oper} {rest : List Oper} {o : Oper} {a : Act} {C : World → Prop} {Q : Act → Prop}
theorem quiet_load_at {K : Act → Prop} (ty : TypeId) (x : Operand) (ho : o.op = .load ty x) (g f : Nat) (hx : a.eval x = .pointer (some ⟨g, f, none⟩)) (cs : List Value) (A : Array Value) (hA : cs.toArray = A) (d : TypeDesc) (hc : ∀ w, C w → ∀ j v, cs[j]? = some v → w.cell? ⟨g, f + j, none⟩ = some v)
    (hu : P.underlying ty = some d) (hd : isAggD d = true) (z : Nat) (hi : (P.info? ty).map (·.size) = some z) (hz : cs.length = z) (hk : K (a.put o.dst (.agg A))) : o.quiet P a C K :=
  ⟨.agg A, fun w hw => by
    unfold Oper.quietAt execOp; simp only [ho, hx, Instr.loadAt, Instr.sureAddr, Sem.run_bind, Sem.run_pure, Result.andThen_ok, run_loadVar_at w g f ty cs d (hc w hw) hu hd (by rw [hz]; exact hi), hA]; exact ⟨rfl, rfl⟩, hk⟩
theorem wpQuiet_load_at (hg : o.guard = none) (ty : TypeId) (x : Operand) (ho : o.op = .load ty x) (g f : Nat) (hx : a.eval x = .pointer (some ⟨g, f, none⟩)) (cs : List Value) (A : Array Value) (hA : cs.toArray = A) (d : TypeDesc) (hc : ∀ w, C w → ∀ j v, cs[j]? = some v → w.cell? ⟨g, f + j, none⟩ = some v)
    (hu : P.underlying ty = some d) (hd : isAggD d = true) (z : Nat) (hi : (P.info? ty).map (·.size) = some z) (hz : cs.length = z) (h : wpQuiet P ops C Q rest (a.put o.dst (.agg A))) : wpQuiet P ops C Q (o :: rest) a :=
  wpQuiet_want (by simp [Region.wanted, hg]) fun K hK => quiet_load_at ty x ho g f hx cs A hA d hc hu hd z hi hz (hK _ h)
end
end Tt
