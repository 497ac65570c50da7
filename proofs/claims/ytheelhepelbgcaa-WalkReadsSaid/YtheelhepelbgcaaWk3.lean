/- Chapter 22: the walker: must, is, number. -/
import Derived.Test.YtheelhepelbgcaaWm
import Derived.WalkLawsBesides
namespace Tt
open Go Go.RowKit
set_option linter.unusedVariables false

theorem or_u64 (a b : Nat) (ha : a < 18446744073709551616) (hb : b < 18446744073709551616) : bits .or .u64 (a : Int) (b : Int) = ((a ||| b : Nat) : Int) := by
  have hx : a ||| b < 2 ^ 64 := Nat.or_lt_two_pow (by omega) (by omega)
  have h1 : (BitVec.ofInt 64 (a : Int)).toNat = a := by rw [BitVec.ofInt_natCast, BitVec.toNat_ofNat]; exact Nat.mod_eq_of_lt (by omega)
  have h2 : (BitVec.ofInt 64 (b : Int)).toNat = b := by rw [BitVec.ofInt_natCast, BitVec.toNat_ofNat]; exact Nat.mod_eq_of_lt (by omega)
  show IntKind.u64.wrap ((BitVec.ofInt 64 (a : Int) ||| BitVec.ofInt 64 (b : Int)).toNat : Int) = _
  rw [BitVec.toNat_or, h1, h2, IntKind.wrap_u64]
  omega
theorem and_u64 (a b : Nat) (ha : a < 18446744073709551616) (hb : b < 18446744073709551616) : bits .and .u64 (a : Int) (b : Int) = ((a &&& b : Nat) : Int) := by
  have hx : a &&& b < 2 ^ 64 := Nat.and_lt_two_pow _ (by omega)
  have h1 : (BitVec.ofInt 64 (a : Int)).toNat = a := by rw [BitVec.ofInt_natCast, BitVec.toNat_ofNat]; exact Nat.mod_eq_of_lt (by omega)
  have h2 : (BitVec.ofInt 64 (b : Int)).toNat = b := by rw [BitVec.ofInt_natCast, BitVec.toNat_ofNat]; exact Nat.mod_eq_of_lt (by omega)
  show IntKind.u64.wrap ((BitVec.ofInt 64 (a : Int) &&& BitVec.ofInt 64 (b : Int)).toNat : Int) = _
  rw [BitVec.toNat_and, h1, h2, IntKind.wrap_u64]
  omega
theorem and63_u64 (n : Nat) (h : n < 18446744073709551616) : bits .and .u64 (n : Int) 63 = ((n % 64 : Nat) : Int) := by
  have h1 := and_u64 n 63 h (by decide)
  have h2 : n &&& 63 = n % 64 := Nat.and_two_pow_sub_one_eq_mod n 6
  rw [h2] at h1
  exact h1
theorem prop_worlds (p : World → Prop) (w : World) (h : p w) : ∃ (S : Type) (f : S → World), Nonempty S ∧ (∀ s, p (f s)) ∧ ∀ W, p W → ∃ s, W = f s :=
  ⟨{W : World // p W}, Subtype.val, ⟨⟨w, h⟩⟩, fun s => s.2, fun W h => ⟨⟨W, h⟩, rfl⟩⟩
theorem and1_u64 (n : Nat) (h : n < 18446744073709551616) : bits .and .u64 (n : Int) 1 = ((n % 2 : Nat) : Int) := by
  have h1 := and_u64 n 1 h (by decide)
  have h2 : n &&& 1 = n % 2 := Nat.and_two_pow_sub_one_eq_mod n 1
  rw [h2] at h1
  exact h1
end Tt
namespace Go.Proofs.Ytheelhepelbgcaa
open Go.RowKit Tt
set_option linter.unusedVariables false
set_option linter.unusedSimpArgs false

/-- what a walker gives up with -/
def pan (e : Int) : List PanicEntry := [{ v := .iface 79 (.agg #[.int .i64 e]), recovered := false }]
def mustE (b : Bool) (e : Int) : Ending := if b = true then .returned (.tuple #[]) else .panicked (pan e)
theorem must_any (b : Bool) (e : Int) (w : World) : Calls Try.prog 29 #[.bool b, .int .i64 e] w fun x w' => x = mustE b e ∧ w = w' := by
  cases b
  ·
    go_enter Try.func29, Try.ntmps29
    go_wp2
    exact ⟨rfl, rfl, rfl⟩
  ·
    go_enter Try.func29, Try.ntmps29
    go_wp2
    refine bodyPost_end (results_none rfl _ _ _) rfl ?_
    exact ⟨rfl, rfl⟩
/-- the words of what is taken -/
def nats (l : List Nat) : List Int := l.map fun (x : Nat) => (x : Int)
theorem nats_get {l : List Nat} {i : Nat} (h : i < l.length) : (nats l).getD i 0 = ((l.getD i 0 : Nat) : Int) := by
  rw [getD_el (by simpa [nats] using h), getD_el h]; simp [nats]
theorem nats_set (l : List Nat) (i v : Nat) : (nats l).set i (v : Int) = nats (l.set i v) := by simp [nats, List.map_set]
def bitB (tk : List Nat) (k : Nat) : Bool := (tk.getD (k / 64) 0).testBit (k % 64)
theorem bitB_set {tk : List Nat} {k : Nat} (h : k / 64 < tk.length) (j : Nat) : bitB (tk.set (k / 64) ((tk.getD (k / 64) 0) ||| 2 ^ (k % 64))) j = (bitB tk j || decide (j = k)) := by
  unfold bitB
  by_cases hj : j / 64 = k / 64
  · rw [hj, List.getD_eq_getElem?_getD, List.getElem?_set_self h]
    simp only [Option.getD_some, Nat.testBit_or, Nat.testBit_two_pow]
    rw [Bool.eq_iff_iff]
    simp only [Bool.or_eq_true, decide_eq_true_eq]
    constructor <;> (rintro (h1 | h1) <;> first | exact .inl h1 | exact .inr (by omega))
  · rw [List.getD_eq_getElem?_getD, List.getElem?_set_ne (by omega), ← List.getD_eq_getElem?_getD]
    rw [decide_eq_false (show ¬ j = k by rintro rfl; exact hj rfl), Bool.or_false]
/-- what stays while a block is read -/
structure WkS where
  w0 : World
  a : Option Addr
  n : Nat
  c : Nat
  z : List Int
  o : Int
  sa : Option Addr
  sn : Nat
  sc : Nat
  zs : List Shz
  g : Nat
  gt : Nat
  tn : Nat
structure WkT (K : WkS) : Prop where
  hs : Sl K.w0 K.a K.n K.c 1 (ints .u8 K.z)
  hsh : ShR K.w0 K.sa K.sn K.sc K.zs
  byt : Byt K.z
  n1 : K.n ≤ 1000000000
  tn : K.tn = K.n / 64 + 1
  gB : K.w0.heap.size ≤ K.g
  gtB : K.w0.heap.size ≤ K.gt
  ne : K.g ≠ K.gt
/-- the walker, in the state s -/
structure WkOk (K : WkS) (s : St) (sv : Value) (tk : List Nat) (w : World) : Prop where
  old : Below K.w0.heap.size K.w0 w
  blk : Blk w K.g 70 #[.slice K.a K.n K.c, .int .i64 K.o, .slice K.sa K.sn K.sc, .slice (some ⟨K.gt, 0, none⟩) K.tn K.tn, sv, .int .i64 s.no, .int .i64 s.soiled]
  tak : Row w K.gt 91 .u64 (nats tk)
  tkl : tk.length = K.tn
  tkb : ∀ x ∈ tk, x < 18446744073709551616
  bits : ∀ k, k < K.n → bitB tk k = takenB s k
  spot : w.ownsRow K.w0.heap.size 38 5 sv s.spots.length (fl spC s.spots)
  sg : sv.ownBlock ≠ some K.g
  sgt : sv.ownBlock ≠ some K.gt
theorem WkOk.later {K : WkS} {s : St} {sv : Value} {tk : List Nat} {w w' : World} (h : WkOk K s sv tk w) (hb : Below w.heap.size w w') : WkOk K s sv tk w' :=
  ⟨h.old.trans (hb.mono h.old.size), h.blk.late hb, Blk.late (T := 91) h.tak hb, h.tkl, h.tkb, h.bits, own_later h.spot hb, h.sg, h.sgt⟩
theorem WkOk.byts {K : WkS} {s : St} {sv : Value} {tk : List Nat} {w : World} (h : WkOk K s sv tk w) (t : WkT K) : Sl w K.a K.n K.c 1 (ints .u8 K.z) := t.hs.mono h.old
theorem WkOk.shps {K : WkS} {s : St} {sv : Value} {tk : List Nat} {w : World} (h : WkOk K s sv tk w) (t : WkT K) : ShR w K.sa K.sn K.sc K.zs := t.hsh.mono h.old
theorem is_any (g gt tn : Nat) (cs : Array Value) (T : TypeId) (tk : List Nat) (k : Nat) (w : World) (hb : Blk w g T cs) (hc : cs[3]? = some (.slice (some ⟨gt, 0, none⟩) tn tn)) (hr : Row w gt 91 .u64 (nats tk)) (hl : tk.length = tn) (ht : ∀ x ∈ tk, x < 18446744073709551616) (hk : k / 64 < tn) (hk2 : k ≤ 4611686018427387904) :
    Calls Try.prog 25 #[.pointer (some ⟨g, 0, none⟩), .int .i64 k] w fun e w' => e = .returned (.bool (bitB tk k)) ∧ w = w' := by
  have c3 : w.cell? ⟨g, 3, none⟩ = some (.slice (some ⟨gt, 0, none⟩) tn tn) := hb.cell hc
  obtain ⟨q, hq⟩ : ∃ q, k / 64 = q := ⟨_, rfl⟩
  obtain ⟨r, hr2⟩ : ∃ r, k % 64 = r := ⟨_, rfl⟩
  have hqi : (k : Int) / 64 = q := by omega
  have f0 := hr.cell (i := q) (by simp [nats, hl]; omega)
  rw [nats_get (by omega)] at f0
  obtain ⟨x, hx⟩ : ∃ x, tk.getD q 0 = x := ⟨_, rfl⟩
  rw [hx] at f0
  have hx64 : x < 18446744073709551616 := by
    rw [← hx, getD_el (show q < tk.length by omega)]
    exact ht _ (List.getElem_mem _)
  have hbit : bitB tk k = ((((x / 2 ^ r) % 2 : Nat) : Int) == 1) := by
    unfold bitB
    rw [hq, hr2, hx, Nat.testBit_eq_decide_div_mod_eq]
    generalize x / 2 ^ r = y
    rw [Bool.eq_iff_iff, beq_iff_eq, decide_eq_true_eq]
    omega
  rw [hbit]
  have h1 : bits .and .u64 (k : Int) 63 = (r : Int) := by rw [and63_u64 k (by omega), hr2]
  have h2 : IntKind.u64.wrap (k : Int) = k := by rw [IntKind.wrap_u64]; omega
  have h3 : (x : Int) / 2 ^ r = ((x / 2 ^ r : Nat) : Int) := by simp
  have hrr : r ≤ 64 := by omega
  have h4 : bits .and .u64 ((x / 2 ^ r : Nat) : Int) 1 = (((x / 2 ^ r) % 2 : Nat) : Int) := and1_u64 _ (Nat.lt_of_le_of_lt (Nat.div_le_self _ _) hx64)
  have hqn : (q : Int) < tn := by omega
  generalize (x / 2 ^ r) = y at *
  clear hbit hx hr hb ht
  go_enter Try.func25, Try.ntmps25
  go_wp2
  go_ret
  exact ⟨rfl, rfl⟩
end Go.Proofs.Ytheelhepelbgcaa
