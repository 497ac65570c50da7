/- Frames: tables and heads that came in (chapter 14). | Chapter 3 (plain): stuffing taken away; bits of bytes. | Chapter 3 (plain): bits as a row; the bytes of bits; the bits of bytes. | Chapter 11 (plain): blocks told by symbols. -/
import Derived.Lib.SmallJoins
import Derived.Test.YtpjopeojeglogaaCw00
import Derived.Test.YtpjopeojeglogaaCw05
import Derived.Test.YtpjopeojeglogaaCw02
import Derived.Test.YtpjopeojeglogaaCw01
namespace Go.Proofs.Ytpjopeojeglogaa
open Go.ChangeShapes Go.WideShapes Go.ChangeAt Go.RowKit Go.Deep Tt
set_option linter.unusedVariables false
set_option linter.unusedSimpArgs false

section
variable {H : Type} {enc : TypeId × Value → H} {W : World} {base : Nat} {held : Bool}
theorem nums_of {k : IntKind} {m : Nat} {cs : List Value} (hl : cs.length = m) (each : ∀ i, i < m → ∃ z : Int, cs[i]? = some (.int k z) ∧ (Lit.int k z).wf = true) :
    ∃ zs : List Int, zs.length = m ∧ cs = ints k zs ∧ ∀ z ∈ zs, (Lit.int k z).wf = true := by
  have hex : ∀ i, ∃ z : Int, i < m → cs[i]? = some (.int k z) ∧ (Lit.int k z).wf = true := fun i => by
    by_cases hi : i < m
    · obtain ⟨z, hz⟩ := each i hi; exact ⟨z, fun _ => hz⟩
    · exact ⟨0, fun h0 => absurd h0 hi⟩
  obtain ⟨q, hq⟩ := Classical.axiomOfChoice hex; refine ⟨(List.range m).map q, by simp, ?_, ?_⟩
  · apply List.ext_getElem?
    intro i
    by_cases hi : i < m
    · rw [(hq i hi).1]
      simp [ints, hi]
    · rw [List.getElem?_eq_none (by omega), List.getElem?_eq_none (by simp [ints]; omega)]
  · intro z hz
    obtain ⟨i, hi, rfl⟩ := List.mem_map.1 hz; exact (hq i (by simpa using hi)).2
/-- an array of numbers -/
theorem array_nums {t e : TypeId} {k : IntKind} {n fuel : Nat} {cs : List Value} {x : DataW H × List MemPlace} (ht : Try.prog.underlying t = some (.array n e)) (he : Try.prog.underlying e = some (.int k)) (hc : Program.cellsOf Try.prog e = 1) (hn : Program.cellsOf Try.prog t = n)
    (h : DataW.trod enc Try.prog W base (fun _ => true) held fuel t cs = some x) : ∃ zs : List Int, zs.length = n ∧ cs = ints k zs ∧ ∀ z ∈ zs, (Lit.int k z).wf = true := by
  obtain ⟨xs, m, _, _, hl, hxl, hall⟩ := DataW.trod_array ht h; rw [hn] at hl; refine nums_of hl fun i hi => ?_; have h4 := hall i hi; rw [hc, Nat.mul_one, List.getElem?_eq_getElem (show i < xs.length by omega)] at h4; obtain ⟨z, e0, _, hw⟩ := DataW.trod_int he h4; refine ⟨z, ?_, hw⟩; have h5 : ((cs.drop i).take 1)[0]? = some (.int k z) := by rw [e0]; rfl
  rw [List.getElem?_take, if_pos (by decide), List.getElem?_drop, Nat.add_zero] at h5; exact h5
/-- a field of a struct -/
theorem field_of {t : TypeId} {fs : Array Field} {fuel : Nat} {cs : List Value} {x : DataW H × List MemPlace} (ht : Try.prog.underlying t = some (.struct fs)) (h : DataW.trod enc Try.prog W base (fun _ => true) held fuel t cs = some x) (i : Nat) (T : TypeId) (o k : Nat)
    (hf : (fs[i]?).map (fun f => (f.type, f.offset)) = some (T, o)) (hk : Program.cellsOf Try.prog T = k) : ∃ n y, DataW.trod enc Try.prog W base (fun _ => true) held n T ((cs.drop o).take k) = some y := by
  obtain ⟨xs, n, _, _, hl, hxl, hall⟩ := DataW.trod_struct ht h; obtain ⟨f, hf1, hf2⟩ := Option.map_eq_some_iff.1 hf; injection hf2 with e1 e2; have h4 := hall i f hf1
  have hil : i < xs.length := by
    rw [hxl]; exact (Array.getElem?_eq_some_iff.1 hf1).1
  rw [e1, e2, hk, List.getElem?_eq_getElem hil] at h4; exact ⟨n, _, h4⟩
theorem struct_len {t : TypeId} {fs : Array Field} {fuel : Nat} {cs : List Value} {x : DataW H × List MemPlace} (ht : Try.prog.underlying t = some (.struct fs)) (h : DataW.trod enc Try.prog W base (fun _ => true) held fuel t cs = some x) : cs.length = Program.cellsOf Try.prog t := by
  obtain ⟨xs, n, _, _, hl, _⟩ := DataW.trod_struct ht h; exact hl
theorem open_rowv {α : Type} (z0 : α) (k : Nat) (hk : 0 < k) (f : α → List Value) (R : α → Prop) (hf : ∀ x, R x → (f x).length = k) {T E : TypeId} (hT : Program.underlying Try.prog T = some (.slice E)) (hc : Program.cellsOf Try.prog E = k) {fuel : Nat} {a : Option Addr} {n cp : Nat} {x : DataW H × List MemPlace}
    (h : DataW.trod enc Try.prog W base (fun _ => true) held fuel T (Value.slice a n cp).cells.toList = some x) (each : ∀ m cs y, DataW.trod enc Try.prog W base (fun _ => true) held m E cs = some y → ∃ z, cs = f z ∧ R z) :
    ∃ zs : List α, Sl W a n cp k ((zs.map f).flatten) ∧ ∀ z ∈ zs, R z := by
  rcases DataW.trod_slice hT h with ⟨hcs, _⟩ | ⟨ad, len, cap, elems, rest, m, hfu, hcs, _, hb, hl, hm, hlen, hel, _, _⟩
  · simp [Value.cells] at hcs
    obtain ⟨rfl, rfl, rfl⟩ := hcs; exact ⟨[], Sl.nil _ _, fun z hz => by cases hz⟩
  · simp [Value.cells] at hcs
    obtain ⟨rfl, rfl, rfl⟩ := hcs; rw [hc] at hel
    have each2 : ∀ i, i < n → ∃ z : α, (∀ j v, (f z)[j]? = some v → W.cell? (ad.add (i * k + j)) = some v) ∧ R z := fun i hi => by
      have h1 := hel i hi; rw [List.getElem?_eq_getElem (by omega)] at h1; obtain ⟨cs', hcc, ht⟩ := Option.bind_eq_some_iff.1 h1; obtain ⟨z, rfl, hs⟩ := each m _ _ ht; refine ⟨z, fun j v hj => ?_, hs⟩; obtain ⟨_, hcl, hcc⟩ := World.cells?_some hcc; have hj4 : j < k := by have := (List.getElem?_eq_some_iff.1 hj).1; rwa [hf z hs] at this
      rw [← hj, ← hcc j hj4, Addr.add_add]
    have hex : ∀ i, ∃ z : α, i < n → (∀ j v, (f z)[j]? = some v → W.cell? (ad.add (i * k + j)) = some v) ∧ R z := fun i => by
      by_cases hi : i < n
      · obtain ⟨z, h1⟩ := each2 i hi
        exact ⟨z, fun _ => h1⟩
      · exact ⟨z0, fun h0 => absurd h0 hi⟩
    obtain ⟨q, hq⟩ := Classical.axiomOfChoice hex; have hql : ∀ i, i < n → (f (q i)).length = k := fun i hi => hf _ (hq i hi).2
    have e : (((List.range n).map q).map f).flatten = (List.range n).flatMap fun i => f (q i) := by
      rw [List.map_map]
      rfl
    refine ⟨(List.range n).map q, ?_, fun z hz => ?_⟩
    · rw [e]
      refine ⟨flatm_len k _ n hql, hl, hm, fun i hi => ?_, fun he => by cases he⟩; obtain ⟨v0, hv0⟩ : ∃ v0, (f (q 0))[0]? = some v0 := ⟨_, List.getElem?_eq_getElem (by rw [hql 0 (by omega)]; exact hk)⟩; have h0 := (hq 0 (by omega)).1 0 _ hv0; rw [Nat.zero_mul, Nat.zero_add, add_zero_addr] at h0; obtain ⟨ea, hlt⟩ := cell_spot h0; refine ⟨ad.block, ad.off, by rw [← ea], hlt, fun j v hj => ?_⟩
      have hjn : j < n * k := by
        have := (List.getElem?_eq_some_iff.1 hj).1
        rwa [flatm_len k _ n hql] at this
      have hdv : j / k * k + j % k = j := by rw [Nat.mul_comm]; exact Nat.div_add_mod j k
      have hjk : j / k < n := (Nat.div_lt_iff_lt_mul hk).2 hjn; have hj2 := flatm_get k (fun i => f (q i)) n hql (j / k) (j % k) hjk (Nat.mod_lt _ hk); rw [hdv] at hj2; have h1 := (hq (j / k) hjk).1 (j % k) v (hj2.symm.trans hj); rw [hdv] at h1; rw [ea, mk_add] at h1; exact h1
    · obtain ⟨i, hi, rfl⟩ := List.mem_map.1 hz
      exact (hq i (List.mem_range.1 hi)).2
theorem cut1 {l : List Value} {o : Nat} {v : Value} (h : (l.drop o).take 1 = [v]) : l.drop o = v :: l.drop (o + 1) := by
  have := List.take_append_drop 1 (l.drop o); rw [h, List.drop_drop] at this; exact this.symm
theorem cutk {l r : List Value} {o k : Nat} (h : (l.drop o).take k = r) : l.drop o = r ++ l.drop (o + k) := by
  have := List.take_append_drop k (l.drop o); rw [h, List.drop_drop] at this; exact this.symm
theorem cint : Program.cellsOf Try.prog 3 = 1 := by kernel_rfl
theorem wf_Wf {x : Int} (h : (Lit.int .i64 x).wf = true) : Wf x := by
  simp [Lit.wf, IntKind.min, IntKind.max, IntKind.signed, IntKind.bits] at h
  unfold Wf
  omega
end
end Go.Proofs.Ytpjopeojeglogaa

namespace Tt
open Go Go.RowKit
set_option linter.unusedVariables false
set_option linter.unusedSimpArgs false

section
variable {P : Program} {ops : Array Oper} {rest : List Oper} {o : Oper} {a : Act} {w0 : World} {Q : Exit → Act → World → Prop}
/-- 'append(s, x)' of one element that stands in a row made for it. -/
theorem wpList_app_lit (hgd : o.guard = none) (s x : Operand) (t : TypeId)
    (ho : o.op = .call { callee := .builtin .append, args := #[s, x], argTypes := #[t, t] })
    (base : Nat) (e : TypeId) (i : TypeInfo) (z : Value) (size bytes : Nat) (ht : P.underlying t = some (.slice e)) (hi : P.info? e = some i) (hz : i.zero = some z)
    (hsize : i.size = size) (hby : i.bytes = bytes) (hzs : z.cells.size = size) (hsz : 0 < size)
    (v : Value) (n : Nat) (xs : List Value) (hs : a.eval s = v) (hown : w0.ownsRow base e size v n xs)
    (us : Array Value) (hx : a.eval x = .slice (some ⟨w0.heap.size, 0, none⟩) 1 1) (hl : us.size = size) (h1 : ∀ u ∈ us.toList, u.oneCell' = true)
    (hbytes : (n + 1) * bytes ≤ 140737488355328) (hb0 : 0 < bytes) (W : World) (hbel : Below base W w0) (hbase : base ≤ w0.heap.size)
    (h : ∀ (a' : Option Addr) (c' : Nat) (w' : World), w'.ownsRow base e size (.slice a' (n + 1) c') (n + 1) (xs ++ us.toList) → Below base W w' → wpList P ops Q rest (a.put o.dst (.slice a' (n + 1) c')) w') : wpList P ops Q (o :: rest) a (w0.alloc (.cells us e)) :=
  wpList_app hgd s x t ho base e i z size bytes ht hi hz hsize hby hzs hsz v n xs hs (own_later hown ((Below.refl _ _).alloc (Nat.le_refl _) _)) (some ⟨w0.heap.size, 0, none⟩) 1 1 us.toList hx
    (Sl.new w0 e size 1 us (0, 0) (by decide) (by omega)) h1 hbytes hb0 (by simp; omega) fun a' c' w' h2 h3 _ => h a' c' w' h2 ((hbel.alloc hbase _).trans h3)
end
/-- the data at the beginning of some bytes, without stuffing, and how many of these it takes -/
def plainS : List Int → List Int × Nat
  | [] => ([], 0)
  | [c] => if c = 255 then ([], 0) else ([c], 1)
  | c :: d :: l => if c = 255 then (if d = 0 then (255 :: (plainS l).1, (plainS l).2 + 2) else ([], 0)) else (c :: (plainS (d :: l)).1, (plainS (d :: l)).2 + 1)
theorem drop_at {z : List Int} {k : Nat} (h : k < z.length) : z.drop k = z.getD k 0 :: z.drop (k + 1) := by
  rw [List.drop_eq_getElem_cons h]; simp [h]
theorem plainS_nil {z : List Int} {k : Nat} (h : z.length ≤ k) : plainS (z.drop k) = ([], 0) := by rw [List.drop_eq_nil_of_le h]; rfl
theorem plainS_one {z : List Int} {k : Nat} (h : k < z.length) (hc : z.getD k 0 ≠ 255) : plainS (z.drop k) = (z.getD k 0 :: (plainS (z.drop (k + 1))).1, (plainS (z.drop (k + 1))).2 + 1) := by
  rw [drop_at h]
  cases hd : z.drop (k + 1) with
  | nil => unfold plainS; rw [if_neg hc]
  | cons d l => rw [plainS, if_neg hc]
theorem plainS_end {z : List Int} {k : Nat} (h : k < z.length) (hc : z.getD k 0 = 255) (he : k + 1 = z.length ∨ z.getD (k + 1) 0 ≠ 0) : plainS (z.drop k) = ([], 0) := by
  rw [drop_at h]
  rcases Nat.lt_or_ge (k + 1) z.length with h1 | h1
  · rw [drop_at h1, plainS, if_pos hc, if_neg (by rcases he with he | he; omega; exact he)]
  · rw [List.drop_eq_nil_of_le h1, plainS, if_pos hc]
theorem plainS_two {z : List Int} {k : Nat} (h : k + 1 < z.length) (hc : z.getD k 0 = 255) (he : z.getD (k + 1) 0 = 0) : plainS (z.drop k) = (255 :: (plainS (z.drop (k + 2))).1, (plainS (z.drop (k + 2))).2 + 2) := by
  rw [drop_at (by omega : k < z.length), drop_at h, plainS, if_pos hc, if_pos he]
theorem plainS_le (n : Nat) : ∀ (z : List Int), z.length ≤ n → (plainS z).1.length ≤ (plainS z).2 ∧ (plainS z).2 ≤ z.length := by
  induction n with
  | zero => intro z h; obtain rfl := List.eq_nil_of_length_eq_zero (by omega : z.length = 0); simp [plainS]
  | succ n ih =>
    intro z h
    match z with
    | [] => simp [plainS]
    | [c] => rw [plainS]; split <;> simp
    | c :: d :: l =>
      have h1 := ih l (by simp at h ⊢; omega); have h2 := ih (d :: l) (by simp at h ⊢; omega); rw [plainS]
      split
      · split
        · simp only [List.length_cons]; omega
        · simp
      · simp only [List.length_cons] at h2 ⊢; omega
theorem plainS_byt (n : Nat) : ∀ (z : List Int), z.length ≤ n → Byt z → Byt (plainS z).1 := by
  induction n with
  | zero => intro z h hb; obtain rfl := List.eq_nil_of_length_eq_zero (by omega : z.length = 0); simpa [plainS] using hb
  | succ n ih =>
    intro z h hb
    match z with
    | [] => simpa [plainS] using hb
    | [c] =>
      rw [plainS]
      split
      · intro x hx; cases hx
      · exact hb
    | c :: d :: l =>
      have h1 := ih l (by simp at h ⊢; omega) (fun x hx => hb x (List.mem_cons_of_mem _ (List.mem_cons_of_mem _ hx))); have h2 := ih (d :: l) (by simp at h ⊢; omega) (fun x hx => hb x (List.mem_cons_of_mem _ hx)); have hc := hb c (List.mem_cons_self ..); rw [plainS]
      split
      · split
        · intro x hx
          rcases List.mem_cons.1 hx with rfl | hx
          · omega
          · exact h1 x hx
        · intro x hx; cases hx
      · intro x hx
        rcases List.mem_cons.1 hx with rfl | hx
        · exact hc
        · exact h2 x hx
/-- bit k of bytes, the highest first -/
def bitA (D : List Int) (k : Nat) : Int := D.getD (k / 8) 0 / 2 ^ (7 - k % 8) % 2
theorem bitA_range (D : List Int) (k : Nat) : 0 ≤ bitA D k ∧ bitA D k < 2 := by unfold bitA; omega
/-- the number that n bits from bit i on are -/
def numA (D : List Int) (i : Nat) : Nat → Int
  | 0 => 0
  | n + 1 => numA D i n * 2 + bitA D (i + n)
theorem numA_bound (D : List Int) (i : Nat) : ∀ n, 0 ≤ numA D i n ∧ numA D i n < 2 ^ n
  | 0 => by simp [numA]
  | n + 1 => by
    have h := numA_bound D i n; have h2 := bitA_range D (i + n); rw [numA, Int.pow_succ]
    omega
theorem or_bit {N B : Int} (h0 : 0 ≤ N) (h1 : N < 36028797018963968) (h2 : 0 ≤ B) (h3 : B < 2) : bits .or .i64 (N * 2) B = N * 2 + B := by
  obtain ⟨a, rfl⟩ : ∃ a : Nat, N = a := ⟨N.toNat, by omega⟩; obtain ⟨b, rfl⟩ : ∃ b : Nat, B = b := ⟨B.toNat, by omega⟩; have h := or_i64 (a * 2) b (by omega) (by omega); have h4 := Nat.two_pow_add_eq_or_of_lt (i := 1) (b := b) (by omega) a; have h5 : (2 ^ 1 * a : Nat) = a * 2 := by omega
  rw [h5] at h4; rw [← h4] at h; rw [show ((a * 2 : Nat) : Int) = (a : Int) * 2 by omega, show ((a * 2 + b : Nat) : Int) = (a : Int) * 2 + b by omega] at h; exact h
theorem and1_u8 {x : Int} (h0 : 0 ≤ x) (h1 : x < 256) : bits .and .u8 x 1 = x % 2 := by
  have h : ∀ n : Fin 256, bits .and .u8 ((n.val : Nat) : Int) 1 = ((n.val : Nat) : Int) % 2 := by decide +kernel
  have := h ⟨x.toNat, by omega⟩; simp only at this; rw [show ((x.toNat : Nat) : Int) = x by omega] at this; exact this
theorem div_byte {x : Int} (h0 : 0 ≤ x) (h1 : x < 256) (e : Nat) : 0 ≤ x / 2 ^ e ∧ x / 2 ^ e < 256 := by
  have hp : (0 : Int) < 2 ^ e := Int.pow_pos (by decide); exact ⟨Int.ediv_nonneg h0 (Int.le_of_lt hp), Int.lt_of_le_of_lt (Int.ediv_le_self _ h0) h1⟩
/-- one bit more of a number, as the program takes it -/
theorem numA_step {D : List Int} (hD : Byt D) (i j : Nat) (hj : j ≤ 16) : bits .or .i64 (wrap64 (numA D i j * 2)) (wrap64 (bits .and .u8 (D[(i + j) / 8]?.getD 0 / 2 ^ (7 - (i + j) % 8)) 1)) = numA D i (j + 1) := by
  have h := numA_bound D i j; have hp : (2 : Int) ^ j ≤ 2 ^ 16 := by exact_mod_cast Nat.pow_le_pow_right (by decide : 0 < 2) hj
  have hg := hD.get ((i + j) / 8); rw [List.getD_eq_getElem?_getD] at hg; have hd := div_byte hg.1 hg.2 (7 - (i + j) % 8); rw [and1_u8 hd.1 hd.2]; have hb := bitA_range D (i + j); have he : D[(i + j) / 8]?.getD 0 / 2 ^ (7 - (i + j) % 8) % 2 = bitA D (i + j) := by unfold bitA; rw [List.getD_eq_getElem?_getD]
  rw [he, show wrap64 (numA D i j * 2) = numA D i j * 2 by unfold wrap64; omega, show wrap64 (bitA D (i + j)) = bitA D (i + j) by unfold wrap64; omega, or_bit h.1 (by omega) hb.1 hb.2, numA]
/-- bytes with stuffing -/
def stuffS (l : List Int) : List Int := l.flatMap fun c => if c = 255 then [255, 0] else [c]
theorem stuffS_take {l : List Int} {k : Nat} (h : k < l.length) : stuffS (l.take (k + 1)) = stuffS (l.take k) ++ (if l.getD k 0 = 255 then [255, 0] else [l.getD k 0]) := by
  unfold stuffS; rw [take_snoc' h, List.flatMap_append]; simp
theorem stuffS_len (l : List Int) : (stuffS l).length ≤ 2 * l.length := by
  unfold stuffS
  induction l with
  | nil => simp
  | cons c l ih => rw [List.flatMap_cons, List.length_append, List.length_cons]; split <;> simp only [List.length_cons, List.length_nil] <;> omega
end Tt

namespace Tt
open Go Go.RowKit
set_option linter.unusedVariables false
set_option linter.unusedSimpArgs false

/-- the number of bits, the highest one first -/
def numL (l : List Int) : Int := l.foldl (fun n b => 2 * n + b) 0
def BitL (l : List Int) : Prop := ∀ x ∈ l, x = 0 ∨ x = 1
/-- the n lowest bits of a number -/
def lowS (v : Int) (n : Nat) : List Int := (List.range n).map fun j => v / 2 ^ (n - 1 - j) % 2
theorem pow_pos2 (n : Nat) : (0 : Int) < 2 ^ n := Int.pow_pos (by decide)
theorem fold_num (l : List Int) : ∀ a : Int, l.foldl (fun n b => 2 * n + b) a = a * 2 ^ l.length + numL l := by
  induction l with
  | nil => intro a; simp [numL]
  | cons b l ih =>
    intro a; unfold numL; rw [List.foldl_cons, List.foldl_cons, ih, ih (2 * 0 + b), List.length_cons, Int.pow_succ]
    have : (2 * a + b) * 2 ^ l.length = a * (2 ^ l.length * 2) + b * 2 ^ l.length := by
      rw [Int.add_mul, Int.mul_comm 2 a, Int.mul_assoc, Int.mul_comm 2 (2 ^ l.length)]
    rw [this, Int.mul_zero, Int.zero_add, Int.add_assoc]
theorem numL_cons (b : Int) (l : List Int) : numL (b :: l) = b * 2 ^ l.length + numL l := by
  show (b :: l).foldl _ 0 = _
  rw [List.foldl_cons, fold_num, Int.mul_zero, Int.zero_add]
theorem numL_app (l m : List Int) : numL (l ++ m) = numL l * 2 ^ m.length + numL m := by
  show (l ++ m).foldl _ 0 = _
  rw [List.foldl_append, fold_num]
  rfl
theorem numL_nil : numL [] = 0 := rfl
theorem BitL.tail {b : Int} {l : List Int} (h : BitL (b :: l)) : BitL l := fun x hx => h x (List.mem_cons_of_mem _ hx)
theorem BitL.app {l m : List Int} (h : BitL l) (k : BitL m) : BitL (l ++ m) := fun x hx => (List.mem_append.1 hx).elim (h x) (k x)
theorem BitL.take {l : List Int} (h : BitL l) (n : Nat) : BitL (l.take n) := fun x hx => h x (List.mem_of_mem_take hx)
theorem BitL.drop {l : List Int} (h : BitL l) (n : Nat) : BitL (l.drop n) := fun x hx => h x (List.mem_of_mem_drop hx)
theorem numL_bound (l : List Int) (h : BitL l) : 0 ≤ numL l ∧ numL l < 2 ^ l.length := by
  induction l with
  | nil => simp [numL]
  | cons b l ih =>
    have ih := ih h.tail; have hp := pow_pos2 l.length; rw [numL_cons, List.length_cons, Int.pow_succ]
    rcases h b (List.mem_cons_self ..) with rfl | rfl
    · rw [Int.zero_mul]; omega
    · rw [Int.one_mul]; omega
theorem numL_inj : ∀ (l m : List Int), l.length = m.length → BitL l → BitL m → numL l = numL m → l = m
  | [], [], _, _, _, _ => rfl
  | b :: l, c :: m, hl, hb, hc, h => by
    have hl' : l.length = m.length := by simpa using hl
    rw [numL_cons, numL_cons, hl'] at h; have h1 := numL_bound l hb.tail; have h2 := numL_bound m hc.tail; rw [hl'] at h1; have hp := pow_pos2 m.length
    have e : b = c ∧ numL l = numL m := by
      rcases hb b (List.mem_cons_self ..) with rfl | rfl <;> rcases hc c (List.mem_cons_self ..) with rfl | rfl
      · exact ⟨rfl, by omega⟩
      · exfalso; omega
      · exfalso; omega
      · exact ⟨rfl, by omega⟩
    rw [e.1, numL_inj l m hl' hb.tail hc.tail e.2]
theorem lowS_len (v : Int) (n : Nat) : (lowS v n).length = n := by simp [lowS]
theorem lowS_bit (v : Int) (n : Nat) : BitL (lowS v n) := fun x hx => by
  unfold lowS at hx; obtain ⟨j, _, rfl⟩ := List.mem_map.1 hx; have := Int.emod_nonneg (v / 2 ^ (n - 1 - j)) (by decide : (2 : Int) ≠ 0); have := Int.emod_lt_of_pos (v / 2 ^ (n - 1 - j)) (by decide : (0 : Int) < 2)
  omega
theorem lowS_succ (v : Int) (n : Nat) : lowS v (n + 1) = v / 2 ^ n % 2 :: lowS v n := by
  unfold lowS; rw [List.range_succ_eq_map, List.map_cons, List.map_map]
  congr 1
  refine List.map_congr_left fun j _ => ?_
  show v / 2 ^ (n + 1 - 1 - (j + 1)) % 2 = _
  rw [show n + 1 - 1 - (j + 1) = n - 1 - j by omega]
theorem lowS_zero (v : Int) : lowS v 0 = [] := rfl
theorem numL_lowS (v : Int) (n : Nat) : numL (lowS v n) = v % 2 ^ n := by
  induction n with
  | zero => rw [lowS_zero, numL_nil, Int.pow_zero, Int.emod_one]
  | succ n ih =>
    rw [lowS_succ, numL_cons, lowS_len, ih, Int.pow_succ]; have hp := pow_pos2 n; have h1 : v = 2 ^ n * (v / 2 ^ n) + v % 2 ^ n := (Int.mul_ediv_add_emod v (2 ^ n)).symm; have h2 := Int.emod_nonneg v (Int.ne_of_gt hp); have h3 := Int.emod_lt_of_pos v hp
    generalize hq : v / 2 ^ n = q at *
    generalize hr : v % 2 ^ n = r at *
    generalize hN : (2 : Int) ^ n = N at *
    have h4 : q = 2 * (q / 2) + q % 2 := by omega
    have h5 : v = (q % 2 * N + r) + N * 2 * (q / 2) := by
      rw [h1]; have : N * q = N * (2 * (q / 2) + q % 2) := by rw [← h4]
      rw [this, Int.mul_add, Int.mul_comm N (q % 2), ← Int.mul_assoc]
      omega
    rw [h5, Int.add_mul_emod_self_left]; refine (Int.emod_eq_of_lt ?_ ?_).symm
    · rcases (by omega : q % 2 = 0 ∨ q % 2 = 1) with h | h <;> rw [h] <;> omega
    · rcases (by omega : q % 2 = 0 ∨ q % 2 = 1) with h | h <;> rw [h] <;> omega
theorem lowS_numL {l : List Int} (h : BitL l) : lowS (numL l) l.length = l := by
  refine numL_inj _ _ (lowS_len _ _) (lowS_bit _ _) h ?_; have := numL_bound l h; rw [numL_lowS, Int.emod_eq_of_lt this.1 this.2]
/-- a piece in the middle of bits, as a number -/
theorem numL_mid (a b c : List Int) (hb : BitL b) (hc : BitL c) : numL (a ++ b ++ c) / 2 ^ c.length % 2 ^ b.length = numL b := by
  rw [numL_app, numL_app]; have h1 := numL_bound b hb; have h2 := numL_bound c hc; have hp := pow_pos2 c.length; rw [Int.add_comm (_ * 2 ^ c.length), Int.add_mul_ediv_right _ _ (Int.ne_of_gt hp), Int.ediv_eq_zero_of_lt h2.1 h2.2, Int.zero_add, Int.add_comm, Int.mul_comm, Int.add_mul_emod_self_left, Int.emod_eq_of_lt h1.1 h1.2]
/-- the first q bytes of bits -/
def packN (l : List Int) (q : Nat) : List Int := (List.range q).map fun i => numL ((l.drop (8 * i)).take 8)
def packS (l : List Int) : List Int := packN l (l.length / 8)
def padS (l : List Int) : List Int := l ++ List.replicate ((8 - l.length % 8) % 8) 1
/-- the bytes of bits: with 1s at the end, stuffed -/
def bytesS (l : List Int) : List Int := stuffS (packS (padS l))
theorem packN_len (l : List Int) (q : Nat) : (packN l q).length = q := by simp [packN]
theorem packN_succ (l : List Int) (q : Nat) : packN l (q + 1) = packN l q ++ [numL ((l.drop (8 * q)).take 8)] := by
  unfold packN; rw [List.range_succ, List.map_append]; rfl
theorem packN_app (l m : List Int) (q : Nat) (h : 8 * q ≤ l.length) : packN (l ++ m) q = packN l q := by
  unfold packN; refine List.map_congr_left fun i hi => ?_; have hi : i < q := List.mem_range.1 hi; rw [List.drop_append_of_le_length (by omega), List.take_append_of_le_length (by rw [List.length_drop]; omega)]
/-- one byte of bits, as the writer takes it out of the number of the bits from q0 on -/
theorem byte_of {l : List Int} (h : BitL l) {q0 q : Nat} (h0 : q0 ≤ q) (hq : 8 * (q + 1) ≤ l.length) : numL (l.drop (8 * q0)) / 2 ^ (l.length - 8 * (q + 1)) % 256 = numL ((l.drop (8 * q)).take 8) := by
  have e : l.drop (8 * q0) = (l.drop (8 * q0)).take (8 * (q - q0)) ++ (l.drop (8 * q)).take 8 ++ l.drop (8 * (q + 1)) := by
    have h1 : l.drop (8 * q) = (l.drop (8 * q0)).drop (8 * (q - q0)) := by rw [List.drop_drop, show 8 * q0 + 8 * (q - q0) = 8 * q by omega]
    have h2 : l.drop (8 * (q + 1)) = (l.drop (8 * q)).drop 8 := by rw [List.drop_drop, show 8 * q + 8 = 8 * (q + 1) by omega]
    rw [List.append_assoc, h2, List.take_append_drop, h1, List.take_append_drop]
  have := numL_mid ((l.drop (8 * q0)).take (8 * (q - q0))) ((l.drop (8 * q)).take 8) (l.drop (8 * (q + 1))) ((h.drop _).take _) (h.drop _); rw [← e, List.length_drop, List.length_take, List.length_drop, Nat.min_eq_left (by omega)] at this; exact this
/-- what is left of the number -/
theorem rest_of {l : List Int} (h : BitL l) {q0 q : Nat} (h0 : q0 ≤ q) (hq : 8 * q ≤ l.length) : numL (l.drop (8 * q0)) % 2 ^ (l.length - 8 * q) = numL (l.drop (8 * q)) := by
  have e : l.drop (8 * q0) = (l.drop (8 * q0)).take (8 * (q - q0)) ++ l.drop (8 * q) := by
    rw [show l.drop (8 * q) = (l.drop (8 * q0)).drop (8 * (q - q0)) by rw [List.drop_drop, show 8 * q0 + 8 * (q - q0) = 8 * q by omega], List.take_append_drop]
  have h1 := numL_bound _ (h.drop (8 * q)); rw [List.length_drop] at h1; rw [e, numL_app, List.length_drop, Int.add_comm, Int.mul_comm, Int.add_mul_emod_self_left, Int.emod_eq_of_lt h1.1 h1.2]
/-- the bits of bytes -/
def bitsS (D : List Int) : List Int := D.flatMap fun x => lowS x 8
theorem bitsS_len (D : List Int) : (bitsS D).length = 8 * D.length := by
  unfold bitsS
  induction D with
  | nil => rfl
  | cons x D ih => rw [List.flatMap_cons, List.length_append, ih, lowS_len, List.length_cons]; omega
theorem bitsS_bit (D : List Int) : BitL (bitsS D) := fun x hx => by
  unfold bitsS at hx; obtain ⟨y, _, hy⟩ := List.mem_flatMap.1 hx; exact lowS_bit _ _ x hy
theorem bitsS_get (D : List Int) : ∀ k, k < 8 * D.length → (bitsS D)[k]? = some (bitA D k) := by
  induction D with
  | nil => intro k hk; simp at hk
  | cons x D ih =>
    intro k hk; unfold bitsS; rw [List.flatMap_cons]
    rcases Nat.lt_or_ge k 8 with h | h
    · rw [List.getElem?_append_left (by rw [lowS_len]; exact h)]
      unfold lowS bitA; rw [List.getElem?_map, List.getElem?_range h, show k / 8 = 0 by omega, Nat.mod_eq_of_lt h]
      rfl
    · rw [List.getElem?_append_right (by rw [lowS_len]; exact h), lowS_len]
      have := ih (k - 8) (by rw [List.length_cons] at hk; omega); unfold bitsS at this; rw [this]; unfold bitA; rw [show k / 8 = (k - 8) / 8 + 1 by omega, show (k - 8) % 8 = k % 8 by omega, List.getD_cons_succ]
/-- what the reader takes -/
theorem numA_of (D : List Int) (i : Nat) : ∀ n, i + n ≤ 8 * D.length → numA D i n = numL (((bitsS D).drop i).take n)
  | 0, _ => by simp [numA, numL]
  | n + 1, h => by
    have hl : n < ((bitsS D).drop i).length := by rw [List.length_drop, bitsS_len]; omega
    have e : ((bitsS D).drop i).take (n + 1) = ((bitsS D).drop i).take n ++ [bitA D (i + n)] := by
      rw [List.take_add_one, List.getElem?_drop, bitsS_get D (i + n) (by omega)]
      rfl
    rw [numA, numA_of D i n (by omega), e, numL_app]
    show _ = _ * 2 ^ 1 + (2 * 0 + bitA D (i + n))
    omega
end Tt

namespace Go.Proofs.Ytpjopeojeglogaa
open Go.RowKit Tt
set_option linter.unusedVariables false
set_option linter.unusedSimpArgs false

/-- how many bits a number has -/
def bitLen (a : Nat) : Nat := if a = 0 then 0 else Nat.log2 a + 1
theorem bitLen_le {a n : Nat} : bitLen a ≤ n ↔ a < 2 ^ n := by
  unfold bitLen
  by_cases h : a = 0
  · subst h
    rw [if_pos rfl]; exact ⟨fun _ => Nat.pow_pos (by decide), fun _ => Nat.zero_le _⟩
  · rw [if_neg h]
    exact Nat.log2_lt h
theorem bitLen_lt (a : Nat) : a < 2 ^ bitLen a := bitLen_le.1 (Nat.le_refl _)
theorem bitLen_zero {a : Nat} : bitLen a = 0 ↔ a = 0 := by
  have := @bitLen_le a 0
  simp at this
  exact this
/-- the size of a number; -1: it is too great -/
def sizeS (v : Int) : Int := if bitLen v.natAbs ≤ 15 then (bitLen v.natAbs : Int) else -1
theorem sizeS_cases (v : Int) : (sizeS v = -1 ∧ 15 < bitLen v.natAbs) ∨ (sizeS v = (bitLen v.natAbs : Int) ∧ bitLen v.natAbs ≤ 15) := by
  unfold sizeS
  split
  · exact .inr ⟨rfl, by assumption⟩
  · exact .inl ⟨rfl, by omega⟩
/-- a number's bits -/
def extraV (v : Int) : Int := if v < 0 then v + 2 ^ bitLen v.natAbs - 1 else v
theorem extraV_range {v : Int} : 0 ≤ extraV v ∧ extraV v < 2 ^ bitLen v.natAbs := by
  have h := bitLen_lt v.natAbs; have h2 : ((v.natAbs : Nat) : Int) < 2 ^ bitLen v.natAbs := by exact_mod_cast h
  unfold extraV
  split <;> omega
/-- what bits tell; none: they are none -/
def valueS (V N : Int) : Option Int :=
  if 0 ≤ N ∧ N ≤ 15 ∧ 0 ≤ V ∧ V < 2 ^ N.toNat then (if 0 < N ∧ V < 2 ^ (N.toNat - 1) then some (V - (2 ^ N.toNat - 1)) else some V) else none
/-- a symbol: its class, itself, its bits and how many -/
abbrev Cod := Int × Int × Int × Int
def cdL (x : Cod) : List Int := [x.1, x.2.1, x.2.2.1, x.2.2.2]
def codOf (ac z v : Int) : Cod := (ac, 16 * z + bitLen v.natAbs, extraV v, bitLen v.natAbs)
/-- one number more of a block; none: it is too great -/
def acStep (s : Option (List Cod × Nat)) (v : Int) : Option (List Cod × Nat) :=
  s.bind fun p => if v = 0 then some (p.1, p.2 + 1) else if bitLen v.natAbs ≤ 10 then some (p.1 ++ List.replicate (p.2 / 16) (1, 240, 0, 0) ++ [codOf 1 (p.2 % 16 : Nat) v], 0) else none
def acFrom (l : List Int) (s : Option (List Cod × Nat)) : Option (List Cod × Nat) := l.foldl acStep s
def acEnd (p : List Cod × Nat) : List Cod := if 0 < p.2 then p.1 ++ [(1, 0, 0, 0)] else p.1
/-- a block behind a number, as symbols; none: a number is too great -/
def codeB (b : List Int) (last : Int) : Option (List Cod) :=
  if sizeS last < 0 ∨ sizeS (b.getD 0 0) < 0 ∨ 11 < bitLen (b.getD 0 0 - last).natAbs then none else (acFrom ((toZ b).drop 1) (some ([codOf 0 0 (b.getD 0 0 - last)], 0))).map acEnd
theorem acStep_none (v : Int) : acStep none v = none := rfl
theorem acFrom_none : ∀ l : List Int, acFrom l none = none
  | [] => rfl
  | v :: l => by unfold acFrom; rw [List.foldl_cons, acStep_none]; exact acFrom_none l
theorem acFrom_take {l : List Int} {k : Nat} (h : k < l.length) (s : Option (List Cod × Nat)) : acFrom (l.take (k + 1)) s = acStep (acFrom (l.take k) s) (l.getD k 0) := by
  unfold acFrom; rw [List.take_add_one, List.getElem?_eq_getElem h, List.foldl_append, List.getD_eq_getElem?_getD, List.getElem?_eq_getElem h]
  rfl
end Go.Proofs.Ytpjopeojeglogaa
