/- Frames: tables and heads that came in (chapter 14). | Chapter 3 (plain): stuffing taken away; bits of bytes. -/
import Derived.Lib.SmallJoins
import Derived.Test.YtpjopeojeglogaaCo01
import Derived.Test.YtpjopeojeglogaaCo05
import Derived.Test.YtpjopeojeglogaaCo02
import Derived.Test.YtpjopeojeglogaaCo00
namespace Go.Proofs.Ytpjopeojeglogaa
open Go.ChangeShapes Go.WideShapes Go.ChangeAt Go.RowKit Go.Deep Tt
set_option linter.unusedVariables false
set_option linter.unusedSimpArgs false

section
variable {H : Type} {enc : TypeId × Value → H} {W : World} {base : Nat} {held : Bool}
theorem nums_of {k : IntKind} {m : Nat} {cs : List Value} (hl : cs.length = m) (each : ∀ i, i < m → ∃ z : Int, cs[i]? = some (.int k z) ∧ (Lit.int k z).wf = true) :
    ∃ zs : List Int, zs.length = m ∧ cs = ints k zs ∧ ∀ z ∈ zs, (Lit.int k z).wf = true := by
  have hex : ∀ i, ∃ z : Int, i < m → cs[i]? = some (.int k z) ∧ (Lit.int k z).wf = true := fun i => by
    by_cases hi : i < m
    · obtain ⟨z, hz⟩ := each i hi; exact ⟨z, fun _ => hz⟩
    · exact ⟨0, fun h0 => absurd h0 hi⟩
  obtain ⟨q, hq⟩ := Classical.axiomOfChoice hex; refine ⟨(List.range m).map q, by simp, ?_, ?_⟩
  · apply List.ext_getElem?
    intro i
    by_cases hi : i < m
    · rw [(hq i hi).1]
      simp [ints, hi]
    · rw [List.getElem?_eq_none (by omega), List.getElem?_eq_none (by simp [ints]; omega)]
  · intro z hz
    obtain ⟨i, hi, rfl⟩ := List.mem_map.1 hz; exact (hq i (by simpa using hi)).2
/-- an array of numbers -/
theorem array_nums {t e : TypeId} {k : IntKind} {n fuel : Nat} {cs : List Value} {x : DataW H × List MemPlace} (ht : Try.prog.underlying t = some (.array n e)) (he : Try.prog.underlying e = some (.int k)) (hc : Program.cellsOf Try.prog e = 1) (hn : Program.cellsOf Try.prog t = n)
    (h : DataW.trod enc Try.prog W base (fun _ => true) held fuel t cs = some x) : ∃ zs : List Int, zs.length = n ∧ cs = ints k zs ∧ ∀ z ∈ zs, (Lit.int k z).wf = true := by
  obtain ⟨xs, m, _, _, hl, hxl, hall⟩ := DataW.trod_array ht h; rw [hn] at hl; refine nums_of hl fun i hi => ?_; have h4 := hall i hi; rw [hc, Nat.mul_one, List.getElem?_eq_getElem (show i < xs.length by omega)] at h4; obtain ⟨z, e0, _, hw⟩ := DataW.trod_int he h4; refine ⟨z, ?_, hw⟩; have h5 : ((cs.drop i).take 1)[0]? = some (.int k z) := by rw [e0]; rfl
  rw [List.getElem?_take, if_pos (by decide), List.getElem?_drop, Nat.add_zero] at h5; exact h5
/-- a field of a struct -/
theorem field_of {t : TypeId} {fs : Array Field} {fuel : Nat} {cs : List Value} {x : DataW H × List MemPlace} (ht : Try.prog.underlying t = some (.struct fs)) (h : DataW.trod enc Try.prog W base (fun _ => true) held fuel t cs = some x) (i : Nat) (T : TypeId) (o k : Nat)
    (hf : (fs[i]?).map (fun f => (f.type, f.offset)) = some (T, o)) (hk : Program.cellsOf Try.prog T = k) : ∃ n y, DataW.trod enc Try.prog W base (fun _ => true) held n T ((cs.drop o).take k) = some y := by
  obtain ⟨xs, n, _, _, hl, hxl, hall⟩ := DataW.trod_struct ht h; obtain ⟨f, hf1, hf2⟩ := Option.map_eq_some_iff.1 hf; injection hf2 with e1 e2; have h4 := hall i f hf1
  have hil : i < xs.length := by
    rw [hxl]; exact (Array.getElem?_eq_some_iff.1 hf1).1
  rw [e1, e2, hk, List.getElem?_eq_getElem hil] at h4; exact ⟨n, _, h4⟩
theorem struct_len {t : TypeId} {fs : Array Field} {fuel : Nat} {cs : List Value} {x : DataW H × List MemPlace} (ht : Try.prog.underlying t = some (.struct fs)) (h : DataW.trod enc Try.prog W base (fun _ => true) held fuel t cs = some x) : cs.length = Program.cellsOf Try.prog t := by
  obtain ⟨xs, n, _, _, hl, _⟩ := DataW.trod_struct ht h; exact hl
theorem open_rowv {α : Type} (z0 : α) (k : Nat) (hk : 0 < k) (f : α → List Value) (R : α → Prop) (hf : ∀ x, R x → (f x).length = k) {T E : TypeId} (hT : Program.underlying Try.prog T = some (.slice E)) (hc : Program.cellsOf Try.prog E = k) {fuel : Nat} {a : Option Addr} {n cp : Nat} {x : DataW H × List MemPlace}
    (h : DataW.trod enc Try.prog W base (fun _ => true) held fuel T (Value.slice a n cp).cells.toList = some x) (each : ∀ m cs y, DataW.trod enc Try.prog W base (fun _ => true) held m E cs = some y → ∃ z, cs = f z ∧ R z) :
    ∃ zs : List α, Sl W a n cp k ((zs.map f).flatten) ∧ ∀ z ∈ zs, R z := by
  rcases DataW.trod_slice hT h with ⟨hcs, _⟩ | ⟨ad, len, cap, elems, rest, m, hfu, hcs, _, hb, hl, hm, hlen, hel, _, _⟩
  · simp [Value.cells] at hcs
    obtain ⟨rfl, rfl, rfl⟩ := hcs; exact ⟨[], Sl.nil _ _, fun z hz => by cases hz⟩
  · simp [Value.cells] at hcs
    obtain ⟨rfl, rfl, rfl⟩ := hcs; rw [hc] at hel
    have each2 : ∀ i, i < n → ∃ z : α, (∀ j v, (f z)[j]? = some v → W.cell? (ad.add (i * k + j)) = some v) ∧ R z := fun i hi => by
      have h1 := hel i hi; rw [List.getElem?_eq_getElem (by omega)] at h1; obtain ⟨cs', hcc, ht⟩ := Option.bind_eq_some_iff.1 h1; obtain ⟨z, rfl, hs⟩ := each m _ _ ht; refine ⟨z, fun j v hj => ?_, hs⟩; obtain ⟨_, hcl, hcc⟩ := World.cells?_some hcc; have hj4 : j < k := by have := (List.getElem?_eq_some_iff.1 hj).1; rwa [hf z hs] at this
      rw [← hj, ← hcc j hj4, Addr.add_add]
    have hex : ∀ i, ∃ z : α, i < n → (∀ j v, (f z)[j]? = some v → W.cell? (ad.add (i * k + j)) = some v) ∧ R z := fun i => by
      by_cases hi : i < n
      · obtain ⟨z, h1⟩ := each2 i hi
        exact ⟨z, fun _ => h1⟩
      · exact ⟨z0, fun h0 => absurd h0 hi⟩
    obtain ⟨q, hq⟩ := Classical.axiomOfChoice hex; have hql : ∀ i, i < n → (f (q i)).length = k := fun i hi => hf _ (hq i hi).2
    have e : (((List.range n).map q).map f).flatten = (List.range n).flatMap fun i => f (q i) := by
      rw [List.map_map]
      rfl
    refine ⟨(List.range n).map q, ?_, fun z hz => ?_⟩
    · rw [e]
      refine ⟨flatm_len k _ n hql, hl, hm, fun i hi => ?_, fun he => by cases he⟩; obtain ⟨v0, hv0⟩ : ∃ v0, (f (q 0))[0]? = some v0 := ⟨_, List.getElem?_eq_getElem (by rw [hql 0 (by omega)]; exact hk)⟩; have h0 := (hq 0 (by omega)).1 0 _ hv0; rw [Nat.zero_mul, Nat.zero_add, add_zero_addr] at h0; obtain ⟨ea, hlt⟩ := cell_spot h0; refine ⟨ad.block, ad.off, by rw [← ea], hlt, fun j v hj => ?_⟩
      have hjn : j < n * k := by
        have := (List.getElem?_eq_some_iff.1 hj).1
        rwa [flatm_len k _ n hql] at this
      have hdv : j / k * k + j % k = j := by rw [Nat.mul_comm]; exact Nat.div_add_mod j k
      have hjk : j / k < n := (Nat.div_lt_iff_lt_mul hk).2 hjn; have hj2 := flatm_get k (fun i => f (q i)) n hql (j / k) (j % k) hjk (Nat.mod_lt _ hk); rw [hdv] at hj2; have h1 := (hq (j / k) hjk).1 (j % k) v (hj2.symm.trans hj); rw [hdv] at h1; rw [ea, mk_add] at h1; exact h1
    · obtain ⟨i, hi, rfl⟩ := List.mem_map.1 hz
      exact (hq i (List.mem_range.1 hi)).2
theorem cut1 {l : List Value} {o : Nat} {v : Value} (h : (l.drop o).take 1 = [v]) : l.drop o = v :: l.drop (o + 1) := by
  have := List.take_append_drop 1 (l.drop o); rw [h, List.drop_drop] at this; exact this.symm
theorem cutk {l r : List Value} {o k : Nat} (h : (l.drop o).take k = r) : l.drop o = r ++ l.drop (o + k) := by
  have := List.take_append_drop k (l.drop o); rw [h, List.drop_drop] at this; exact this.symm
theorem cint : Program.cellsOf Try.prog 3 = 1 := by kernel_rfl
theorem wf_Wf {x : Int} (h : (Lit.int .i64 x).wf = true) : Wf x := by
  simp [Lit.wf, IntKind.min, IntKind.max, IntKind.signed, IntKind.bits] at h
  unfold Wf
  omega
end
end Go.Proofs.Ytpjopeojeglogaa

namespace Tt
open Go Go.RowKit
set_option linter.unusedVariables false
set_option linter.unusedSimpArgs false

section
variable {P : Program} {ops : Array Oper} {rest : List Oper} {o : Oper} {a : Act} {w0 : World} {Q : Exit → Act → World → Prop}
/-- 'append(s, x)' of one element that stands in a row made for it. -/
theorem wpList_app_lit (hgd : o.guard = none) (s x : Operand) (t : TypeId)
    (ho : o.op = .call { callee := .builtin .append, args := #[s, x], argTypes := #[t, t] })
    (base : Nat) (e : TypeId) (i : TypeInfo) (z : Value) (size bytes : Nat) (ht : P.underlying t = some (.slice e)) (hi : P.info? e = some i) (hz : i.zero = some z)
    (hsize : i.size = size) (hby : i.bytes = bytes) (hzs : z.cells.size = size) (hsz : 0 < size)
    (v : Value) (n : Nat) (xs : List Value) (hs : a.eval s = v) (hown : w0.ownsRow base e size v n xs)
    (us : Array Value) (hx : a.eval x = .slice (some ⟨w0.heap.size, 0, none⟩) 1 1) (hl : us.size = size) (h1 : ∀ u ∈ us.toList, u.oneCell' = true)
    (hbytes : (n + 1) * bytes ≤ 140737488355328) (hb0 : 0 < bytes) (W : World) (hbel : Below base W w0) (hbase : base ≤ w0.heap.size)
    (h : ∀ (a' : Option Addr) (c' : Nat) (w' : World), w'.ownsRow base e size (.slice a' (n + 1) c') (n + 1) (xs ++ us.toList) → Below base W w' → wpList P ops Q rest (a.put o.dst (.slice a' (n + 1) c')) w') : wpList P ops Q (o :: rest) a (w0.alloc (.cells us e)) :=
  wpList_app hgd s x t ho base e i z size bytes ht hi hz hsize hby hzs hsz v n xs hs (own_later hown ((Below.refl _ _).alloc (Nat.le_refl _) _)) (some ⟨w0.heap.size, 0, none⟩) 1 1 us.toList hx
    (Sl.new w0 e size 1 us (0, 0) (by decide) (by omega)) h1 hbytes hb0 (by simp; omega) fun a' c' w' h2 h3 _ => h a' c' w' h2 ((hbel.alloc hbase _).trans h3)
end
/-- the data at the beginning of some bytes, without stuffing, and how many of these it takes -/
def plainS : List Int → List Int × Nat
  | [] => ([], 0)
  | [c] => if c = 255 then ([], 0) else ([c], 1)
  | c :: d :: l => if c = 255 then (if d = 0 then (255 :: (plainS l).1, (plainS l).2 + 2) else ([], 0)) else (c :: (plainS (d :: l)).1, (plainS (d :: l)).2 + 1)
theorem drop_at {z : List Int} {k : Nat} (h : k < z.length) : z.drop k = z.getD k 0 :: z.drop (k + 1) := by
  rw [List.drop_eq_getElem_cons h]; simp [h]
theorem plainS_nil {z : List Int} {k : Nat} (h : z.length ≤ k) : plainS (z.drop k) = ([], 0) := by rw [List.drop_eq_nil_of_le h]; rfl
theorem plainS_one {z : List Int} {k : Nat} (h : k < z.length) (hc : z.getD k 0 ≠ 255) : plainS (z.drop k) = (z.getD k 0 :: (plainS (z.drop (k + 1))).1, (plainS (z.drop (k + 1))).2 + 1) := by
  rw [drop_at h]
  cases hd : z.drop (k + 1) with
  | nil => unfold plainS; rw [if_neg hc]
  | cons d l => rw [plainS, if_neg hc]
theorem plainS_end {z : List Int} {k : Nat} (h : k < z.length) (hc : z.getD k 0 = 255) (he : k + 1 = z.length ∨ z.getD (k + 1) 0 ≠ 0) : plainS (z.drop k) = ([], 0) := by
  rw [drop_at h]
  rcases Nat.lt_or_ge (k + 1) z.length with h1 | h1
  · rw [drop_at h1, plainS, if_pos hc, if_neg (by rcases he with he | he; omega; exact he)]
  · rw [List.drop_eq_nil_of_le h1, plainS, if_pos hc]
theorem plainS_two {z : List Int} {k : Nat} (h : k + 1 < z.length) (hc : z.getD k 0 = 255) (he : z.getD (k + 1) 0 = 0) : plainS (z.drop k) = (255 :: (plainS (z.drop (k + 2))).1, (plainS (z.drop (k + 2))).2 + 2) := by
  rw [drop_at (by omega : k < z.length), drop_at h, plainS, if_pos hc, if_pos he]
theorem plainS_le (n : Nat) : ∀ (z : List Int), z.length ≤ n → (plainS z).1.length ≤ (plainS z).2 ∧ (plainS z).2 ≤ z.length := by
  induction n with
  | zero => intro z h; obtain rfl := List.eq_nil_of_length_eq_zero (by omega : z.length = 0); simp [plainS]
  | succ n ih =>
    intro z h
    match z with
    | [] => simp [plainS]
    | [c] => rw [plainS]; split <;> simp
    | c :: d :: l =>
      have h1 := ih l (by simp at h ⊢; omega); have h2 := ih (d :: l) (by simp at h ⊢; omega); rw [plainS]
      split
      · split
        · simp only [List.length_cons]; omega
        · simp
      · simp only [List.length_cons] at h2 ⊢; omega
theorem plainS_byt (n : Nat) : ∀ (z : List Int), z.length ≤ n → Byt z → Byt (plainS z).1 := by
  induction n with
  | zero => intro z h hb; obtain rfl := List.eq_nil_of_length_eq_zero (by omega : z.length = 0); simpa [plainS] using hb
  | succ n ih =>
    intro z h hb
    match z with
    | [] => simpa [plainS] using hb
    | [c] =>
      rw [plainS]
      split
      · intro x hx; cases hx
      · exact hb
    | c :: d :: l =>
      have h1 := ih l (by simp at h ⊢; omega) (fun x hx => hb x (List.mem_cons_of_mem _ (List.mem_cons_of_mem _ hx))); have h2 := ih (d :: l) (by simp at h ⊢; omega) (fun x hx => hb x (List.mem_cons_of_mem _ hx)); have hc := hb c (List.mem_cons_self ..); rw [plainS]
      split
      · split
        · intro x hx
          rcases List.mem_cons.1 hx with rfl | hx
          · omega
          · exact h1 x hx
        · intro x hx; cases hx
      · intro x hx
        rcases List.mem_cons.1 hx with rfl | hx
        · exact hc
        · exact h2 x hx
/-- bit k of bytes, the highest first -/
def bitA (D : List Int) (k : Nat) : Int := D.getD (k / 8) 0 / 2 ^ (7 - k % 8) % 2
theorem bitA_range (D : List Int) (k : Nat) : 0 ≤ bitA D k ∧ bitA D k < 2 := by unfold bitA; omega
/-- the number that n bits from bit i on are -/
def numA (D : List Int) (i : Nat) : Nat → Int
  | 0 => 0
  | n + 1 => numA D i n * 2 + bitA D (i + n)
theorem numA_bound (D : List Int) (i : Nat) : ∀ n, 0 ≤ numA D i n ∧ numA D i n < 2 ^ n
  | 0 => by simp [numA]
  | n + 1 => by
    have h := numA_bound D i n; have h2 := bitA_range D (i + n); rw [numA, Int.pow_succ]
    omega
theorem or_bit {N B : Int} (h0 : 0 ≤ N) (h1 : N < 36028797018963968) (h2 : 0 ≤ B) (h3 : B < 2) : bits .or .i64 (N * 2) B = N * 2 + B := by
  obtain ⟨a, rfl⟩ : ∃ a : Nat, N = a := ⟨N.toNat, by omega⟩; obtain ⟨b, rfl⟩ : ∃ b : Nat, B = b := ⟨B.toNat, by omega⟩; have h := or_i64 (a * 2) b (by omega) (by omega); have h4 := Nat.two_pow_add_eq_or_of_lt (i := 1) (b := b) (by omega) a; have h5 : (2 ^ 1 * a : Nat) = a * 2 := by omega
  rw [h5] at h4; rw [← h4] at h; rw [show ((a * 2 : Nat) : Int) = (a : Int) * 2 by omega, show ((a * 2 + b : Nat) : Int) = (a : Int) * 2 + b by omega] at h; exact h
theorem and1_u8 {x : Int} (h0 : 0 ≤ x) (h1 : x < 256) : bits .and .u8 x 1 = x % 2 := by
  have h : ∀ n : Fin 256, bits .and .u8 ((n.val : Nat) : Int) 1 = ((n.val : Nat) : Int) % 2 := by decide +kernel
  have := h ⟨x.toNat, by omega⟩; simp only at this; rw [show ((x.toNat : Nat) : Int) = x by omega] at this; exact this
theorem div_byte {x : Int} (h0 : 0 ≤ x) (h1 : x < 256) (e : Nat) : 0 ≤ x / 2 ^ e ∧ x / 2 ^ e < 256 := by
  have hp : (0 : Int) < 2 ^ e := Int.pow_pos (by decide); exact ⟨Int.ediv_nonneg h0 (Int.le_of_lt hp), Int.lt_of_le_of_lt (Int.ediv_le_self _ h0) h1⟩
/-- one bit more of a number, as the program takes it -/
theorem numA_step {D : List Int} (hD : Byt D) (i j : Nat) (hj : j ≤ 16) : bits .or .i64 (wrap64 (numA D i j * 2)) (wrap64 (bits .and .u8 (D[(i + j) / 8]?.getD 0 / 2 ^ (7 - (i + j) % 8)) 1)) = numA D i (j + 1) := by
  have h := numA_bound D i j; have hp : (2 : Int) ^ j ≤ 2 ^ 16 := by exact_mod_cast Nat.pow_le_pow_right (by decide : 0 < 2) hj
  have hg := hD.get ((i + j) / 8); rw [List.getD_eq_getElem?_getD] at hg; have hd := div_byte hg.1 hg.2 (7 - (i + j) % 8); rw [and1_u8 hd.1 hd.2]; have hb := bitA_range D (i + j); have he : D[(i + j) / 8]?.getD 0 / 2 ^ (7 - (i + j) % 8) % 2 = bitA D (i + j) := by unfold bitA; rw [List.getD_eq_getElem?_getD]
  rw [he, show wrap64 (numA D i j * 2) = numA D i j * 2 by unfold wrap64; omega, show wrap64 (bitA D (i + j)) = bitA D (i + j) by unfold wrap64; omega, or_bit h.1 (by omega) hb.1 hb.2, numA]
/-- bytes with stuffing -/
def stuffS (l : List Int) : List Int := l.flatMap fun c => if c = 255 then [255, 0] else [c]
theorem stuffS_take {l : List Int} {k : Nat} (h : k < l.length) : stuffS (l.take (k + 1)) = stuffS (l.take k) ++ (if l.getD k 0 = 255 then [255, 0] else [l.getD k 0]) := by
  unfold stuffS; rw [take_snoc' h, List.flatMap_append]; simp
theorem stuffS_len (l : List Int) : (stuffS l).length ≤ 2 * l.length := by
  unfold stuffS
  induction l with
  | nil => simp
  | cons c l ih => rw [List.flatMap_cons, List.length_append, List.length_cons]; split <;> simp only [List.length_cons, List.length_nil] <;> omega
end Tt
