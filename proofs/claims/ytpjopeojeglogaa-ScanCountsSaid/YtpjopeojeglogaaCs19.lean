/- Chapter 11 (plain): the symbols of a block: their class, their numbers. | Chapter 12 (plain): blocks written. | Chapter 11 (plain): a block from its symbols. | Chapter 12 (plain): blocks read. | Chapter 11: the number that bits tell: the program. -/
import Derived.Test.YtpjopeojeglogaaCs18
import Derived.Test.YtpjopeojeglogaaCs14
namespace Go.Proofs.Ytpjopeojeglogaa
open Go.RowKit Tt
set_option linter.unusedVariables false
set_option linter.unusedSimpArgs false

def CodOk (x : Cod) : Prop := (x.1 = 0 ∨ x.1 = 1) ∧ 0 ≤ x.2.1 ∧ x.2.1 ≤ 255 ∧ 0 ≤ x.2.2.1 ∧ x.2.2.1 < 2048 ∧ 0 ≤ x.2.2.2 ∧ x.2.2.2 ≤ 11
theorem codOf_ok {ac v : Int} {z : Nat} (h : ac = 0 ∨ ac = 1) (hz : z ≤ 15) (hb : bitLen v.natAbs ≤ 11) : CodOk (codOf ac (z : Nat) v) := by
  obtain ⟨h1, h2⟩ := @extraV_range v
  have h3 : (2 : Int) ^ bitLen v.natAbs ≤ 2048 := by
    have h4 : (2 : Nat) ^ bitLen v.natAbs ≤ 2048 := Nat.le_trans (Nat.pow_le_pow_right (by omega) hb) (by decide); have h5 : (((2 : Nat) ^ bitLen v.natAbs : Nat) : Int) ≤ 2048 := by omega
    rw [Int.natCast_pow] at h5; exact h5
  exact ⟨h, by show (0 : Int) ≤ 16 * (z : Int) + (bitLen v.natAbs : Int); omega, by show 16 * (z : Int) + (bitLen v.natAbs : Int) ≤ 255; omega, h1, by show extraV v < 2048; omega, by show (0 : Int) ≤ (bitLen v.natAbs : Int); omega, by show (bitLen v.natAbs : Int) ≤ 11; omega⟩
theorem acFrom_ok (l : List Int) : ∀ (p q : List Cod × Nat), (∀ x ∈ p.1, CodOk x) → acFrom l (some p) = some q → ∀ x ∈ q.1, CodOk x := by
  induction l with
  | nil => intro p q hp h; unfold acFrom at h; injection h with h; rw [← h]; exact hp
  | cons v l ih =>
    intro p q hp h; rw [show acFrom (v :: l) (some p) = acFrom l (acStep (some p) v) from rfl] at h; unfold acStep at h; rw [Option.bind_some] at h
    by_cases hv : v = 0
    · rw [if_pos hv] at h
      exact ih (p.1, p.2 + 1) _ hp h
    · rw [if_neg hv] at h
      by_cases hb : bitLen v.natAbs ≤ 10
      · rw [if_pos hb] at h
        refine ih _ _ (fun x hx => ?_) h
        rcases List.mem_append.1 hx with hx | hx
        · rcases List.mem_append.1 hx with hx | hx
          · exact hp x hx
          · rw [List.eq_of_mem_replicate hx]
            exact ⟨.inr rfl, by decide, by decide, by decide, by decide, by decide, by decide⟩
        · rw [List.mem_singleton.1 hx]
          exact codOf_ok (.inr rfl) (by omega) (by omega)
      · rw [if_neg hb, acFrom_none] at h
        cases h
theorem codeB_ok {b : List Int} {last : Int} {l : List Cod} (h : codeB b last = some l) : ∀ x ∈ l, CodOk x := by
  unfold codeB at h
  split at h
  · cases h
  · rename_i hn
    obtain ⟨q, hq, rfl⟩ := Option.map_eq_some_iff.1 h
    have h1 := acFrom_ok _ _ _ (fun x hx => by
      rw [List.mem_singleton.1 hx]; exact codOf_ok (z := 0) (.inl rfl) (by omega) (by omega)) hq
    intro x hx; unfold acEnd at hx
    split at hx
    · rcases List.mem_append.1 hx with hx | hx
      · exact h1 x hx
      · rw [List.mem_singleton.1 hx]
        exact ⟨.inr rfl, by decide, by decide, by decide, by decide, by decide, by decide⟩
    · exact h1 x hx
theorem CodOk.wf {x : Cod} (h : CodOk x) : ∀ y ∈ cdL x, (Lit.int .i64 y).wf = true := fun y hy => by
  obtain ⟨h1, h2, h3, h4, h5, h6, h7⟩ := h; have : y = x.1 ∨ y = x.2.1 ∨ y = x.2.2.1 ∨ y = x.2.2.2 := by simpa [cdL] using hy
  rcases this with rfl | rfl | rfl | rfl
  · exact wf_of (by omega) (by omega)
  · exact wf_of (by omega) (by omega)
  · exact wf_of (by omega) (by omega)
  · exact wf_of (by omega) (by omega)
section
variable {T : Type}
/-- what the functions that are given must do: S are the blocks that they may turn, E bounds the others that they look at -/
structure TellJ (J : (Nat → Prop) → T → World → Prop) (E B0 most : Nat) (size : T → Nat) (np : Nat) (iv : Int) (fp fa : FuncId) (c1 c2 a1 a2 a3 : Value) (put : T → Nat → Cod → Except Int T) (again : T → Nat → T) : Prop where
  low : ∀ (S : Nat → Prop) (t : T) (w : World), J S t w → ∀ k, S k → B0 ≤ k
  high : ∀ (S : Nat → Prop) (t : T) (w : World), J S t w → ∀ k, S k → k < w.heap.size
  late : ∀ (S : Nat → Prop) (t : T) (w w' : World), J S t w → Below w.heap.size w w' → J S t w'
  but : ∀ (S : Nat → Prop) (t : T) (w w' : World) (g : Nat), J S t w → But g w w' → E ≤ g → ¬ S g → J S t w'
  grow : ∀ (t t' : T) (part : Nat) (x : Cod), CodOk x → put t part x = .ok t' → size t' ≤ size t + 32
  less : ∀ (t : T) (n : Nat), size (again t n) ≤ size t + 4
  put : ∀ (S : Nat → Prop) (t : T) (w : World) (part : Nat) (x : Cod) (A : Array Value), (ints .i64 (cdL x)).toArray = A → J S t w → part < np → size t ≤ most → CodOk x →
    Calls Try.prog fp #[.int .i64 part, .agg A, c1, c2] w fun e w' => ((∃ t', put t part x = .ok t' ∧ e = .returned (.int .i64 0) ∧ J (Sx S w w') t' w') ∨ ∃ er, put t part x = .error er ∧ ¬ er = 0 ∧ e = .returned (.int .i64 er)) ∧ Mo S w w'
  again : ∀ (S : Nat → Prop) (t : T) (w : World) (n : Nat), J S t w → resS iv n = true → n ≤ 262144 → size t ≤ most →
    Calls Try.prog fa #[.int .i64 n, a1, a2, a3] w fun e w' => e = .returned (.tuple #[]) ∧ J (Sx S w w') (again t n) w' ∧ Mo S w w'
end
end Go.Proofs.Ytpjopeojeglogaa

namespace Go.Proofs.Ytpjopeojeglogaa
open Go.RowKit Tt
set_option linter.unusedVariables false
set_option linter.unusedSimpArgs false

/-- the bytes that are there, and the bits behind them -/
abbrev WrT := List Int × List Int
def codeP (p : PtM) (x : Cod) : Option (Int × Nat) := if x.1 = 0 then codeS p.2.2.1.1.1 p.2.2.1.1.2 x.2.1 else codeS p.2.2.2.1.1 p.2.2.2.1.2 x.2.1
def codeA (ps : List PtM) (part : Nat) (x : Cod) : Option (Int × Nat) := (ps[part]?).bind fun p => codeP p x
def putW (ps : List PtM) (t : WrT) (part : Nat) (x : Cod) : Except Int WrT := match codeA ps part x with
  | none => .error 2
  | some X => .ok (t.1, t.2 ++ lowS X.1 X.2 ++ lowS x.2.2.1 x.2.2.2.toNat)
def rstS (iv : Int) (n : Nat) : Int := ((208 + (n / iv.toNat - 1) % 8 : Nat) : Int)
def againW (iv : Int) (t : WrT) (n : Nat) : WrT := (t.1 ++ bytesS t.2 ++ [255, rstS iv n], [])
def sizeW (t : WrT) : Nat := t.1.length + t.2.length
/-- the bytes of blocks; an error -/
def writeS (s : ScT) (bs : List (List (List Int))) : Except Int (List Int) :=
  if wholeS s bs then (tellS (putW s.ps) (againW s.iv) s bs ([], [])).map fun t => t.1.1 ++ bytesS t.1.2 else .error 1
theorem putW_ok {ps : List PtM} {t : WrT} {part : Nat} {x : Cod} {X : Int × Nat} (h : codeA ps part x = some X) : putW ps t part x = .ok (t.1, t.2 ++ lowS X.1 X.2 ++ lowS x.2.2.1 x.2.2.2.toNat) := by unfold putW; rw [h]
theorem putW_no {ps : List PtM} {t : WrT} {part : Nat} {x : Cod} (h : codeA ps part x = none) : putW ps t part x = .error 2 := by unfold putW; rw [h]
theorem codeA_bits {ps : List PtM} {part : Nat} {x : Cod} {X : Int × Nat} (h : codeA ps part x = some X) : CodeOk X := by
  unfold codeA at h; obtain ⟨p, _, hp⟩ := Option.bind_eq_some_iff.1 h; unfold codeP at hp
  split at hp
  · exact codeS_bits hp
  · exact codeS_bits hp
theorem putW_grow {ps : List PtM} {t t' : WrT} {part : Nat} {x : Cod} (hx : CodOk x) (h : putW ps t part x = .ok t') : sizeW t' ≤ sizeW t + 32 := by
  cases hc : codeA ps part x with
  | none => rw [putW_no hc] at h; cases h
  | some X =>
    rw [putW_ok hc] at h; injection h with h; have h1 := (codeA_bits hc).2.1; have h2 := hx.2.2.2.2.2.2; rw [← h]; unfold sizeW; simp only [List.length_append, lowS_len]
    omega
theorem bytesS_le (l : List Int) : (bytesS l).length ≤ l.length + 2 := by
  unfold bytesS; have h1 := stuffS_len (packS (padS l)); have h2 : (packS (padS l)).length = (padS l).length / 8 := packN_len _ _; have h3 : (padS l).length = l.length + (8 - l.length % 8) % 8 := by unfold padS; rw [List.length_append, List.length_replicate]
  omega
theorem againW_less (iv : Int) (t : WrT) (n : Nat) : sizeW (againW iv t n) ≤ sizeW t + 4 := by
  have := bytesS_le t.2; unfold sizeW againW; simp only [List.length_append, List.length_cons, List.length_nil]
  omega
end Go.Proofs.Ytpjopeojeglogaa

namespace Go.Proofs.Ytpjopeojeglogaa
open Go.RowKit Tt
set_option linter.unusedVariables false
set_option linter.unusedSimpArgs false

/-- the number that a symbol of a class tells -/
def symV (x : Cod) (ac most : Int) : Option Int := if x.1 = ac ∧ 0 ≤ x.2.1 ∧ x.2.1 ≤ 255 ∧ x.2.1 % 16 ≤ most ∧ x.2.2.2 = x.2.1 % 16 then valueS x.2.2.1 x.2.2.2 else none
/-- the numbers behind the first one, from the step k on, of which u symbols were used -/
def blkL : List Cod → Nat → List Int → Nat → Except Int (List Int × Nat)
  | [], k, b, u => if 64 ≤ k then .ok (b, u) else .error 3
  | x :: l, k, b, u => if 64 ≤ k then .ok (b, u) else match symV x 1 10 with
    | none => .error 2
    | some v => if v = 0 ∧ x.2.1 / 16 = 0 then .ok (b, u + 1) else
      if (v = 0 ∧ x.2.1 / 16 ≠ 15) ∨ 64 ≤ k + (x.2.1 / 16).toNat then .error 2 else
      blkL l (k + (x.2.1 / 16).toNat + 1) (b.set (zzL.getD (k + (x.2.1 / 16).toNat) 0) v) (u + 1)
/-- a block behind a number, and how many symbols it takes; an error -/
def blockS (l : List Cod) (last : Int) : Except Int (List Int × Nat) := if sizeS last < 0 then .error 1 else match l with
  | [] => .error 3
  | x :: l => match symV x 0 11 with
    | none => .error 2
    | some v => if x.2.1 / 16 = 0 then blkL l 1 ((List.replicate 64 0).set 0 (last + v)) 1 else .error 2
theorem valueS_range {V N v : Int} (h : valueS V N = some v) : 0 ≤ N ∧ N ≤ 15 ∧ -(2 ^ N.toNat) < v ∧ v < 2 ^ N.toNat := by
  unfold valueS at h
  split at h
  · rename_i hc
    obtain ⟨h1, h2, h3, h4⟩ := hc; refine ⟨h1, h2, ?_⟩
    split at h
    · injection h with h; omega
    · injection h with h; omega
  · cases h
theorem symV_some {x : Cod} {ac most v : Int} (h : symV x ac most = some v) : (x.1 = ac ∧ 0 ≤ x.2.1 ∧ x.2.1 ≤ 255 ∧ x.2.1 % 16 ≤ most ∧ x.2.2.2 = x.2.1 % 16) ∧ valueS x.2.2.1 x.2.2.2 = some v := by
  unfold symV at h
  split at h
  · exact ⟨by assumption, h⟩
  · cases h
/-- what the next symbol tells: the run, the number, the error -/
def nextC (l : List Cod) (u : Nat) (ac most : Int) : Int × Int × Int := match l[u]? with
  | none => (0, 0, 3)
  | some x => match symV x ac most with
    | none => (0, 0, 2)
    | some v => (x.2.1 / 16, v, 0)
theorem nextC_end {l : List Cod} {u : Nat} {ac most : Int} (h : l.length ≤ u) : nextC l u ac most = (0, 0, 3) := by unfold nextC; rw [List.getElem?_eq_none h]
theorem nextC_no {l : List Cod} {u : Nat} {ac most : Int} {x : Cod} (h : l[u]? = some x) (h2 : symV x ac most = none) : nextC l u ac most = (0, 0, 2) := by unfold nextC; rw [h]; simp only; rw [h2]
theorem nextC_ok {l : List Cod} {u : Nat} {ac most : Int} {x : Cod} {v : Int} (h : l[u]? = some x) (h2 : symV x ac most = some v) : nextC l u ac most = (x.2.1 / 16, v, 0) := by unfold nextC; rw [h]; simp only; rw [h2]
theorem drop_at {α : Type} {l : List α} {u : Nat} {x : α} (h : l[u]? = some x) : l.drop u = x :: l.drop (u + 1) := by
  obtain ⟨h1, h2⟩ := List.getElem?_eq_some_iff.1 h; rw [List.drop_eq_getElem_cons h1, h2]
theorem blkL_full (l : List Cod) {k : Nat} (b : List Int) (u : Nat) (h : 64 ≤ k) : blkL l k b u = .ok (b, u) := by
  cases l with
  | nil => unfold blkL; rw [if_pos h]
  | cons x l => unfold blkL; rw [if_pos h]
theorem blkL_end {l : List Cod} {k u : Nat} {b : List Int} (h : k < 64) (hu : l.length ≤ u) : blkL (l.drop u) k b u = .error 3 := by
  rw [List.drop_eq_nil_of_le hu]; unfold blkL; rw [if_neg (by omega)]
theorem blkL_no {l : List Cod} {k u : Nat} {b : List Int} {x : Cod} (h : k < 64) (hx : l[u]? = some x) (hv : symV x 1 10 = none) : blkL (l.drop u) k b u = .error 2 := by
  rw [drop_at hx]; unfold blkL; rw [if_neg (by omega), hv]
theorem blkL_stop {l : List Cod} {k u : Nat} {b : List Int} {x : Cod} {v : Int} (h : k < 64) (hx : l[u]? = some x) (hv : symV x 1 10 = some v) (hs : v = 0 ∧ x.2.1 / 16 = 0) : blkL (l.drop u) k b u = .ok (b, u + 1) := by
  rw [drop_at hx]; unfold blkL; rw [if_neg (by omega), hv]
  show (if v = 0 ∧ x.2.1 / 16 = 0 then _ else _) = _
  rw [if_pos hs]
theorem blkL_bad {l : List Cod} {k u : Nat} {b : List Int} {x : Cod} {v : Int} (h : k < 64) (hx : l[u]? = some x) (hv : symV x 1 10 = some v) (hs : ¬ (v = 0 ∧ x.2.1 / 16 = 0)) (hb : (v = 0 ∧ x.2.1 / 16 ≠ 15) ∨ 64 ≤ k + (x.2.1 / 16).toNat) : blkL (l.drop u) k b u = .error 2 := by
  rw [drop_at hx]; unfold blkL; rw [if_neg (by omega), hv]
  show (if v = 0 ∧ x.2.1 / 16 = 0 then _ else _) = _
  rw [if_neg hs, if_pos hb]
theorem blkL_step {l : List Cod} {k u : Nat} {b : List Int} {x : Cod} {v : Int} (h : k < 64) (hx : l[u]? = some x) (hv : symV x 1 10 = some v) (hs : ¬ (v = 0 ∧ x.2.1 / 16 = 0)) (hb : ¬ ((v = 0 ∧ x.2.1 / 16 ≠ 15) ∨ 64 ≤ k + (x.2.1 / 16).toNat)) :
    blkL (l.drop u) k b u = blkL (l.drop (u + 1)) (k + (x.2.1 / 16).toNat + 1) (b.set (zzL.getD (k + (x.2.1 / 16).toNat) 0) v) (u + 1) := by
  rw [drop_at hx]
  conv => lhs; unfold blkL
  rw [if_neg (by omega), hv]
  show (if v = 0 ∧ x.2.1 / 16 = 0 then _ else _) = _
  rw [if_neg hs, if_neg hb]
end Go.Proofs.Ytpjopeojeglogaa

namespace Go.Proofs.Ytpjopeojeglogaa
open Go.RowKit Tt
set_option linter.unusedVariables false
set_option linter.unusedSimpArgs false

/-- the symbol of a plane that stands at the beginning of bits, and how many these are -/
def symbR (p : PtM) (ac : Nat) (B : List Int) : Option (Cod × Nat) :=
  (if ac = 0 then nextS p.2.2.1.1.1 p.2.2.1.1.2 B else nextS p.2.2.2.1.1 p.2.2.2.1.2 B).bind fun y =>
    if 11 < y.1 % 16 ∨ B.length < y.2 + (y.1 % 16).toNat then none else some (((ac : Int), y.1, numL ((B.drop y.2).take (y.1 % 16).toNat), y.1 % 16), y.2 + (y.1 % 16).toNat)
/-- the block of a plane that stands at the beginning of bits, behind symbols; and the bits left -/
def blkR (p : PtM) (last : Int) : Nat → List Cod → List Int → Option (List Int × List Int)
  | 0, _, _ => none
  | f + 1, l, B => match symbR p (min l.length 1) B with
    | none => none
    | some x => match blockS (l ++ [x.1]) last with
      | .ok b => if sizeS (b.1.getD 0 0) < 0 then none else some (b.1, B.drop x.2)
      | .error e => if e = 3 then blkR p last f (l ++ [x.1]) (B.drop x.2) else none
theorem blkR_none {p : PtM} {last : Int} {f : Nat} {l : List Cod} {B : List Int} (h : symbR p (min l.length 1) B = none) : blkR p last (f + 1) l B = none := by
  unfold blkR; rw [h]
theorem blkR_ok {p : PtM} {last : Int} {f k : Nat} {l : List Cod} {B : List Int} {x : Cod} {b : List Int × Nat} (h : symbR p (min l.length 1) B = some (x, k)) (hb : blockS (l ++ [x]) last = .ok b) : blkR p last (f + 1) l B = if sizeS (b.1.getD 0 0) < 0 then none else some (b.1, B.drop k) := by
  unfold blkR; rw [h]; simp only; rw [hb]
theorem blkR_err {p : PtM} {last e : Int} {f k : Nat} {l : List Cod} {B : List Int} {x : Cod} (h : symbR p (min l.length 1) B = some (x, k)) (hb : blockS (l ++ [x]) last = .error e) : blkR p last (f + 1) l B = if e = 3 then blkR p last f (l ++ [x]) (B.drop k) else none := by
  conv => lhs; unfold blkR
  rw [h]; simp only; rw [hb]
/-- how many bytes stand ahead of a marker of a restart -/
def cutR : List Int → Nat
  | [] => 0
  | [_] => 1
  | x :: y :: l => if x = 255 ∧ 208 ≤ y ∧ y ≤ 215 then 0 else cutR (y :: l) + 1
/-- the bits up to the next marker, and the bytes behind them -/
def beginS (rest : List Int) : Option (List Int × List Int) :=
  if (plainS (rest.take (cutR rest))).2 = (rest.take (cutR rest)).length then some (bitsS (plainS (rest.take (cutR rest))).1, rest.drop (cutR rest)) else none
def fillS (B : List Int) : Bool := decide (B.length < 8) && B.all fun x => decide (x ≠ 0)
def againR (iv : Int) (n : Nat) (B rest : List Int) : Option (List Int × List Int) :=
  if fillS B = true ∧ 2 ≤ rest.length ∧ rest.getD 1 0 = rstS iv n then beginS (rest.drop 2) else none
/-- what is read: the blocks, the bits left, the bytes behind them, the last numbers -/
structure RdT where
  bl : List (List (List Int))
  B : List Int
  rest : List Int
  last : List Int
def setB (bl : List (List (List Int))) (x : Nat × Nat) (b : List Int) : List (List (List Int)) := bl.set x.1 ((bl.getD x.1 []).set x.2 b)
def rdB (ps : List PtM) (st : RdT) (x : Nat × Nat) : Option RdT := (ps[x.1]?).bind fun p => (blkR p (st.last.getD x.1 0) 65 [] st.B).map fun q => ⟨setB st.bl x q.1, q.2, st.rest, st.last.set x.1 (q.1.getD 0 0)⟩
def rdE (ps : List PtM) (n : Nat) (st : RdT) (x : Nat × Nat) : Except Nat RdT := match rdB ps st x with
  | none => .error n
  | some st => .ok st
/-- ahead of a unit -/
def startR (s : ScT) (st : RdT) (n : Nat) : Option RdT :=
  if n = 0 then (beginS st.rest).map fun q => ⟨st.bl, q.1, q.2, List.replicate s.ps.length 0⟩
  else if resS s.iv n then (againR s.iv n st.B st.rest).map fun q => ⟨st.bl, q.1, q.2, List.replicate s.ps.length 0⟩
  else some st
def rdU (s : ScT) (st : RdT) (n : Nat) : Except Nat RdT := match startR s st n with
  | none => .error n
  | some st => (unitS s.ax.toNat s.ps n).foldlM (rdE s.ps n) st
def zeroB (s : ScT) : List (List (List Int)) := s.ps.map fun p => List.replicate (s.ax.toNat * p.1.toNat * s.dn.toNat * p.2.1.toNat) (List.replicate 64 0)
def readU (s : ScT) (b : List Int) : Except Nat RdT := (List.range (s.ax * s.dn).toNat).foldlM (rdU s) ⟨zeroB s, [], b, List.replicate s.ps.length 0⟩
/-- the blocks of bytes; at which unit there are none -/
def readS (s : ScT) (b : List Int) : Except Nat (List (List (List Int))) := match readU s b with
  | .error n => .error n
  | .ok st => if fillS st.B = true ∧ st.rest = [] then .ok st.bl else .error (s.ax * s.dn).toNat
section
variable {ε : Type}
theorem exN_snoc {α β : Type} {f : β → α → Except ε β} {l : List α} {j : Nat} {x : α} (h : l[j]? = some x) (s : β) : (l.take (j + 1)).foldlM f s = ((l.take j).foldlM f s).bind fun t => f t x := by
  rw [List.take_add_one, h, Option.toList_some, List.foldlM_append]
  show ((l.take j).foldlM f s).bind _ = _
  congr 1
  funext t
  rw [List.foldlM_cons]
  show (f t x).bind _ = _
  cases f t x <;> rfl
theorem exN_err {α β : Type} {f : β → α → Except ε β} {l : List α} {j : Nat} {s : β} {e : ε} (h : (l.take j).foldlM f s = .error e) : l.foldlM f s = .error e := by
  conv => lhs; rw [← List.take_append_drop j l]
  rw [List.foldlM_append, h]
  rfl
end
end Go.Proofs.Ytpjopeojeglogaa

namespace Go.Proofs.Ytpjopeojeglogaa
open Go.RowKit Tt
set_option linter.unusedVariables false
set_option linter.unusedSimpArgs false

def valR (q : Option Int) : Value := .tuple #[.int .i64 (q.getD 0), .bool q.isSome]
theorem valueS_no {V N : Int} (h : ¬ (0 ≤ N ∧ N ≤ 15 ∧ 0 ≤ V ∧ V < 2 ^ N.toNat)) : valueS V N = none := by unfold valueS; rw [if_neg h]
theorem valueS_low {V : Int} {n : Nat} (h : n ≤ 15) (h0 : 0 ≤ V) (h1 : V < 2 ^ n) (hn : 0 < n) (h2 : V < 2 ^ (n - 1)) : valueS V n = some (V - (2 ^ n - 1)) := by
  unfold valueS; rw [Int.toNat_natCast, if_pos ⟨by omega, by omega, h0, h1⟩, if_pos ⟨by omega, h2⟩]
theorem valueS_high {V : Int} {n : Nat} (h : n ≤ 15) (h0 : 0 ≤ V) (h1 : V < 2 ^ n) (h2 : ¬ (0 < n ∧ V < 2 ^ (n - 1))) : valueS V n = some V := by
  unfold valueS; rw [Int.toNat_natCast, if_pos ⟨by omega, by omega, h0, h1⟩, if_neg (by omega)]
theorem div_zero_iff {V p : Int} (h0 : 0 ≤ V) (hp : 0 < p) : V / p = 0 ↔ V < p := by
  constructor
  · intro h
    have := Int.emod_add_mul_ediv V p; rw [h] at this; have := Int.emod_lt_of_pos V hp
    omega
  · exact fun h => Int.ediv_eq_zero_of_lt h0 h
theorem below_dN {B : Nat} {w W : World} {n : Nat} (h : Below B w W) : Below B w (W.drewN n) := h.trans (Qt.below ⟨n, rfl⟩ B)
set_option maxRecDepth 20000 in
set_option maxHeartbeats 1000000 in
theorem cvalue_any (V N : Int) (w : World) (hV : (Lit.int .i64 V).wf = true) (hN : (Lit.int .i64 N).wf = true) :
    Calls Try.prog 215 #[.agg #[.int .i64 V, .int .i64 N]] w fun e w' => e = .returned (valR (valueS V N)) ∧ Below w.heap.size w w' := by
  have hb := wf_bd hV; have hal := (Below.refl w.heap.size w).alloc (Nat.le_refl _) (.cells #[.int .i64 V, .int .i64 N] 102); have B1 := Blk.new w 102 #[.int .i64 V, .int .i64 N]; obtain ⟨W1, hW1⟩ : ∃ W, w.alloc (.cells #[.int .i64 V, .int .i64 N] 102) = W := ⟨_, rfl⟩; rw [hW1] at hal B1; have k0 : W1.cell? ⟨w.heap.size, 0, none⟩ = some (.int .i64 V) := B1.cell rfl; have k1 : W1.cell? ⟨w.heap.size, 1, none⟩ = some (.int .i64 N) := B1.cell rfl
  by_cases c1 : N < 0
  · have hq := valueS_no (V := V) (N := N) (by omega)
    rw [hq]; have B1' := Lib.hid B1; have hal' := Lib.hid hal; have hW1' := Lib.hid hW1; have hq' := Lib.hid hq; clear B1 hal hW1 hq
    go_enter Try.func215, Try.ntmps215
    go_upto_region 1 with fail
    rw [hW1'.out]
    go_quiet (fail)
    go_wp2
    try go_quiet (fail)
    try go_wp2
    go_ret2
    exact ⟨rfl, below_dN hal'.out⟩
  by_cases c2 : 15 < N
  · have hq := valueS_no (V := V) (N := N) (by omega)
    rw [hq]; have B1' := Lib.hid B1; have hal' := Lib.hid hal; have hW1' := Lib.hid hW1; have hq' := Lib.hid hq; clear B1 hal hW1 hq
    go_enter Try.func215, Try.ntmps215
    go_upto_region 1 with fail
    rw [hW1'.out]
    go_quiet (fail)
    go_wp2
    try go_quiet (fail)
    try go_wp2
    go_ret2
    exact ⟨rfl, below_dN hal'.out⟩
  by_cases c3 : V < 0
  · have hq := valueS_no (V := V) (N := N) (by omega)
    rw [hq]; have B1' := Lib.hid B1; have hal' := Lib.hid hal; have hW1' := Lib.hid hW1; have hq' := Lib.hid hq; clear B1 hal hW1 hq
    go_enter Try.func215, Try.ntmps215
    go_upto_region 1 with fail
    rw [hW1'.out]
    go_quiet (fail)
    go_wp2
    try go_quiet (fail)
    try go_wp2
    go_ret2
    exact ⟨rfl, below_dN hal'.out⟩
  obtain ⟨n, rfl⟩ : ∃ n : Nat, N = n := ⟨N.toNat, by omega⟩; have hMp : (2 : Int) ^ n ≤ 2 ^ 15 := by exact_mod_cast Nat.pow_le_pow_right (by decide : 0 < 2) (show n ≤ 15 by omega)
  have hMq := pow_pos2 n; have hw1 : wrap64 (2 ^ n) = 2 ^ n := by unfold wrap64; omega
  by_cases c4 : 2 ^ n ≤ V
  · have hq := valueS_no (V := V) (N := n) (by rw [Int.toNat_natCast]; omega)
    rw [hq]; have hMp' := Lib.hid hMp; have hMq' := Lib.hid hMq; clear hMp hMq; have B1' := Lib.hid B1; have hal' := Lib.hid hal; have hW1' := Lib.hid hW1; have hq' := Lib.hid hq; clear B1 hal hW1 hq
    go_enter Try.func215, Try.ntmps215
    go_upto_region 1 with fail
    rw [hW1'.out]
    go_quiet (fail)
    go_wp2
    try go_quiet (fail)
    try go_wp2
    go_ret2
    exact ⟨rfl, below_dN hal'.out⟩
  by_cases c5 : n = 0
  · have hpz : ¬ (0 : Int) < n := by omega
    have hq := valueS_high (V := V) (n := n) (by omega) (by omega) (by omega) (by omega); rw [hq]; clear c5; have hMp' := Lib.hid hMp; have hMq' := Lib.hid hMq; clear hMp hMq; have B1' := Lib.hid B1; have hal' := Lib.hid hal; have hW1' := Lib.hid hW1; have hq' := Lib.hid hq; clear B1 hal hW1 hq
    go_enter Try.func215, Try.ntmps215
    go_upto_region 1 with fail
    rw [hW1'.out]
    go_quiet (fail)
    go_wp2
    try go_quiet (fail)
    try go_wp2
    go_ret2
    exact ⟨rfl, below_dN hal'.out⟩
  have hpm : (0 : Int) < n := by omega
  have hs1 : (n : Int) - 1 = ((n - 1 : Nat) : Int) := by omega
  have hdz := div_zero_iff (V := V) (p := 2 ^ (n - 1)) (by omega) (pow_pos2 _)
  have hdw : IntKind.i64.wrap (V / 2 ^ (n - 1)) = V / 2 ^ (n - 1) := by
    have h1 := Int.ediv_nonneg (show 0 ≤ V by omega) (Int.le_of_lt (pow_pos2 (n - 1))); have h2 := Int.ediv_le_self (2 ^ (n - 1)) (show 0 ≤ V by omega); rw [IntKind.wrap_i64]; omega
  by_cases c6 : V < 2 ^ (n - 1)
  · have hq := valueS_low (V := V) (n := n) (by omega) (by omega) (by omega) (by omega) c6
    have c7 : V / 2 ^ (n - 1) = 0 := hdz.2 c6; have hw2 : wrap64 (2 ^ n - 1) = 2 ^ n - 1 := by unfold wrap64; omega
    obtain ⟨X, hX⟩ : ∃ X, V - (2 ^ n - 1) = X := ⟨_, rfl⟩; have hw3 : wrap64 X = X := by unfold wrap64; omega
    rw [hX] at hq; rw [hq]; have hMp' := Lib.hid hMp; have hMq' := Lib.hid hMq; have hdz' := Lib.hid hdz; clear hMp hMq hdz; have B1' := Lib.hid B1; have hal' := Lib.hid hal; have hW1' := Lib.hid hW1; have hq' := Lib.hid hq; clear B1 hal hW1 hq
    go_enter Try.func215, Try.ntmps215
    go_upto_region 1 with fail
    rw [hW1'.out]
    go_quiet (fail)
    go_wp2
    try go_quiet (fail)
    try go_wp2
    go_ret2
    exact ⟨congrArg (fun z => Ending.returned (.tuple #[.int .i64 z, .bool true])) hw3, below_dN (below_dN hal'.out)⟩
  · have hq := valueS_high (V := V) (n := n) (by omega) (by omega) (by omega) (by omega)
    have c7 : ¬ V / 2 ^ (n - 1) = 0 := fun h => c6 (hdz.1 h); have c8 : (V / 2 ^ (n - 1) == 0) = false := by simpa using c7
    rw [hq]; have hMp' := Lib.hid hMp; have hMq' := Lib.hid hMq; have hdz' := Lib.hid hdz; clear hMp hMq hdz; have B1' := Lib.hid B1; have hal' := Lib.hid hal; have hW1' := Lib.hid hW1; have hq' := Lib.hid hq; clear B1 hal hW1 hq
    go_enter Try.func215, Try.ntmps215
    go_upto_region 1 with fail
    rw [hW1'.out]
    go_quiet (fail)
    go_wp2
    try go_quiet (fail)
    try go_wp2
    go_ret2
    exact ⟨rfl, below_dN hal'.out⟩
set_option maxRecDepth 20000 in
set_option maxHeartbeats 1000000 in
theorem zat_any (n : Nat) (w : World) (hn : n < 64) : Calls Try.prog 185 #[.int .i64 n] w fun e w' => e = .returned (.int .i64 ((zzL.getD n 0 : Nat) : Int)) ∧ Below w.heap.size w w' := by
  have hO := order_any w; have hz := zzN_get hn; have c1 : ¬ (n : Int) < 0 := by omega
  have c2 : ¬ (64 : Int) ≤ n := by omega
  have hO' := Lib.hid hO; have hz' := Lib.hid hz; clear hO hz
  go_enter Try.func185, Try.ntmps185
  go_wp2_with fail
  refine hO'.out.mono ?_; rintro e w1 ⟨rfl, hb⟩; have hx : ∀ W, (Instr.index 128 (.agg (ints .i64 zzN).toArray) (.int .i64 n)).run Try.prog W = .ok (.int .i64 ((zzL.getD n 0 : Nat) : Int)) W := fun W => run_index_arr _ _ 64 zzN .i64 n _ Try.underlying128 Try.underlying3 (by kernel_rfl) hz'.out hn W; have hb' := Lib.hid hb; clear hb
  go_wp2
  go_ret
  exact ⟨rfl, hb'.out⟩
end Go.Proofs.Ytpjopeojeglogaa
