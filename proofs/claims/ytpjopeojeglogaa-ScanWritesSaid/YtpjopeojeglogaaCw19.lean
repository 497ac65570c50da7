/- Chapter 12: all symbols told, unit by unit (plain); what the two functions given must do. | Chapter 11 (plain): the symbols of a block: their class, their numbers. | Chapter 12 (plain): blocks written. | Chapter 11 (plain): a block from its symbols. | Chapter 12 (plain): blocks read. -/
import Derived.Test.YtpjopeojeglogaaCw18
import Derived.Test.YtpjopeojeglogaaCw14
namespace Go.Proofs.Ytpjopeojeglogaa
open Go.RowKit Tt
set_option linter.unusedVariables false
set_option linter.unusedSimpArgs false

theorem div_lt {m a d : Nat} (h : m < a * d) : m / a < d := Nat.div_lt_of_lt_mul h
theorem row_lt {q r v d : Nat} (hr : r < d) (hq : q < v) : r * v + q < d * v := by
  have h1 : (r + 1) * v ≤ d * v := Nat.mul_le_mul_right _ hr; rw [Nat.succ_mul] at h1
  omega
theorem atU_lt {a h v d n j : Nat} (ha : 1 ≤ a) (hh : 1 ≤ h) (hn : n < a * d) (hj : j < h * v) : atU a h v n j < a * h * d * v := by
  have h1 := row_lt (div_lt hn) (div_lt hj); have h2 := row_lt (Nat.mod_lt n ha) (Nat.mod_lt j hh); have h3 := row_lt h1 h2; unfold atU; rw [Nat.mul_assoc]; have e : d * v * (a * h) = a * h * d * v := by rw [Nat.mul_comm (d * v), Nat.mul_assoc (a * h)]
  omega
theorem unit_in {a d n : Nat} {ps : List PtM} (ha : 1 ≤ a) (hp : ∀ (k : Nat) p, ps[k]? = some p → mayPt p = true) (hn : n < a * d) {x : Nat × Nat} (hx : x ∈ unitS a ps n) :
    ∃ p, ps[x.1]? = some p ∧ x.2 < a * p.1.toNat * d * p.2.1.toNat := by
  unfold unitS at hx; obtain ⟨l, hl, hxl⟩ := List.mem_flatten.1 hx; obtain ⟨⟨p, k⟩, hpk, rfl⟩ := List.mem_map.1 hl; have hk : ps[k]? = some p := List.mem_zipIdx_iff_getElem?.1 hpk; unfold unitP at hxl; obtain ⟨j, hj, rfl⟩ := List.mem_map.1 hxl; have hm := mayPt_bd (hp k p hk); exact ⟨p, hk, atU_lt ha (show 1 ≤ p.1.toNat by omega) hn (List.mem_range.1 hj)⟩
theorem acFrom_len17 (l : List Int) : ∀ (p q : List Cod × Nat), acFrom l (some p) = some q → 16 * q.1.length + q.2 ≤ 16 * p.1.length + p.2 + 17 * l.length := by
  induction l with
  | nil => intro p q h; unfold acFrom at h; injection h with h; rw [← h]; simp
  | cons v l ih =>
    intro p q h; rw [show acFrom (v :: l) (some p) = acFrom l (acStep (some p) v) from rfl] at h; rw [List.length_cons]; unfold acStep at h; rw [Option.bind_some] at h
    by_cases hv : v = 0
    · rw [if_pos hv] at h
      have := ih _ _ h; simp only at this
      omega
    · rw [if_neg hv] at h
      by_cases hb : bitLen v.natAbs ≤ 10
      · rw [if_pos hb] at h
        have := ih _ _ h; simp only [List.length_append, List.length_replicate, List.length_singleton] at this
        omega
      · rw [if_neg hb, acFrom_none] at h
        cases h
theorem codeB_len {b : List Int} {last : Int} {l : List Cod} (hb : b.length = 64) (h : codeB b last = some l) : l.length ≤ 70 := by
  unfold codeB at h
  split at h
  · cases h
  · obtain ⟨q, hq, rfl⟩ := Option.map_eq_some_iff.1 h
    have h1 := acFrom_len17 _ _ _ hq; simp only [List.length_singleton, List.length_drop] at h1; have h2 : (toZ b).length = 64 := toZ_len b; have h3 : (acEnd q).length ≤ q.1.length + 1 := by unfold acEnd; split <;> simp
    omega
section
variable {T : Type}
theorem ex_snoc {α β : Type} {f : β → α → Except Int β} {l : List α} {j : Nat} {x : α} (h : l[j]? = some x) (s : β) : (l.take (j + 1)).foldlM f s = ((l.take j).foldlM f s).bind fun t => f t x := by
  rw [List.take_add_one, h, Option.toList_some, List.foldlM_append]
  show ((l.take j).foldlM f s).bind _ = _
  congr 1
  funext t
  rw [List.foldlM_cons]
  show (f t x).bind _ = _
  cases f t x <;> rfl
theorem ex_err {α β : Type} {f : β → α → Except Int β} {l : List α} {j : Nat} {s : β} {e : Int} (h : (l.take j).foldlM f s = .error e) : l.foldlM f s = .error e := by
  conv => lhs; rw [← List.take_append_drop j l]
  rw [List.foldlM_append, h]
  rfl
/-- all symbols of a block handed on -/
def putL (put : T → Nat → Cod → Except Int T) (part : Nat) (t : T) (l : List Cod) : Except Int T := l.foldlM (fun t x => put t part x) t
def blkB (bs : List (List (List Int))) (x : Nat × Nat) : List Int := (bs.getD x.1 []).getD x.2 []
def stepB (put : T → Nat → Cod → Except Int T) (bs : List (List (List Int))) (s : T × List Int) (x : Nat × Nat) : Except Int (T × List Int) :=
  match codeB (blkB bs x) (s.2.getD x.1 0) with
  | none => .error 7
  | some l => (putL put x.1 s.1 l).map fun t => (t, s.2.set x.1 ((blkB bs x).getD 0 0))
def stepU (put : T → Nat → Cod → Except Int T) (again : T → Nat → T) (s : ScT) (bs : List (List (List Int))) (st : T × List Int) (n : Nat) : Except Int (T × List Int) :=
  (unitS s.ax.toNat s.ps n).foldlM (stepB put bs) (if resS s.iv n then (again st.1 n, List.replicate s.ps.length 0) else st)
def tellS (put : T → Nat → Cod → Except Int T) (again : T → Nat → T) (s : ScT) (bs : List (List (List Int))) (t : T) : Except Int (T × List Int) :=
  (List.range (s.ax * s.dn).toNat).foldlM (stepU put again s bs) (t, List.replicate s.ps.length 0)
theorem stepB_none {put : T → Nat → Cod → Except Int T} {bs : List (List (List Int))} {s : T × List Int} {x : Nat × Nat} (h : codeB (blkB bs x) (s.2.getD x.1 0) = none) : stepB put bs s x = .error 7 := by unfold stepB; rw [h]
theorem stepB_err {put : T → Nat → Cod → Except Int T} {bs : List (List (List Int))} {s : T × List Int} {x : Nat × Nat} {l : List Cod} {e : Int} (h : codeB (blkB bs x) (s.2.getD x.1 0) = some l) (he : putL put x.1 s.1 l = .error e) : stepB put bs s x = .error e := by unfold stepB; rw [h]; show (putL put x.1 s.1 l).map _ = _; rw [he]; rfl
theorem stepB_ok {put : T → Nat → Cod → Except Int T} {bs : List (List (List Int))} {s : T × List Int} {x : Nat × Nat} {l : List Cod} {t : T} (h : codeB (blkB bs x) (s.2.getD x.1 0) = some l) (he : putL put x.1 s.1 l = .ok t) : stepB put bs s x = .ok (t, s.2.set x.1 ((blkB bs x).getD 0 0)) := by unfold stepB; rw [h]; show (putL put x.1 s.1 l).map _ = _; rw [he]; rfl
end
end Go.Proofs.Ytpjopeojeglogaa

namespace Go.Proofs.Ytpjopeojeglogaa
open Go.RowKit Tt
set_option linter.unusedVariables false
set_option linter.unusedSimpArgs false

def CodOk (x : Cod) : Prop := (x.1 = 0 ∨ x.1 = 1) ∧ 0 ≤ x.2.1 ∧ x.2.1 ≤ 255 ∧ 0 ≤ x.2.2.1 ∧ x.2.2.1 < 2048 ∧ 0 ≤ x.2.2.2 ∧ x.2.2.2 ≤ 11
theorem codOf_ok {ac v : Int} {z : Nat} (h : ac = 0 ∨ ac = 1) (hz : z ≤ 15) (hb : bitLen v.natAbs ≤ 11) : CodOk (codOf ac (z : Nat) v) := by
  obtain ⟨h1, h2⟩ := @extraV_range v
  have h3 : (2 : Int) ^ bitLen v.natAbs ≤ 2048 := by
    have h4 : (2 : Nat) ^ bitLen v.natAbs ≤ 2048 := Nat.le_trans (Nat.pow_le_pow_right (by omega) hb) (by decide); have h5 : (((2 : Nat) ^ bitLen v.natAbs : Nat) : Int) ≤ 2048 := by omega
    rw [Int.natCast_pow] at h5; exact h5
  exact ⟨h, by show (0 : Int) ≤ 16 * (z : Int) + (bitLen v.natAbs : Int); omega, by show 16 * (z : Int) + (bitLen v.natAbs : Int) ≤ 255; omega, h1, by show extraV v < 2048; omega, by show (0 : Int) ≤ (bitLen v.natAbs : Int); omega, by show (bitLen v.natAbs : Int) ≤ 11; omega⟩
theorem acFrom_ok (l : List Int) : ∀ (p q : List Cod × Nat), (∀ x ∈ p.1, CodOk x) → acFrom l (some p) = some q → ∀ x ∈ q.1, CodOk x := by
  induction l with
  | nil => intro p q hp h; unfold acFrom at h; injection h with h; rw [← h]; exact hp
  | cons v l ih =>
    intro p q hp h; rw [show acFrom (v :: l) (some p) = acFrom l (acStep (some p) v) from rfl] at h; unfold acStep at h; rw [Option.bind_some] at h
    by_cases hv : v = 0
    · rw [if_pos hv] at h
      exact ih (p.1, p.2 + 1) _ hp h
    · rw [if_neg hv] at h
      by_cases hb : bitLen v.natAbs ≤ 10
      · rw [if_pos hb] at h
        refine ih _ _ (fun x hx => ?_) h
        rcases List.mem_append.1 hx with hx | hx
        · rcases List.mem_append.1 hx with hx | hx
          · exact hp x hx
          · rw [List.eq_of_mem_replicate hx]
            exact ⟨.inr rfl, by decide, by decide, by decide, by decide, by decide, by decide⟩
        · rw [List.mem_singleton.1 hx]
          exact codOf_ok (.inr rfl) (by omega) (by omega)
      · rw [if_neg hb, acFrom_none] at h
        cases h
theorem codeB_ok {b : List Int} {last : Int} {l : List Cod} (h : codeB b last = some l) : ∀ x ∈ l, CodOk x := by
  unfold codeB at h
  split at h
  · cases h
  · rename_i hn
    obtain ⟨q, hq, rfl⟩ := Option.map_eq_some_iff.1 h
    have h1 := acFrom_ok _ _ _ (fun x hx => by
      rw [List.mem_singleton.1 hx]; exact codOf_ok (z := 0) (.inl rfl) (by omega) (by omega)) hq
    intro x hx; unfold acEnd at hx
    split at hx
    · rcases List.mem_append.1 hx with hx | hx
      · exact h1 x hx
      · rw [List.mem_singleton.1 hx]
        exact ⟨.inr rfl, by decide, by decide, by decide, by decide, by decide, by decide⟩
    · exact h1 x hx
theorem CodOk.wf {x : Cod} (h : CodOk x) : ∀ y ∈ cdL x, (Lit.int .i64 y).wf = true := fun y hy => by
  obtain ⟨h1, h2, h3, h4, h5, h6, h7⟩ := h; have : y = x.1 ∨ y = x.2.1 ∨ y = x.2.2.1 ∨ y = x.2.2.2 := by simpa [cdL] using hy
  rcases this with rfl | rfl | rfl | rfl
  · exact wf_of (by omega) (by omega)
  · exact wf_of (by omega) (by omega)
  · exact wf_of (by omega) (by omega)
  · exact wf_of (by omega) (by omega)
section
variable {T : Type}
/-- what the functions that are given must do: S are the blocks that they may turn, E bounds the others that they look at -/
structure TellJ (J : (Nat → Prop) → T → World → Prop) (E B0 most : Nat) (size : T → Nat) (np : Nat) (iv : Int) (fp fa : FuncId) (c1 c2 a1 a2 a3 : Value) (put : T → Nat → Cod → Except Int T) (again : T → Nat → T) : Prop where
  low : ∀ (S : Nat → Prop) (t : T) (w : World), J S t w → ∀ k, S k → B0 ≤ k
  high : ∀ (S : Nat → Prop) (t : T) (w : World), J S t w → ∀ k, S k → k < w.heap.size
  late : ∀ (S : Nat → Prop) (t : T) (w w' : World), J S t w → Below w.heap.size w w' → J S t w'
  but : ∀ (S : Nat → Prop) (t : T) (w w' : World) (g : Nat), J S t w → But g w w' → E ≤ g → ¬ S g → J S t w'
  grow : ∀ (t t' : T) (part : Nat) (x : Cod), CodOk x → put t part x = .ok t' → size t' ≤ size t + 32
  less : ∀ (t : T) (n : Nat), size (again t n) ≤ size t + 4
  put : ∀ (S : Nat → Prop) (t : T) (w : World) (part : Nat) (x : Cod) (A : Array Value), (ints .i64 (cdL x)).toArray = A → J S t w → part < np → size t ≤ most → CodOk x →
    Calls Try.prog fp #[.int .i64 part, .agg A, c1, c2] w fun e w' => ((∃ t', put t part x = .ok t' ∧ e = .returned (.int .i64 0) ∧ J (Sx S w w') t' w') ∨ ∃ er, put t part x = .error er ∧ ¬ er = 0 ∧ e = .returned (.int .i64 er)) ∧ Mo S w w'
  again : ∀ (S : Nat → Prop) (t : T) (w : World) (n : Nat), J S t w → resS iv n = true → n ≤ 262144 → size t ≤ most →
    Calls Try.prog fa #[.int .i64 n, a1, a2, a3] w fun e w' => e = .returned (.tuple #[]) ∧ J (Sx S w w') (again t n) w' ∧ Mo S w w'
end
end Go.Proofs.Ytpjopeojeglogaa

namespace Go.Proofs.Ytpjopeojeglogaa
open Go.RowKit Tt
set_option linter.unusedVariables false
set_option linter.unusedSimpArgs false

/-- the bytes that are there, and the bits behind them -/
abbrev WrT := List Int × List Int
def codeP (p : PtM) (x : Cod) : Option (Int × Nat) := if x.1 = 0 then codeS p.2.2.1.1.1 p.2.2.1.1.2 x.2.1 else codeS p.2.2.2.1.1 p.2.2.2.1.2 x.2.1
def codeA (ps : List PtM) (part : Nat) (x : Cod) : Option (Int × Nat) := (ps[part]?).bind fun p => codeP p x
def putW (ps : List PtM) (t : WrT) (part : Nat) (x : Cod) : Except Int WrT := match codeA ps part x with
  | none => .error 2
  | some X => .ok (t.1, t.2 ++ lowS X.1 X.2 ++ lowS x.2.2.1 x.2.2.2.toNat)
def rstS (iv : Int) (n : Nat) : Int := ((208 + (n / iv.toNat - 1) % 8 : Nat) : Int)
def againW (iv : Int) (t : WrT) (n : Nat) : WrT := (t.1 ++ bytesS t.2 ++ [255, rstS iv n], [])
def sizeW (t : WrT) : Nat := t.1.length + t.2.length
/-- the bytes of blocks; an error -/
def writeS (s : ScT) (bs : List (List (List Int))) : Except Int (List Int) :=
  if wholeS s bs then (tellS (putW s.ps) (againW s.iv) s bs ([], [])).map fun t => t.1.1 ++ bytesS t.1.2 else .error 1
theorem putW_ok {ps : List PtM} {t : WrT} {part : Nat} {x : Cod} {X : Int × Nat} (h : codeA ps part x = some X) : putW ps t part x = .ok (t.1, t.2 ++ lowS X.1 X.2 ++ lowS x.2.2.1 x.2.2.2.toNat) := by unfold putW; rw [h]
theorem putW_no {ps : List PtM} {t : WrT} {part : Nat} {x : Cod} (h : codeA ps part x = none) : putW ps t part x = .error 2 := by unfold putW; rw [h]
theorem codeA_bits {ps : List PtM} {part : Nat} {x : Cod} {X : Int × Nat} (h : codeA ps part x = some X) : CodeOk X := by
  unfold codeA at h; obtain ⟨p, _, hp⟩ := Option.bind_eq_some_iff.1 h; unfold codeP at hp
  split at hp
  · exact codeS_bits hp
  · exact codeS_bits hp
theorem putW_grow {ps : List PtM} {t t' : WrT} {part : Nat} {x : Cod} (hx : CodOk x) (h : putW ps t part x = .ok t') : sizeW t' ≤ sizeW t + 32 := by
  cases hc : codeA ps part x with
  | none => rw [putW_no hc] at h; cases h
  | some X =>
    rw [putW_ok hc] at h; injection h with h; have h1 := (codeA_bits hc).2.1; have h2 := hx.2.2.2.2.2.2; rw [← h]; unfold sizeW; simp only [List.length_append, lowS_len]
    omega
theorem bytesS_le (l : List Int) : (bytesS l).length ≤ l.length + 2 := by
  unfold bytesS; have h1 := stuffS_len (packS (padS l)); have h2 : (packS (padS l)).length = (padS l).length / 8 := packN_len _ _; have h3 : (padS l).length = l.length + (8 - l.length % 8) % 8 := by unfold padS; rw [List.length_append, List.length_replicate]
  omega
theorem againW_less (iv : Int) (t : WrT) (n : Nat) : sizeW (againW iv t n) ≤ sizeW t + 4 := by
  have := bytesS_le t.2; unfold sizeW againW; simp only [List.length_append, List.length_cons, List.length_nil]
  omega
end Go.Proofs.Ytpjopeojeglogaa

namespace Go.Proofs.Ytpjopeojeglogaa
open Go.RowKit Tt
set_option linter.unusedVariables false
set_option linter.unusedSimpArgs false

/-- the number that a symbol of a class tells -/
def symV (x : Cod) (ac most : Int) : Option Int := if x.1 = ac ∧ 0 ≤ x.2.1 ∧ x.2.1 ≤ 255 ∧ x.2.1 % 16 ≤ most ∧ x.2.2.2 = x.2.1 % 16 then valueS x.2.2.1 x.2.2.2 else none
/-- the numbers behind the first one, from the step k on, of which u symbols were used -/
def blkL : List Cod → Nat → List Int → Nat → Except Int (List Int × Nat)
  | [], k, b, u => if 64 ≤ k then .ok (b, u) else .error 3
  | x :: l, k, b, u => if 64 ≤ k then .ok (b, u) else match symV x 1 10 with
    | none => .error 2
    | some v => if v = 0 ∧ x.2.1 / 16 = 0 then .ok (b, u + 1) else
      if (v = 0 ∧ x.2.1 / 16 ≠ 15) ∨ 64 ≤ k + (x.2.1 / 16).toNat then .error 2 else
      blkL l (k + (x.2.1 / 16).toNat + 1) (b.set (zzL.getD (k + (x.2.1 / 16).toNat) 0) v) (u + 1)
/-- a block behind a number, and how many symbols it takes; an error -/
def blockS (l : List Cod) (last : Int) : Except Int (List Int × Nat) := if sizeS last < 0 then .error 1 else match l with
  | [] => .error 3
  | x :: l => match symV x 0 11 with
    | none => .error 2
    | some v => if x.2.1 / 16 = 0 then blkL l 1 ((List.replicate 64 0).set 0 (last + v)) 1 else .error 2
theorem valueS_range {V N v : Int} (h : valueS V N = some v) : 0 ≤ N ∧ N ≤ 15 ∧ -(2 ^ N.toNat) < v ∧ v < 2 ^ N.toNat := by
  unfold valueS at h
  split at h
  · rename_i hc
    obtain ⟨h1, h2, h3, h4⟩ := hc; refine ⟨h1, h2, ?_⟩
    split at h
    · injection h with h; omega
    · injection h with h; omega
  · cases h
theorem symV_some {x : Cod} {ac most v : Int} (h : symV x ac most = some v) : (x.1 = ac ∧ 0 ≤ x.2.1 ∧ x.2.1 ≤ 255 ∧ x.2.1 % 16 ≤ most ∧ x.2.2.2 = x.2.1 % 16) ∧ valueS x.2.2.1 x.2.2.2 = some v := by
  unfold symV at h
  split at h
  · exact ⟨by assumption, h⟩
  · cases h
/-- what the next symbol tells: the run, the number, the error -/
def nextC (l : List Cod) (u : Nat) (ac most : Int) : Int × Int × Int := match l[u]? with
  | none => (0, 0, 3)
  | some x => match symV x ac most with
    | none => (0, 0, 2)
    | some v => (x.2.1 / 16, v, 0)
theorem nextC_end {l : List Cod} {u : Nat} {ac most : Int} (h : l.length ≤ u) : nextC l u ac most = (0, 0, 3) := by unfold nextC; rw [List.getElem?_eq_none h]
theorem nextC_no {l : List Cod} {u : Nat} {ac most : Int} {x : Cod} (h : l[u]? = some x) (h2 : symV x ac most = none) : nextC l u ac most = (0, 0, 2) := by unfold nextC; rw [h]; simp only; rw [h2]
theorem nextC_ok {l : List Cod} {u : Nat} {ac most : Int} {x : Cod} {v : Int} (h : l[u]? = some x) (h2 : symV x ac most = some v) : nextC l u ac most = (x.2.1 / 16, v, 0) := by unfold nextC; rw [h]; simp only; rw [h2]
theorem drop_at {α : Type} {l : List α} {u : Nat} {x : α} (h : l[u]? = some x) : l.drop u = x :: l.drop (u + 1) := by
  obtain ⟨h1, h2⟩ := List.getElem?_eq_some_iff.1 h; rw [List.drop_eq_getElem_cons h1, h2]
theorem blkL_full (l : List Cod) {k : Nat} (b : List Int) (u : Nat) (h : 64 ≤ k) : blkL l k b u = .ok (b, u) := by
  cases l with
  | nil => unfold blkL; rw [if_pos h]
  | cons x l => unfold blkL; rw [if_pos h]
theorem blkL_end {l : List Cod} {k u : Nat} {b : List Int} (h : k < 64) (hu : l.length ≤ u) : blkL (l.drop u) k b u = .error 3 := by
  rw [List.drop_eq_nil_of_le hu]; unfold blkL; rw [if_neg (by omega)]
theorem blkL_no {l : List Cod} {k u : Nat} {b : List Int} {x : Cod} (h : k < 64) (hx : l[u]? = some x) (hv : symV x 1 10 = none) : blkL (l.drop u) k b u = .error 2 := by
  rw [drop_at hx]; unfold blkL; rw [if_neg (by omega), hv]
theorem blkL_stop {l : List Cod} {k u : Nat} {b : List Int} {x : Cod} {v : Int} (h : k < 64) (hx : l[u]? = some x) (hv : symV x 1 10 = some v) (hs : v = 0 ∧ x.2.1 / 16 = 0) : blkL (l.drop u) k b u = .ok (b, u + 1) := by
  rw [drop_at hx]; unfold blkL; rw [if_neg (by omega), hv]
  show (if v = 0 ∧ x.2.1 / 16 = 0 then _ else _) = _
  rw [if_pos hs]
theorem blkL_bad {l : List Cod} {k u : Nat} {b : List Int} {x : Cod} {v : Int} (h : k < 64) (hx : l[u]? = some x) (hv : symV x 1 10 = some v) (hs : ¬ (v = 0 ∧ x.2.1 / 16 = 0)) (hb : (v = 0 ∧ x.2.1 / 16 ≠ 15) ∨ 64 ≤ k + (x.2.1 / 16).toNat) : blkL (l.drop u) k b u = .error 2 := by
  rw [drop_at hx]; unfold blkL; rw [if_neg (by omega), hv]
  show (if v = 0 ∧ x.2.1 / 16 = 0 then _ else _) = _
  rw [if_neg hs, if_pos hb]
theorem blkL_step {l : List Cod} {k u : Nat} {b : List Int} {x : Cod} {v : Int} (h : k < 64) (hx : l[u]? = some x) (hv : symV x 1 10 = some v) (hs : ¬ (v = 0 ∧ x.2.1 / 16 = 0)) (hb : ¬ ((v = 0 ∧ x.2.1 / 16 ≠ 15) ∨ 64 ≤ k + (x.2.1 / 16).toNat)) :
    blkL (l.drop u) k b u = blkL (l.drop (u + 1)) (k + (x.2.1 / 16).toNat + 1) (b.set (zzL.getD (k + (x.2.1 / 16).toNat) 0) v) (u + 1) := by
  rw [drop_at hx]
  conv => lhs; unfold blkL
  rw [if_neg (by omega), hv]
  show (if v = 0 ∧ x.2.1 / 16 = 0 then _ else _) = _
  rw [if_neg hs, if_neg hb]
end Go.Proofs.Ytpjopeojeglogaa

namespace Go.Proofs.Ytpjopeojeglogaa
open Go.RowKit Tt
set_option linter.unusedVariables false
set_option linter.unusedSimpArgs false

/-- the symbol of a plane that stands at the beginning of bits, and how many these are -/
def symbR (p : PtM) (ac : Nat) (B : List Int) : Option (Cod × Nat) :=
  (if ac = 0 then nextS p.2.2.1.1.1 p.2.2.1.1.2 B else nextS p.2.2.2.1.1 p.2.2.2.1.2 B).bind fun y =>
    if 11 < y.1 % 16 ∨ B.length < y.2 + (y.1 % 16).toNat then none else some (((ac : Int), y.1, numL ((B.drop y.2).take (y.1 % 16).toNat), y.1 % 16), y.2 + (y.1 % 16).toNat)
/-- the block of a plane that stands at the beginning of bits, behind symbols; and the bits left -/
def blkR (p : PtM) (last : Int) : Nat → List Cod → List Int → Option (List Int × List Int)
  | 0, _, _ => none
  | f + 1, l, B => match symbR p (min l.length 1) B with
    | none => none
    | some x => match blockS (l ++ [x.1]) last with
      | .ok b => if sizeS (b.1.getD 0 0) < 0 then none else some (b.1, B.drop x.2)
      | .error e => if e = 3 then blkR p last f (l ++ [x.1]) (B.drop x.2) else none
theorem blkR_none {p : PtM} {last : Int} {f : Nat} {l : List Cod} {B : List Int} (h : symbR p (min l.length 1) B = none) : blkR p last (f + 1) l B = none := by
  unfold blkR; rw [h]
theorem blkR_ok {p : PtM} {last : Int} {f k : Nat} {l : List Cod} {B : List Int} {x : Cod} {b : List Int × Nat} (h : symbR p (min l.length 1) B = some (x, k)) (hb : blockS (l ++ [x]) last = .ok b) : blkR p last (f + 1) l B = if sizeS (b.1.getD 0 0) < 0 then none else some (b.1, B.drop k) := by
  unfold blkR; rw [h]; simp only; rw [hb]
theorem blkR_err {p : PtM} {last e : Int} {f k : Nat} {l : List Cod} {B : List Int} {x : Cod} (h : symbR p (min l.length 1) B = some (x, k)) (hb : blockS (l ++ [x]) last = .error e) : blkR p last (f + 1) l B = if e = 3 then blkR p last f (l ++ [x]) (B.drop k) else none := by
  conv => lhs; unfold blkR
  rw [h]; simp only; rw [hb]
/-- how many bytes stand ahead of a marker of a restart -/
def cutR : List Int → Nat
  | [] => 0
  | [_] => 1
  | x :: y :: l => if x = 255 ∧ 208 ≤ y ∧ y ≤ 215 then 0 else cutR (y :: l) + 1
/-- the bits up to the next marker, and the bytes behind them -/
def beginS (rest : List Int) : Option (List Int × List Int) :=
  if (plainS (rest.take (cutR rest))).2 = (rest.take (cutR rest)).length then some (bitsS (plainS (rest.take (cutR rest))).1, rest.drop (cutR rest)) else none
def fillS (B : List Int) : Bool := decide (B.length < 8) && B.all fun x => decide (x ≠ 0)
def againR (iv : Int) (n : Nat) (B rest : List Int) : Option (List Int × List Int) :=
  if fillS B = true ∧ 2 ≤ rest.length ∧ rest.getD 1 0 = rstS iv n then beginS (rest.drop 2) else none
/-- what is read: the blocks, the bits left, the bytes behind them, the last numbers -/
structure RdT where
  bl : List (List (List Int))
  B : List Int
  rest : List Int
  last : List Int
def setB (bl : List (List (List Int))) (x : Nat × Nat) (b : List Int) : List (List (List Int)) := bl.set x.1 ((bl.getD x.1 []).set x.2 b)
def rdB (ps : List PtM) (st : RdT) (x : Nat × Nat) : Option RdT := (ps[x.1]?).bind fun p => (blkR p (st.last.getD x.1 0) 65 [] st.B).map fun q => ⟨setB st.bl x q.1, q.2, st.rest, st.last.set x.1 (q.1.getD 0 0)⟩
def rdE (ps : List PtM) (n : Nat) (st : RdT) (x : Nat × Nat) : Except Nat RdT := match rdB ps st x with
  | none => .error n
  | some st => .ok st
/-- ahead of a unit -/
def startR (s : ScT) (st : RdT) (n : Nat) : Option RdT :=
  if n = 0 then (beginS st.rest).map fun q => ⟨st.bl, q.1, q.2, List.replicate s.ps.length 0⟩
  else if resS s.iv n then (againR s.iv n st.B st.rest).map fun q => ⟨st.bl, q.1, q.2, List.replicate s.ps.length 0⟩
  else some st
def rdU (s : ScT) (st : RdT) (n : Nat) : Except Nat RdT := match startR s st n with
  | none => .error n
  | some st => (unitS s.ax.toNat s.ps n).foldlM (rdE s.ps n) st
def zeroB (s : ScT) : List (List (List Int)) := s.ps.map fun p => List.replicate (s.ax.toNat * p.1.toNat * s.dn.toNat * p.2.1.toNat) (List.replicate 64 0)
def readU (s : ScT) (b : List Int) : Except Nat RdT := (List.range (s.ax * s.dn).toNat).foldlM (rdU s) ⟨zeroB s, [], b, List.replicate s.ps.length 0⟩
/-- the blocks of bytes; at which unit there are none -/
def readS (s : ScT) (b : List Int) : Except Nat (List (List (List Int))) := match readU s b with
  | .error n => .error n
  | .ok st => if fillS st.B = true ∧ st.rest = [] then .ok st.bl else .error (s.ax * s.dn).toNat
section
variable {ε : Type}
theorem exN_snoc {α β : Type} {f : β → α → Except ε β} {l : List α} {j : Nat} {x : α} (h : l[j]? = some x) (s : β) : (l.take (j + 1)).foldlM f s = ((l.take j).foldlM f s).bind fun t => f t x := by
  rw [List.take_add_one, h, Option.toList_some, List.foldlM_append]
  show ((l.take j).foldlM f s).bind _ = _
  congr 1
  funext t
  rw [List.foldlM_cons]
  show (f t x).bind _ = _
  cases f t x <;> rfl
theorem exN_err {α β : Type} {f : β → α → Except ε β} {l : List α} {j : Nat} {s : β} {e : ε} (h : (l.take j).foldlM f s = .error e) : l.foldlM f s = .error e := by
  conv => lhs; rw [← List.take_append_drop j l]
  rw [List.foldlM_append, h]
  rfl
end
end Go.Proofs.Ytpjopeojeglogaa
