/- A load of a great array in a drawn region. | Chapter 14: equality of equal arrays of numbers, of equal tables; quantisation tables that are the same: the law's own. | Chapter 14 (plain): a table of codes as it is filled; what is written is read. -/
import Derived.BigQuiet
import Derived.Test.YtpjopeojeglogaaCd28
import Derived.ChangeKeysEq
import Derived.Laws.StructEq
namespace Tt
open Go Go.RowKit Go.BigFrame
set_option linter.unusedVariables false
set_option linter.unusedSimpArgs false
section
variable {P : Program} {ops : Array Oper} {rest : List Oper} {o : Oper} {a : Act} {C : World → Prop} {Q : Act → Prop}
theorem quiet_load_at {K : Act → Prop} (ty : TypeId) (x : Operand) (ho : o.op = .load ty x) (g f : Nat) (hx : a.eval x = .pointer (some ⟨g, f, none⟩)) (cs : List Value) (A : Array Value) (hA : cs.toArray = A) (d : TypeDesc) (hc : ∀ w, C w → ∀ j v, cs[j]? = some v → w.cell? ⟨g, f + j, none⟩ = some v)
    (hu : P.underlying ty = some d) (hd : isAggD d = true) (z : Nat) (hi : (P.info? ty).map (·.size) = some z) (hz : cs.length = z) (hk : K (a.put o.dst (.agg A))) : o.quiet P a C K :=
  ⟨.agg A, fun w hw => by
    unfold Oper.quietAt execOp; simp only [ho, hx, Instr.loadAt, Instr.sureAddr, Sem.run_bind, Sem.run_pure, Result.andThen_ok, run_loadVar_at w g f ty cs d (hc w hw) hu hd (by rw [hz]; exact hi), hA]; exact ⟨rfl, rfl⟩, hk⟩
theorem wpQuiet_load_at (hg : o.guard = none) (ty : TypeId) (x : Operand) (ho : o.op = .load ty x) (g f : Nat) (hx : a.eval x = .pointer (some ⟨g, f, none⟩)) (cs : List Value) (A : Array Value) (hA : cs.toArray = A) (d : TypeDesc) (hc : ∀ w, C w → ∀ j v, cs[j]? = some v → w.cell? ⟨g, f + j, none⟩ = some v)
    (hu : P.underlying ty = some d) (hd : isAggD d = true) (z : Nat) (hi : (P.info? ty).map (·.size) = some z) (hz : cs.length = z) (h : wpQuiet P ops C Q rest (a.put o.dst (.agg A))) : wpQuiet P ops C Q (o :: rest) a :=
  wpQuiet_want (by simp [Region.wanted, hg]) fun K hK => quiet_load_at ty x ho g f hx cs A hA d hc hu hd z hi hz (hK _ h)
end
end Tt

namespace Go.Proofs.Ytpjopeojeglogaa
open Go.RowKit Tt
set_option linter.unusedVariables false
set_option linter.unusedSimpArgs false

theorem info_int : ∃ i, Try.prog.info? 3 = some i := by
  cases h : Try.prog.info? 3 with
  | none =>
    have : (Try.prog.info? 3).isSome = true := by kernel_rfl
    rw [h] at this
    cases this
  | some i => exact ⟨i, rfl⟩
theorem items_same (d : Nat) (W : World) (l : List Int) (A : Array Value) (hA : (ints .i64 l).toArray = A) : ∀ (is : List Nat), (∀ i ∈ is, i < l.length) → (Op.eqItems (d + 1) 3 1 A A is).run Try.prog W = .ok true W
  | [], _ => by simp [Op.eqItems]
  | i :: is, h => by
    have hi := h i List.mem_cons_self; have hp : (part 3 A i).run Try.prog W = .ok (.int .i64 (l.getD i 0)) W := run_part_plain (P := Try.prog) W (e := 3) (by kernel_rfl) (by rw [← hA, List.getElem?_toArray]; exact ints_get hi); have he := run_equalIn_int (P := Try.prog) W d 3 .i64 _ (l.getD i 0) (l.getD i 0) Try.underlying3; rw [beq_self_eq_true] at he; simp only [Op.eqItems, Sem.run_bind, Nat.mul_one, hp, Result.andThen_ok, he, Bool.not_true, Bool.false_eq_true, if_false]; exact items_same d W l A hA is (fun j hj => h j (List.mem_cons_of_mem _ hj))
theorem eq_arr {T : TypeId} {n : Nat} (d : Nat) (W : World) (l : List Int) (A : Array Value) (hA : (ints .i64 l).toArray = A) (hn : l.length = n) (hu : Try.prog.underlying T = some (.array n 3)) : (Op.equalIn (d + 2) T (.agg A) (.agg A)).run Try.prog W = .ok true W := by
  obtain ⟨i, hi⟩ := info_int; have hc : Try.prog.cellsOf 3 = 1 := by kernel_rfl
  rw [run_equalIn_array (w := W) (d + 1) A A hu hi, hc]; exact items_same d W l A hA (List.range n) (fun i hi => by rw [hn]; exact List.mem_range.1 hi)
theorem neq_arr {T : TypeId} {n : Nat} (W : World) (l : List Int) (A : Array Value) (hA : (ints .i64 l).toArray = A) (hn : l.length = n) (hu : Try.prog.underlying T = some (.array n 3)) : (binOp .neq T (.agg A) (.agg A)).run Try.prog W = .ok (.bool false) W := by
  rw [run_neq_struct, eq_arr 9998 W l A hA hn hu]
  rfl
theorem neq_q (W : World) (q : Qt64) (B : Array Value) (hB : (qC q).toArray = B) (hl : q.2.length = 64) : (binOp .neq 172 (.agg B) (.agg B)).run Try.prog W = .ok (.bool false) W := by
  have hs : Try.prog.stoodInHeld 172 = false := by kernel_rfl
  rw [run_neq_struct, run_equalIn_agg (ht := by unfold Program.fieldsOf; rw [Try.underlying172]) (hp := hs)]; unfold Program.fieldsOf; rw [Try.underlying172]; have p0 : (part 3 B 0).run Try.prog W = .ok (.int .i64 q.1) W := run_part_plain (P := Try.prog) W (e := 3) (by kernel_rfl) (by rw [← hB]; rfl); have e1 := run_equalIn_int (P := Try.prog) W 9998 3 .i64 _ q.1 q.1 Try.underlying3; rw [beq_self_eq_true] at e1; have pB : ∀ (B : Array Value), (part 129 B 1).run Try.prog W = .ok (.agg (B.extract 1 65)) W := fun B => by kernel_rfl
  have hx : B.extract 1 65 = (ints .i64 q.2).toArray := by
    rw [← hB]; unfold qC; have h64 : (ints .i64 q.2).length = 64 := by rw [ints_len, hl]
    simp
    rw [List.take_of_length_le (by rw [h64]; exact Nat.le_refl _)]
  have p1 := pB B; rw [hx] at p1; have e2 := eq_arr (T := 129) 9997 W q.2 _ rfl hl Try.underlying129
  simp [Op.eqFields, p0, e1, p1, e2, Result.andThen]
attribute [-go_sem] run_neq_struct
end Go.Proofs.Ytpjopeojeglogaa

namespace Go.Proofs.Ytpjopeojeglogaa
open Go.RowKit Tt
set_option linter.unusedVariables false
set_option linter.unusedSimpArgs false

/-- counts of which the first k are filled -/
def cK (t : List Int) (k : Nat) : List Int := t.take k ++ List.replicate (16 - k) 0
theorem cK_len {t : List Int} (ht : t.length = 16) {k : Nat} (hk : k ≤ 16) : (cK t k).length = 16 := by
  unfold cK; rw [List.length_append, List.length_take, List.length_replicate]
  omega
theorem cK_16 {t : List Int} (ht : t.length = 16) : cK t 16 = t := by
  unfold cK; rw [List.take_of_length_le (by omega)]
  simp
theorem cK_set {t : List Int} (ht : t.length = 16) {k : Nat} (hk : k < 16) {x : Int} (hx : t[k]? = some x) : (cK t k).set k x = cK t (k + 1) := by
  have hl : (t.take k).length = k := by rw [List.length_take]; omega
  unfold cK; rw [List.set_append_right _ _ (by omega), hl, Nat.sub_self, show 16 - k = (16 - (k + 1)) + 1 by omega, List.replicate_succ, List.set_cons_zero, List.take_add_one, hx, List.append_assoc]
  rfl
theorem cMC_set (cl id : Int) (c ss : List Int) (sa : Option Addr) (sn sc k : Nat) (x : Int) (hk : k < c.length) : (cMC ((cl, id, c, ss), sa, sn, sc)).toArray.setIfInBounds (2 + k) (.int .i64 x) = (cMC ((cl, id, c.set k x, ss), sa, sn, sc)).toArray := by
  unfold cMC; rw [List.setIfInBounds_toArray, Nat.add_comm 2 k]; simp only [List.set_cons_succ]; rw [List.set_append_left _ _ (by rw [ints_len]; exact hk)]; unfold ints; rw [List.map_set]
theorem cMC_set18 (cl id : Int) (c ss ss2 : List Int) (sa sa2 : Option Addr) (sn sc sn2 sc2 : Nat) (hc : c.length = 16) : (cMC ((cl, id, c, ss), sa, sn, sc)).toArray.setIfInBounds 18 (.slice sa2 sn2 sc2) = (cMC ((cl, id, c, ss2), sa2, sn2, sc2)).toArray := by
  unfold cMC; rw [List.setIfInBounds_toArray]; simp only [List.set_cons_succ]; rw [List.set_append_right _ _ (by rw [ints_len, hc]; omega), ints_len, hc]
  rfl
theorem cMC_set0 (cl cl2 id : Int) (c ss : List Int) (sa : Option Addr) (sn sc : Nat) : (cMC ((cl, id, c, ss), sa, sn, sc)).toArray.setIfInBounds 0 (.int .i64 cl2) = (cMC ((cl2, id, c, ss), sa, sn, sc)).toArray := by
  unfold cMC; rw [List.setIfInBounds_toArray]
  rfl
theorem cMC_set1 (cl id id2 : Int) (c ss : List Int) (sa : Option Addr) (sn sc : Nat) : (cMC ((cl, id, c, ss), sa, sn, sc)).toArray.setIfInBounds 1 (.int .i64 id2) = (cMC ((cl, id2, c, ss), sa, sn, sc)).toArray := by
  unfold cMC; rw [List.setIfInBounds_toArray]
  rfl
theorem many_nonneg {t : List Int} (h : Byt t) : ∀ k, 0 ≤ manyS t k ∧ manyS t k ≤ 255 * (k : Int)
  | 0 => ⟨Int.le_refl _, Int.le_refl _⟩
  | k + 1 => by
    have ih := many_nonneg h k; have hk := h.get k
    show 0 ≤ manyS t k + t.getD k 0 ∧ manyS t k + t.getD k 0 ≤ _
    omega
/-- which table bytes are, if there are 17 -/
theorem takeC_17 {z tt ss : List Int} {M : Nat} (hz : 17 ≤ z.length) (ht : (z.drop 1).take 16 = tt) (hM : manyS tt 16 = (M : Int)) (hs : (z.drop 17).take M = ss) :
    takeC z = if z.length < 17 + M then (3, (0, 0, [], []), 0) else if cOk (z.getD 0 0 / 16, z.getD 0 0 % 16, tt, ss) then (0, (z.getD 0 0 / 16, z.getD 0 0 % 16, tt, ss), 17 + M) else (2, (0, 0, [], []), 0) := by
  have hm : manyB z = M := by unfold manyB; rw [ht, hM]; exact Int.toNat_natCast M
  unfold takeC cOf; rw [if_neg (by omega), hm, ht, hs]
theorem takeC_ok (z : List Int) (h : (takeC z).1 = 0) : 0 < (takeC z).2.2 ∧ (takeC z).2.1.2.2.1.length = 16 ∧ cOk (takeC z).2.1 = true := by
  unfold takeC at h ⊢
  by_cases h1 : z.length < 17
  · rw [if_pos h1] at h; cases h
  rw [if_neg h1] at h ⊢
  by_cases h2 : z.length < 17 + manyB z
  · rw [if_pos h2] at h; cases h
  rw [if_neg h2] at h ⊢
  by_cases h3 : cOk (cOf z) = true
  · rw [if_pos h3]
    refine ⟨by simp only; omega, ?_, h3⟩
    show ((z.drop 1).take 16).length = 16
    rw [List.length_take, List.length_drop]
    omega
  · rw [if_neg h3] at h; cases h
/-- all that are written are read -/
theorem allW_some {α : Type} {ok : α → Bool} {f : α → List Int} {l : List α} {X : List Int} (h : allW ok f l = some X) : (∀ x ∈ l, ok x = true) ∧ l ≠ [] ∧ X = (l.map f).flatten := by
  unfold allW at h
  by_cases h1 : l.all ok = true ∧ l ≠ []
  · rw [if_pos h1] at h
    injection h with h; exact ⟨fun x hx => List.all_eq_true.1 h1.1 x hx, h1.2, h.symm⟩
  · rw [if_neg h1] at h; cases h
end Go.Proofs.Ytpjopeojeglogaa
