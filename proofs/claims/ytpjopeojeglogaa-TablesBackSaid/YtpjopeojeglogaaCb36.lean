/- Chapter 14: planes of two scans that are the same: the law's own. | A load of a great array in a drawn region. | Chapter 14: equality of equal arrays of numbers, of equal tables; quantisation tables that are the same: the law's own. -/
import Derived.Test.YtpjopeojeglogaaCb35
import Derived.BigQuiet
import Derived.ChangeKeysEq
import Derived.Laws.StructEq
namespace Go.Proofs.Ytpjopeojeglogaa
open Go.RowKit Tt
set_option linter.unusedVariables false
set_option linter.unusedSimpArgs false

set_option maxRecDepth 20000 in
set_option maxHeartbeats 2000000 in
theorem luses_eq (a b : Option Addr) (n c d : Nat) (l : List Use3) (w : World) (ha : StR useL 3 w a n c l) (hb : StR useL 3 w b n d l) :
    Calls Try.prog 62 #[.slice a n c, .slice b n d] w fun e w' => e = .returned (.bool true) ∧ Qt w w' := by
  have hl := ha.len; have hmx := ha.sl.max; have hle := ha.sl.le; have hq0 := Qt.refl w; have hnb : ((n : Int) != n) = false := by simp
  have ha' := Lib.hid ha; have hb' := Lib.hid hb; have hl' := Lib.hid hl; have hq0' := Lib.hid hq0; clear ha hb hl hq0
  go_enter Try.func62, Try.ntmps62
  go_wp2
  go_loopw [5] (fun iv wr => ∃ (k : Nat), k ≤ n ∧ iv = .int .i64 k ∧ Hid (Qt w wr)) (fun iv _ => n - (intOf iv).toNat)
  case atStart => exact ⟨0, by omega, rfl, hq0'⟩
  case round =>
    obtain ⟨k, hk, rfl, hq⟩ := hrel; obtain ⟨dq, rfl⟩ := hq.out.ex
    by_cases hlt : k < n
    · obtain ⟨x, hx⟩ : ∃ x, l[k]? = some x := ⟨_, List.getElem?_eq_getElem (by rw [hl'.out]; exact hlt)⟩
      obtain ⟨ba, oa, rfl, _, fa⟩ := ha'.out.elem useL_len hx; obtain ⟨bb, ob, rfl, _, fb⟩ := hb'.out.elem useL_len hx; obtain ⟨x0, x1, x2⟩ := x; have f0 : w.cell? ⟨ba, oa + k * 3, none⟩ = some (.int .i64 x0) := fa 0 _ rfl; have f1 : w.cell? ⟨ba, oa + k * 3 + 1, none⟩ = some (.int .i64 x1) := fa 1 _ rfl; have f2 : w.cell? ⟨ba, oa + k * 3 + 2, none⟩ = some (.int .i64 x2) := fa 2 _ rfl; have e0 : w.cell? ⟨bb, ob + k * 3, none⟩ = some (.int .i64 x0) := fb 0 _ rfl; have e1 : w.cell? ⟨bb, ob + k * 3 + 1, none⟩ = some (.int .i64 x1) := fb 1 _ rfl; have e2 : w.cell? ⟨bb, ob + k * 3 + 2, none⟩ = some (.int .i64 x2) := fb 2 _ rfl; clear fa fb; have hx' := Lib.hid hx; clear hx
      go_wp2
      go_quiet (fail)
      go_wp2
      go_roundw
      case rel => exact ⟨k + 1, by omega, by go_num, Lib.hid ⟨_, rfl⟩⟩
      case measure => simp [intOf]; omega
    · go_wp2
      go_ret
      exact ⟨rfl, hq.out⟩
set_option maxRecDepth 20000 in
set_option maxHeartbeats 2000000 in
theorem lframes_eq (W H : Int) (a b : Option Addr) (n c d : Nat) (l : List Cmp4) (w : World) (ha : StR cmpL 4 w a n c l) (hb : StR cmpL 4 w b n d l) :
    Calls Try.prog 61 #[.agg #[.int .i64 W, .int .i64 H, .slice a n c], .agg #[.int .i64 W, .int .i64 H, .slice b n d]] w fun e w' => e = .returned (.bool true) ∧ Below w.heap.size w w' := by
  have hl := ha.len; have hmx := ha.sl.max; have hle := ha.sl.le; have hnb : ((n : Int) != n) = false := by simp
  have hWb : (W != W) = false := by simp
  have hHb : (H != H) = false := by simp
  obtain ⟨W1, hW1, bA, bB, hb1, hsz1⟩ := two_boxes w 56 #[.int .i64 W, .int .i64 H, .slice a n c] 56 #[.int .i64 W, .int .i64 H, .slice b n d]; have k0 : W1.cell? ⟨w.heap.size, 0, none⟩ = some (.int .i64 W) := bA.cell rfl; have k1 : W1.cell? ⟨w.heap.size, 1, none⟩ = some (.int .i64 H) := bA.cell rfl; have k2 : W1.cell? ⟨w.heap.size, 2, none⟩ = some (.slice a n c) := bA.cell rfl; have j0 : W1.cell? ⟨w.heap.size + 1, 0, none⟩ = some (.int .i64 W) := bB.cell rfl; have j1 : W1.cell? ⟨w.heap.size + 1, 1, none⟩ = some (.int .i64 H) := bB.cell rfl; have j2 : W1.cell? ⟨w.heap.size + 1, 2, none⟩ = some (.slice b n d) := bB.cell rfl; have hq0 := Qt.refl W1; have ha1 := ha.mono hb1; have hb2 := hb.mono hb1; clear bA bB; have ha' := Lib.hid ha; have hb' := Lib.hid hb; have hl' := Lib.hid hl; have hq0' := Lib.hid hq0; have hW1' := Lib.hid hW1; have hb1' := Lib.hid hb1; have hsz1' := Lib.hid hsz1; have ha1' := Lib.hid ha1; have hb2' := Lib.hid hb2; clear ha hb hl hq0 hW1 hb1 hsz1 ha1 hb2
  go_enter Try.func61, Try.ntmps61
  go_upto_region 1 with fail
  rw [hW1'.out]
  go_wp2
  go_loopw [5] (fun iv wr => ∃ (k : Nat), k ≤ n ∧ iv = .int .i64 k ∧ Hid (Qt W1 wr)) (fun iv _ => n - (intOf iv).toNat)
  case atStart => exact ⟨0, by omega, rfl, hq0'⟩
  case round =>
    obtain ⟨k, hk, rfl, hq⟩ := hrel; obtain ⟨dq, rfl⟩ := hq.out.ex
    by_cases hlt : k < n
    · obtain ⟨x, hx⟩ : ∃ x, l[k]? = some x := ⟨_, List.getElem?_eq_getElem (by rw [hl'.out]; exact hlt)⟩
      obtain ⟨ba, oa, rfl, _, fa⟩ := ha1'.out.elem cmpL_len hx; obtain ⟨bb, ob, rfl, _, fb⟩ := hb2'.out.elem cmpL_len hx; obtain ⟨x0, x1, x2, x3⟩ := x; have f0 : W1.cell? ⟨ba, oa + k * 4, none⟩ = some (.int .i64 x0) := fa 0 _ rfl; have f1 : W1.cell? ⟨ba, oa + k * 4 + 1, none⟩ = some (.int .i64 x1) := fa 1 _ rfl; have f2 : W1.cell? ⟨ba, oa + k * 4 + 2, none⟩ = some (.int .i64 x2) := fa 2 _ rfl; have f3 : W1.cell? ⟨ba, oa + k * 4 + 3, none⟩ = some (.int .i64 x3) := fa 3 _ rfl; have e0 : W1.cell? ⟨bb, ob + k * 4, none⟩ = some (.int .i64 x0) := fb 0 _ rfl; have e1 : W1.cell? ⟨bb, ob + k * 4 + 1, none⟩ = some (.int .i64 x1) := fb 1 _ rfl; have e2 : W1.cell? ⟨bb, ob + k * 4 + 2, none⟩ = some (.int .i64 x2) := fb 2 _ rfl; have e3 : W1.cell? ⟨bb, ob + k * 4 + 3, none⟩ = some (.int .i64 x3) := fb 3 _ rfl; clear fa fb; have hx' := Lib.hid hx; clear hx
      go_wp2
      go_quiet (fail)
      go_wp2
      go_roundw
      case rel => exact ⟨k + 1, by omega, by go_num, Lib.hid ⟨_, rfl⟩⟩
      case measure => simp [intOf]; omega
    · go_wp2
      go_ret
      exact ⟨rfl, hb1'.out.trans (hq.out.below _)⟩
end Go.Proofs.Ytpjopeojeglogaa

namespace Tt
open Go Go.RowKit Go.BigFrame
set_option linter.unusedVariables false
set_option linter.unusedSimpArgs false
section
variable {P : Program} {ops : Array Oper} {rest : List Oper} {o : Oper} {a : Act} {C : World → Prop} {Q : Act → Prop}
theorem quiet_load_at {K : Act → Prop} (ty : TypeId) (x : Operand) (ho : o.op = .load ty x) (g f : Nat) (hx : a.eval x = .pointer (some ⟨g, f, none⟩)) (cs : List Value) (A : Array Value) (hA : cs.toArray = A) (d : TypeDesc) (hc : ∀ w, C w → ∀ j v, cs[j]? = some v → w.cell? ⟨g, f + j, none⟩ = some v)
    (hu : P.underlying ty = some d) (hd : isAggD d = true) (z : Nat) (hi : (P.info? ty).map (·.size) = some z) (hz : cs.length = z) (hk : K (a.put o.dst (.agg A))) : o.quiet P a C K :=
  ⟨.agg A, fun w hw => by
    unfold Oper.quietAt execOp; simp only [ho, hx, Instr.loadAt, Instr.sureAddr, Sem.run_bind, Sem.run_pure, Result.andThen_ok, run_loadVar_at w g f ty cs d (hc w hw) hu hd (by rw [hz]; exact hi), hA]; exact ⟨rfl, rfl⟩, hk⟩
theorem wpQuiet_load_at (hg : o.guard = none) (ty : TypeId) (x : Operand) (ho : o.op = .load ty x) (g f : Nat) (hx : a.eval x = .pointer (some ⟨g, f, none⟩)) (cs : List Value) (A : Array Value) (hA : cs.toArray = A) (d : TypeDesc) (hc : ∀ w, C w → ∀ j v, cs[j]? = some v → w.cell? ⟨g, f + j, none⟩ = some v)
    (hu : P.underlying ty = some d) (hd : isAggD d = true) (z : Nat) (hi : (P.info? ty).map (·.size) = some z) (hz : cs.length = z) (h : wpQuiet P ops C Q rest (a.put o.dst (.agg A))) : wpQuiet P ops C Q (o :: rest) a :=
  wpQuiet_want (by simp [Region.wanted, hg]) fun K hK => quiet_load_at ty x ho g f hx cs A hA d hc hu hd z hi hz (hK _ h)
end
end Tt

namespace Go.Proofs.Ytpjopeojeglogaa
open Go.RowKit Tt
set_option linter.unusedVariables false
set_option linter.unusedSimpArgs false

theorem info_int : ∃ i, Try.prog.info? 3 = some i := by
  cases h : Try.prog.info? 3 with
  | none =>
    have : (Try.prog.info? 3).isSome = true := by kernel_rfl
    rw [h] at this
    cases this
  | some i => exact ⟨i, rfl⟩
theorem items_same (d : Nat) (W : World) (l : List Int) (A : Array Value) (hA : (ints .i64 l).toArray = A) : ∀ (is : List Nat), (∀ i ∈ is, i < l.length) → (Op.eqItems (d + 1) 3 1 A A is).run Try.prog W = .ok true W
  | [], _ => by simp [Op.eqItems]
  | i :: is, h => by
    have hi := h i List.mem_cons_self; have hp : (part 3 A i).run Try.prog W = .ok (.int .i64 (l.getD i 0)) W := run_part_plain (P := Try.prog) W (e := 3) (by kernel_rfl) (by rw [← hA, List.getElem?_toArray]; exact ints_get hi); have he := run_equalIn_int (P := Try.prog) W d 3 .i64 _ (l.getD i 0) (l.getD i 0) Try.underlying3; rw [beq_self_eq_true] at he; simp only [Op.eqItems, Sem.run_bind, Nat.mul_one, hp, Result.andThen_ok, he, Bool.not_true, Bool.false_eq_true, if_false]; exact items_same d W l A hA is (fun j hj => h j (List.mem_cons_of_mem _ hj))
theorem eq_arr {T : TypeId} {n : Nat} (d : Nat) (W : World) (l : List Int) (A : Array Value) (hA : (ints .i64 l).toArray = A) (hn : l.length = n) (hu : Try.prog.underlying T = some (.array n 3)) : (Op.equalIn (d + 2) T (.agg A) (.agg A)).run Try.prog W = .ok true W := by
  obtain ⟨i, hi⟩ := info_int; have hc : Try.prog.cellsOf 3 = 1 := by kernel_rfl
  rw [run_equalIn_array (w := W) (d + 1) A A hu hi, hc]; exact items_same d W l A hA (List.range n) (fun i hi => by rw [hn]; exact List.mem_range.1 hi)
theorem neq_arr {T : TypeId} {n : Nat} (W : World) (l : List Int) (A : Array Value) (hA : (ints .i64 l).toArray = A) (hn : l.length = n) (hu : Try.prog.underlying T = some (.array n 3)) : (binOp .neq T (.agg A) (.agg A)).run Try.prog W = .ok (.bool false) W := by
  rw [run_neq_struct, eq_arr 9998 W l A hA hn hu]
  rfl
theorem neq_q (W : World) (q : Qt64) (B : Array Value) (hB : (qC q).toArray = B) (hl : q.2.length = 64) : (binOp .neq 172 (.agg B) (.agg B)).run Try.prog W = .ok (.bool false) W := by
  have hs : Try.prog.stoodInHeld 172 = false := by kernel_rfl
  rw [run_neq_struct, run_equalIn_agg (ht := by unfold Program.fieldsOf; rw [Try.underlying172]) (hp := hs)]; unfold Program.fieldsOf; rw [Try.underlying172]; have p0 : (part 3 B 0).run Try.prog W = .ok (.int .i64 q.1) W := run_part_plain (P := Try.prog) W (e := 3) (by kernel_rfl) (by rw [← hB]; rfl); have e1 := run_equalIn_int (P := Try.prog) W 9998 3 .i64 _ q.1 q.1 Try.underlying3; rw [beq_self_eq_true] at e1; have pB : ∀ (B : Array Value), (part 129 B 1).run Try.prog W = .ok (.agg (B.extract 1 65)) W := fun B => by kernel_rfl
  have hx : B.extract 1 65 = (ints .i64 q.2).toArray := by
    rw [← hB]; unfold qC; have h64 : (ints .i64 q.2).length = 64 := by rw [ints_len, hl]
    simp
    rw [List.take_of_length_le (by rw [h64]; exact Nat.le_refl _)]
  have p1 := pB B; rw [hx] at p1; have e2 := eq_arr (T := 129) 9997 W q.2 _ rfl hl Try.underlying129
  simp [Op.eqFields, p0, e1, p1, e2, Result.andThen]
attribute [-go_sem] run_neq_struct
set_option maxRecDepth 20000 in
set_option maxHeartbeats 2000000 in
theorem lquants_eq (a b : Option Addr) (n c d : Nat) (l : List Qt64) (w : World) (ha : QsR w a n c l) (hb : QsR w b n d l) :
    Calls Try.prog 59 #[.slice a n c, .slice b n d] w fun e w' => e = .returned (.bool true) ∧ Below w.heap.size w w' := by
  have hl := ha.ilen; have hmx := ha.sl.max; have hle := ha.sl.le; have hq0 := Below.refl w.heap.size w; have hnb : ((n : Int) != n) = false := by simp
  have ha' := Lib.hid ha; have hb' := Lib.hid hb; have hl' := Lib.hid hl; have hq0' := Lib.hid hq0; clear ha hb hl hq0
  go_enter Try.func59, Try.ntmps59
  go_wp2
  go_loopw [5] (fun iv wr => ∃ (k : Nat), k ≤ n ∧ iv = .int .i64 k ∧ Hid (Below w.heap.size w wr)) (fun iv _ => n - (intOf iv).toNat)
  case atStart => exact ⟨0, by omega, rfl, hq0'⟩
  case round =>
    obtain ⟨k, hk, rfl, hq⟩ := hrel
    by_cases hlt : k < n
    · obtain ⟨x, hx⟩ : ∃ x, l[k]? = some x := ⟨_, List.getElem?_eq_getElem (by rw [hl'.out]; exact hlt)⟩
      have hql := ha'.out.len x (List.mem_of_getElem? hx); have hcl := qC_len hql; obtain ⟨ba, oa, rfl, hba, fa⟩ := ha'.out.elem hx; obtain ⟨bb, ob, rfl, hbb, fb⟩ := hb'.out.elem hx; obtain ⟨B, hB⟩ : ∃ B, (qC x).toArray = B := ⟨_, rfl⟩; have hnq := fun W => neq_q W x B hB hql; obtain ⟨wD, hwD⟩ : ∃ wD, wr.drew = wD := ⟨_, rfl⟩; have hbD := hq.out.drew; rw [hwD] at hbD; obtain ⟨Ty, ff, hne, qq, hsurj⟩ := pr_worlds (fun W => Below w.heap.size w W) wD hbD; have HS := Lib.hid (hsurj _ hbD)
      have fA : ∀ W, (∃ s, W = ff s) → ∀ j v, (qC x)[j]? = some v → W.cell? ⟨ba, oa + k * 65 + j, none⟩ = some v := fun W h j v hv => by
        obtain ⟨s, rfl⟩ := h; exact ((qq s).cell (p := ⟨ba, oa + k * 65 + j, none⟩) hba).trans (fa j v hv)
      have fB : ∀ W, (∃ s, W = ff s) → ∀ j v, (qC x)[j]? = some v → W.cell? ⟨bb, ob + k * 65 + j, none⟩ = some v := fun W h j v hv => by
        obtain ⟨s, rfl⟩ := h; exact ((qq s).cell (p := ⟨bb, ob + k * 65 + j, none⟩) hbb).trans (fb j v hv)
      clear fa fb; have hx' := Lib.hid hx; have hcl' := Lib.hid hcl; have hB' := Lib.hid hB; have hwD' := Lib.hid hwD; have hbD' := Lib.hid hbD; have qq' := Lib.hid qq; have hsurj' := Lib.hid hsurj; have fA' := Lib.hid fA; have fB' := Lib.hid fB; have hql' := Lib.hid hql; clear hx hcl hB hwD hbD qq hsurj fA fB hql
      go_wp2
      refine held_begin (S := fun W => ∃ s, W = ff s) (by kernel_rfl) 9 rfl ?_; rw [hwD'.out]; refine held_take [0, 1, 2, 3, 4, 5, 6, 7] 1 (by kernel_rfl) (fun d _ _ _ _ h => by cases d <;> exact h) (by kernel_rfl) (by kernel_rfl) (by kernel_rfl) HS.out ?_; simp only [pickL, List.map_cons, List.map_nil, List.getD_cons_succ, List.getD_cons_zero]
      iterate 3 (go_big_quiet_step (fail))
      refine wpQuiet_load_at rfl 172 (.tmp 19) rfl ba (oa + k * 65) rfl (qC x) B hB'.out _ fA'.out Try.underlying172 rfl 65 infoQ hcl'.out ?_; simp only [Act.put, List.setIfInBounds_toArray, List.set_cons_succ, List.set_cons_zero]
      iterate 3 (go_big_quiet_step (fail))
      refine wpQuiet_load_at rfl 172 (.tmp 23) rfl bb (ob + k * 65) rfl (qC x) B hB'.out _ fB'.out Try.underlying172 rfl 65 infoQ hcl'.out ?_; simp only [Act.put, List.setIfInBounds_toArray, List.set_cons_succ, List.set_cons_zero]; refine wpQuiet_nil ?_; refine held_one 8 0 (by kernel_rfl) (by kernel_rfl) ?_; simp only [pickL, List.map_cons, List.map_nil, List.getD_cons_succ, List.getD_cons_zero]
      go_wp2_with fail
      first | refine Mid.mk ⟨HS.out, ?_⟩ | refine Mid.mk ?_
      refine held_last (by kernel_rfl) ?_; clear HS
      go_wp2
      go_roundw
      case rel => exact ⟨k + 1, by omega, by go_num, hbD'⟩
      case measure => simp [intOf]; omega
    · go_wp2
      go_ret
      exact ⟨rfl, hq.out⟩
end Go.Proofs.Ytpjopeojeglogaa
