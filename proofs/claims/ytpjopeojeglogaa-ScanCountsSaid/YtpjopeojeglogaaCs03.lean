/- Chapter 5: the document's To, From. | Chapter 5: the program's way over a block (an iterator), and all places in order. | Chapter 5: all places of a block in order: the program. -/
import Derived.Test.YtpjopeojeglogaaCs02
namespace Go.Proofs.Ytpjopeojeglogaa
open Go.RowKit Tt
set_option linter.unusedVariables false
set_option linter.unusedSimpArgs false
def z64 : Array Value := #[.int .i64 0, .int .i64 0, .int .i64 0, .int .i64 0, .int .i64 0, .int .i64 0, .int .i64 0, .int .i64 0, .int .i64 0, .int .i64 0, .int .i64 0, .int .i64 0, .int .i64 0, .int .i64 0, .int .i64 0, .int .i64 0, .int .i64 0, .int .i64 0, .int .i64 0, .int .i64 0, .int .i64 0, .int .i64 0, .int .i64 0, .int .i64 0, .int .i64 0, .int .i64 0, .int .i64 0, .int .i64 0, .int .i64 0, .int .i64 0, .int .i64 0, .int .i64 0, .int .i64 0, .int .i64 0, .int .i64 0, .int .i64 0, .int .i64 0, .int .i64 0, .int .i64 0, .int .i64 0, .int .i64 0, .int .i64 0, .int .i64 0, .int .i64 0, .int .i64 0, .int .i64 0, .int .i64 0, .int .i64 0, .int .i64 0, .int .i64 0, .int .i64 0, .int .i64 0, .int .i64 0, .int .i64 0, .int .i64 0, .int .i64 0, .int .i64 0, .int .i64 0, .int .i64 0, .int .i64 0, .int .i64 0, .int .i64 0, .int .i64 0, .int .i64 0]
theorem z64_eq : z64 = (ints .i64 (List.replicate 64 0)).toArray := rfl
/-- a block of 64 numbers -/
def B64 (w : World) (g : Nat) (T : TypeId) (l : List Int) : Prop := l.length = 64 ∧ Blk w g T (ints .i64 l).toArray
theorem B64.cell {w : World} {g : Nat} {T : TypeId} {l : List Int} (h : B64 w g T l) {i : Nat} (hi : i < 64) : w.cell? ⟨g, i, none⟩ = some (.int .i64 (l.getD i 0)) := h.2.cell (by
  simp only [List.getElem?_toArray]; exact ints_get (by rw [h.1]; exact hi))
theorem B64.frozen {w : World} {g : Nat} {T : TypeId} {l : List Int} (h : B64 w g T l) (i : Nat) : w.frozen? ⟨g, i, none⟩ = false := h.2.frozen i
theorem B64.set {w : World} {g : Nat} {T : TypeId} {l : List Int} (h : B64 w g T l) (i : Nat) (x : Int) : B64 (w.setCell ⟨g, i, none⟩ (.int .i64 x)) g T (l.set i x) := by
  refine ⟨by rw [List.length_set]; exact h.1, ?_⟩; have := h.2.set i (.int .i64 x); rw [List.setIfInBounds_toArray] at this; unfold ints at this ⊢; rw [List.map_set]; exact this
theorem B64.set_other {w : World} {g g' : Nat} {T : TypeId} {l : List Int} (h : B64 w g T l) (hne : g ≠ g') (i : Nat) (v : Value) : B64 (w.setCell ⟨g', i, none⟩ v) g T l := ⟨h.1, h.2.set_other hne i v⟩
theorem B64.late {w w' : World} {g : Nat} {T : TypeId} {l : List Int} (h : B64 w g T l) (hb : Below w.heap.size w w') : B64 w' g T l := ⟨h.1, h.2.late hb⟩
theorem infoA : (Try.prog.info? 129).map (·.size) = some 64 := by kernel_rfl
theorem ints_one' {l : List Int} : (ints .i64 l).toArray.all (·.oneCell') = true := by
  rw [Array.all_eq_true_iff_forall_mem]; intro x hx; exact ints_one x (by simpa using hx)
theorem ints_size {l : List Int} (h : l.length = 64) : (ints .i64 l).toArray.size = 64 := by simp [ints, h]
/-- the result, handed back out of its cell -/
theorem ret64 {fn : Func} {p : Tmp} (h : fn.results = #[.cell p 129]) {tmps : Array Value} {w : World} {g : Nat} {l : List Int} (hp : tmps.getD p undef = .pointer (some ⟨g, 0, none⟩)) (hb : B64 w g 129 l) :
    (results fn tmps).run Try.prog w = .ok (.agg (ints .i64 l).toArray) w :=
  results_cell_row h tmps w g _ _ (0, 0) _ hp hb.2 Try.underlying129 rfl (by rw [ints_size hb.1]; exact infoA)
set_option maxRecDepth 20000 in
set_option maxHeartbeats 1000000 in
theorem rto_any (t : List Int) (A : Array Value) (hA : (ints .i64 t).toArray = A) (w : World) (ht : t.length = 64) : Calls Try.prog 114 #[.agg A] w fun e w' => e = .returned (.agg (ints .i64 (toZ t)).toArray) ∧ Below w.heap.size w w' := by
  obtain ⟨R, hR⟩ : ∃ R, (ints .i64 (toZ t)).toArray = R := ⟨_, rfl⟩; rw [hR]; obtain ⟨W1, hW1, bA, bB, bC, hb1, s1⟩ := three_boxes w 129 A 129 z64 129 z64; have b1 : B64 W1 w.heap.size 129 t := ⟨ht, hA ▸ bA⟩; have b2 : B64 W1 (w.heap.size + 1) 129 (List.replicate 64 0) := ⟨by simp, bB⟩; have b3 : B64 W1 (w.heap.size + 2) 129 (scat zzL t 0) := ⟨scat_len _ _ _, by rw [(zeros64 _ _).2]; exact bC⟩; unfold z64 at hW1; clear bA bB bC; have hA' := Lib.hid hA; have ht' := Lib.hid ht; have hb1' := Lib.hid hb1; have s1' := Lib.hid s1; have b1' := Lib.hid b1; have b2' := Lib.hid b2; have b3' := Lib.hid b3; have hW1' := Lib.hid hW1; have hR' := Lib.hid hR; clear hA ht hb1 s1 b1 b2 b3 hW1 hR
  go_enter Try.func114, Try.ntmps114
  go_upto_region 2 with fail
  rw [hW1'.out]; have e2 : w.heap.size + 1 + 1 = w.heap.size + 2 := rfl; simp only [e2]; clear e2
  go_wp2
  go_loopw [4] (fun iv wr => ∃ k : Nat, k ≤ 64 ∧ iv = .int .i64 k ∧ Hid (B64 wr w.heap.size 129 t) ∧ Hid (B64 wr (w.heap.size + 1) 129 (List.replicate 64 0)) ∧ Hid (B64 wr (w.heap.size + 2) 129 (scat zzL t k)) ∧ Hid (Below w.heap.size w wr)) (fun iv _ => 64 - (intOf iv).toNat)
  case atStart => exact ⟨0, by omega, rfl, b1', b2', b3', hb1'⟩
  case round =>
    obtain ⟨k, hk, rfl, h1, h2, h3, hb⟩ := hrel
    by_cases hlt : k < 64
    · obtain ⟨z1, z2, z3, z4⟩ := zz_lt k hlt
      have HP := fun W => (rplace_any k W hlt).mono fun e w' (h : _ ∧ _) => (⟨h.1, h.2.symm⟩ : _ ∧ w' = W); have hst := scat_step zzL zzI t hlt z2 z4 (fun i hi => (zz_lt i hi).2.2.1); obtain ⟨wD, hwD, d1, d2, d3, d4⟩ : ∃ wD, wr.drew = wD ∧ B64 wD w.heap.size 129 t ∧ B64 wD (w.heap.size + 1) 129 (List.replicate 64 0) ∧ B64 wD (w.heap.size + 2) 129 (scat zzL t k) ∧ Below w.heap.size w wD := ⟨_, rfl, h1.out, h2.out, h3.out, hb.out.drew⟩; have f0 := d1.cell hlt; obtain ⟨x, hx⟩ : ∃ x, t.getD k 0 = x := ⟨_, rfl⟩; rw [hx] at f0 hst
      generalize zzI.getD k 0 = q at *
      have f1 := d3.cell z2; have f2 := d3.frozen q; have n1 := (d1.set_other (g' := w.heap.size + 2) (by omega) q (.int .i64 x)); have n2 := (d2.set_other (g' := w.heap.size + 2) (by omega) q (.int .i64 x)); have n3 := d3.set q x; rw [hst] at n3; have n4 := d4.setCell (p := ⟨w.heap.size + 2, q, none⟩) (by show w.heap.size ≤ w.heap.size + 2; omega) (.int .i64 x)
      generalize (scat zzL t k).getD q 0 = y at f1
      have f4 := n1.cell hlt; rw [hx] at f4; obtain ⟨Ty, ff, hne, q0, hsurj⟩ := pr_worlds (fun W => W.cell? ⟨w.heap.size, k, none⟩ = some (.int .i64 x)) wD f0; have HS := Lib.hid (hsurj _ f0); have HS2 := Lib.hid (hsurj _ f4); clear f4 d1 d2 d3 d4; have HP' := Lib.hid HP; have hst' := Lib.hid hst; have n1' := Lib.hid n1; have n2' := Lib.hid n2; have n3' := Lib.hid n3; have n4' := Lib.hid n4; have z1' := Lib.hid z1; have z3' := Lib.hid z3; have z4' := Lib.hid z4; have hsurj' := Lib.hid hsurj; have hx' := Lib.hid hx; have hwD' := Lib.hid hwD; clear HP hst n1 n2 n3 n4 z1 z3 z4 hsurj hx hwD
      go_wp2_with fail
      refine held_begin (S := fun W => ∃ s, W = ff s) (by kernel_rfl) 7 rfl ?_; rw [hwD'.out]; refine held_take [0, 2, 3, 4] 3 (by kernel_rfl) (fun d _ _ _ _ h => by cases d <;> exact h) (by kernel_rfl) (by kernel_rfl) (by kernel_rfl) HS.out ?_; simp only [pickL, List.map_cons, List.map_nil, List.getD_cons_succ, List.getD_cons_zero]
      iterate 4 (go_big_quiet_step (fail))
      refine wpQuiet_nil ?_; refine held_one 1 2 (by kernel_rfl) (by kernel_rfl) ?_; simp only [pickL, List.map_cons, List.map_nil, List.getD_cons_succ, List.getD_cons_zero]
      go_wp2_with fail
      refine (HP'.out _).mono ?_; rintro e w3 ⟨rfl, rfl⟩
      go_wp2_with fail
      first | refine Mid.mk ⟨HS.out, ?_⟩ | refine Mid.mk ?_
      refine held_one 5 1 (by kernel_rfl) (by kernel_rfl) ?_; simp only [pickL, List.map_cons, List.map_nil, List.getD_cons_succ, List.getD_cons_zero]
      go_wp2_with fail
      first | refine Mid.mk ⟨HS.out, ?_⟩ | refine Mid.mk ?_
      refine held_one 6 0 (by kernel_rfl) (by kernel_rfl) ?_; simp only [pickL, List.map_cons, List.map_nil, List.getD_cons_succ, List.getD_cons_zero]
      go_wp2_with fail
      first | refine Mid.mk ⟨HS2.out, ?_⟩ | refine Mid.mk ?_
      refine held_last (by kernel_rfl) ?_
      go_wp2_with fail
      go_roundw
      case rel => exact ⟨k + 1, by omega, by go_num, n1', n2', n3', n4'⟩
      case measure => simp [intOf]; omega
    · have hk64 : k = 64 := by omega
      have h3' := h3.out; rw [hk64, scat_toZ] at h3'; have g3 : ∀ j v, (ints .i64 (toZ t))[j]? = some v → wr.cell? ⟨w.heap.size + 2, 0 + j, none⟩ = some v := fun j v hv => h3'.2.cell (by rw [Nat.zero_add, List.getElem?_toArray]; exact hv); have hl3 : (ints .i64 (toZ t)).length = 64 := by rw [ints_len]; exact toZ_len t
      have hz2 := h2.out.2; have hs2 := ints_size h2.out.1; have hsR := ints_size (toZ_len t); have hoR := ints_one' (l := toZ t); rw [hR'.out] at hsR hoR; have hbR := rowBelow hb.out (show w.heap.size ≤ w.heap.size + 1 by omega) R; have hrow : B64 (wr.setRow (w.heap.size + 1) R) (w.heap.size + 1) 129 (toZ t) := ⟨toZ_len t, by rw [hR'.out]; exact setRow_heap _ _ _ _ _ _ hz2⟩; have hret := fun (tmps : Array Value) (hp : tmps.getD 2 undef = .pointer (some ⟨w.heap.size + 1, 0, none⟩)) => ret64 (fn := Try.f114) (p := 2) rfl hp hrow; rw [hR'.out] at hret; have g3' := Lib.hid g3; have hl3' := Lib.hid hl3; have hz2' := Lib.hid hz2; have hs2' := Lib.hid hs2; have hsR' := Lib.hid hsR; have hoR' := Lib.hid hoR; have hbR' := Lib.hid hbR; have hrow' := Lib.hid hrow; have hk64' := Lib.hid hk64; have hret' := Lib.hid hret; clear g3 hl3 hz2 hs2 hsR hoR hbR hrow hk64 hret; clear h3'
      go_wp2_with (first
        | (refine wpList_load_at rfl 129 (.tmp 3) rfl (w.heap.size + 2) 0 rfl (ints .i64 (toZ t)) R hR'.out _ g3'.out Try.underlying129 rfl 64 infoA hl3'.out ?_)
        | (refine wpList_store_row rfl 129 (.tmp 2) (.tmp 15) rfl (w.heap.size + 1) R rfl rfl 129 _ hz2'.out (by rw [hsR'.out]; exact infoA) (by rw [hs2'.out, hsR'.out]) hoR'.out ?_))
      refine bodyPost_ret (hret'.out _ rfl) rfl ⟨rfl, hbR'.out⟩
end Go.Proofs.Ytpjopeojeglogaa

namespace Tt
open Go Go.RowKit
set_option linter.unusedSimpArgs false
section
variable {F : Fence} {n' : Nat} {P : Program} {ops : Array Oper} {rest : List Oper} {o : Oper} {a : Act} {w : World} {Q : Exit → Act → World → Prop}
theorem wpListIn_load_at (hgd : o.guard = none) (ty : TypeId) (x : Operand) (ho : o.op = .load ty x) (g f : Nat) (hx : a.eval x = .pointer (some ⟨g, f, none⟩)) (cs : List Value) (A : Array Value) (hA : cs.toArray = A) (d : TypeDesc) (hc : ∀ j v, cs[j]? = some v → w.cell? ⟨g, f + j, none⟩ = some v)
    (hu : P.underlying ty = some d) (hd : isAggD d = true) (z : Nat) (hi : (P.info? ty).map (·.size) = some z) (hz : cs.length = z) (h : wpListIn F n' P ops Q rest (a.put o.dst (.agg A)) w) : wpListIn F n' P ops Q (o :: rest) a w := by
  refine wpListIn_plain hgd fun K hK => ?_; unfold Oper.wpIn; refine ⟨?_, ?_⟩
  · simp [Oper.about, ho, Target.leads, Sem.run_pure]
  · rw [Oper.semAt_plain F _ _ (by rw [ho]; intro c hc'; cases hc')]
    unfold execOp; simp only [ho, hx, Instr.loadAt, Instr.sureAddr, Sem.run_bind, Sem.run_pure, Result.andThen_ok, run_loadVar_at w g f ty cs d hc hu hd (by rw [hz]; exact hi), hA]; exact hK _ _ h
theorem wpListIn_store_row (hgd : o.guard = none) (ty : TypeId) (x y : Operand) (ho : o.op = .store ty x y)
    (g : Nat) (cells : Array Value) (hx : a.eval x = .pointer (some ⟨g, 0, none⟩)) (hy : a.eval y = .agg cells)
    (t : TypeId) (old : Array Value) (hg : w.heap[g]? = some (.cells old t (0, 0))) (hi : (P.info? ty).map (·.size) = some cells.size)
    (hold : old.size = cells.size) (h1 : cells.all (·.oneCell') = true)
    (h : wpListIn F n' P ops Q rest (a.put o.dst undef) (w.setRow g cells)) : wpListIn F n' P ops Q (o :: rest) a w := by
  refine wpListIn_plain hgd fun K hK => ?_; unfold Oper.wpIn; refine ⟨?_, ?_⟩
  · simp [Oper.about, ho, Target.leads, Sem.run_pure]
  · rw [Oper.semAt_plain F _ _ (by rw [ho]; intro c hc'; cases hc')]
    unfold execOp; simp only [ho, hx, hy, Instr.storeAt, Instr.sureAddr, Sem.run_bind, Sem.run_pure, Result.andThen_ok, run_storeVar_row w g t ty old cells hg hi hold h1]; exact hK _ _ h
end
end Tt
namespace Go.Proofs.Ytpjopeojeglogaa
open Go.RowKit Tt
set_option linter.unusedVariables false
set_option linter.unusedSimpArgs false
attribute [local go_sem] Oper.semAt_some

def zzN : List Int := zzL.map fun x : Nat => (x : Int)
/-- the first n places in order -/
def ordS (n : Nat) : List Int := gath (List.range 64) zzN n
theorem ordS_step {n : Nat} (hn : n < 64) : (ordS n).set n (zzN.getD n 0) = ordS (n + 1) := by
  have h := gath_step (List.range 64) zzN hn; have e : (List.range 64).getD n 0 = n := by rw [List.getD_eq_getElem?_getD, List.getElem?_range hn]; rfl
  rw [e] at h; exact h
theorem ordS_all : ordS 64 = zzN := by decide +kernel
theorem ordS_zero : ordS 0 = List.replicate 64 0 := (zeros64 _ _).1
def lowD (s : Nat) : Nat := s - 7
def highD (s : Nat) : Nat := min s 7
def baseD : Nat → Nat
  | 0 => 0
  | s + 1 => baseD s + (highD s + 1 - lowD s)
theorem diag : ∀ s, s < 15 → ∀ k, k < 8 → lowD s ≤ k → k ≤ highD s → baseD s + (k - lowD s) < 64 ∧ zzN.getD (baseD s + (k - lowD s)) 0 = 8 * (if s % 2 = 0 then (s : Int) - k else k) + s - (if s % 2 = 0 then (s : Int) - k else k) := by decide +kernel
theorem base64 : baseD 15 = 64 := rfl

/-- What lies in memory when n places have been told (N: the first block of order's own). -/
structure Zs (w : World) (N : Nat) (l : Loop) (n : Nat) (W : World) : Prop where
  below : Below N w W
  ao : B64 W N 128 (ordS n)
  no : W.heap[N + 1]? = some (.cells #[.int .i64 n] 3)
  bd : W.heap[N + 2]? = some (.deferred (some []))
  bl : W.heap[N + 3]? = some (.loop l)
set_option maxRecDepth 100000 in
set_option maxHeartbeats 1000000 in
theorem way1_in (w : World) (N : Nat) (l : Loop)
    (hround : ∀ n x W, n < 64 → zzN.getD n 0 = x → Zs w N l n W → YieldAt Fence.wide 8 Try.prog (N + 3) #[.int .i64 x] W fun e W' => e = .returned (.bool true) ∧ Zs w N l (n + 1) W')
    (W : World) (h0 : Zs w N l 0 W) :
    CallsIn Fence.wide 9 Try.prog 229 #[.func (.yield (N + 3)) #[] #[]] W fun e W' => (∃ v, e = .returned v) ∧ Zs w N l 64 W' := by
  have hround' := Lib.hid hround; have h0' := Lib.hid h0; clear hround h0; refine callsIn_of_wp Try.func229 rfl trivial ?_ rfl; simp only [Try.ntmps229, List.size_toArray, List.length_cons, List.length_nil, Nat.reduceAdd, Nat.reduceSub, Array.replicate_succ, Array.replicate_zero, List.push_toArray, List.append_toArray, List.nil_append, List.cons_append]
  gi_wp2
  gi_loopw [2, 3, 4, 5, 6, 7] (fun _ _ _ _ _ sv wr => ∃ s : Nat, s ≤ 15 ∧ sv = .int .i64 s ∧ Hid (Zs w N l (baseD s) wr)) (fun _ _ _ _ _ sv _ => 15 - (intOf sv).toNat)
  case atStart => exact ⟨0, by omega, rfl, h0'⟩
  case round =>
    obtain ⟨s, hs, rfl, hz⟩ := hrel
    by_cases hlt : s < 15
    · by_cases c7 : s ≤ 7
      case pos =>
        have hlo : lowD s = 0 := by unfold lowD; omega
        have hhi : highD s = s := by unfold highD; omega
        have hd := diag s hlt; rw [hlo, hhi] at hd; have hbn : baseD (s + 1) = baseD s + (s + 1 - 0) := by show baseD s + (highD s + 1 - lowD s) = _; rw [hlo, hhi]
        have h15 : decide ((s : Int) < 15) = true := by simp; omega
        have hd' := Lib.hid hd; have hbn' := Lib.hid hbn; have hlo' := Lib.hid hlo; have hhi' := Lib.hid hhi; clear hd hbn hlo hhi
        gi_wp2
        gi_loopw [5, 6] (fun kv _ wr => ∃ k : Nat, 0 ≤ k ∧ k ≤ s + 1 ∧ kv = .int .i64 k ∧ Hid (Zs w N l (baseD s + (k - 0)) wr)) (fun kv _ _ => s + 1 - (intOf kv).toNat)
        case atStart => exact ⟨0, Nat.le_refl _, by omega, by first | rfl | (congr 1; omega), by rw [Nat.sub_self, Nat.add_zero]; exact hz⟩
        case round =>
          obtain ⟨k, hk1, hk2, rfl, hz⟩ := hrel
          by_cases hkl : k ≤ s
          · obtain ⟨q1, q2⟩ := hd'.out k (by omega) hk1 hkl
            obtain ⟨fn, tmps, assign, body, hy, hR⟩ := hround'.out _ _ wr q1 q2 hz.out; have hnx : baseD s + (k - 0) + 1 = baseD s + (k + 1 - 0) := by omega
            rw [hnx] at hR
            by_cases hp : s % 2 = 0
            · rw [if_pos hp] at hy
              have hpb : ((s : Int) % 2 == 0) = true := by simp; omega
              have hR' := Lib.hid hR; have hnx' := Lib.hid hnx; have q1' := Lib.hid q1; have q2' := Lib.hid q2; clear hR hnx q1 q2; clear hp
              gi_wp2
              refine hR'.out.mono ?_; rintro e W3 ⟨rfl, hz4⟩; have hz4' := Lib.hid hz4; clear hz4
              gi_wp2
              go_roundw
              case rel => exact ⟨k + 1, by omega, by omega, by go_num, hz4'⟩
              case measure => simp [intOf]; omega
            · rw [if_neg hp] at hy
              have hpb : ((s : Int) % 2 == 0) = false := by simp; omega
              have hR' := Lib.hid hR; have hnx' := Lib.hid hnx; have q1' := Lib.hid q1; have q2' := Lib.hid q2; clear hR hnx q1 q2; clear hp
              gi_wp2
              refine hR'.out.mono ?_; rintro e W3 ⟨rfl, hz4⟩; have hz4' := Lib.hid hz4; clear hz4
              gi_wp2
              go_roundw
              case rel => exact ⟨k + 1, by omega, by omega, by go_num, hz4'⟩
              case measure => simp [intOf]; omega
          · have hz5 := hz.out
            rw [show k - 0 = s + 1 - 0 by omega, ← hbn'.out] at hz5; have hz5' := Lib.hid hz5; clear hz5
            gi_wp2
            go_roundw
            case rel => exact ⟨s + 1, by omega, by go_num, hz5'⟩
            case measure => simp [intOf]; omega
      case neg =>
        have hlo : lowD s = (s - 7) := by unfold lowD; omega
        have hhi : highD s = 7 := by unfold highD; omega
        have hd := diag s hlt; rw [hlo, hhi] at hd; have hbn : baseD (s + 1) = baseD s + (7 + 1 - (s - 7)) := by show baseD s + (highD s + 1 - lowD s) = _; rw [hlo, hhi]
        have h15 : decide ((s : Int) < 15) = true := by simp; omega
        have hd' := Lib.hid hd; have hbn' := Lib.hid hbn; have hlo' := Lib.hid hlo; have hhi' := Lib.hid hhi; clear hd hbn hlo hhi
        gi_wp2
        gi_loopw [5, 6] (fun kv _ wr => ∃ k : Nat, (s - 7) ≤ k ∧ k ≤ 7 + 1 ∧ kv = .int .i64 k ∧ Hid (Zs w N l (baseD s + (k - (s - 7))) wr)) (fun kv _ _ => 7 + 1 - (intOf kv).toNat)
        case atStart => exact ⟨(s - 7), Nat.le_refl _, by omega, by first | rfl | (congr 1; omega), by rw [Nat.sub_self, Nat.add_zero]; exact hz⟩
        case round =>
          obtain ⟨k, hk1, hk2, rfl, hz⟩ := hrel
          by_cases hkl : k ≤ 7
          · obtain ⟨q1, q2⟩ := hd'.out k (by omega) hk1 hkl
            obtain ⟨fn, tmps, assign, body, hy, hR⟩ := hround'.out _ _ wr q1 q2 hz.out; have hnx : baseD s + (k - (s - 7)) + 1 = baseD s + (k + 1 - (s - 7)) := by omega
            rw [hnx] at hR
            by_cases hp : s % 2 = 0
            · rw [if_pos hp] at hy
              have hpb : ((s : Int) % 2 == 0) = true := by simp; omega
              have hR' := Lib.hid hR; have hnx' := Lib.hid hnx; have q1' := Lib.hid q1; have q2' := Lib.hid q2; clear hR hnx q1 q2; clear hp
              gi_wp2
              refine hR'.out.mono ?_; rintro e W3 ⟨rfl, hz4⟩; have hz4' := Lib.hid hz4; clear hz4
              gi_wp2
              go_roundw
              case rel => exact ⟨k + 1, by omega, by omega, by go_num, hz4'⟩
              case measure => simp [intOf]; omega
            · rw [if_neg hp] at hy
              have hpb : ((s : Int) % 2 == 0) = false := by simp; omega
              have hR' := Lib.hid hR; have hnx' := Lib.hid hnx; have q1' := Lib.hid q1; have q2' := Lib.hid q2; clear hR hnx q1 q2; clear hp
              gi_wp2
              refine hR'.out.mono ?_; rintro e W3 ⟨rfl, hz4⟩; have hz4' := Lib.hid hz4; clear hz4
              gi_wp2
              go_roundw
              case rel => exact ⟨k + 1, by omega, by omega, by go_num, hz4'⟩
              case measure => simp [intOf]; omega
          · have hz5 := hz.out
            rw [show k - (s - 7) = 7 + 1 - (s - 7) by omega, ← hbn'.out] at hz5; have hz5' := Lib.hid hz5; clear hz5
            gi_wp2
            go_roundw
            case rel => exact ⟨s + 1, by omega, by go_num, hz5'⟩
            case measure => simp [intOf]; omega
    · gi_wp2
      go_end0
      have hs15 : s = 15 := by omega
      have hz2 := hz.out; rw [hs15, base64] at hz2; exact ⟨⟨_, rfl⟩, hz2⟩
end Go.Proofs.Ytpjopeojeglogaa

namespace Go.Proofs.Ytpjopeojeglogaa
open Go.RowKit Tt
set_option linter.unusedVariables false
set_option linter.unusedSimpArgs false
attribute [local go_sem] Oper.semAt_some
theorem enters_way (args : Array Value) (w : World) : (callFunc 229 args).run Try.prog w = .ok (.enter 229 args) w := enters_of Try.func229 (by kernel_rfl) rfl args w
theorem way_any (w : World) : Calls Try.prog 216 #[] w fun e w' => e = .returned (.func (.func 229) #[] #[]) ∧ w = w' := by
  go_enter Try.func216, Try.ntmps216
  go_wp2
  go_ret
  exact ⟨rfl, rfl⟩
theorem infoO : (Try.prog.info? 128).map (·.size) = some 64 := by kernel_rfl
theorem zzN_len : zzN.length = 64 := rfl
theorem Zs.put {w : World} {N : Nat} {l l' : Loop} {n : Nat} {W : World} (h : Zs w N l n W) (hN : N = w.heap.size) : Zs w N l' n (W.putObj (N + 3) (.loop l')) := by
  obtain ⟨h1, h2, h3, h4, h5⟩ := h; have ho : ∀ k, k ≠ N + 3 → (W.putObj (N + 3) (.loop l')).heap[k]? = W.heap[k]? := fun k hk => World.putObj_heap_other hk; exact ⟨h1.trans ⟨rfl, rfl, rfl, by simp, fun k hk => ho k (by omega)⟩, ⟨h2.1, (ho _ (by omega)).trans h2.2⟩, (ho _ (by omega)).trans h3, (ho _ (by omega)).trans h4, World.putObj_heap_same (Array.getElem?_eq_some_iff.1 h5).1⟩
set_option maxRecDepth 100000 in
set_option maxHeartbeats 1000000 in
theorem order_any (w : World) : Calls Try.prog 188 #[] w fun e w' => e = .returned (.agg (ints .i64 zzN).toArray) ∧ Below w.heap.size w w' := by
  obtain ⟨R, hR⟩ : ∃ R, (ints .i64 zzN).toArray = R := ⟨_, rfl⟩; rw [hR]; refine (callsIn_wide (n := 10)).1 ?_; refine callsIn_of_wp_marks Try.func188 rfl trivial ?_ rfl; simp only [Try.ntmps188, List.size_toArray, List.length_cons, List.length_nil, Nat.reduceAdd, Nat.reduceSub, Array.replicate_succ, Array.replicate_zero, List.push_toArray, List.append_toArray, List.nil_append, List.cons_append]
  gi_wp2_with (refine ⟨trivial, ?_⟩; gi_at_call 216; refine (callsIn_wide.2 (way_any _)).mono ?_; rintro e w' ⟨rfl, rfl⟩)
  refine rf_law' rfl (by omega) rfl trivial enters_way ?_; intro fn rec hfn hrec; obtain ⟨W0, hW0, bA, bB, hb0, s0⟩ := two_boxes w 128 z64 3 #[.int .i64 0]; unfold z64 at hW0; simp only [World.size_alloc, Nat.add_assoc, Nat.reduceAdd]; rw [hW0]; clear hW0; refine CallsIn.mono (way1_in w w.heap.size (rec .ready none) ?round _ ?init) ?done
  case init =>
    have hal := ((Below.refl W0.heap.size W0).alloc (Nat.le_refl _) (.deferred (some []))).alloc (by simp) (.loop (rec .ready none)); exact ⟨hb0.trans (hal.mono hb0.size), ⟨gath_len _ _ _, by rw [ordS_zero]; exact bA.late hal⟩, bB.late hal, (heap_old _ _ (by simp; omega)).trans (heap_new' _ _ (by omega)), heap_new' _ _ (by simp; omega)⟩
  case round =>
    intro n x W hn hx hz; have hz2 := hz.put (l' := rec .busy none) rfl; have hbl := hz.bl; refine rf_round' hfn hrec hbl rfl ?_; clear hz bA bB; have hbl' := Lib.hid hbl; clear hbl
    gi_wp2
    refine ⟨hbl'.out, ?_⟩; obtain ⟨Wb, hWb⟩ : ∃ Wb, Wb = W.putObj (w.heap.size + 3) (.loop (rec .busy none)) := ⟨_, rfl⟩; rw [← hWb] at hz2 ⊢; obtain ⟨h1, h2, h3, h4, h5⟩ := hz2; have bn : Blk Wb (w.heap.size + 1) 3 #[.int .i64 n] := h3; have c1 : Wb.cell? ⟨w.heap.size + 1, 0, none⟩ = some (.int .i64 n) := bn.cell rfl; have c2 := bn.frozen 0; have c3 := h2.cell hn; have c4 := h2.frozen n; have m1 := (h1.setCell (p := ⟨w.heap.size, n, none⟩) (Nat.le_refl _) (.int .i64 x)).setCell (p := ⟨w.heap.size + 1, 0, none⟩) (Nat.le_add_right _ _) (.int .i64 (n + 1)); have m2 := (h2.set n x).set_other (g' := w.heap.size + 1) (by omega) 0 (.int .i64 (n + 1)); rw [← hx, ordS_step hn, hx] at m2; have m3 := (bn.set_other (g' := w.heap.size) (by omega) n (.int .i64 x)).set 0 (.int .i64 (n + 1)); have ho : ∀ k, w.heap.size + 1 < k → ((Wb.setCell ⟨w.heap.size, n, none⟩ (.int .i64 x)).setCell ⟨w.heap.size + 1, 0, none⟩ (.int .i64 (n + 1))).heap[k]? = Wb.heap[k]? := fun k hk => (Below.heap_setCell _ _ _ _ (show k ≠ w.heap.size + 1 by omega)).trans (Below.heap_setCell _ _ _ _ (show k ≠ w.heap.size by omega)); have m4 := (ho (w.heap.size + 2) (by omega)).trans h4; have m5 := (ho (w.heap.size + 3) (by omega)).trans h5; have hfin := (show Zs w w.heap.size (rec .busy none) (n + 1) ((Wb.setCell ⟨w.heap.size, n, none⟩ (.int .i64 x)).setCell ⟨w.heap.size + 1, 0, none⟩ (.int .i64 (n + 1))) from ⟨m1, m2, m3, m4, m5⟩).put (l' := rec .ready none) rfl
    generalize (ordS n).getD n 0 = y at c3
    have hwn : IntKind.i64.wrap ((n : Int) + 1) = n + 1 := by rw [IntKind.wrap_i64]; omega
    clear m1 m2 m3 m4 ho h1 h2 h3 h4 hWb bn; have m5' := Lib.hid m5; have hfin' := Lib.hid hfin; have hx' := Lib.hid hx; have h5' := Lib.hid h5; clear m5 hfin hx h5
    gi_wp2_with fail
    exact ⟨m5'.out, rfl, hfin'.out⟩
  case done =>
    rintro e W2 ⟨hv, hz⟩; unfold rfDone; simp only [s0, Nat.add_assoc, Nat.reduceAdd]; refine ⟨hv, .ready, none, by decide, hz.bl, ?_⟩
    dsimp only
    have z2 := hz.put (l' := rec .exhausted none) rfl; obtain ⟨W3, hW3⟩ : ∃ W3, W3 = W2.putObj (w.heap.size + 3) (.loop (rec .exhausted none)) := ⟨_, rfl⟩; rw [← hW3] at z2 ⊢; obtain ⟨h1, h2, h3, h4, h5⟩ := z2; rw [ordS_all] at h2; have g3 : ∀ j v, (ints .i64 zzN)[j]? = some v → W3.cell? ⟨w.heap.size, 0 + j, none⟩ = some v := fun j v hv => h2.2.cell (by rw [Nat.zero_add, List.getElem?_toArray]; exact hv); have hl3 : (ints .i64 zzN).length = 64 := by rw [ints_len]; exact zzN_len
    have hz2 := h2.2; have hsR := ints_size zzN_len; have hoR := ints_one' (l := zzN); rw [hR] at hsR hoR hz2; have hbR := rowBelow h1 (Nat.le_refl _) R; have b7 : Blk (W3.setRow w.heap.size R) w.heap.size 128 R := setRow_heap _ _ _ _ _ _ hz2; have e5 : (W3.setRow w.heap.size R).heap[w.heap.size + 2]? = some (.deferred (some [])) := (setRow_other _ _ _ _ (by omega)).trans h4; have hR' := Lib.hid hR; clear hR hz h1 h2 h3 h4 h5 hW3 bA bB hb0 s0; have g3' := Lib.hid g3; have hl3' := Lib.hid hl3; have hz2' := Lib.hid hz2; have hsR' := Lib.hid hsR; have hoR' := Lib.hid hoR; have hbR' := Lib.hid hbR; have b7' := Lib.hid b7; have e5' := Lib.hid e5; clear g3 hl3 hz2 hsR hoR hbR b7 e5
    gi_wp2_with (first
      | (refine wpListIn_load_at rfl 128 (.tmp 0) rfl w.heap.size 0 rfl (ints .i64 zzN) R hR'.out _ g3'.out Try.underlying128 rfl 64 infoO hl3'.out ?_)
      | (refine wpListIn_store_row rfl 128 (.tmp 0) (.tmp 10) rfl w.heap.size R rfl rfl 128 _ hz2'.out (by rw [hsR'.out]; exact infoO) rfl hoR'.out ?_))
    obtain ⟨W7, hW7⟩ : ∃ W7, W7 = W3.setRow w.heap.size R := ⟨_, rfl⟩; have b7 := b7'.out; have e5 := e5'.out; have hb7 := hbR'.out; rw [← hW7] at b7 e5 hb7 ⊢; refine ⟨by simp, .inl ⟨_, _, rfl, run_takeDeferred e5, ?_⟩⟩; have ho : ∀ k, k ≠ w.heap.size + 2 → (W7.putObj (w.heap.size + 2) (.deferred none)).heap[k]? = W7.heap[k]? := fun k hk => World.putObj_heap_other hk; have b8 : Blk (W7.putObj (w.heap.size + 2) (.deferred none)) w.heap.size 128 R := (ho _ (by omega)).trans b7; exact ⟨.agg R, results_cell_row rfl _ _ w.heap.size _ _ (0, 0) _ rfl b8 Try.underlying128 rfl (by rw [hsR'.out]; exact infoO), rfl, hb7.trans ⟨rfl, rfl, rfl, by simp, fun k hk => ho k (by omega)⟩⟩
end Go.Proofs.Ytpjopeojeglogaa
