/- Chapter 5: the program's way over a block (an iterator), and all places in order. -/
import Derived.Test.YtpjopeojeglogaaCc13
import Derived.Test.YtpjopeojeglogaaCc09
namespace Tt
open Go Go.RowKit
set_option linter.unusedSimpArgs false
section
variable {F : Fence} {n' : Nat} {P : Program} {ops : Array Oper} {rest : List Oper} {o : Oper} {a : Act} {w : World} {Q : Exit → Act → World → Prop}
theorem wpListIn_load_at (hgd : o.guard = none) (ty : TypeId) (x : Operand) (ho : o.op = .load ty x) (g f : Nat) (hx : a.eval x = .pointer (some ⟨g, f, none⟩)) (cs : List Value) (A : Array Value) (hA : cs.toArray = A) (d : TypeDesc) (hc : ∀ j v, cs[j]? = some v → w.cell? ⟨g, f + j, none⟩ = some v)
    (hu : P.underlying ty = some d) (hd : isAggD d = true) (z : Nat) (hi : (P.info? ty).map (·.size) = some z) (hz : cs.length = z) (h : wpListIn F n' P ops Q rest (a.put o.dst (.agg A)) w) : wpListIn F n' P ops Q (o :: rest) a w := by
  refine wpListIn_plain hgd fun K hK => ?_; unfold Oper.wpIn; refine ⟨?_, ?_⟩
  · simp [Oper.about, ho, Target.leads, Sem.run_pure]
  · rw [Oper.semAt_plain F _ _ (by rw [ho]; intro c hc'; cases hc')]
    unfold execOp; simp only [ho, hx, Instr.loadAt, Instr.sureAddr, Sem.run_bind, Sem.run_pure, Result.andThen_ok, run_loadVar_at w g f ty cs d hc hu hd (by rw [hz]; exact hi), hA]; exact hK _ _ h
theorem wpListIn_store_row (hgd : o.guard = none) (ty : TypeId) (x y : Operand) (ho : o.op = .store ty x y)
    (g : Nat) (cells : Array Value) (hx : a.eval x = .pointer (some ⟨g, 0, none⟩)) (hy : a.eval y = .agg cells)
    (t : TypeId) (old : Array Value) (hg : w.heap[g]? = some (.cells old t (0, 0))) (hi : (P.info? ty).map (·.size) = some cells.size)
    (hold : old.size = cells.size) (h1 : cells.all (·.oneCell') = true)
    (h : wpListIn F n' P ops Q rest (a.put o.dst undef) (w.setRow g cells)) : wpListIn F n' P ops Q (o :: rest) a w := by
  refine wpListIn_plain hgd fun K hK => ?_; unfold Oper.wpIn; refine ⟨?_, ?_⟩
  · simp [Oper.about, ho, Target.leads, Sem.run_pure]
  · rw [Oper.semAt_plain F _ _ (by rw [ho]; intro c hc'; cases hc')]
    unfold execOp; simp only [ho, hx, hy, Instr.storeAt, Instr.sureAddr, Sem.run_bind, Sem.run_pure, Result.andThen_ok, run_storeVar_row w g t ty old cells hg hi hold h1]; exact hK _ _ h
end
end Tt
namespace Go.Proofs.Ytpjopeojeglogaa
open Go.RowKit Tt
set_option linter.unusedVariables false
set_option linter.unusedSimpArgs false
attribute [local go_sem] Oper.semAt_some

def zzN : List Int := zzL.map fun x : Nat => (x : Int)
/-- the first n places in order -/
def ordS (n : Nat) : List Int := gath (List.range 64) zzN n
theorem ordS_step {n : Nat} (hn : n < 64) : (ordS n).set n (zzN.getD n 0) = ordS (n + 1) := by
  have h := gath_step (List.range 64) zzN hn; have e : (List.range 64).getD n 0 = n := by rw [List.getD_eq_getElem?_getD, List.getElem?_range hn]; rfl
  rw [e] at h; exact h
theorem ordS_all : ordS 64 = zzN := by decide +kernel
theorem ordS_zero : ordS 0 = List.replicate 64 0 := (zeros64 _ _).1
def lowD (s : Nat) : Nat := s - 7
def highD (s : Nat) : Nat := min s 7
def baseD : Nat → Nat
  | 0 => 0
  | s + 1 => baseD s + (highD s + 1 - lowD s)
theorem diag : ∀ s, s < 15 → ∀ k, k < 8 → lowD s ≤ k → k ≤ highD s → baseD s + (k - lowD s) < 64 ∧ zzN.getD (baseD s + (k - lowD s)) 0 = 8 * (if s % 2 = 0 then (s : Int) - k else k) + s - (if s % 2 = 0 then (s : Int) - k else k) := by decide +kernel
theorem base64 : baseD 15 = 64 := rfl

/-- What lies in memory when n places have been told (N: the first block of order's own). -/
structure Zs (w : World) (N : Nat) (l : Loop) (n : Nat) (W : World) : Prop where
  below : Below N w W
  ao : B64 W N 128 (ordS n)
  no : W.heap[N + 1]? = some (.cells #[.int .i64 n] 3)
  bd : W.heap[N + 2]? = some (.deferred (some []))
  bl : W.heap[N + 3]? = some (.loop l)
set_option maxRecDepth 100000 in
set_option maxHeartbeats 1000000 in
theorem way1_in (w : World) (N : Nat) (l : Loop)
    (hround : ∀ n x W, n < 64 → zzN.getD n 0 = x → Zs w N l n W → YieldAt Fence.wide 8 Try.prog (N + 3) #[.int .i64 x] W fun e W' => e = .returned (.bool true) ∧ Zs w N l (n + 1) W')
    (W : World) (h0 : Zs w N l 0 W) :
    CallsIn Fence.wide 9 Try.prog 229 #[.func (.yield (N + 3)) #[] #[]] W fun e W' => (∃ v, e = .returned v) ∧ Zs w N l 64 W' := by
  have hround' := Lib.hid hround; have h0' := Lib.hid h0; clear hround h0; refine callsIn_of_wp Try.func229 rfl trivial ?_ rfl; simp only [Try.ntmps229, List.size_toArray, List.length_cons, List.length_nil, Nat.reduceAdd, Nat.reduceSub, Array.replicate_succ, Array.replicate_zero, List.push_toArray, List.append_toArray, List.nil_append, List.cons_append]
  gi_wp2
  gi_loopw [2, 3, 4, 5, 6, 7] (fun _ _ _ _ _ sv wr => ∃ s : Nat, s ≤ 15 ∧ sv = .int .i64 s ∧ Hid (Zs w N l (baseD s) wr)) (fun _ _ _ _ _ sv _ => 15 - (intOf sv).toNat)
  case atStart => exact ⟨0, by omega, rfl, h0'⟩
  case round =>
    obtain ⟨s, hs, rfl, hz⟩ := hrel
    by_cases hlt : s < 15
    · by_cases c7 : s ≤ 7
      case pos =>
        have hlo : lowD s = 0 := by unfold lowD; omega
        have hhi : highD s = s := by unfold highD; omega
        have hd := diag s hlt; rw [hlo, hhi] at hd; have hbn : baseD (s + 1) = baseD s + (s + 1 - 0) := by show baseD s + (highD s + 1 - lowD s) = _; rw [hlo, hhi]
        have h15 : decide ((s : Int) < 15) = true := by simp; omega
        have hd' := Lib.hid hd; have hbn' := Lib.hid hbn; have hlo' := Lib.hid hlo; have hhi' := Lib.hid hhi; clear hd hbn hlo hhi
        gi_wp2
        gi_loopw [5, 6] (fun kv _ wr => ∃ k : Nat, 0 ≤ k ∧ k ≤ s + 1 ∧ kv = .int .i64 k ∧ Hid (Zs w N l (baseD s + (k - 0)) wr)) (fun kv _ _ => s + 1 - (intOf kv).toNat)
        case atStart => exact ⟨0, Nat.le_refl _, by omega, by first | rfl | (congr 1; omega), by rw [Nat.sub_self, Nat.add_zero]; exact hz⟩
        case round =>
          obtain ⟨k, hk1, hk2, rfl, hz⟩ := hrel
          by_cases hkl : k ≤ s
          · obtain ⟨q1, q2⟩ := hd'.out k (by omega) hk1 hkl
            obtain ⟨fn, tmps, assign, body, hy, hR⟩ := hround'.out _ _ wr q1 q2 hz.out; have hnx : baseD s + (k - 0) + 1 = baseD s + (k + 1 - 0) := by omega
            rw [hnx] at hR
            by_cases hp : s % 2 = 0
            · rw [if_pos hp] at hy
              have hpb : ((s : Int) % 2 == 0) = true := by simp; omega
              have hR' := Lib.hid hR; have hnx' := Lib.hid hnx; have q1' := Lib.hid q1; have q2' := Lib.hid q2; clear hR hnx q1 q2; clear hp
              gi_wp2
              refine hR'.out.mono ?_; rintro e W3 ⟨rfl, hz4⟩; have hz4' := Lib.hid hz4; clear hz4
              gi_wp2
              go_roundw
              case rel => exact ⟨k + 1, by omega, by omega, by go_num, hz4'⟩
              case measure => simp [intOf]; omega
            · rw [if_neg hp] at hy
              have hpb : ((s : Int) % 2 == 0) = false := by simp; omega
              have hR' := Lib.hid hR; have hnx' := Lib.hid hnx; have q1' := Lib.hid q1; have q2' := Lib.hid q2; clear hR hnx q1 q2; clear hp
              gi_wp2
              refine hR'.out.mono ?_; rintro e W3 ⟨rfl, hz4⟩; have hz4' := Lib.hid hz4; clear hz4
              gi_wp2
              go_roundw
              case rel => exact ⟨k + 1, by omega, by omega, by go_num, hz4'⟩
              case measure => simp [intOf]; omega
          · have hz5 := hz.out
            rw [show k - 0 = s + 1 - 0 by omega, ← hbn'.out] at hz5; have hz5' := Lib.hid hz5; clear hz5
            gi_wp2
            go_roundw
            case rel => exact ⟨s + 1, by omega, by go_num, hz5'⟩
            case measure => simp [intOf]; omega
      case neg =>
        have hlo : lowD s = (s - 7) := by unfold lowD; omega
        have hhi : highD s = 7 := by unfold highD; omega
        have hd := diag s hlt; rw [hlo, hhi] at hd; have hbn : baseD (s + 1) = baseD s + (7 + 1 - (s - 7)) := by show baseD s + (highD s + 1 - lowD s) = _; rw [hlo, hhi]
        have h15 : decide ((s : Int) < 15) = true := by simp; omega
        have hd' := Lib.hid hd; have hbn' := Lib.hid hbn; have hlo' := Lib.hid hlo; have hhi' := Lib.hid hhi; clear hd hbn hlo hhi
        gi_wp2
        gi_loopw [5, 6] (fun kv _ wr => ∃ k : Nat, (s - 7) ≤ k ∧ k ≤ 7 + 1 ∧ kv = .int .i64 k ∧ Hid (Zs w N l (baseD s + (k - (s - 7))) wr)) (fun kv _ _ => 7 + 1 - (intOf kv).toNat)
        case atStart => exact ⟨(s - 7), Nat.le_refl _, by omega, by first | rfl | (congr 1; omega), by rw [Nat.sub_self, Nat.add_zero]; exact hz⟩
        case round =>
          obtain ⟨k, hk1, hk2, rfl, hz⟩ := hrel
          by_cases hkl : k ≤ 7
          · obtain ⟨q1, q2⟩ := hd'.out k (by omega) hk1 hkl
            obtain ⟨fn, tmps, assign, body, hy, hR⟩ := hround'.out _ _ wr q1 q2 hz.out; have hnx : baseD s + (k - (s - 7)) + 1 = baseD s + (k + 1 - (s - 7)) := by omega
            rw [hnx] at hR
            by_cases hp : s % 2 = 0
            · rw [if_pos hp] at hy
              have hpb : ((s : Int) % 2 == 0) = true := by simp; omega
              have hR' := Lib.hid hR; have hnx' := Lib.hid hnx; have q1' := Lib.hid q1; have q2' := Lib.hid q2; clear hR hnx q1 q2; clear hp
              gi_wp2
              refine hR'.out.mono ?_; rintro e W3 ⟨rfl, hz4⟩; have hz4' := Lib.hid hz4; clear hz4
              gi_wp2
              go_roundw
              case rel => exact ⟨k + 1, by omega, by omega, by go_num, hz4'⟩
              case measure => simp [intOf]; omega
            · rw [if_neg hp] at hy
              have hpb : ((s : Int) % 2 == 0) = false := by simp; omega
              have hR' := Lib.hid hR; have hnx' := Lib.hid hnx; have q1' := Lib.hid q1; have q2' := Lib.hid q2; clear hR hnx q1 q2; clear hp
              gi_wp2
              refine hR'.out.mono ?_; rintro e W3 ⟨rfl, hz4⟩; have hz4' := Lib.hid hz4; clear hz4
              gi_wp2
              go_roundw
              case rel => exact ⟨k + 1, by omega, by omega, by go_num, hz4'⟩
              case measure => simp [intOf]; omega
          · have hz5 := hz.out
            rw [show k - (s - 7) = 7 + 1 - (s - 7) by omega, ← hbn'.out] at hz5; have hz5' := Lib.hid hz5; clear hz5
            gi_wp2
            go_roundw
            case rel => exact ⟨s + 1, by omega, by go_num, hz5'⟩
            case measure => simp [intOf]; omega
    · gi_wp2
      go_end0
      have hs15 : s = 15 := by omega
      have hz2 := hz.out; rw [hs15, base64] at hz2; exact ⟨⟨_, rfl⟩, hz2⟩
end Go.Proofs.Ytpjopeojeglogaa
