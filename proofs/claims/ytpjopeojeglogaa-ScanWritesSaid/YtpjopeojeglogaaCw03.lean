/- Arrays as values, of whatever program: an element, a field that is an array, a load out of a row, a store. | Chapter 5: the zigzag: the document's Before, Place; what the copies are step by step (plain). | Boxes: a few blocks laid one behind the other: of whatever program. | Chapter 5: the document's To, From. -/
import Derived.Shelf.Abstract
import Derived.ChangeKeysEq
import Derived.Test.YtpjopeojeglogaaCw00
import Derived.Test.YtpjopeojeglogaaCw01
import Derived.Test.YtpjopeojeglogaaCw02
namespace Tt
open Go Go.RowKit
set_option linter.unusedVariables false
set_option linter.unusedSimpArgs false

def isAggD (d : TypeDesc) : Bool := match d with | .struct _ | .array _ _ => true | _ => false
theorem run_isAgg_agg {P : Program} {t : TypeId} {d : TypeDesc} (h : P.underlying t = some d) (hd : isAggD d = true) (w : World) : (isAgg t).run P w = .ok true w := by
  cases d <;> first | (exfalso; exact Bool.false_ne_true hd) | simp [isAgg, run_underlying h]
theorem run_sizeOf {P : Program} {t : TypeId} {n : Nat} (h : (P.info? t).map (·.size) = some n) (w : World) : (Go.sizeOf t).run P w = .ok n w := by
  cases hq : P.info? t with
  | none => simp [hq] at h
  | some i =>
    have : i.size = n := by simpa [hq] using h
    simp [Go.sizeOf, typeInfo, hq, this]
/-- an element, of one cell, of an array's value -/
theorem run_index_arr {P : Program} (t e : TypeId) (n : Nat) (l : List Int) (k : IntKind) (i : Nat) (x : Int) (hu : P.underlying t = some (.array n e)) (he : P.underlying e = some (.int k)) (hi : (P.info? e).map (·.size) = some 1) (hx : l[i]? = some x) (h : i < n) (w : World) :
    (Instr.index t (.agg (ints k l).toArray) (.int .i64 i)).run P w = .ok (.int k x) w := by
  have h1 := run_sizeOf hi w; have h2 : (isAgg e).run P w = .ok false w := Go.Proofs.run_isAgg_plain he rfl w; have h3 : (ints k l)[i]? = some (.int k x) := by simp [ints, hx]
  simp [Instr.index, run_underlying hu, asIntOf, h1, part, h2, h3, h, go_sem]
/-- a whole variable, from some cell on -/
theorem run_loadVar_at {P : Program} (w : World) (g o : Nat) (ty : TypeId) (cs : List Value) (d : TypeDesc) (hc : ∀ j v, cs[j]? = some v → w.cell? ⟨g, o + j, none⟩ = some v)
    (hu : P.underlying ty = some d) (hd : isAggD d = true) (hi : (P.info? ty).map (·.size) = some cs.length) : (loadVar ty ⟨g, o, none⟩).run P w = .ok (.agg cs.toArray) w := by
  have hl : (loadCells ⟨g, o, none⟩ cs.length).run P w = .ok cs.toArray w := run_loadCells_list (P := P) w ⟨g, o, none⟩ cs (fun j v hv => by rw [Addr.add_lit]; exact hc j v hv); have h1 := run_sizeOf hi w; have h2 : (isAgg ty).run P w = .ok true w := run_isAgg_agg hu hd w
  simp [loadVar, Sem.run_bind, h1, h2, hl]
section
variable {P : Program} {ops : Array Oper} {rest : List Oper} {o : Oper} {a : Act} {w : World} {Q : Exit → Act → World → Prop}
theorem wpList_load_at (hgd : o.guard = none) (ty : TypeId) (x : Operand) (ho : o.op = .load ty x) (g f : Nat) (hx : a.eval x = .pointer (some ⟨g, f, none⟩)) (cs : List Value) (A : Array Value) (hA : cs.toArray = A) (d : TypeDesc) (hc : ∀ j v, cs[j]? = some v → w.cell? ⟨g, f + j, none⟩ = some v)
    (hu : P.underlying ty = some d) (hd : isAggD d = true) (z : Nat) (hi : (P.info? ty).map (·.size) = some z) (hz : cs.length = z) (h : wpList P ops Q rest (a.put o.dst (.agg A)) w) : wpList P ops Q (o :: rest) a w := by
  refine wpList_plain hgd fun K hK => ?_; unfold Oper.wp execOp; simp only [ho, hx, Instr.loadAt, Instr.sureAddr, Sem.run_bind, Sem.run_pure, Result.andThen_ok, run_loadVar_at w g f ty cs d hc hu hd (by rw [hz]; exact hi), hA]; exact hK _ _ h
end
/-- the i-th element of a row of elements of z cells -/
theorem Sl.elem {w : World} {a : Option Addr} {n c z : Nat} {cs : List Value} (h : Sl w a n c z cs) {i : Nat} (hi : i < n) :
    ∃ b o, a = some ⟨b, o, none⟩ ∧ b < w.heap.size ∧ ((cs.drop (i * z)).take z).length = z ∧ ∀ j v, ((cs.drop (i * z)).take z)[j]? = some v → w.cell? ⟨b, o + i * z + j, none⟩ = some v := by
  obtain ⟨b, o, rfl, hb, hc⟩ := h.at hi; refine ⟨b, o, rfl, hb, ?_, fun j v hj => ?_⟩
  · rw [List.length_take, List.length_drop, h.len]
    have : (i + 1) * z ≤ n * z := Nat.mul_le_mul_right _ hi; rw [Nat.add_mul] at this
    omega
  · rw [List.getElem?_take] at hj
    split at hj
    · rw [List.getElem?_drop] at hj
      rw [Nat.add_assoc]; exact hc _ v hj
    · cases hj
theorem rowBelow {B : Nat} {w w' : World} (h : Below B w w') {g : Nat} (hg : B ≤ g) (cs : Array Value) : Below B w (w'.setRow g cs) :=
  ⟨h.os, h.tape, h.output, by rw [show (w'.setRow g cs).heap.size = w'.heap.size by simp [World.setRow]]; exact h.size, fun k hk => by rw [setRow_other _ _ _ _ (by omega)]; exact h.block k hk⟩
/-- worlds of which a fact holds -/
theorem pr_worlds (C : World → Prop) (w : World) (h : C w) : ∃ (S : Type) (f : S → World), Nonempty S ∧ (∀ s, C (f s)) ∧ ∀ W, C W → ∃ s, W = f s :=
  ⟨{W : World // C W}, Subtype.val, ⟨⟨w, h⟩⟩, fun s => s.2, fun W h => ⟨⟨W, h⟩, rfl⟩⟩
/-- rows of elements of one length, laid flat -/
theorem flat_elem {α β : Type} (f : α → List β) (z : Nat) : ∀ (l : List α), (∀ x ∈ l, (f x).length = z) → ∀ (i : Nat) (x : α), l[i]? = some x → (((l.map f).flatten).drop (i * z)).take z = f x
  | [], _, i, x, h => by simp at h
  | y :: l, hl, 0, x, h => by
    obtain rfl : y = x := by simpa using h
    have hy := hl y (List.mem_cons_self ..); simp only [List.map_cons, List.flatten_cons, Nat.zero_mul, List.drop_zero]; rw [List.take_append_of_le_length (by omega), List.take_of_length_le (by omega)]
  | y :: l, hl, i + 1, x, h => by
    have hy := hl y (List.mem_cons_self ..); simp only [List.map_cons, List.flatten_cons]; rw [show (i + 1) * z = (f y).length + i * z by rw [hy, Nat.add_mul, Nat.one_mul, Nat.add_comm], List.drop_append, List.drop_of_length_le (by omega), Nat.add_sub_cancel_left, List.nil_append]; exact flat_elem f z l (fun x hx => hl x (List.mem_cons_of_mem _ hx)) i x (by simpa using h)
theorem flat_len {α β : Type} (f : α → List β) (z : Nat) : ∀ (l : List α), (∀ x ∈ l, (f x).length = z) → ((l.map f).flatten).length = l.length * z
  | [], _ => by simp
  | y :: l, hl => by
    simp only [List.map_cons, List.flatten_cons, List.length_append, List.length_cons]; rw [flat_len f z l (fun x hx => hl x (List.mem_cons_of_mem _ hx)), hl y (List.mem_cons_self ..), Nat.add_mul, Nat.one_mul, Nat.add_comm]
end Tt
namespace Tt
open Go Go.RowKit
section
variable {P : Program} {ops : Array Oper} {rest : List Oper} {o : Oper} {a : Act} {w : World} {Q : Exit → Act → World → Prop}
/-- the same where the operation is guarded, and wanted -/
theorem wpList_load_atW (hw : Region.wanted o (yielded ops a.tmps) = true) (ty : TypeId) (x : Operand) (ho : o.op = .load ty x) (g f : Nat) (hx : a.eval x = .pointer (some ⟨g, f, none⟩)) (cs : List Value) (A : Array Value) (hA : cs.toArray = A) (d : TypeDesc) (hc : ∀ j v, cs[j]? = some v → w.cell? ⟨g, f + j, none⟩ = some v)
    (hu : P.underlying ty = some d) (hd : isAggD d = true) (z : Nat) (hi : (P.info? ty).map (·.size) = some z) (hz : cs.length = z) (h : wpList P ops Q rest (a.put o.dst (.agg A)) w) : wpList P ops Q (o :: rest) a w := by
  refine wpList_want hw fun K hK => ?_; unfold Oper.wp execOp; simp only [ho, hx, Instr.loadAt, Instr.sureAddr, Sem.run_bind, Sem.run_pure, Result.andThen_ok, run_loadVar_at w g f ty cs d hc hu hd (by rw [hz]; exact hi), hA]; exact hK _ _ h
end
end Tt
namespace Tt
open Go Go.RowKit
/-- a new variable, stored whole -/
theorem setRow_alloc (w : World) (z cs : Array Value) (T : TypeId) : (w.alloc (.cells z T)).setRow w.heap.size cs = w.alloc (.cells cs T) := by
  unfold World.setRow World.alloc
  congr 1
  apply Array.ext_getElem?
  intro k; rw [Array.getElem?_modify]
  by_cases hk : w.heap.size = k
  · subst hk
    simp
  · have hk' : k ≠ w.heap.size := fun e => hk e.symm
    simp [hk, hk', Array.getElem?_push]
end Tt

namespace Go.Proofs.Ytpjopeojeglogaa
open Go.RowKit Tt
set_option linter.unusedVariables false
set_option linter.unusedSimpArgs false

def befP (a b : Int) : Bool := if a / 8 + a % 8 ≠ b / 8 + b % 8 then decide (a / 8 + a % 8 < b / 8 + b % 8) else if (a / 8 + a % 8) % 2 = 1 then decide (a / 8 < b / 8) else decide (b / 8 < a / 8)
def cntP (a : Nat) : Nat → Nat
  | 0 => 0
  | k + 1 => cntP a k + if befP k a then 1 else 0
theorem cntP_zz : ∀ a, a < 64 → cntP a 64 = zzI.getD a 0 := by decide +kernel
set_option maxHeartbeats 1000000 in
theorem rbef_any (a b : Nat) (w : World) (ha : a < 64) (hb : b < 64) : Calls Try.prog 190 #[.int .i64 a, .int .i64 b] w fun e w' => e = .returned (.bool (befP a b)) ∧ w = w' := by
  obtain ⟨r, hr⟩ : ∃ r, befP a b = r := ⟨_, rfl⟩; rw [hr]; unfold befP at hr; have h1 : (0 : Int) ≤ a := by omega
  have h2 : (0 : Int) ≤ b := by omega
  have h3 : (a : Int) < 64 := by omega
  have h4 : (b : Int) < 64 := by omega
  generalize (a : Int) = x at *
  generalize (b : Int) = y at *
  by_cases c1 : x / 8 + x % 8 = y / 8 + y % 8
  · rw [if_neg (by simp [c1])] at hr
    have c1b : (x / 8 + x % 8 == y / 8 + y % 8) = true := by simp [c1]
    have c1c : (x / 8 + x % 8 != y / 8 + y % 8) = false := by simp [c1]
    clear c1
    by_cases c2 : (x / 8 + x % 8) % 2 = 1
    · rw [if_pos c2] at hr
      have c2b : ((x / 8 + x % 8) % 2 == 1) = true := by simp [c2]
      clear c2; have hr' := Lib.hid hr; clear hr
      go_enter Try.func190, Try.ntmps190
      go_wp2
      go_ret
      exact ⟨by rw [← hr'.out]; rfl, rfl⟩
    · rw [if_neg c2] at hr
      have c2b : ((x / 8 + x % 8) % 2 == 1) = false := by simpa using c2
      clear c2; have hr' := Lib.hid hr; clear hr
      go_enter Try.func190, Try.ntmps190
      go_wp2
      go_ret
      exact ⟨by rw [← hr'.out]; rfl, rfl⟩
  · rw [if_pos c1] at hr
    have c1b : (x / 8 + x % 8 == y / 8 + y % 8) = false := by simpa using c1
    have c1c : (x / 8 + x % 8 != y / 8 + y % 8) = true := by simpa using c1
    clear c1; have hr' := Lib.hid hr; clear hr
    go_enter Try.func190, Try.ntmps190
    go_wp2
    go_ret
    exact ⟨by rw [← hr'.out]; rfl, rfl⟩
set_option maxHeartbeats 1000000 in
theorem rplace_any (a : Nat) (w : World) (ha : a < 64) : Calls Try.prog 158 #[.int .i64 a] w fun e w' => e = .returned (.int .i64 ((zzI.getD a 0 : Nat) : Int)) ∧ w = w' := by
  have hz := cntP_zz a ha; rw [← hz]; have hB := fun (k : Nat) (hk : k < 64) => rbef_any k a w hk ha; have hB' := Lib.hid hB; have hz' := Lib.hid hz; clear hB hz
  go_enter Try.func158, Try.ntmps158
  go_wp2
  go_loop [3, 4] (fun nv iv => ∃ k q : Nat, k ≤ 64 ∧ q ≤ k ∧ iv = .int .i64 k ∧ nv = .int .i64 q ∧ Hid (q = cntP a k)) (fun _ iv => 64 - (intOf iv).toNat)
  case atStart => exact ⟨0, 0, by omega, by omega, rfl, rfl, Lib.hid rfl⟩
  case round =>
    obtain ⟨k, q, hk, hqk, rfl, rfl, hq⟩ := hrel
    by_cases hlt : k < 64
    · have H := hB'.out k hlt
      have hs : cntP a (k + 1) = cntP a k + if befP k a then 1 else 0 := rfl; rw [← hq.out] at hs
      cases hb : befP k a
      · rw [hb] at H hs
        have hs' : q = cntP a (k + 1) := by rw [hs]; rfl
        have H' := Lib.hid H; have hs'' := Lib.hid hs'; have hb' := Lib.hid hb; clear H hs' hb; clear hs
        go_wp2_with (go_at_call 190; refine (H'.out).mono ?_; rintro e w' ⟨rfl, rfl⟩)
        go_round
        case rel => exact ⟨k + 1, q, by omega, by omega, by go_num, rfl, hs''⟩
        case measure => simp [intOf]; omega
      · rw [hb] at H hs
        have hs' : q + 1 = cntP a (k + 1) := by rw [hs]; rfl
        have H' := Lib.hid H; have hs'' := Lib.hid hs'; have hb' := Lib.hid hb; clear H hs' hb; clear hs
        go_wp2_with (go_at_call 190; refine (H'.out).mono ?_; rintro e w' ⟨rfl, rfl⟩)
        go_round
        case rel => exact ⟨k + 1, q + 1, by omega, by omega, by go_num, by go_num, hs''⟩
        case measure => simp [intOf]; omega
    · have hk64 : k = 64 := by omega
      have hq' := hq.out; rw [hk64] at hq'; have hk64' := Lib.hid hk64; have hq'' := Lib.hid hq'; clear hk64 hq'
      go_wp2
      go_ret
      exact ⟨by rw [← hq''.out]; rfl, rfl⟩

/-- a copy by places, and one to places, when n numbers have been copied -/
def gath (p : List Nat) (t : List Int) (n : Nat) : List Int := (List.range 64).map fun j => if j < n then t.getD (p.getD j 0) 0 else 0
def scat (p : List Nat) (t : List Int) (n : Nat) : List Int := (List.range 64).map fun j => if p.getD j 0 < n then t.getD (p.getD j 0) 0 else 0
theorem gath_len (p : List Nat) (t : List Int) (n : Nat) : (gath p t n).length = 64 := by simp [gath]
theorem scat_len (p : List Nat) (t : List Int) (n : Nat) : (scat p t n).length = 64 := by simp [scat]
theorem gath_get (p : List Nat) (t : List Int) (n : Nat) {j : Nat} (hj : j < 64) : (gath p t n).getD j 0 = if j < n then t.getD (p.getD j 0) 0 else 0 := by
  unfold gath; rw [List.getD_eq_getElem?_getD, List.getElem?_map, List.getElem?_range hj]
  rfl
theorem scat_get (p : List Nat) (t : List Int) (n : Nat) {j : Nat} (hj : j < 64) : (scat p t n).getD j 0 = if p.getD j 0 < n then t.getD (p.getD j 0) 0 else 0 := by
  unfold scat; rw [List.getD_eq_getElem?_getD, List.getElem?_map, List.getElem?_range hj]
  rfl
theorem set_get {l : List Int} {i j : Nat} (hi : i < l.length) (x : Int) : (l.set i x).getD j 0 = if j = i then x else l.getD j 0 := by
  rw [List.getD_eq_getElem?_getD, List.getElem?_set, List.getD_eq_getElem?_getD]
  by_cases h : i = j
  · subst h; simp [hi]
  · simp [h, Ne.symm h]
theorem zeros64 (p : List Nat) (t : List Int) : gath p t 0 = List.replicate 64 0 ∧ scat p t 0 = List.replicate 64 0 := by
  constructor
  · refine ext64 (gath_len _ _ _) (by simp) fun i hi => ?_
    rw [gath_get _ _ _ hi, if_neg (by omega), List.getD_eq_getElem?_getD, List.getElem?_replicate, if_pos hi]; rfl
  · refine ext64 (scat_len _ _ _) (by simp) fun i hi => ?_
    rw [scat_get _ _ _ hi, if_neg (by omega), List.getD_eq_getElem?_getD, List.getElem?_replicate, if_pos hi]; rfl
theorem gath_step (p : List Nat) (t : List Int) {n : Nat} (hn : n < 64) : (gath p t n).set n (t.getD (p.getD n 0) 0) = gath p t (n + 1) := by
  refine ext64 (by rw [List.length_set, gath_len]) (gath_len _ _ _) fun i hi => ?_; rw [set_get (by rw [gath_len]; exact hn), gath_get _ _ _ hi, gath_get _ _ _ hi]
  by_cases h : i = n
  · subst h; rw [if_pos rfl, if_pos (by omega)]
  · rw [if_neg h]
    by_cases h2 : i < n
    · rw [if_pos h2, if_pos (by omega)]
    · rw [if_neg h2, if_neg (by omega)]
theorem scat_step (p q : List Nat) (t : List Int) {n : Nat} (hn : n < 64) (hq : q.getD n 0 < 64) (h1 : p.getD (q.getD n 0) 0 = n) (h2 : ∀ i, i < 64 → q.getD (p.getD i 0) 0 = i) : (scat p t n).set (q.getD n 0) (t.getD n 0) = scat p t (n + 1) := by
  refine ext64 (by rw [List.length_set, scat_len]) (scat_len _ _ _) fun i hi => ?_; rw [set_get (by rw [scat_len]; exact hq), scat_get _ _ _ hi, scat_get _ _ _ hi]
  by_cases h : i = q.getD n 0
  · rw [if_pos h, h, h1, if_pos (by omega)]
  · have hne : p.getD i 0 ≠ n := fun e => h (by rw [← h2 i hi, e])
    rw [if_neg h]
    by_cases h3 : p.getD i 0 < n
    · rw [if_pos h3, if_pos (by omega)]
    · rw [if_neg h3, if_neg (by omega)]
theorem gath_toZ (t : List Int) : gath zzL t 64 = toZ t := ext64 (gath_len _ _ _) (toZ_len _) fun i hi => by rw [gath_get _ _ _ hi, toZ_get _ hi, if_pos hi]
theorem scat_toZ (t : List Int) : scat zzL t 64 = toZ t := ext64 (scat_len _ _ _) (toZ_len _) fun i hi => by rw [scat_get _ _ _ hi, toZ_get _ hi, if_pos (zz_lt i hi).1]
end Go.Proofs.Ytpjopeojeglogaa

namespace Tt
open Go Go.RowKit
theorem three_boxes (w : World) (T : TypeId) (a : Array Value) (U : TypeId) (b : Array Value) (V : TypeId) (c : Array Value) : ∃ WC, ((w.alloc (.cells a T)).alloc (.cells b U)).alloc (.cells c V) = WC ∧ Blk WC w.heap.size T a ∧ Blk WC (w.heap.size + 1) U b ∧ Blk WC (w.heap.size + 2) V c ∧ Below w.heap.size w WC ∧ WC.heap.size = w.heap.size + 3 := by
  have hA := Blk.new w T a; have hB := Blk.new (w.alloc (.cells a T)) U b; have hC := Blk.new ((w.alloc (.cells a T)).alloc (.cells b U)) V c; rw [show (w.alloc (.cells a T)).heap.size = w.heap.size + 1 by simp] at hB; rw [show ((w.alloc (.cells a T)).alloc (.cells b U)).heap.size = w.heap.size + 2 by simp] at hC; exact ⟨_, rfl, (hA.alloc _).alloc _, hB.alloc _, hC, (((Below.refl w.heap.size w).alloc (Nat.le_refl _) _).alloc (by simp) _).alloc (by simp <;> omega) _, by simp⟩
theorem two_boxes (w : World) (T : TypeId) (a : Array Value) (U : TypeId) (b : Array Value) : ∃ WC, (w.alloc (.cells a T)).alloc (.cells b U) = WC ∧ Blk WC w.heap.size T a ∧ Blk WC (w.heap.size + 1) U b ∧ Below w.heap.size w WC ∧ WC.heap.size = w.heap.size + 2 := by
  have hA := Blk.new w T a; have hB := Blk.new (w.alloc (.cells a T)) U b; rw [show (w.alloc (.cells a T)).heap.size = w.heap.size + 1 by simp] at hB; exact ⟨_, rfl, hA.alloc _, hB, ((Below.refl w.heap.size w).alloc (Nat.le_refl _) _).alloc (by simp) _, by simp⟩
end Tt

namespace Go.Proofs.Ytpjopeojeglogaa
open Go.RowKit Tt
set_option linter.unusedVariables false
set_option linter.unusedSimpArgs false
def z64 : Array Value := #[.int .i64 0, .int .i64 0, .int .i64 0, .int .i64 0, .int .i64 0, .int .i64 0, .int .i64 0, .int .i64 0, .int .i64 0, .int .i64 0, .int .i64 0, .int .i64 0, .int .i64 0, .int .i64 0, .int .i64 0, .int .i64 0, .int .i64 0, .int .i64 0, .int .i64 0, .int .i64 0, .int .i64 0, .int .i64 0, .int .i64 0, .int .i64 0, .int .i64 0, .int .i64 0, .int .i64 0, .int .i64 0, .int .i64 0, .int .i64 0, .int .i64 0, .int .i64 0, .int .i64 0, .int .i64 0, .int .i64 0, .int .i64 0, .int .i64 0, .int .i64 0, .int .i64 0, .int .i64 0, .int .i64 0, .int .i64 0, .int .i64 0, .int .i64 0, .int .i64 0, .int .i64 0, .int .i64 0, .int .i64 0, .int .i64 0, .int .i64 0, .int .i64 0, .int .i64 0, .int .i64 0, .int .i64 0, .int .i64 0, .int .i64 0, .int .i64 0, .int .i64 0, .int .i64 0, .int .i64 0, .int .i64 0, .int .i64 0, .int .i64 0, .int .i64 0]
theorem z64_eq : z64 = (ints .i64 (List.replicate 64 0)).toArray := rfl
/-- a block of 64 numbers -/
def B64 (w : World) (g : Nat) (T : TypeId) (l : List Int) : Prop := l.length = 64 ∧ Blk w g T (ints .i64 l).toArray
theorem B64.cell {w : World} {g : Nat} {T : TypeId} {l : List Int} (h : B64 w g T l) {i : Nat} (hi : i < 64) : w.cell? ⟨g, i, none⟩ = some (.int .i64 (l.getD i 0)) := h.2.cell (by
  simp only [List.getElem?_toArray]; exact ints_get (by rw [h.1]; exact hi))
theorem B64.frozen {w : World} {g : Nat} {T : TypeId} {l : List Int} (h : B64 w g T l) (i : Nat) : w.frozen? ⟨g, i, none⟩ = false := h.2.frozen i
theorem B64.set {w : World} {g : Nat} {T : TypeId} {l : List Int} (h : B64 w g T l) (i : Nat) (x : Int) : B64 (w.setCell ⟨g, i, none⟩ (.int .i64 x)) g T (l.set i x) := by
  refine ⟨by rw [List.length_set]; exact h.1, ?_⟩; have := h.2.set i (.int .i64 x); rw [List.setIfInBounds_toArray] at this; unfold ints at this ⊢; rw [List.map_set]; exact this
theorem B64.set_other {w : World} {g g' : Nat} {T : TypeId} {l : List Int} (h : B64 w g T l) (hne : g ≠ g') (i : Nat) (v : Value) : B64 (w.setCell ⟨g', i, none⟩ v) g T l := ⟨h.1, h.2.set_other hne i v⟩
theorem B64.late {w w' : World} {g : Nat} {T : TypeId} {l : List Int} (h : B64 w g T l) (hb : Below w.heap.size w w') : B64 w' g T l := ⟨h.1, h.2.late hb⟩
theorem infoA : (Try.prog.info? 129).map (·.size) = some 64 := by kernel_rfl
theorem ints_one' {l : List Int} : (ints .i64 l).toArray.all (·.oneCell') = true := by
  rw [Array.all_eq_true_iff_forall_mem]; intro x hx; exact ints_one x (by simpa using hx)
theorem ints_size {l : List Int} (h : l.length = 64) : (ints .i64 l).toArray.size = 64 := by simp [ints, h]
/-- the result, handed back out of its cell -/
theorem ret64 {fn : Func} {p : Tmp} (h : fn.results = #[.cell p 129]) {tmps : Array Value} {w : World} {g : Nat} {l : List Int} (hp : tmps.getD p undef = .pointer (some ⟨g, 0, none⟩)) (hb : B64 w g 129 l) :
    (results fn tmps).run Try.prog w = .ok (.agg (ints .i64 l).toArray) w :=
  results_cell_row h tmps w g _ _ (0, 0) _ hp hb.2 Try.underlying129 rfl (by rw [ints_size hb.1]; exact infoA)
set_option maxRecDepth 20000 in
set_option maxHeartbeats 1000000 in
theorem rto_any (t : List Int) (A : Array Value) (hA : (ints .i64 t).toArray = A) (w : World) (ht : t.length = 64) : Calls Try.prog 114 #[.agg A] w fun e w' => e = .returned (.agg (ints .i64 (toZ t)).toArray) ∧ Below w.heap.size w w' := by
  obtain ⟨R, hR⟩ : ∃ R, (ints .i64 (toZ t)).toArray = R := ⟨_, rfl⟩; rw [hR]; obtain ⟨W1, hW1, bA, bB, bC, hb1, s1⟩ := three_boxes w 129 A 129 z64 129 z64; have b1 : B64 W1 w.heap.size 129 t := ⟨ht, hA ▸ bA⟩; have b2 : B64 W1 (w.heap.size + 1) 129 (List.replicate 64 0) := ⟨by simp, bB⟩; have b3 : B64 W1 (w.heap.size + 2) 129 (scat zzL t 0) := ⟨scat_len _ _ _, by rw [(zeros64 _ _).2]; exact bC⟩; unfold z64 at hW1; clear bA bB bC; have hA' := Lib.hid hA; have ht' := Lib.hid ht; have hb1' := Lib.hid hb1; have s1' := Lib.hid s1; have b1' := Lib.hid b1; have b2' := Lib.hid b2; have b3' := Lib.hid b3; have hW1' := Lib.hid hW1; have hR' := Lib.hid hR; clear hA ht hb1 s1 b1 b2 b3 hW1 hR
  go_enter Try.func114, Try.ntmps114
  go_upto_region 2 with fail
  rw [hW1'.out]; have e2 : w.heap.size + 1 + 1 = w.heap.size + 2 := rfl; simp only [e2]; clear e2
  go_wp2
  go_loopw [4] (fun iv wr => ∃ k : Nat, k ≤ 64 ∧ iv = .int .i64 k ∧ Hid (B64 wr w.heap.size 129 t) ∧ Hid (B64 wr (w.heap.size + 1) 129 (List.replicate 64 0)) ∧ Hid (B64 wr (w.heap.size + 2) 129 (scat zzL t k)) ∧ Hid (Below w.heap.size w wr)) (fun iv _ => 64 - (intOf iv).toNat)
  case atStart => exact ⟨0, by omega, rfl, b1', b2', b3', hb1'⟩
  case round =>
    obtain ⟨k, hk, rfl, h1, h2, h3, hb⟩ := hrel
    by_cases hlt : k < 64
    · obtain ⟨z1, z2, z3, z4⟩ := zz_lt k hlt
      have HP := fun W => (rplace_any k W hlt).mono fun e w' (h : _ ∧ _) => (⟨h.1, h.2.symm⟩ : _ ∧ w' = W); have hst := scat_step zzL zzI t hlt z2 z4 (fun i hi => (zz_lt i hi).2.2.1); obtain ⟨wD, hwD, d1, d2, d3, d4⟩ : ∃ wD, wr.drew = wD ∧ B64 wD w.heap.size 129 t ∧ B64 wD (w.heap.size + 1) 129 (List.replicate 64 0) ∧ B64 wD (w.heap.size + 2) 129 (scat zzL t k) ∧ Below w.heap.size w wD := ⟨_, rfl, h1.out, h2.out, h3.out, hb.out.drew⟩; have f0 := d1.cell hlt; obtain ⟨x, hx⟩ : ∃ x, t.getD k 0 = x := ⟨_, rfl⟩; rw [hx] at f0 hst
      generalize zzI.getD k 0 = q at *
      have f1 := d3.cell z2; have f2 := d3.frozen q; have n1 := (d1.set_other (g' := w.heap.size + 2) (by omega) q (.int .i64 x)); have n2 := (d2.set_other (g' := w.heap.size + 2) (by omega) q (.int .i64 x)); have n3 := d3.set q x; rw [hst] at n3; have n4 := d4.setCell (p := ⟨w.heap.size + 2, q, none⟩) (by show w.heap.size ≤ w.heap.size + 2; omega) (.int .i64 x)
      generalize (scat zzL t k).getD q 0 = y at f1
      have f4 := n1.cell hlt; rw [hx] at f4; obtain ⟨Ty, ff, hne, q0, hsurj⟩ := pr_worlds (fun W => W.cell? ⟨w.heap.size, k, none⟩ = some (.int .i64 x)) wD f0; have HS := Lib.hid (hsurj _ f0); have HS2 := Lib.hid (hsurj _ f4); clear f4 d1 d2 d3 d4; have HP' := Lib.hid HP; have hst' := Lib.hid hst; have n1' := Lib.hid n1; have n2' := Lib.hid n2; have n3' := Lib.hid n3; have n4' := Lib.hid n4; have z1' := Lib.hid z1; have z3' := Lib.hid z3; have z4' := Lib.hid z4; have hsurj' := Lib.hid hsurj; have hx' := Lib.hid hx; have hwD' := Lib.hid hwD; clear HP hst n1 n2 n3 n4 z1 z3 z4 hsurj hx hwD
      go_wp2_with fail
      refine held_begin (S := fun W => ∃ s, W = ff s) (by kernel_rfl) 7 rfl ?_; rw [hwD'.out]; refine held_take [0, 2, 3, 4] 3 (by kernel_rfl) (fun d _ _ _ _ h => by cases d <;> exact h) (by kernel_rfl) (by kernel_rfl) (by kernel_rfl) HS.out ?_; simp only [pickL, List.map_cons, List.map_nil, List.getD_cons_succ, List.getD_cons_zero]
      iterate 4 (go_big_quiet_step (fail))
      refine wpQuiet_nil ?_; refine held_one 1 2 (by kernel_rfl) (by kernel_rfl) ?_; simp only [pickL, List.map_cons, List.map_nil, List.getD_cons_succ, List.getD_cons_zero]
      go_wp2_with fail
      refine (HP'.out _).mono ?_; rintro e w3 ⟨rfl, rfl⟩
      go_wp2_with fail
      first | refine Mid.mk ⟨HS.out, ?_⟩ | refine Mid.mk ?_
      refine held_one 5 1 (by kernel_rfl) (by kernel_rfl) ?_; simp only [pickL, List.map_cons, List.map_nil, List.getD_cons_succ, List.getD_cons_zero]
      go_wp2_with fail
      first | refine Mid.mk ⟨HS.out, ?_⟩ | refine Mid.mk ?_
      refine held_one 6 0 (by kernel_rfl) (by kernel_rfl) ?_; simp only [pickL, List.map_cons, List.map_nil, List.getD_cons_succ, List.getD_cons_zero]
      go_wp2_with fail
      first | refine Mid.mk ⟨HS2.out, ?_⟩ | refine Mid.mk ?_
      refine held_last (by kernel_rfl) ?_
      go_wp2_with fail
      go_roundw
      case rel => exact ⟨k + 1, by omega, by go_num, n1', n2', n3', n4'⟩
      case measure => simp [intOf]; omega
    · have hk64 : k = 64 := by omega
      have h3' := h3.out; rw [hk64, scat_toZ] at h3'; have g3 : ∀ j v, (ints .i64 (toZ t))[j]? = some v → wr.cell? ⟨w.heap.size + 2, 0 + j, none⟩ = some v := fun j v hv => h3'.2.cell (by rw [Nat.zero_add, List.getElem?_toArray]; exact hv); have hl3 : (ints .i64 (toZ t)).length = 64 := by rw [ints_len]; exact toZ_len t
      have hz2 := h2.out.2; have hs2 := ints_size h2.out.1; have hsR := ints_size (toZ_len t); have hoR := ints_one' (l := toZ t); rw [hR'.out] at hsR hoR; have hbR := rowBelow hb.out (show w.heap.size ≤ w.heap.size + 1 by omega) R; have hrow : B64 (wr.setRow (w.heap.size + 1) R) (w.heap.size + 1) 129 (toZ t) := ⟨toZ_len t, by rw [hR'.out]; exact setRow_heap _ _ _ _ _ _ hz2⟩; have hret := fun (tmps : Array Value) (hp : tmps.getD 2 undef = .pointer (some ⟨w.heap.size + 1, 0, none⟩)) => ret64 (fn := Try.f114) (p := 2) rfl hp hrow; rw [hR'.out] at hret; have g3' := Lib.hid g3; have hl3' := Lib.hid hl3; have hz2' := Lib.hid hz2; have hs2' := Lib.hid hs2; have hsR' := Lib.hid hsR; have hoR' := Lib.hid hoR; have hbR' := Lib.hid hbR; have hrow' := Lib.hid hrow; have hk64' := Lib.hid hk64; have hret' := Lib.hid hret; clear g3 hl3 hz2 hs2 hsR hoR hbR hrow hk64 hret; clear h3'
      go_wp2_with (first
        | (refine wpList_load_at rfl 129 (.tmp 3) rfl (w.heap.size + 2) 0 rfl (ints .i64 (toZ t)) R hR'.out _ g3'.out Try.underlying129 rfl 64 infoA hl3'.out ?_)
        | (refine wpList_store_row rfl 129 (.tmp 2) (.tmp 15) rfl (w.heap.size + 1) R rfl rfl 129 _ hz2'.out (by rw [hsR'.out]; exact infoA) (by rw [hs2'.out, hsR'.out]) hoR'.out ?_))
      refine bodyPost_ret (hret'.out _ rfl) rfl ⟨rfl, hbR'.out⟩
end Go.Proofs.Ytpjopeojeglogaa
