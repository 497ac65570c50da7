/- Chapter 5: the zigzag: the document's Before, Place; what the copies are step by step (plain). | Boxes: a few blocks laid one behind the other: of whatever program. -/
import Derived.Test.YtpjopeojeglogaaCd01
import Derived.Test.YtpjopeojeglogaaCd09
import Derived.Test.YtpjopeojeglogaaCd02
namespace Go.Proofs.Ytpjopeojeglogaa
open Go.RowKit Tt
set_option linter.unusedVariables false
set_option linter.unusedSimpArgs false

def befP (a b : Int) : Bool := if a / 8 + a % 8 ≠ b / 8 + b % 8 then decide (a / 8 + a % 8 < b / 8 + b % 8) else if (a / 8 + a % 8) % 2 = 1 then decide (a / 8 < b / 8) else decide (b / 8 < a / 8)
def cntP (a : Nat) : Nat → Nat
  | 0 => 0
  | k + 1 => cntP a k + if befP k a then 1 else 0
theorem cntP_zz : ∀ a, a < 64 → cntP a 64 = zzI.getD a 0 := by decide +kernel
set_option maxHeartbeats 1000000 in
theorem rbef_any (a b : Nat) (w : World) (ha : a < 64) (hb : b < 64) : Calls Try.prog 190 #[.int .i64 a, .int .i64 b] w fun e w' => e = .returned (.bool (befP a b)) ∧ w = w' := by
  obtain ⟨r, hr⟩ : ∃ r, befP a b = r := ⟨_, rfl⟩; rw [hr]; unfold befP at hr; have h1 : (0 : Int) ≤ a := by omega
  have h2 : (0 : Int) ≤ b := by omega
  have h3 : (a : Int) < 64 := by omega
  have h4 : (b : Int) < 64 := by omega
  generalize (a : Int) = x at *
  generalize (b : Int) = y at *
  by_cases c1 : x / 8 + x % 8 = y / 8 + y % 8
  · rw [if_neg (by simp [c1])] at hr
    have c1b : (x / 8 + x % 8 == y / 8 + y % 8) = true := by simp [c1]
    have c1c : (x / 8 + x % 8 != y / 8 + y % 8) = false := by simp [c1]
    clear c1
    by_cases c2 : (x / 8 + x % 8) % 2 = 1
    · rw [if_pos c2] at hr
      have c2b : ((x / 8 + x % 8) % 2 == 1) = true := by simp [c2]
      clear c2; have hr' := Lib.hid hr; clear hr
      go_enter Try.func190, Try.ntmps190
      go_wp2
      go_ret
      exact ⟨by rw [← hr'.out]; rfl, rfl⟩
    · rw [if_neg c2] at hr
      have c2b : ((x / 8 + x % 8) % 2 == 1) = false := by simpa using c2
      clear c2; have hr' := Lib.hid hr; clear hr
      go_enter Try.func190, Try.ntmps190
      go_wp2
      go_ret
      exact ⟨by rw [← hr'.out]; rfl, rfl⟩
  · rw [if_pos c1] at hr
    have c1b : (x / 8 + x % 8 == y / 8 + y % 8) = false := by simpa using c1
    have c1c : (x / 8 + x % 8 != y / 8 + y % 8) = true := by simpa using c1
    clear c1; have hr' := Lib.hid hr; clear hr
    go_enter Try.func190, Try.ntmps190
    go_wp2
    go_ret
    exact ⟨by rw [← hr'.out]; rfl, rfl⟩
set_option maxHeartbeats 1000000 in
theorem rplace_any (a : Nat) (w : World) (ha : a < 64) : Calls Try.prog 158 #[.int .i64 a] w fun e w' => e = .returned (.int .i64 ((zzI.getD a 0 : Nat) : Int)) ∧ w = w' := by
  have hz := cntP_zz a ha; rw [← hz]; have hB := fun (k : Nat) (hk : k < 64) => rbef_any k a w hk ha; have hB' := Lib.hid hB; have hz' := Lib.hid hz; clear hB hz
  go_enter Try.func158, Try.ntmps158
  go_wp2
  go_loop [3, 4] (fun nv iv => ∃ k q : Nat, k ≤ 64 ∧ q ≤ k ∧ iv = .int .i64 k ∧ nv = .int .i64 q ∧ Hid (q = cntP a k)) (fun _ iv => 64 - (intOf iv).toNat)
  case atStart => exact ⟨0, 0, by omega, by omega, rfl, rfl, Lib.hid rfl⟩
  case round =>
    obtain ⟨k, q, hk, hqk, rfl, rfl, hq⟩ := hrel
    by_cases hlt : k < 64
    · have H := hB'.out k hlt
      have hs : cntP a (k + 1) = cntP a k + if befP k a then 1 else 0 := rfl; rw [← hq.out] at hs
      cases hb : befP k a
      · rw [hb] at H hs
        have hs' : q = cntP a (k + 1) := by rw [hs]; rfl
        have H' := Lib.hid H; have hs'' := Lib.hid hs'; have hb' := Lib.hid hb; clear H hs' hb; clear hs
        go_wp2_with (go_at_call 190; refine (H'.out).mono ?_; rintro e w' ⟨rfl, rfl⟩)
        go_round
        case rel => exact ⟨k + 1, q, by omega, by omega, by go_num, rfl, hs''⟩
        case measure => simp [intOf]; omega
      · rw [hb] at H hs
        have hs' : q + 1 = cntP a (k + 1) := by rw [hs]; rfl
        have H' := Lib.hid H; have hs'' := Lib.hid hs'; have hb' := Lib.hid hb; clear H hs' hb; clear hs
        go_wp2_with (go_at_call 190; refine (H'.out).mono ?_; rintro e w' ⟨rfl, rfl⟩)
        go_round
        case rel => exact ⟨k + 1, q + 1, by omega, by omega, by go_num, by go_num, hs''⟩
        case measure => simp [intOf]; omega
    · have hk64 : k = 64 := by omega
      have hq' := hq.out; rw [hk64] at hq'; have hk64' := Lib.hid hk64; have hq'' := Lib.hid hq'; clear hk64 hq'
      go_wp2
      go_ret
      exact ⟨by rw [← hq''.out]; rfl, rfl⟩

/-- a copy by places, and one to places, when n numbers have been copied -/
def gath (p : List Nat) (t : List Int) (n : Nat) : List Int := (List.range 64).map fun j => if j < n then t.getD (p.getD j 0) 0 else 0
def scat (p : List Nat) (t : List Int) (n : Nat) : List Int := (List.range 64).map fun j => if p.getD j 0 < n then t.getD (p.getD j 0) 0 else 0
theorem gath_len (p : List Nat) (t : List Int) (n : Nat) : (gath p t n).length = 64 := by simp [gath]
theorem scat_len (p : List Nat) (t : List Int) (n : Nat) : (scat p t n).length = 64 := by simp [scat]
theorem gath_get (p : List Nat) (t : List Int) (n : Nat) {j : Nat} (hj : j < 64) : (gath p t n).getD j 0 = if j < n then t.getD (p.getD j 0) 0 else 0 := by
  unfold gath; rw [List.getD_eq_getElem?_getD, List.getElem?_map, List.getElem?_range hj]
  rfl
theorem scat_get (p : List Nat) (t : List Int) (n : Nat) {j : Nat} (hj : j < 64) : (scat p t n).getD j 0 = if p.getD j 0 < n then t.getD (p.getD j 0) 0 else 0 := by
  unfold scat; rw [List.getD_eq_getElem?_getD, List.getElem?_map, List.getElem?_range hj]
  rfl
theorem set_get {l : List Int} {i j : Nat} (hi : i < l.length) (x : Int) : (l.set i x).getD j 0 = if j = i then x else l.getD j 0 := by
  rw [List.getD_eq_getElem?_getD, List.getElem?_set, List.getD_eq_getElem?_getD]
  by_cases h : i = j
  · subst h; simp [hi]
  · simp [h, Ne.symm h]
theorem zeros64 (p : List Nat) (t : List Int) : gath p t 0 = List.replicate 64 0 ∧ scat p t 0 = List.replicate 64 0 := by
  constructor
  · refine ext64 (gath_len _ _ _) (by simp) fun i hi => ?_
    rw [gath_get _ _ _ hi, if_neg (by omega), List.getD_eq_getElem?_getD, List.getElem?_replicate, if_pos hi]; rfl
  · refine ext64 (scat_len _ _ _) (by simp) fun i hi => ?_
    rw [scat_get _ _ _ hi, if_neg (by omega), List.getD_eq_getElem?_getD, List.getElem?_replicate, if_pos hi]; rfl
theorem gath_step (p : List Nat) (t : List Int) {n : Nat} (hn : n < 64) : (gath p t n).set n (t.getD (p.getD n 0) 0) = gath p t (n + 1) := by
  refine ext64 (by rw [List.length_set, gath_len]) (gath_len _ _ _) fun i hi => ?_; rw [set_get (by rw [gath_len]; exact hn), gath_get _ _ _ hi, gath_get _ _ _ hi]
  by_cases h : i = n
  · subst h; rw [if_pos rfl, if_pos (by omega)]
  · rw [if_neg h]
    by_cases h2 : i < n
    · rw [if_pos h2, if_pos (by omega)]
    · rw [if_neg h2, if_neg (by omega)]
theorem scat_step (p q : List Nat) (t : List Int) {n : Nat} (hn : n < 64) (hq : q.getD n 0 < 64) (h1 : p.getD (q.getD n 0) 0 = n) (h2 : ∀ i, i < 64 → q.getD (p.getD i 0) 0 = i) : (scat p t n).set (q.getD n 0) (t.getD n 0) = scat p t (n + 1) := by
  refine ext64 (by rw [List.length_set, scat_len]) (scat_len _ _ _) fun i hi => ?_; rw [set_get (by rw [scat_len]; exact hq), scat_get _ _ _ hi, scat_get _ _ _ hi]
  by_cases h : i = q.getD n 0
  · rw [if_pos h, h, h1, if_pos (by omega)]
  · have hne : p.getD i 0 ≠ n := fun e => h (by rw [← h2 i hi, e])
    rw [if_neg h]
    by_cases h3 : p.getD i 0 < n
    · rw [if_pos h3, if_pos (by omega)]
    · rw [if_neg h3, if_neg (by omega)]
theorem gath_toZ (t : List Int) : gath zzL t 64 = toZ t := ext64 (gath_len _ _ _) (toZ_len _) fun i hi => by rw [gath_get _ _ _ hi, toZ_get _ hi, if_pos hi]
theorem gath_frZ (t : List Int) : gath zzI t 64 = frZ t := ext64 (gath_len _ _ _) (frZ_len _) fun i hi => by rw [gath_get _ _ _ hi, frZ_get _ hi, if_pos hi]
theorem scat_toZ (t : List Int) : scat zzL t 64 = toZ t := ext64 (scat_len _ _ _) (toZ_len _) fun i hi => by rw [scat_get _ _ _ hi, toZ_get _ hi, if_pos (zz_lt i hi).1]
theorem scat_frZ (t : List Int) : scat zzI t 64 = frZ t := ext64 (scat_len _ _ _) (frZ_len _) fun i hi => by rw [scat_get _ _ _ hi, frZ_get _ hi, if_pos (zz_lt i hi).2.1]
end Go.Proofs.Ytpjopeojeglogaa

namespace Tt
open Go Go.RowKit
theorem three_boxes (w : World) (T : TypeId) (a : Array Value) (U : TypeId) (b : Array Value) (V : TypeId) (c : Array Value) : ∃ WC, ((w.alloc (.cells a T)).alloc (.cells b U)).alloc (.cells c V) = WC ∧ Blk WC w.heap.size T a ∧ Blk WC (w.heap.size + 1) U b ∧ Blk WC (w.heap.size + 2) V c ∧ Below w.heap.size w WC ∧ WC.heap.size = w.heap.size + 3 := by
  have hA := Blk.new w T a; have hB := Blk.new (w.alloc (.cells a T)) U b; have hC := Blk.new ((w.alloc (.cells a T)).alloc (.cells b U)) V c; rw [show (w.alloc (.cells a T)).heap.size = w.heap.size + 1 by simp] at hB; rw [show ((w.alloc (.cells a T)).alloc (.cells b U)).heap.size = w.heap.size + 2 by simp] at hC; exact ⟨_, rfl, (hA.alloc _).alloc _, hB.alloc _, hC, (((Below.refl w.heap.size w).alloc (Nat.le_refl _) _).alloc (by simp) _).alloc (by simp <;> omega) _, by simp⟩
theorem two_boxes (w : World) (T : TypeId) (a : Array Value) (U : TypeId) (b : Array Value) : ∃ WC, (w.alloc (.cells a T)).alloc (.cells b U) = WC ∧ Blk WC w.heap.size T a ∧ Blk WC (w.heap.size + 1) U b ∧ Below w.heap.size w WC ∧ WC.heap.size = w.heap.size + 2 := by
  have hA := Blk.new w T a; have hB := Blk.new (w.alloc (.cells a T)) U b; rw [show (w.alloc (.cells a T)).heap.size = w.heap.size + 1 by simp] at hB; exact ⟨_, rfl, hA.alloc _, hB, ((Below.refl w.heap.size w).alloc (Nat.le_refl _) _).alloc (by simp) _, by simp⟩
end Tt
