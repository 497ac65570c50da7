/- Chapter 22: the law's own put and lengths. | Chapter 22: the plain law of WalkOnce. | Chapter 22: the walk of WalkOnce. -/
import Derived.Test.YtheelhepelbgcaaOc3
import Derived.Test.YtheelhepelbgcaaWk9
import Derived.Test.YtheelhepelbgcaaAw1
import Derived.Test.YtheelhepelbgcaaL7
import Derived.Lib.BufferWrite
namespace Go.Proofs.Ytheelhepelbgcaa
open Go.RowKit Tt
set_option linter.unusedVariables false
set_option linter.unusedSimpArgs false

/-- a number's bytes, put somewhere: the first k of them -/
def putL (xs : List Int) (at_ n size : Nat) (o : Int) : Nat → List Int
  | 0 => xs
  | k + 1 => (putL xs at_ n size o k).set (if o = 2 then at_ + size - 1 - k else at_ + k) ((n : Int) / 2 ^ (8 * k) % 256)
theorem putL_len (xs : List Int) (at_ n size : Nat) (o : Int) : ∀ k, (putL xs at_ n size o k).length = xs.length
  | 0 => rfl
  | k + 1 => by unfold putL; rw [List.length_set, putL_len]
set_option maxHeartbeats 2000000 in
theorem lput_any (g L at_ n size : Nat) (o : Int) (ho : o = 1 ∨ o = 2) (xs : List Int) (w : World) (hr : Row w g 5 .u8 xs) (hl : xs.length = L) (hin : at_ + size ≤ L) (hL : L ≤ 1000000) (hs : size ≤ 8) (hn : n ≤ 1099511627776) :
    Calls Try.prog 7 #[.slice (some ⟨g, 0, none⟩) L L, .int .i64 at_, .int .i64 n, .int .i64 size, .int .i64 o] w fun e w' => e = .returned (.tuple #[]) ∧ Row w' g 5 .u8 (putL xs at_ n size o size) ∧ But g w w' := by
  have hr' := Lib.hid hr
  have hl' := Lib.hid hl
  clear hr hl
  go_enter Try.func7, Try.ntmps7
  go_wp2
  go_loopw [10] (fun i wr => ∃ (k : Nat), k ≤ size ∧ i = .int .i64 k ∧ Hid (Row wr g 5 .u8 (putL xs at_ n size o k)) ∧ Hid (But g w wr)) (fun i _ => size - (intOf i).toNat)
  case atStart => exact ⟨0, by omega, rfl, hr', Lib.hid (But.refl _ _)⟩
  case round =>
    obtain ⟨k, hk, rfl, hr, hb⟩ := hrel
    by_cases hlt : k < size
    · have hsh : (2 : Int) ^ (8 * (k : Int)).toNat = 2 ^ (8 * k) := by congr 1
      have hki : (k : Int) < size := by omega
      have hw3 : IntKind.u64.wrap (k : Int) = k := by rw [IntKind.wrap_u64]; omega
      have hw4 : IntKind.u64.wrap (8 * (k : Int)) = 8 * k := by rw [IntKind.wrap_u64]; omega
      have hw5 : IntKind.u8.wrap ((n : Int) / 2 ^ (8 * k)) = (n : Int) / 2 ^ (8 * k) % 256 := IntKind.wrap_u8 _
      have hlen : (putL xs at_ n size o k).length = L := by rw [putL_len]; exact hl'.out
      rcases ho with rfl | rfl
      · obtain ⟨q, hq⟩ : ∃ q : Nat, q = at_ + k := ⟨_, rfl⟩
        have hw1 : IntKind.i64.wrap ((at_ : Int) + k) = q := by rw [IntKind.wrap_i64]; omega
        have hqL : (q : Int) < L := by omega
        have f0 := hr.out.frozen q
        have f1 := hr.out.cell (i := q) (by omega)
        have hstep : putL xs at_ n size 1 (k + 1) = (putL xs at_ n size 1 k).set q ((n : Int) / 2 ^ (8 * k) % 256) := by rw [hq]; rfl
        have hq' := Lib.hid hq
        have hstep' := Lib.hid hstep
        have hlen' := Lib.hid hlen
        clear hq hstep hlen
        go_wp2
        go_roundw
        case rel => exact ⟨k + 1, by omega, by go_num, Lib.hid (by rw [hstep'.out]; exact hr.out.set q _), Lib.hid (hb.out.set q _)⟩
        case measure => simp [intOf]; omega
      · obtain ⟨q, hq⟩ : ∃ q : Nat, q = at_ + size - 1 - k := ⟨_, rfl⟩
        have hw1 : IntKind.i64.wrap ((at_ : Int) + k) = at_ + k := by rw [IntKind.wrap_i64]; omega
        have hw2 : IntKind.i64.wrap ((at_ : Int) + size) = at_ + size := by rw [IntKind.wrap_i64]; omega
        have hw6 : IntKind.i64.wrap ((at_ : Int) + size - 1) = at_ + size - 1 := by rw [IntKind.wrap_i64]; omega
        have hw7 : IntKind.i64.wrap ((at_ : Int) + size - 1 - k) = q := by rw [IntKind.wrap_i64]; omega
        have hqL : (q : Int) < L := by omega
        have f0 := hr.out.frozen q
        have f1 := hr.out.cell (i := q) (by omega)
        have hstep : putL xs at_ n size 2 (k + 1) = (putL xs at_ n size 2 k).set q ((n : Int) / 2 ^ (8 * k) % 256) := by rw [hq]; rfl
        have hq' := Lib.hid hq
        have hstep' := Lib.hid hstep
        have hlen' := Lib.hid hlen
        clear hq hstep hlen
        go_wp2
        go_roundw
        case rel => exact ⟨k + 1, by omega, by go_num, Lib.hid (by rw [hstep'.out]; exact hr.out.set q _), Lib.hid (hb.out.set q _)⟩
        case measure => simp [intOf]; omega
    · obtain rfl : k = size := by omega
      go_wp2
      refine bodyPost_end (results_none rfl _ _ _) rfl ?_
      exact ⟨rfl, hr.out, hb.out⟩
/-- a type's size -/
def lenS (k : Nat) : Int := [0, 1, 1, 2, 4, 8, 1, 1, 2, 4, 8, 4, 8].getD k 0
set_option maxHeartbeats 2000000 in
theorem lengths_any (k : Nat) (hk : k ≤ 12) (w : World) : Calls Try.prog 6 #[.int .i64 k] w fun e w' => e = .returned (.int .i64 (lenS k)) ∧ w = w' := by
  have hrun : ∀ W, (Instr.index 61 (.agg #[.int .i64 0, .int .i64 1, .int .i64 1, .int .i64 2, .int .i64 4, .int .i64 8, .int .i64 1, .int .i64 1, .int .i64 2, .int .i64 4, .int .i64 8, .int .i64 4, .int .i64 8]) (.int .i64 k)).run Try.prog W = .ok (.int .i64 (lenS k)) W := by
    intro W
    have : k = 0 ∨ k = 1 ∨ k = 2 ∨ k = 3 ∨ k = 4 ∨ k = 5 ∨ k = 6 ∨ k = 7 ∨ k = 8 ∨ k = 9 ∨ k = 10 ∨ k = 11 ∨ k = 12 := by omega
    rcases this with rfl | rfl | rfl | rfl | rfl | rfl | rfl | rfl | rfl | rfl | rfl | rfl | rfl <;> (show _ = _; kernel_rfl)
  generalize lenS k = v at *
  go_enter Try.func6, Try.ntmps6
  go_wp2
  go_ret
  exact ⟨rfl, rfl⟩
end Go.Proofs.Ytheelhepelbgcaa

namespace Go.Proofs.Ytheelhepelbgcaa
open Go.RowKit Tt
set_option linter.unusedVariables false
set_option linter.unusedSimpArgs false

theorem kind_len {k : Nat} (h1 : 1 ≤ k) (h2 : k ≤ 12) : (kindS (k : Int)).1 = lenS k ∧ 1 ≤ lenS k ∧ lenS k ≤ 8 ∧ ((kindS (k : Int)).2.1 = 1 ∨ (kindS (k : Int)).2.1 = 2 ∨ (kindS (k : Int)).2.1 = 4 ∨ (kindS (k : Int)).2.1 = 8) := by
  have : k = 1 ∨ k = 2 ∨ k = 3 ∨ k = 4 ∨ k = 5 ∨ k = 6 ∨ k = 7 ∨ k = 8 ∨ k = 9 ∨ k = 10 ∨ k = 11 ∨ k = 12 := by omega
  rcases this with rfl | rfl | rfl | rfl | rfl | rfl | rfl | rfl | rfl | rfl | rfl | rfl <;> decide +kernel
theorem textB_zeros (n : Nat) (h : 2 ≤ n) : textB (List.replicate n 0) = false := by
  obtain ⟨m, rfl⟩ : ∃ m, n = m + 2 := ⟨n - 2, by omega⟩
  rfl
theorem turnS_zeros {p o : Int} (hp : p = 1 ∨ p = 2 ∨ p = 4 ∨ p = 8) (ho : o = 1 ∨ o = 2) (n : Nat) : turnS (List.replicate n 0) p o = List.replicate n 0 := by
  have hb : turnB p o = true := by
    rcases hp with rfl | rfl | rfl | rfl <;> rcases ho with rfl | rfl <;> decide
  unfold turnS
  rw [if_pos hb]
  split
  · refine getD_ext (by simp [turned_len]) (fun i h1 => ?_)
    rw [turned_get (by rwa [turned_len] at h1), List.getD_eq_getElem?_getD, List.getD_eq_getElem?_getD, List.getElem?_replicate, List.getElem?_replicate]
    split <;> split <;> rfl
  · rfl
theorem ofS_zeros {k c : Nat} {o : Int} {n : Nat} (h1 : 1 ≤ k) (h2 : k ≤ 12) (hc1 : 1 ≤ c) (hc2 : c ≤ 60) (ho : o = 1 ∨ o = 2) (hl : lenS k * c ≤ n) (h4 : 4 < lenS k * c) :
    ofS k c (List.replicate n 0) o = if k = 2 then none else some (List.replicate ((lenS k * c).toNat) 0) := by
  obtain ⟨e1, e2, e3, e4⟩ := kind_len h1 h2
  obtain ⟨L, hL⟩ : ∃ L : Nat, lenS k = L := ⟨(lenS k).toNat, by omega⟩
  unfold ofS
  rw [e1, hL]
  rw [hL] at hl h4 e2 e3
  have hcom : (L : Int) * c = ((L * c : Nat) : Int) := by simp
  have hcom2 : (c : Int) * L = ((L * c : Nat) : Int) := by simp [Int.mul_comm]
  rw [hcom] at hl h4
  rw [hcom2]
  obtain ⟨q, hq⟩ : ∃ q, L * c = q := ⟨_, rfl⟩
  rw [hcom, hq]
  rw [hq] at hl h4
  rw [if_neg (by rw [List.length_replicate]; omega), List.take_replicate, Int.toNat_natCast, show min q n = q by omega, turnS_zeros e4 ho]
  unfold mayS
  rw [e1, hL, hcom2, hq, List.length_replicate, decide_eq_true (show (L : Int) ≠ 0 by omega), decide_eq_true (show (1 : Int) ≤ c by omega), decide_eq_true (show (c : Int) ≤ 65536 by omega), decide_eq_true rfl]
  by_cases hk : k = 2
  · subst hk
    rw [textB_zeros q (by omega)]
    simp
  · have : ((k : Int) != 2) = true := by simp; omega
    rw [this, if_neg hk]
    simp
def afterD (R : Except Int (List Tgs × St)) : Except Int ((DirT 16 × Int) × St) := match R with
  | .error e => .error e
  | .ok (t, s) => .ok ((((t, [], []) : List Tgs × List (Int × DirT 15) × List Int), 0), s)
def afterT (R : Except Int (List Tgs × St)) : Except Int (List (DirT 16) × St) := match R with
  | .error e => .error e
  | .ok (t, s) => .ok ([((t, [], []) : List Tgs × List (Int × DirT 15) × List Int)], s)
abbrev shp0' : Shp := ([], 0, 0, -1)
def sp1 : Spt := (1, -1, 0, 0, 8)
def sp2 : Spt := (2, 0, 0, 8, 18)
theorem once_plain (z : List Int) (o : Int) (k c p : Nat) (ho : o = 1 ∨ o = 2) (hk1 : 1 ≤ k) (hk2 : k ≤ 12) (hc1 : 1 ≤ c) (hc2 : c ≤ 60) (h4 : 4 < lenS k * c)
    (hz : z.length = 600) (z1 : orderS z = o) (z2 : getV z 2 2 o = 42) (z3 : getV z 4 4 o = 8) (z4 : getV z 8 2 o = 1) (z5 : entAt z o 10 = (256, (k : Int), (c : Int), (p : Int))) (z6 : getV z 22 4 o = 0) (z7 : ∀ j, 26 ≤ j → z.drop j = List.replicate (600 - j) 0) :
    (p % 2 = 1 ∨ 600 < p + lenS k * c → readS z loneS = .error 4) ∧
    (¬ (p % 2 = 1 ∨ 600 < p + lenS k * c) → p < 26 → readS z loneS = .error 5) ∧
    (¬ (p % 2 = 1 ∨ 600 < p + lenS k * c) → ¬ p < 26 → k = 2 → readS z loneS = .error 6) ∧
    (¬ (p % 2 = 1 ∨ 600 < p + lenS k * c) → ¬ p < 26 → k ≠ 2 → ∃ d s, readS z loneS = .ok ([d], s) ∧ s.spots = [sp1, sp2, (3, 0, 256, (p : Int), lenS k * c)]) := by
  obtain ⟨e1, e2, e3, _⟩ := kind_len hk1 hk2
  have hsh : shapesB loneS = true := by decide +kernel
  have hhd : headS z = .ok ⟨[sp1], 0, 0⟩ := by
    unfold headS
    rw [hz, if_pos (by omega), z1, z2, if_pos ⟨by omega, rfl⟩]
    rfl
  have hout : outS k c = lenS k * c := by
    have hlg : longS k c = lenS k * c := by
      unfold longS
      rw [e1, if_neg (by omega), Int.mul_comm]
    unfold outS
    rw [hlg, if_pos h4]
  obtain ⟨q, hq⟩ : ∃ q : Nat, lenS k * c = q := ⟨(lenS k * c).toNat, by omega⟩
  have hent : entriesS z o 8 0 { (⟨[sp1], 0, 0⟩ : St) with no := IntKind.i64.wrap (0 + 1) } = .ok ([(256, (k : Int), (c : Int), (p : Int))], ⟨[sp1, sp2], 1, 0⟩) := by
    unfold entriesS
    rw [hz, z4, if_pos (by decide), if_pos (by decide)]
    have ht : takeS 600 (2, 0, 0, 8, 6 + 12 * 1) ⟨[sp1], IntKind.i64.wrap (0 + 1), 0⟩ = .ok ⟨[sp1, sp2], 1, 0⟩ := by rfl
    simp only [ht]
    have he : entsS z o 8 (1 : Int).toNat = [(256, (k : Int), (c : Int), (p : Int))] := by
      show [entAt z o (8 + 2 + 12 * 0)] = _
      rw [show (8 + 2 + 12 * 0 : Int) = 10 by decide, z5]
    rw [he]
    rfl
  have hread : ∀ R, stepT z o shp0' 0 ([], ⟨[sp1, sp2], 1, 0⟩) (256, (k : Int), (c : Int), (p : Int)) = R → readS z loneS = afterT R := by
    intro R hR
    unfold readS
    rw [if_pos hsh, hhd]
    simp only
    rw [z1, z3]
    unfold chainS
    rw [if_pos (by omega), if_pos (by omega)]
    have hd : dirS z o loneS 16 8 0 ⟨[sp1], 0, 0⟩ = afterD R := by
      unfold dirS
      simp only
      rw [hent]
      simp only
      rw [show loneS.getD (0 : Int).toNat shp0 = shp0' from rfl]
      simp only [loopS]
      rw [hR]
      cases R with
      | error e => rfl
      | ok r =>
        obtain ⟨t, s⟩ := r
        simp only
        have hf : ([(256, (k : Int), (c : Int), (p : Int))] : List Ent).filter (fun x => !linkP shp0' x.1 && pairP shp0' x.1) = [] := rfl
        rw [hf, if_neg (by decide)]
        have hs : stepD (dirS z o loneS 15) shp0' ([], s) (256, (k : Int), (c : Int), (p : Int)) = .ok ([], s) := rfl
        rw [hs]
        simp only
        have hb : blobS z shp0' [(256, (k : Int), (c : Int), (p : Int))] 0 s = .ok ([], s) := rfl
        rw [hb]
        simp only
        rw [show (8 + 2 + 12 * ((([(256, (k : Int), (c : Int), (p : Int))] : List Ent).length : Nat) : Int) : Int) = 22 by rfl, z6]
        rfl
    rw [hd]
    cases R with
    | error e => rfl
    | ok r =>
      obtain ⟨t, s⟩ := r
      simp only [afterD, afterT]
      unfold chainS
      rw [if_neg (by simp)]
      rfl
  have hst : stepT z o shp0' 0 ([], ⟨[sp1, sp2], 1, 0⟩) (256, (k : Int), (c : Int), (p : Int)) = match takeS 600 (3, 0, 256, (p : Int), (q : Int)) ⟨[sp1, sp2], 1, 0⟩ with
      | .error e => .error e
      | .ok s' => match ofS k c (z.drop p) o with
        | none => .error 6
        | some d => .ok ([(256, (k : Int), (c : Int), d)], s') := by
    unfold stepT
    rw [if_neg (show ¬ ownP shp0' 256 = true by decide)]
    unfold valueS
    simp only
    rw [if_pos ⟨by rw [e1]; omega, by omega, by omega⟩, hout, hq, if_pos (by omega), hz]
    cases takeS 600 (3, 0, 256, (p : Int), (q : Int)) ⟨[sp1, sp2], 1, 0⟩ with
    | error e => rfl
    | ok s' =>
      simp only [Int.toNat_natCast]
      cases ofS k c (z.drop p) o with
      | none => rfl
      | some d => rfl
  have hr := hread _ hst
  rw [hq] at h4
  rw [hq]
  have hfit : fitB 600 (3, 0, 256, (p : Int), (q : Int)) = true ↔ ¬ (p % 2 = 1 ∨ (600 : Int) < p + q) := by
    unfold fitB roomB
    simp
    omega
  have hts : takeS 600 (3, 0, 256, (p : Int), (q : Int)) ⟨[sp1, sp2], 1, 0⟩ = if fitB 600 (3, 0, 256, (p : Int), (q : Int)) = true then if freeB ⟨[sp1, sp2], 1, 0⟩ (p : Int) q = true then .ok ⟨[sp1, sp2, (3, 0, 256, (p : Int), (q : Int))], 1, 0⟩ else .error 5 else .error 4 := rfl
  refine ⟨fun h => ?_, fun h hp => ?_, fun h hp hk => ?_, fun h hp hk => ?_⟩
  · rw [hr, hts, if_neg (fun e => hfit.1 e h)]
    rfl
  · have hfr : freeB ⟨[sp1, sp2], 1, 0⟩ (p : Int) q = false := freeB_no (k := 0) (by omega) (by
      unfold takenB inSpot sp1 sp2
      simp
      omega)
    rw [hr, hts, if_pos (hfit.2 h), hfr]
    rfl
  all_goals
    have hfr : freeB ⟨[sp1, sp2], 1, 0⟩ (p : Int) q = true := freeB_yes (fun j hj => by
      unfold takenB inSpot sp1 sp2
      simp
      omega)
    have hpq : p + q ≤ 600 := by omega
    rw [hr, hts, if_pos (hfit.2 h), if_pos hfr]
    simp only
    rw [z7 p (by omega), ofS_zeros hk1 hk2 hc1 hc2 ho (by rw [hq]; omega) (by rw [hq]; exact h4)]
  · rw [if_pos hk]
    rfl
  · rw [if_neg hk]
    exact ⟨_, _, rfl, rfl⟩
/-- the block that is read -/
def signL (o : Int) : List Int := if o = 1 then [73, 73, 42, 0, 8, 0, 0, 0, 1, 0, 0, 1] else [77, 77, 0, 42, 0, 0, 0, 8, 0, 1, 1, 0]
def onceL (o : Int) (k c p : Nat) : List Int := putL (putL (putL (splice (List.replicate 600 0) 0 (signL o)) 12 k 2 o 2) 14 c 4 o 4) 18 p 4 o 4
def bt (n : Nat) (i : Nat) : Int := (n : Int) / 2 ^ (8 * i) % 256
set_option maxRecDepth 100000 in
theorem onceL_le (k c p : Nat) : onceL 1 k c p = [73, 73, 42, 0, 8, 0, 0, 0, 1, 0, 0, 1, bt k 0, bt k 1, bt c 0, bt c 1, bt c 2, bt c 3, bt p 0, bt p 1, bt p 2, bt p 3, 0, 0, 0, 0] ++ List.replicate 574 0 := by kernel_rfl
set_option maxRecDepth 100000 in
theorem onceL_be (k c p : Nat) : onceL 2 k c p = [77, 77, 0, 42, 0, 0, 0, 8, 0, 1, 1, 0, bt k 1, bt k 0, bt c 3, bt c 2, bt c 1, bt c 0, bt p 3, bt p 2, bt p 1, bt p 0, 0, 0, 0, 0] ++ List.replicate 574 0 := by kernel_rfl
theorem bt_two {n : Nat} (h : n < 65536) : bt n 1 * 256 + bt n 0 = n := by unfold bt; simp; omega
theorem bt_four {n : Nat} (h : n < 4294967296) : ((bt n 3 * 256 + bt n 2) * 256 + bt n 1) * 256 + bt n 0 = n := by unfold bt; simp; omega
theorem bt_byt (n i : Nat) : 0 ≤ bt n i ∧ bt n i < 256 := by unfold bt; omega
theorem get_len {z : List Int} (h : z.length = 600) {p s : Nat} {o : Int} (hs : s = 1 ∨ s = 2 ∨ s = 4) (ho : o = 1 ∨ o = 2) (hp : p + s ≤ 600) : getV z p s o = be (getL z p s o) := by
  unfold getV
  rw [h, getB_in (by omega) ho (by omega) (by omega), if_pos rfl, Int.toNat_natCast, Int.toNat_natCast]
theorem drop_tail (l : List Int) (hl : l.length = 26) {j : Nat} (h : 26 ≤ j) : (l ++ List.replicate 574 0).drop j = List.replicate (600 - j) 0 := by
  rw [List.drop_append, List.drop_of_length_le (by omega), List.nil_append, List.drop_replicate, hl]
  congr 1
  omega
theorem once_law (o : Int) (k c p : Nat) (ho : o = 1 ∨ o = 2) (hk1 : 1 ≤ k) (hk2 : k ≤ 12) (hc1 : 1 ≤ c) (hc2 : c ≤ 60) (hp : p ≤ 1048576) (h4 : 4 < lenS k * c) :
    orderS (onceL o k c p) = o ∧ Byt (onceL o k c p) ∧ (onceL o k c p).length = 600 ∧
    (p % 2 = 1 ∨ 600 < p + lenS k * c → readS (onceL o k c p) loneS = .error 4) ∧
    (¬ (p % 2 = 1 ∨ 600 < p + lenS k * c) → p < 26 → readS (onceL o k c p) loneS = .error 5) ∧
    (¬ (p % 2 = 1 ∨ 600 < p + lenS k * c) → ¬ p < 26 → k = 2 → readS (onceL o k c p) loneS = .error 6) ∧
    (¬ (p % 2 = 1 ∨ 600 < p + lenS k * c) → ¬ p < 26 → k ≠ 2 → ∃ d s, readS (onceL o k c p) loneS = .ok ([d], s) ∧ s.spots = [sp1, sp2, (3, 0, 256, (p : Int), lenS k * c)]) := by
  have hbyt : ∀ l : List Int, (∀ x ∈ l, 0 ≤ x ∧ x < 256) → Byt (l ++ List.replicate 574 0) := fun l h => Byt.append h (fun x hx => by rw [List.mem_replicate] at hx; omega)
  have hlen : (onceL o k c p).length = 600 := by
    unfold onceL
    rw [putL_len, putL_len, putL_len]
    rcases ho with rfl | rfl <;> (show _ = _; kernel_rfl)
  have b1 := bt_two (n := k) (by omega)
  have b2 := bt_four (n := c) (by omega)
  have b3 := bt_four (n := p) (by omega)
  have h42 : orderS (onceL o k c p) = o ∧ getV (onceL o k c p) 2 2 o = 42 ∧ getV (onceL o k c p) 4 4 o = 8 ∧ getV (onceL o k c p) 8 2 o = 1 ∧ entAt (onceL o k c p) o 10 = (256, (k : Int), (c : Int), (p : Int)) ∧ getV (onceL o k c p) 22 4 o = 0 ∧ (∀ j, 26 ≤ j → (onceL o k c p).drop j = List.replicate (600 - j) 0) ∧ Byt (onceL o k c p) := by
    have G := fun (q s : Nat) (hs : s = 1 ∨ s = 2 ∨ s = 4) (hq : q + s ≤ 600) => get_len hlen (p := q) hs ho hq
    have g1 := G 2 2 (by omega) (by omega)
    have g2 := G 4 4 (by omega) (by omega)
    have g3 := G 8 2 (by omega) (by omega)
    have g4 := G 10 2 (by omega) (by omega)
    have g5 := G 12 2 (by omega) (by omega)
    have g6 := G 14 4 (by omega) (by omega)
    have g7 := G 18 4 (by omega) (by omega)
    have g8 := G 22 4 (by omega) (by omega)
    unfold entAt
    have s2 : ((2 : Nat) : Int) = 2 := rfl
    have s4 : ((4 : Nat) : Int) = 4 := rfl
    rw [s2] at g1 g3 g4 g5
    rw [s4] at g2 g6 g7 g8
    refine ⟨?_, g1.trans ?_, g2.trans ?_, g3.trans ?_, ?_, g8.trans ?_, ?_, ?_⟩
    · rcases ho with rfl | rfl
      · rw [onceL_le]; rfl
      · rw [onceL_be]; rfl
    · rcases ho with rfl | rfl
      · rw [onceL_le]; rfl
      · rw [onceL_be]; rfl
    · rcases ho with rfl | rfl
      · rw [onceL_le]; rfl
      · rw [onceL_be]; rfl
    · rcases ho with rfl | rfl
      · rw [onceL_le]; rfl
      · rw [onceL_be]; rfl
    · rw [show (10 + 2 : Int) = 12 by decide, show (10 + 4 : Int) = 14 by decide, show (10 + 8 : Int) = 18 by decide]
      refine Prod.ext (g4.trans ?_) (Prod.ext (g5.trans ?_) (Prod.ext (g6.trans ?_) (g7.trans ?_)))
      · rcases ho with rfl | rfl
        · rw [onceL_le]; rfl
        · rw [onceL_be]; rfl
      · rcases ho with rfl | rfl
        · rw [onceL_le]; show (0 * 256 + bt k 1) * 256 + bt k 0 = _; simp only; omega
        · rw [onceL_be]; show (0 * 256 + bt k 1) * 256 + bt k 0 = _; simp only; omega
      · rcases ho with rfl | rfl
        · rw [onceL_le]; show (((0 * 256 + bt c 3) * 256 + bt c 2) * 256 + bt c 1) * 256 + bt c 0 = _; simp only; omega
        · rw [onceL_be]; show (((0 * 256 + bt c 3) * 256 + bt c 2) * 256 + bt c 1) * 256 + bt c 0 = _; simp only; omega
      · rcases ho with rfl | rfl
        · rw [onceL_le]; show (((0 * 256 + bt p 3) * 256 + bt p 2) * 256 + bt p 1) * 256 + bt p 0 = _; simp only; omega
        · rw [onceL_be]; show (((0 * 256 + bt p 3) * 256 + bt p 2) * 256 + bt p 1) * 256 + bt p 0 = _; simp only; omega
    · rcases ho with rfl | rfl
      · rw [onceL_le]; rfl
      · rw [onceL_be]; rfl
    · intro j hj
      rcases ho with rfl | rfl
      · rw [onceL_le]; exact drop_tail _ rfl hj
      · rw [onceL_be]; exact drop_tail _ rfl hj
    · have c1 := bt_byt k 0
      have c2 := bt_byt k 1
      have c3 := bt_byt c 0
      have c4 := bt_byt c 1
      have c5 := bt_byt c 2
      have c6 := bt_byt c 3
      have c7 := bt_byt p 0
      have c8 := bt_byt p 1
      have c9 := bt_byt p 2
      have c10 := bt_byt p 3
      rcases ho with rfl | rfl
      · rw [onceL_le]
        refine hbyt _ (fun x hx => ?_)
        simp only [List.mem_cons, List.not_mem_nil, or_false] at hx
        omega
      · rw [onceL_be]
        refine hbyt _ (fun x hx => ?_)
        simp only [List.mem_cons, List.not_mem_nil, or_false] at hx
        omega
  obtain ⟨a1, a2, a3, a4, a5, a6, a7, a8⟩ := h42
  exact ⟨a1, a8, hlen, once_plain _ o k c p ho hk1 hk2 hc1 hc2 h4 hlen a1 a2 a3 a4 a5 a6 a7⟩
end Go.Proofs.Ytheelhepelbgcaa

namespace Tt
open Go Go.RowKit
section
variable {P : Program} {w : World} {ops : Array Oper} {rest : List Oper} {o : Oper} {a : Act} {Q : Exit → Act → World → Prop}
/-- 'copy(d, s)' of a string into a row of the call's own. -/
theorem wpList_copy_str (hgd : o.guard = none) (d s : Operand) (dT sT : TypeId)
    (ho : o.op = .call { callee := .builtin .copy, args := #[d, s], argTypes := #[dT, sT] }) (elem : TypeId) (hu : P.underlying dT = some (.slice elem)) (hsz : (P.info? elem).map (·.size) = some 1)
    (g n : Nat) (l : List Int) (hd : a.eval d = .slice (some ⟨g, 0, none⟩) n n) (hR : Row w g elem .u8 l) (hl : l.length = n) (x : ByteArray) (hs : a.eval s = .string x) (hx : x.size ≤ n)
    (h : ∀ w', Row w' g elem .u8 (splice l 0 (strB x)) → But g w w' → wpList P ops Q rest (a.put o.dst (goInt x.size)) w') : wpList P ops Q (o :: rest) a w := by
  refine wpList_plain hgd fun K hK => ?_
  have hrun := Lib.run_copy_row_string (P := P) w dT sT o.type elem g 0 n n x (ints .u8 l).toArray elem hu hsz hR hx (by simp [ints]; omega)
  have hb : Lib.byteCells x.data.toList = ints .u8 (strB x) := by simp [Lib.byteCells, ints, strB]
  rw [hb] at hrun
  have hrow : ((ints .u8 l).toArray.toList.take 0 ++ ints .u8 (strB x) ++ (ints .u8 l).toArray.toList.drop (0 + x.size)).toArray = (ints .u8 (splice l 0 (strB x))).toArray := by
    rw [← ints_splice]
    unfold splice
    rw [ints_len, strB_len]
    simp
  rw [hrow] at hrun
  have hK2 := hK _ _ (h _ (setRow_heap w g _ _ elem _ hR) ⟨rfl, rfl, rfl, by simp [World.setRow], fun k _ hk => setRow_other w g k _ hk⟩)
  unfold Oper.wp
  simp [execOp, ho, resolve, invoke, builtin, hd, hs, hrun, Result.andThen]
  exact hK2
end
end Tt
namespace Go.Proofs.Ytheelhepelbgcaa
open Go.RowKit Tt
set_option linter.unusedVariables false
set_option linter.unusedSimpArgs false

def sign1 : ByteArray := ⟨#[73, 73, 42, 0, 8, 0, 0, 0, 1, 0, 0, 1]⟩
def sign2 : ByteArray := ⟨#[77, 77, 0, 42, 0, 0, 0, 8, 0, 1, 1, 0]⟩
theorem strB_s1 : strB sign1 = signL 1 := by decide +kernel
theorem strB_s2 : strB sign2 = signL 2 := by decide +kernel
set_option maxRecDepth 100000 in
set_option maxHeartbeats 16000000 in
theorem once_walk (hD : DirOk) (kind count at_ o : Int) (w : World) :
    Calls Try.prog 3 #[.int .i64 kind, .int .i64 count, .int .i64 at_, .int .i64 o] w fun e w' => e = .returned (.bool true) ∧ Below w.heap.size w w' := by
  obtain ⟨i0, hi, hz0, hz1, hz2⟩ := info_parts info8
  by_cases c1 : count < 1
  · have d1 : decide (count < 1) = true := by simp; omega
    go_enter Try.func3, Try.ntmps3
    go_wp2_with (first | (go_at_call 5; refine (awake_any hD _).mono ?_; rintro e w1 ⟨rfl, hb1⟩) | (go_at_call 6; refine (HLn.out _).mono ?_; rintro e w1 ⟨rfl, rfl⟩))
    go_ret
    exact ⟨rfl, hb1⟩
  have d1 : decide (count < 1) = false := by simp; omega
  by_cases c2 : 60 < count
  · have d2 : decide (60 < count) = true := by simp; omega
    go_enter Try.func3, Try.ntmps3
    go_wp2_with (first | (go_at_call 5; refine (awake_any hD _).mono ?_; rintro e w1 ⟨rfl, hb1⟩) | (go_at_call 6; refine (HLn.out _).mono ?_; rintro e w1 ⟨rfl, rfl⟩))
    go_ret
    exact ⟨rfl, hb1⟩
  have d2 : decide (60 < count) = false := by simp; omega
  by_cases c3 : kind < 1
  · have d3 : decide (kind < 1) = true := by simp; omega
    go_enter Try.func3, Try.ntmps3
    go_wp2_with (first | (go_at_call 5; refine (awake_any hD _).mono ?_; rintro e w1 ⟨rfl, hb1⟩) | (go_at_call 6; refine (HLn.out _).mono ?_; rintro e w1 ⟨rfl, rfl⟩))
    go_ret
    exact ⟨rfl, hb1⟩
  have d3 : decide (kind < 1) = false := by simp; omega
  by_cases c4 : 12 < kind
  · have d4 : decide (12 < kind) = true := by simp; omega
    go_enter Try.func3, Try.ntmps3
    go_wp2_with (first | (go_at_call 5; refine (awake_any hD _).mono ?_; rintro e w1 ⟨rfl, hb1⟩) | (go_at_call 6; refine (HLn.out _).mono ?_; rintro e w1 ⟨rfl, rfl⟩))
    go_ret
    exact ⟨rfl, hb1⟩
  have d4 : decide (12 < kind) = false := by simp; omega
  by_cases c5 : o = 1 ∨ o = 2
  case neg =>
    have d5 : (o != 1) = true := by simp; omega
    have d6 : (o != 2) = true := by simp; omega
    go_enter Try.func3, Try.ntmps3
    go_wp2_with (first | (go_at_call 5; refine (awake_any hD _).mono ?_; rintro e w1 ⟨rfl, hb1⟩) | (go_at_call 6; refine (HLn.out _).mono ?_; rintro e w1 ⟨rfl, rfl⟩))
    go_ret
    exact ⟨rfl, hb1⟩
  obtain ⟨k, rfl⟩ : ∃ k : Nat, kind = k := ⟨kind.toNat, by omega⟩
  obtain ⟨c, rfl⟩ : ∃ c : Nat, count = c := ⟨count.toNat, by omega⟩
  have hk1 : 1 ≤ k := by omega
  have hk2 : k ≤ 12 := by omega
  have hc1 : 1 ≤ c := by omega
  have hc2 : c ≤ 60 := by omega
  have HLn := Lib.hid (fun W => lengths_any k hk2 W)
  obtain ⟨_, e2, e3, _⟩ := kind_len hk1 hk2
  have hlaw := fun (p : Nat) hp => once_law o k c p c5 hk1 hk2 hc1 hc2 hp
  obtain ⟨L, hL⟩ : ∃ L : Nat, lenS k = L := ⟨(lenS k).toNat, by omega⟩
  rw [hL] at HLn hlaw e2 e3
  have hmul : (L : Int) * c = ((L * c : Nat) : Int) := by simp
  obtain ⟨q, hq⟩ : ∃ q, L * c = q := ⟨_, rfl⟩
  rw [hq] at hmul
  have hq8 : q ≤ 480 := by
    have : L ≤ 8 := by omega
    have h2 := Nat.mul_le_mul this hc2
    omega
  have hw : IntKind.i64.wrap ((L : Int) * c) = q := by rw [hmul, IntKind.wrap_i64]; omega
  rw [hmul] at hlaw
  clear hmul c1 c2 c3 c4
  have hL' := Lib.hid hL
  have hq' := Lib.hid hq
  have hlaw' := Lib.hid hlaw
  clear hL hq hlaw
  by_cases c6 : q ≤ 4
  · have d6 : decide ((q : Int) ≤ 4) = true := by simp; omega
    have d6' : decide (q ≤ 4) = true := by simp; omega
    rcases c5 with rfl | rfl
    all_goals
      go_enter Try.func3, Try.ntmps3
      go_wp2_with (first | (go_at_call 5; refine (awake_any hD _).mono ?_; rintro e w1 ⟨rfl, hb1⟩) | (go_at_call 6; refine (HLn.out _).mono ?_; rintro e w1 ⟨rfl, rfl⟩))
      go_ret
      exact ⟨rfl, hb1⟩
  have d6 : decide ((q : Int) ≤ 4) = false := by simp; omega
  have d6' : decide (q ≤ 4) = false := by simp; omega
  have d7 : decide (480 < (q : Int)) = false := by simp; omega
  have d7' : decide (480 < q) = false := by simp; omega
  by_cases c7 : at_ < 0
  · have d8 : decide (at_ < 0) = true := by simp; omega
    rcases c5 with rfl | rfl
    all_goals
      go_enter Try.func3, Try.ntmps3
      go_wp2_with (first | (go_at_call 5; refine (awake_any hD _).mono ?_; rintro e w1 ⟨rfl, hb1⟩) | (go_at_call 6; refine (HLn.out _).mono ?_; rintro e w1 ⟨rfl, rfl⟩))
      go_ret
      exact ⟨rfl, hb1⟩
  have d8 : decide (at_ < 0) = false := by simp; omega
  by_cases c8 : 1048576 < at_
  · have d9 : decide (1048576 < at_) = true := by simp; omega
    rcases c5 with rfl | rfl
    all_goals
      go_enter Try.func3, Try.ntmps3
      go_wp2_with (first | (go_at_call 5; refine (awake_any hD _).mono ?_; rintro e w1 ⟨rfl, hb1⟩) | (go_at_call 6; refine (HLn.out _).mono ?_; rintro e w1 ⟨rfl, rfl⟩))
      go_ret
      exact ⟨rfl, hb1⟩
  have d9 : decide (1048576 < at_) = false := by simp; omega
  obtain ⟨p, rfl⟩ : ∃ p : Nat, at_ = p := ⟨at_.toNat, by omega⟩
  have hp : p ≤ 1048576 := by omega
  obtain ⟨g, hg⟩ : ∃ g, w.heap.size = g := ⟨_, rfl⟩
  rcases c5 with rfl | rfl
  ·
    go_enter Try.func3, Try.ntmps3
    go_upto_region 10 with (first
      | (go_at_call 6; refine (HLn.out _).mono ?_; rintro e w1 ⟨rfl, rfl⟩)
      | (at_make; refine wpList_make_full w rfl _ _ 24 rfl w.heap.size 5 i0 _ 1 Try.underlying24 hi hz0 hz1 .i64 .i64 _ _ 600 rfl rfl rfl rfl (by rw [hz2]; omega) (by unfold maxLen; omega) (Nat.le_refl _) ?_; intro w2 hown hg2; have Hown := Lib.hid hown; have Hg2 := Lib.hid hg2; clear hown hg2))
    go_wp2_with (refine wpList_copy_str rfl (.tmp 61) (.tmp 62) 24 9 rfl 5 Try.underlying24 (by kernel_rfl) g 600 (List.replicate 600 0) rfl (by have h := Hown.out; rw [made_row, hg] at h; exact Row.of_own h) (by simp) sign1 rfl (by decide +kernel) ?_; intro w3 hr3 hb3; have Hr3 := Lib.hid hr3; have Hb3 := Lib.hid hb3; clear hr3 hb3)
    have r3 : Row w3 g 5 .u8 (splice (List.replicate 600 0) 0 (signL 1)) := by have h := Hr3.out; rwa [strB_s1] at h
    have hlt0 : g < w3.heap.size := r3.lt
    have hb3 : Below w.heap.size w w3 := by
      have h1 : Below w.heap.size w w2 := (Below.refl _ _).grown Hg2.out (Nat.le_refl _) (fun k e => by cases e)
      exact h1.trans (Hb3.out.below (by omega) h1.size)
    have l3 : (splice (List.replicate 600 0) 0 (signL 1) : List Int).length = 600 := by kernel_rfl
    clear Hr3 Hb3 Hown Hg2
    have r3' := Lib.hid r3
    have hb3' := Lib.hid hb3
    have l3' := Lib.hid l3
    clear r3 hb3 l3
    refine (lput_any g 600 12 k 2 1 (by omega) _ w3 r3'.out l3'.out (by omega) (by omega) (by omega) (by omega)).mono ?_
    rintro e w4 ⟨rfl, r4, bt4⟩
    have l4 := (putL_len (splice (List.replicate 600 0) 0 (signL 1)) 12 k 2 1 2).trans l3'.out
    have hb4 := hb3'.out.trans (bt4.below (by omega) hb3'.out.size)
    clear r3' hb3' l3' bt4
    have r4' := Lib.hid r4
    have l4' := Lib.hid l4
    have hb4' := Lib.hid hb4
    clear r4 l4 hb4
    go_wp2_with fail
    refine (lput_any g 600 14 c 4 1 (by omega) _ w4 r4'.out l4'.out (by omega) (by omega) (by omega) (by omega)).mono ?_
    rintro e w5 ⟨rfl, r5, bt5⟩
    have l5 := (putL_len (putL (splice (List.replicate 600 0) 0 (signL 1)) 12 k 2 1 2) 14 c 4 1 4).trans l4'.out
    have hb5 := hb4'.out.trans (bt5.below (by omega) hb4'.out.size)
    clear r4' hb4' l4' bt5
    have r5' := Lib.hid r5
    have l5' := Lib.hid l5
    have hb5' := Lib.hid hb5
    clear r5 l5 hb5
    go_wp2_with fail
    refine (lput_any g 600 18 p 4 1 (by omega) _ w5 r5'.out l5'.out (by omega) (by omega) (by omega) (by omega)).mono ?_
    rintro e w6 ⟨rfl, r6, bt6⟩
    replace r6 : Row w6 g 5 .u8 (onceL 1 k c p) := r6
    have hb6 := hb5'.out.trans (bt6.below (by omega) hb5'.out.size)
    obtain ⟨ho1, hby, hlen, L4, L5, L6, L0⟩ := hlaw'.out p hp (by omega)
    have sl6 : Sl w6 (some ⟨g, 0, none⟩) 600 600 1 (ints .u8 (onceL 1 k c p)) := (Sl.of_own (r6.own hlen (Nat.zero_le _) (by unfold maxLen; omega))).1
    obtain ⟨V, hV⟩ : ∃ V, w6.alloc (.cells #[.slice none 0 0, .int .i64 0, .int .i64 0, .int .i64 (-1)] 35) = V := ⟨_, rfl⟩
    have hbV : Below w6.heap.size w6 V := by rw [← hV]; exact (Below.refl _ _).alloc (Nat.le_refl _) _
    have hsh : ShR V (some ⟨w6.heap.size, 0, none⟩) 1 1 [((none, 0, 0), ([], 0, 0, -1))] := lone_at (by rw [hV]; exact Below.refl _ _)
    have HW := wof_any hD (some ⟨g, 0, none⟩) 600 600 (onceL 1 k c p) (some ⟨w6.heap.size, 0, none⟩) 1 1 _ V (sl6.mono hbV) hsh hby (by omega) (fun x h => readS_ne h)
    rw [show shps [((none, 0, 0), ([], 0, 0, -1))] = loneS from rfl, ho1] at HW
    have hbV0 := hb6.trans (hbV.mono hb6.size)
    obtain ⟨R, hR⟩ : ∃ R, readS (onceL 1 k c p) loneS = R := ⟨_, rfl⟩
    rw [hR] at HW L4 L5 L6 L0
    clear hb5' r5' l5' bt6 r6 hby hlen ho1 sl6 hsh hbV hb6 hlaw' hR
    have HW' := Lib.hid HW
    have hbV0' := Lib.hid hbV0
    have L4' := Lib.hid L4
    have L5' := Lib.hid L5
    have L6' := Lib.hid L6
    have L0' := Lib.hid L0
    clear HW hbV0 L4 L5 L6 L0
    go_wp2_with fail
    try rw [hV]
    refine HW'.out.mono ?_
    rintro e w7 hpost
    clear HW' hV
    have hadd : IntKind.i64.wrap ((p : Int) + q) = p + q := by rw [IntKind.wrap_i64]; omega
    have hlt0 := hbV0'.out.size
    by_cases h1 : p % 2 = 1
    · have e1 : Int.tmod (p : Int) 2 = 1 := by rw [Int.tmod_eq_emod_of_nonneg (by omega)]; omega
      have e2 : (p : Int) % 2 = 1 := by omega
      obtain rfl : R = .error 4 := (L4'.out (.inl h1))
      obtain ⟨rfl, hb7⟩ := hpost
      have hb7 := hbV0'.out.trans (hb7.mono hbV0'.out.size)
      clear hbV0' L4' L5' L6' L0' hlt0
      have hb7' := Lib.hid hb7
      clear hb7
      go_wp2_with (go_at_call 5; refine (awake_any hD _).mono ?_; rintro e w8 ⟨rfl, hb8⟩; have HB8 := Lib.hid hb8; clear hb8)
      go_ret
      exact ⟨rfl, below_new hb7'.out HB8.out⟩
    have e1 : Int.tmod (p : Int) 2 = 0 := by rw [Int.tmod_eq_emod_of_nonneg (by omega)]; omega
    have e2 : (p : Int) % 2 = 0 := by omega
    by_cases h2 : (600 : Int) < p + q
    · have e3 : decide ((600 : Int) < p + q) = true := by simp; omega
      have h4 := L4'.out (.inr h2)
      clear h2
      obtain rfl : R = .error 4 := h4
      obtain ⟨rfl, hb7⟩ := hpost
      have hb7 := hbV0'.out.trans (hb7.mono hbV0'.out.size)
      clear hbV0' L4' L5' L6' L0' hlt0
      have hb7' := Lib.hid hb7
      clear hb7
      go_wp2_with (go_at_call 5; refine (awake_any hD _).mono ?_; rintro e w8 ⟨rfl, hb8⟩; have HB8 := Lib.hid hb8; clear hb8)
      go_ret
      exact ⟨rfl, below_new hb7'.out HB8.out⟩
    have e3 : decide ((600 : Int) < p + q) = false := by simp; omega
    have hno : ¬ (p % 2 = 1 ∨ (600 : Int) < p + q) := by omega
    by_cases h3 : p < 26
    · have e4 : decide ((p : Int) < 26) = true := by simp; omega
      have h4 := L5'.out hno h3
      clear h2 h3 hno
      obtain rfl : R = .error 5 := h4
      obtain ⟨rfl, hb7⟩ := hpost
      have hb7 := hbV0'.out.trans (hb7.mono hbV0'.out.size)
      clear hbV0' L4' L5' L6' L0' hlt0
      have hb7' := Lib.hid hb7
      clear hb7
      go_wp2_with (go_at_call 5; refine (awake_any hD _).mono ?_; rintro e w8 ⟨rfl, hb8⟩; have HB8 := Lib.hid hb8; clear hb8)
      go_ret
      exact ⟨rfl, below_new hb7'.out HB8.out⟩
    have e4 : decide ((p : Int) < 26) = false := by simp; omega
    by_cases h5 : k = 2
    · have e5 : ((k : Int) == 2) = true := by simp; omega
      have h4 := L6'.out hno h3 h5
      clear h2 h3 hno h5
      obtain rfl : R = .error 6 := h4
      obtain ⟨rfl, hb7⟩ := hpost
      have hb7 := hbV0'.out.trans (hb7.mono hbV0'.out.size)
      clear hbV0' L4' L5' L6' L0' hlt0
      have hb7' := Lib.hid hb7
      clear hb7
      go_wp2_with (go_at_call 5; refine (awake_any hD _).mono ?_; rintro e w8 ⟨rfl, hb8⟩; have HB8 := Lib.hid hb8; clear hb8)
      go_ret
      exact ⟨rfl, below_new hb7'.out HB8.out⟩
    have e5 : ((k : Int) == 2) = false := by simp; omega
    obtain ⟨d, s, hRok, hsp⟩ := L0'.out hno h3 h5
    subst hRok
    obtain ⟨a2, m, c2, b, kk, dd, rfl, hb7, hds, hown⟩ := hpost
    have hb7 := hbV0'.out.trans (hb7.mono hbV0'.out.size)
    have hm : ([d] : List (DirT 16)).length = m := (DirsAt.rd hds).len
    obtain rfl : m = 1 := hm.symm
    rw [hsp] at hown
    have hkk : 3 = kk := (Sl.of_own hown).2
    subst hkk
    obtain ⟨bb, oo, rfl, hbb, fe⟩ := (Sl.of_own hown).1.elem spC_len (by decide) spz (show 2 < 3 by decide)
    have f3 : w7.cell? ⟨bb, oo + 10 + 3, none⟩ = some (.int .i64 p) := fe 3 _ rfl
    have f4 : w7.cell? ⟨bb, oo + 10 + 4, none⟩ = some (.int .i64 q) := fe 4 _ rfl
    have f5 : w7.cell? ⟨bb, oo + 13, none⟩ = some (.int .i64 p) := f3
    have f6 : w7.cell? ⟨bb, oo + 14, none⟩ = some (.int .i64 q) := f4
    clear hbV0' L4' L5' L6' L0' hlt0 h1 h2 h3 h5 hno hds hown fe hsp hm
    have hb7' := Lib.hid hb7
    clear hb7
    go_wp2_with (go_at_call 5; refine (awake_any hD _).mono ?_; rintro e w8 ⟨rfl, hb8⟩; have HB8 := Lib.hid hb8; clear hb8)
    go_ret
    exact ⟨rfl, below_new hb7'.out HB8.out⟩
  ·
    go_enter Try.func3, Try.ntmps3
    go_upto_region 10 with (first
      | (go_at_call 6; refine (HLn.out _).mono ?_; rintro e w1 ⟨rfl, rfl⟩)
      | (at_make; refine wpList_make_full w rfl _ _ 24 rfl w.heap.size 5 i0 _ 1 Try.underlying24 hi hz0 hz1 .i64 .i64 _ _ 600 rfl rfl rfl rfl (by rw [hz2]; omega) (by unfold maxLen; omega) (Nat.le_refl _) ?_; intro w2 hown hg2; have Hown := Lib.hid hown; have Hg2 := Lib.hid hg2; clear hown hg2))
    go_wp2_with (refine wpList_copy_str rfl (.tmp 61) (.tmp 62) 24 9 rfl 5 Try.underlying24 (by kernel_rfl) g 600 (List.replicate 600 0) rfl (by have h := Hown.out; rw [made_row, hg] at h; exact Row.of_own h) (by simp) sign2 rfl (by decide +kernel) ?_; intro w3 hr3 hb3; have Hr3 := Lib.hid hr3; have Hb3 := Lib.hid hb3; clear hr3 hb3)
    have r3 : Row w3 g 5 .u8 (splice (List.replicate 600 0) 0 (signL 2)) := by have h := Hr3.out; rwa [strB_s2] at h
    have hlt0 : g < w3.heap.size := r3.lt
    have hb3 : Below w.heap.size w w3 := by
      have h1 : Below w.heap.size w w2 := (Below.refl _ _).grown Hg2.out (Nat.le_refl _) (fun k e => by cases e)
      exact h1.trans (Hb3.out.below (by omega) h1.size)
    have l3 : (splice (List.replicate 600 0) 0 (signL 2) : List Int).length = 600 := by kernel_rfl
    clear Hr3 Hb3 Hown Hg2
    have r3' := Lib.hid r3
    have hb3' := Lib.hid hb3
    have l3' := Lib.hid l3
    clear r3 hb3 l3
    refine (lput_any g 600 12 k 2 2 (by omega) _ w3 r3'.out l3'.out (by omega) (by omega) (by omega) (by omega)).mono ?_
    rintro e w4 ⟨rfl, r4, bt4⟩
    have l4 := (putL_len (splice (List.replicate 600 0) 0 (signL 2)) 12 k 2 2 2).trans l3'.out
    have hb4 := hb3'.out.trans (bt4.below (by omega) hb3'.out.size)
    clear r3' hb3' l3' bt4
    have r4' := Lib.hid r4
    have l4' := Lib.hid l4
    have hb4' := Lib.hid hb4
    clear r4 l4 hb4
    go_wp2_with fail
    refine (lput_any g 600 14 c 4 2 (by omega) _ w4 r4'.out l4'.out (by omega) (by omega) (by omega) (by omega)).mono ?_
    rintro e w5 ⟨rfl, r5, bt5⟩
    have l5 := (putL_len (putL (splice (List.replicate 600 0) 0 (signL 2)) 12 k 2 2 2) 14 c 4 2 4).trans l4'.out
    have hb5 := hb4'.out.trans (bt5.below (by omega) hb4'.out.size)
    clear r4' hb4' l4' bt5
    have r5' := Lib.hid r5
    have l5' := Lib.hid l5
    have hb5' := Lib.hid hb5
    clear r5 l5 hb5
    go_wp2_with fail
    refine (lput_any g 600 18 p 4 2 (by omega) _ w5 r5'.out l5'.out (by omega) (by omega) (by omega) (by omega)).mono ?_
    rintro e w6 ⟨rfl, r6, bt6⟩
    replace r6 : Row w6 g 5 .u8 (onceL 2 k c p) := r6
    have hb6 := hb5'.out.trans (bt6.below (by omega) hb5'.out.size)
    obtain ⟨ho1, hby, hlen, L4, L5, L6, L0⟩ := hlaw'.out p hp (by omega)
    have sl6 : Sl w6 (some ⟨g, 0, none⟩) 600 600 1 (ints .u8 (onceL 2 k c p)) := (Sl.of_own (r6.own hlen (Nat.zero_le _) (by unfold maxLen; omega))).1
    obtain ⟨V, hV⟩ : ∃ V, w6.alloc (.cells #[.slice none 0 0, .int .i64 0, .int .i64 0, .int .i64 (-1)] 35) = V := ⟨_, rfl⟩
    have hbV : Below w6.heap.size w6 V := by rw [← hV]; exact (Below.refl _ _).alloc (Nat.le_refl _) _
    have hsh : ShR V (some ⟨w6.heap.size, 0, none⟩) 1 1 [((none, 0, 0), ([], 0, 0, -1))] := lone_at (by rw [hV]; exact Below.refl _ _)
    have HW := wof_any hD (some ⟨g, 0, none⟩) 600 600 (onceL 2 k c p) (some ⟨w6.heap.size, 0, none⟩) 1 1 _ V (sl6.mono hbV) hsh hby (by omega) (fun x h => readS_ne h)
    rw [show shps [((none, 0, 0), ([], 0, 0, -1))] = loneS from rfl, ho1] at HW
    have hbV0 := hb6.trans (hbV.mono hb6.size)
    obtain ⟨R, hR⟩ : ∃ R, readS (onceL 2 k c p) loneS = R := ⟨_, rfl⟩
    rw [hR] at HW L4 L5 L6 L0
    clear hb5' r5' l5' bt6 r6 hby hlen ho1 sl6 hsh hbV hb6 hlaw' hR
    have HW' := Lib.hid HW
    have hbV0' := Lib.hid hbV0
    have L4' := Lib.hid L4
    have L5' := Lib.hid L5
    have L6' := Lib.hid L6
    have L0' := Lib.hid L0
    clear HW hbV0 L4 L5 L6 L0
    go_wp2_with fail
    try rw [hV]
    refine HW'.out.mono ?_
    rintro e w7 hpost
    clear HW' hV
    have hadd : IntKind.i64.wrap ((p : Int) + q) = p + q := by rw [IntKind.wrap_i64]; omega
    have hlt0 := hbV0'.out.size
    by_cases h1 : p % 2 = 1
    · have e1 : Int.tmod (p : Int) 2 = 1 := by rw [Int.tmod_eq_emod_of_nonneg (by omega)]; omega
      have e2 : (p : Int) % 2 = 1 := by omega
      obtain rfl : R = .error 4 := (L4'.out (.inl h1))
      obtain ⟨rfl, hb7⟩ := hpost
      have hb7 := hbV0'.out.trans (hb7.mono hbV0'.out.size)
      clear hbV0' L4' L5' L6' L0' hlt0
      have hb7' := Lib.hid hb7
      clear hb7
      go_wp2_with (go_at_call 5; refine (awake_any hD _).mono ?_; rintro e w8 ⟨rfl, hb8⟩; have HB8 := Lib.hid hb8; clear hb8)
      go_ret
      exact ⟨rfl, below_new hb7'.out HB8.out⟩
    have e1 : Int.tmod (p : Int) 2 = 0 := by rw [Int.tmod_eq_emod_of_nonneg (by omega)]; omega
    have e2 : (p : Int) % 2 = 0 := by omega
    by_cases h2 : (600 : Int) < p + q
    · have e3 : decide ((600 : Int) < p + q) = true := by simp; omega
      have h4 := L4'.out (.inr h2)
      clear h2
      obtain rfl : R = .error 4 := h4
      obtain ⟨rfl, hb7⟩ := hpost
      have hb7 := hbV0'.out.trans (hb7.mono hbV0'.out.size)
      clear hbV0' L4' L5' L6' L0' hlt0
      have hb7' := Lib.hid hb7
      clear hb7
      go_wp2_with (go_at_call 5; refine (awake_any hD _).mono ?_; rintro e w8 ⟨rfl, hb8⟩; have HB8 := Lib.hid hb8; clear hb8)
      go_ret
      exact ⟨rfl, below_new hb7'.out HB8.out⟩
    have e3 : decide ((600 : Int) < p + q) = false := by simp; omega
    have hno : ¬ (p % 2 = 1 ∨ (600 : Int) < p + q) := by omega
    by_cases h3 : p < 26
    · have e4 : decide ((p : Int) < 26) = true := by simp; omega
      have h4 := L5'.out hno h3
      clear h2 h3 hno
      obtain rfl : R = .error 5 := h4
      obtain ⟨rfl, hb7⟩ := hpost
      have hb7 := hbV0'.out.trans (hb7.mono hbV0'.out.size)
      clear hbV0' L4' L5' L6' L0' hlt0
      have hb7' := Lib.hid hb7
      clear hb7
      go_wp2_with (go_at_call 5; refine (awake_any hD _).mono ?_; rintro e w8 ⟨rfl, hb8⟩; have HB8 := Lib.hid hb8; clear hb8)
      go_ret
      exact ⟨rfl, below_new hb7'.out HB8.out⟩
    have e4 : decide ((p : Int) < 26) = false := by simp; omega
    by_cases h5 : k = 2
    · have e5 : ((k : Int) == 2) = true := by simp; omega
      have h4 := L6'.out hno h3 h5
      clear h2 h3 hno h5
      obtain rfl : R = .error 6 := h4
      obtain ⟨rfl, hb7⟩ := hpost
      have hb7 := hbV0'.out.trans (hb7.mono hbV0'.out.size)
      clear hbV0' L4' L5' L6' L0' hlt0
      have hb7' := Lib.hid hb7
      clear hb7
      go_wp2_with (go_at_call 5; refine (awake_any hD _).mono ?_; rintro e w8 ⟨rfl, hb8⟩; have HB8 := Lib.hid hb8; clear hb8)
      go_ret
      exact ⟨rfl, below_new hb7'.out HB8.out⟩
    have e5 : ((k : Int) == 2) = false := by simp; omega
    obtain ⟨d, s, hRok, hsp⟩ := L0'.out hno h3 h5
    subst hRok
    obtain ⟨a2, m, c2, b, kk, dd, rfl, hb7, hds, hown⟩ := hpost
    have hb7 := hbV0'.out.trans (hb7.mono hbV0'.out.size)
    have hm : ([d] : List (DirT 16)).length = m := (DirsAt.rd hds).len
    obtain rfl : m = 1 := hm.symm
    rw [hsp] at hown
    have hkk : 3 = kk := (Sl.of_own hown).2
    subst hkk
    obtain ⟨bb, oo, rfl, hbb, fe⟩ := (Sl.of_own hown).1.elem spC_len (by decide) spz (show 2 < 3 by decide)
    have f3 : w7.cell? ⟨bb, oo + 10 + 3, none⟩ = some (.int .i64 p) := fe 3 _ rfl
    have f4 : w7.cell? ⟨bb, oo + 10 + 4, none⟩ = some (.int .i64 q) := fe 4 _ rfl
    have f5 : w7.cell? ⟨bb, oo + 13, none⟩ = some (.int .i64 p) := f3
    have f6 : w7.cell? ⟨bb, oo + 14, none⟩ = some (.int .i64 q) := f4
    clear hbV0' L4' L5' L6' L0' hlt0 h1 h2 h3 h5 hno hds hown fe hsp hm
    have hb7' := Lib.hid hb7
    clear hb7
    go_wp2_with (go_at_call 5; refine (awake_any hD _).mono ?_; rintro e w8 ⟨rfl, hb8⟩; have HB8 := Lib.hid hb8; clear hb8)
    go_ret
    exact ⟨rfl, below_new hb7'.out HB8.out⟩
end Go.Proofs.Ytheelhepelbgcaa
