/- Words on bits: or, and, xor of two numbers from 0 on; numbers out of bytes. | Chapter 1: Get. | Chapter 1 of the document's answer: Own, Same, Top, Put: what each computes. -/
import Derived.Laws.Bits64
import Derived.Test.YtpjopeojeglogaaCd01
import Derived.Test.YtpjopeojeglogaaCd04
import Derived.StillTail
import Derived.StillTailTactics
import Derived.BigQuiet
import Derived.Deep.RegionLaw
import Derived.Deep.CutRange
import Derived.Deep.Cut
import Derived.BigRegion
import Derived.Lib.SliceRun
namespace Tt
open Go Go.RowKit
set_option linter.unusedVariables false

theorem or_i64 (a b : Nat) (ha : a < 9223372036854775808) (hb : b < 9223372036854775808) : bits .or .i64 (a : Int) (b : Int) = ((a ||| b : Nat) : Int) := by
  have hx : a ||| b < 2 ^ 63 := Nat.or_lt_two_pow (by omega) (by omega)
  have h1 : (BitVec.ofInt 64 (a : Int)).toNat = a := by rw [BitVec.ofInt_natCast, BitVec.toNat_ofNat]; exact Nat.mod_eq_of_lt (by omega)
  have h2 : (BitVec.ofInt 64 (b : Int)).toNat = b := by rw [BitVec.ofInt_natCast, BitVec.toNat_ofNat]; exact Nat.mod_eq_of_lt (by omega)
  show IntKind.i64.wrap ((BitVec.ofInt 64 (a : Int) ||| BitVec.ofInt 64 (b : Int)).toNat : Int) = _
  rw [BitVec.toNat_or, h1, h2, IntKind.wrap_i64]
  omega
/-- a number moved up by 8 bits, and a byte -/
theorem or_byte {N B : Int} (h0 : 0 ≤ N) (h1 : N < 36028797018963968) (h2 : 0 ≤ B) (h3 : B < 256) : bits .or .i64 (N * 256) B = N * 256 + B := by
  obtain ⟨a, rfl⟩ : ∃ a : Nat, N = a := ⟨N.toNat, by omega⟩; obtain ⟨b, rfl⟩ : ∃ b : Nat, B = b := ⟨B.toNat, by omega⟩; have h := or_i64 (a * 256) b (by omega) (by omega); have h4 := Nat.two_pow_add_eq_or_of_lt (i := 8) (b := b) (by omega) a; have h5 : (2 ^ 8 * a : Nat) = a * 256 := by omega
  rw [h5] at h4; rw [← h4] at h; rw [show ((a * 256 : Nat) : Int) = (a : Int) * 256 by omega, show ((a * 256 + b : Nat) : Int) = (a : Int) * 256 + b by omega] at h; exact h
/-- the number that bytes are, the first one the highest -/
def be (l : List Int) : Int := l.foldl (fun n b => n * 256 + b) 0
theorem be_snoc (l : List Int) (b : Int) : be (l ++ [b]) = be l * 256 + b := by unfold be; rw [List.foldl_append]; rfl
theorem take_snoc' {l : List Int} {j : Nat} (h : j < l.length) : l.take (j + 1) = l.take j ++ [l.getD j 0] := by
  rw [List.take_add_one, List.getElem?_eq_getElem h, List.getD_eq_getElem?_getD, List.getElem?_eq_getElem h]
  rfl
theorem be_take {l : List Int} {j : Nat} (h : j < l.length) : be (l.take (j + 1)) = be (l.take j) * 256 + l.getD j 0 := by rw [take_snoc' h, be_snoc]
theorem be_bound {l : List Int} (h : Byt l) : ∀ {j : Nat}, j ≤ l.length → 0 ≤ be (l.take j) ∧ be (l.take j) < 256 ^ j
  | 0, _ => by simp [be]
  | j + 1, hj => by
    have h1 := be_bound h (j := j) (by omega); have h2 := h.get j; rw [be_take (by omega), Int.pow_succ]
    omega
end Tt

namespace Go.Proofs.Ytpjopeojeglogaa
open Go.RowKit Tt
set_option linter.unusedVariables false

/-- the bytes of a number, the highest one first -/
def getL (z : List Int) (at_ : Nat) (size : Nat) (order : Int) : List Int := if order = 1 then ((z.drop at_).take size).reverse else (z.drop at_).take size
def getB (n : Nat) (at_ size order : Int) : Bool := mayB size order && decide (0 ≤ at_) && decide (at_ ≤ n - size)
def getV (z : List Int) (at_ size order : Int) : Int := if getB z.length at_ size order = true then be (getL z at_.toNat size.toNat order) else 0
theorem getL_len {z : List Int} {at_ size : Nat} {order : Int} (h : at_ + size ≤ z.length) : (getL z at_ size order).length = size := by
  unfold getL; split <;> simp <;> omega
theorem getL_byt {z : List Int} (hb : Byt z) (at_ size : Nat) (order : Int) : Byt (getL z at_ size order) := by
  unfold getL
  split
  · intro x hx; exact (hb.drop _).take _ x (List.mem_reverse.1 hx)
  · exact (hb.drop _).take _
theorem getL_get {z : List Int} {at_ size i : Nat} {order : Int} (h : at_ + size ≤ z.length) (hi : i < size) : (getL z at_ size order).getD i 0 = z.getD (if order = 1 then at_ + size - 1 - i else at_ + i) 0 := by
  unfold getL
  split
  · rw [List.getD_eq_getElem?_getD, List.getElem?_reverse (by simp; omega), List.getElem?_take]
    rw [if_pos (by simp; omega), List.getElem?_drop, List.getD_eq_getElem?_getD]
    congr 2
    simp
    omega
  · rw [List.getD_eq_getElem?_getD, List.getElem?_take, if_pos hi, List.getElem?_drop, List.getD_eq_getElem?_getD]
theorem mayB_size {size order : Int} (h : mayB size order = true) : (size = 1 ∨ size = 2 ∨ size = 4) ∧ (order = 1 ∨ order = 2) := by
  unfold mayB at h
  simp at h
  omega

set_option maxRecDepth 20000 in
set_option maxHeartbeats 4000000 in
theorem get_any (a : Option Addr) (n c : Nat) (z : List Int) (at_ size order : Int) (w : World) (hs : Sl w a n c 1 (ints .u8 z)) (hb : Byt z) :
    Calls Try.prog 131 #[.slice a n c, .int .i64 at_, .int .i64 size, .int .i64 order] w fun e w' => e = .returned (.tuple #[.int .i64 (getV z at_ size order), .bool (getB n at_ size order)]) ∧ Below w.heap.size w w' := by
  have hzl := hs.ilen; have hle := hs.le; have hmx := hs.max; have hmm := fun W => omay_any size order W; have hgv : getV z at_ size order = if getB n at_ size order = true then be (getL z at_.toNat size.toNat order) else 0 := by unfold getV; rw [hzl]
  rw [hgv]; obtain ⟨m, hm⟩ : ∃ m, mayB size order = m := ⟨_, rfl⟩; rw [hm] at hmm; have hgb : getB n at_ size order = (m && decide (0 ≤ at_) && decide (at_ ≤ n - size)) := by unfold getB; rw [hm]
  rw [hgb]; have hs' := Lib.hid hs; have hb' := Lib.hid hb; have hzl' := Lib.hid hzl; have hmm' := Lib.hid hmm; clear hs hb hzl hmm; clear hgv hgb
  cases m
  · clear hm
    go_enter Try.func131, Try.ntmps131
    go_wp2_with (go_at_call 161; refine (hmm'.out _).mono ?_; rintro e w1 ⟨rfl, hb1⟩; have HB1 := Lib.hid hb1; clear hb1)
    go_ret2
    exact ⟨rfl, HB1.out⟩
  · obtain ⟨hsz, hord⟩ := mayB_size hm
    clear hm
    by_cases ha : at_ < 0
    · have d1 : decide (at_ < 0) = true := by simp; omega
      have d2 : decide (0 ≤ at_) = false := by simp; omega
      rw [d2]; clear hsz hord
      go_enter Try.func131, Try.ntmps131
      go_wp2_with (go_at_call 161; refine (hmm'.out _).mono ?_; rintro e w1 ⟨rfl, hb1⟩; have HB1 := Lib.hid hb1; clear hb1)
      go_ret2
      exact ⟨rfl, HB1.out⟩
    · have d1 : decide (at_ < 0) = false := by simp; omega
      have d2 : decide (0 ≤ at_) = true := by simp; omega
      rw [d2]; obtain ⟨A, rfl⟩ : ∃ A : Nat, at_ = A := ⟨at_.toNat, by omega⟩; obtain ⟨s, rfl⟩ : ∃ s : Nat, size = s := ⟨size.toNat, by omega⟩; have hs1 : 1 ≤ s := by omega
      have hs4 : s ≤ 4 := by omega
      rw [Int.toNat_natCast, Int.toNat_natCast]; have hwn : IntKind.i64.wrap ((n : Int) - s) = n - s := by rw [IntKind.wrap_i64]; omega
      by_cases hb2 : (n : Int) - s < A
      · have d3 : decide ((n : Int) - s < A) = true := by simp; omega
        have d4 : decide ((A : Int) ≤ n - s) = false := by simp; omega
        rw [d4]; clear hsz hord
        go_enter Try.func131, Try.ntmps131
        go_wp2_with (go_at_call 161; refine (hmm'.out _).mono ?_; rintro e w1 ⟨rfl, hb1⟩; have HB1 := Lib.hid hb1; clear hb1)
        go_ret2
        exact ⟨rfl, HB1.out⟩
      · have d3 : decide ((n : Int) - s < A) = false := by simp; omega
        have d4 : decide ((A : Int) ≤ n - s) = true := by simp; omega
        rw [d4]; have hlen := getL_len (order := order) (show A + s ≤ z.length by rw [hzl'.out]; omega); have hbyt := getL_byt hb'.out A s order; have hget := fun i hi => getL_get (z := z) (at_ := A) (size := s) (i := i) (order := order) (by rw [hzl'.out]; omega) hi; obtain ⟨L, hL⟩ : ∃ L, getL z A s order = L := ⟨_, rfl⟩; rw [hL] at hlen hbyt hget ⊢; clear hsz hL; have HL := Lib.hid hlen; have HLB := Lib.hid hbyt; have HG := Lib.hid hget; clear hlen hbyt hget; have hAs : A + s ≤ n := by omega
        go_enter Try.func131, Try.ntmps131
        go_wp2_with (go_at_call 161; refine (hmm'.out _).mono ?_; rintro e w1 ⟨rfl, hb1⟩; have HB1 := Lib.hid hb1; clear hb1)
        go_loop [10, 30] (fun v i => ∃ k : Nat, k ≤ s ∧ i = .int .i64 k ∧ v = .int .i64 (be (L.take k))) (fun _ i => s - (intOf i).toNat)
        case atStart => exact ⟨0, by omega, rfl, rfl⟩
        case round =>
          obtain ⟨k, hk, rfl, rfl⟩ := hrel
          by_cases hlt : k < s
          · have hbb := be_bound HLB.out (j := k) (by rw [HL.out]; omega)
            have hnx := be_take (l := L) (j := k) (by rw [HL.out]; exact hlt); have hbt := HLB.out.get k; have hgk := HG.out k hlt
            have h24 : be (L.take k) < 16777216 := by
              have : k = 0 ∨ k = 1 ∨ k = 2 ∨ k = 3 := by omega
              rcases this with rfl | rfl | rfl | rfl <;> simp at hbb ⊢ <;> omega
            obtain ⟨j, hj⟩ : ∃ j, (if order = 1 then A + s - 1 - k else A + k) = j := ⟨_, rfl⟩; have hjn : j < n := by rw [← hj]; split <;> omega
            obtain ⟨b, o, rfl, hbb2, hc⟩ := (hs'.out.mono HB1.out).at (i := j) hjn; have f1 := hc j _ (ints_get (by rw [hzl'.out]; exact hjn)); rw [hj] at hgk; rw [← hgk] at f1; obtain ⟨B, hB⟩ : ∃ B, L.getD k 0 = B := ⟨_, rfl⟩; obtain ⟨N, hN⟩ : ∃ N, be (L.take k) = N := ⟨_, rfl⟩; rw [hB] at f1 hnx hbt; rw [hN] at hnx hbb h24; rw [hN]; have hw1 : IntKind.i64.wrap (N * 256) = N * 256 := by rw [IntKind.wrap_i64]; omega
            have hor := or_byte (N := N) (B := B) (by omega) (by omega) hbt.1 hbt.2; have hw2 : IntKind.i64.wrap ((A : Int) + k) = A + k := by rw [IntKind.wrap_i64]; omega
            have hw3 : IntKind.i64.wrap ((A : Int) + s) = A + s := by rw [IntKind.wrap_i64]; omega
            have hw4 : IntKind.i64.wrap ((A : Int) + s - 1) = A + s - 1 := by rw [IntKind.wrap_i64]; omega
            have hw5 : IntKind.i64.wrap ((A : Int) + s - 1 - k) = A + s - 1 - k := by rw [IntKind.wrap_i64]; omega
            have hnx' := Lib.hid hnx; have hbb' := Lib.hid hbb; have hB' := Lib.hid hB; have hN' := Lib.hid hN; have hgk' := Lib.hid hgk; clear hnx hbb hB hN hgk; obtain ⟨hb0, hb255⟩ := hbt; clear hc
            by_cases ho : order = 1
            · have d5 : (order == 1) = true := by simp [ho]
              rw [if_pos ho] at hj; have hji : (A : Int) + s - 1 - k = (j : Int) := by omega
              rw [hji] at hw5; have hjn' : (j : Int) < n := by omega
              have ho' := Lib.hid ho; have hj' := Lib.hid hj; clear ho hj; clear hord hw2
              go_wp2
              go_round
              case rel => exact ⟨k + 1, by omega, by go_num, by rw [hnx'.out]⟩
              case measure => simp [intOf]; omega
            · have d5 : (order == 1) = false := by simp [ho]
              rw [if_neg ho] at hj; have hji : (A : Int) + k = (j : Int) := by omega
              rw [hji] at hw2; have hjn' : (j : Int) < n := by omega
              have ho' := Lib.hid ho; have hj' := Lib.hid hj; clear ho hj; clear hord hw3 hw4 hw5
              go_wp2
              go_round
              case rel => exact ⟨k + 1, by omega, by go_num, by rw [hnx'.out]⟩
              case measure => simp [intOf]; omega
          · obtain rfl : k = s := by omega
            go_wp2
            go_ret2
            exact ⟨by rw [List.take_of_length_le (by rw [HL.out]; omega)]; rfl, HB1.out⟩
end Go.Proofs.Ytpjopeojeglogaa

namespace Go.Proofs.Ytpjopeojeglogaa
open Go.RowKit Tt
set_option linter.unusedVariables false

def topS (s : Int) : Int := if s = 1 then 256 else if s = 2 then 65536 else if s = 4 then 4294967296 else 0
def leb : Nat → Int → List Int
  | 0, _ => []
  | k + 1, n => n % 256 :: leb k (n / 256)
theorem leb_len : ∀ (k : Nat) (n : Int), (leb k n).length = k
  | 0, _ => rfl
  | k + 1, n => by simp [leb, leb_len k]
def putOk (n s o : Int) : Bool := decide (1 ≤ o) && decide (o ≤ 2) && decide (0 ≤ n) && decide (n < topS s)
def putS (n s o : Int) : List Int := if putOk n s o = true then (if o = 1 then leb s.toNat n else (leb s.toNat n).reverse) else []

theorem topS_le (s : Int) : topS s ≤ 4294967296 := by
  unfold topS
  split
  · omega
  · split
    · omega
    · split <;> omega

theorem info8 : (Try.prog.info? 5).map (fun i => (i.zero, i.size, i.bytes)) = some (some (.int .u8 0), 1, 1) := by kernel_rfl

end Go.Proofs.Ytpjopeojeglogaa
