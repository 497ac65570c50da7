/- slices.IndexFunc, ContainsFunc over ints, with a function that only reads. | Chapter 1: may; Get. | Words on bits: or, and, xor of two numbers from 0 on; numbers out of bytes. | Chapter 1: Get. | Chapter 1 of the document's answer: Own, Same, Top, Put: what each computes. -/
import Derived.Test.YtilennmeiaehnaaGreatCa00
import Derived.Laws.Bits64
import Derived.StillTail
import Derived.StillTailTactics
import Derived.BigQuiet
import Derived.Deep.RegionLaw
import Derived.Deep.CutRange
import Derived.Deep.Cut
import Derived.BigRegion
import Derived.Lib.SliceRun
namespace Go.Proofs.YtilennmeiaehnaaGreat
open Go.RowKit Tt
set_option linter.unusedVariables false
set_option linter.unusedSimpArgs false

/-- the place of the first that p holds for, from k on; the length if there is none -/
def fst {α : Type} (p : α → Bool) (l : List α) : Int := match l.findIdx? p with | some i => i | none => -1
theorem fst_at {α : Type} {p : α → Bool} {l : List α} {k : Nat} (hk : k < l.length) (h : p l[k] = true) (hn : ∀ i (hi : i < k), p (l[i]'(by omega)) = false) : fst p l = k := by
  unfold fst; rw [List.findIdx?_eq_some_iff_getElem.2 ⟨hk, h, fun j hj => by rw [hn j hj]; simp⟩]
theorem fst_no {α : Type} {p : α → Bool} {l : List α} (hn : ∀ i (hi : i < l.length), p l[i] = false) : fst p l = -1 := by
  unfold fst; rw [List.findIdx?_eq_none_iff.2 (fun x hx => by obtain ⟨i, hi, rfl⟩ := List.getElem_of_mem hx; exact hn i hi)]
theorem fst_any {α : Type} {p : α → Bool} {l : List α} : decide (0 ≤ fst p l) = l.any p := by
  unfold fst
  cases h : l.findIdx? p with
  | none =>
    rw [List.findIdx?_eq_none_iff] at h; simp only [show decide ((0 : Int) ≤ -1) = false from rfl]; exact (List.any_eq_false.2 (fun x hx => by rw [h x hx]; simp)).symm
  | some i =>
    obtain ⟨hi, hp, _⟩ := List.findIdx?_eq_some_iff_getElem.1 h; have h1 : decide ((0 : Int) ≤ (i : Int)) = true := by simp
    simp only [h1]; exact (List.any_eq_true.2 ⟨_, List.getElem_mem hi, hp⟩).symm
theorem getD_el {α : Type} {l : List α} {k : Nat} (hk : k < l.length) (d : α) : l.getD k d = l[k] := by rw [List.getD_eq_getElem?_getD, List.getElem?_eq_getElem hk]; rfl
set_option maxHeartbeats 1000000 in
theorem iidx_any (fid : Nat) (hf : fid = 111) (cap : Value) (a : Option Addr) (n c : Nat) (ls : List Int) (p : Int → Bool) (w : World) (hs : Sl w a n c 1 (ints .i64 ls))
    (hc : ∀ W (x : Int), Below w.heap.size w W → Calls Tryz.prog fid #[.int .i64 x, cap] W fun e W' => e = .returned (.bool (p x)) ∧ Below W.heap.size W W') :
    Calls Tryz.prog 149 #[.slice a n c, .func (.func fid) #[] #[cap]] w fun e w' => e = .returned (.int .i64 (fst p ls)) ∧ Below w.heap.size w w' := by
  have hl := hs.ilen; have hm := hs.max; have hle := hs.le; have hs' := Lib.hid hs; have hc' := Lib.hid hc; have hl' := Lib.hid hl; clear hs hc hl
  rcases hf with rfl
  all_goals
    go_enter Tryz.func149, Tryz.ntmps149
    go_wp2
    go_loopw [8] (fun iv wr => ∃ k : Nat, k ≤ n ∧ iv = .int .i64 k ∧ Hid (∀ i (hi : i < ls.length), i < k → p ls[i] = false) ∧ Hid (Below w.heap.size w wr)) (fun iv _ => n - (intOf iv).toNat)
    case atStart => exact ⟨0, by omega, rfl, Lib.hid (fun j _ hj => by omega), Lib.hid (Below.refl _ _)⟩
    case round =>
      obtain ⟨k, hk, rfl, hall, hb⟩ := hrel
      by_cases hlt : k < n
      · have hww : IntKind.i64.wrap ((k : Int) + 1) = k + 1 := by rw [IntKind.wrap_i64]; omega
        have hkl : k < ls.length := by rw [hl'.out]; exact hlt
        obtain ⟨b, o, rfl, hbb, f⟩ := (hs'.out.mono hb.out).at hlt; have f0 := f k _ (ints_get hkl); rw [getD_el hkl] at f0; clear f; obtain ⟨r, hr⟩ : ∃ r, p (ls[k]'hkl) = r := ⟨_, rfl⟩; have HC := hc'.out wr (ls[k]'hkl) hb.out; rw [hr] at HC
        generalize (ls[k]'hkl) = x1 at f0 HC
        have HC' := Lib.hid HC; have hr' := Lib.hid hr; clear HC hr
        go_wp2_with fail
        refine HC'.out.mono ?_; rintro e w2 ⟨rfl, hb2⟩; have hbw := hb.out.trans (hb2.mono hb.out.size); clear hb2
        cases r with
        | true =>
          have hbw' := Lib.hid hbw; clear hbw
          go_wp2
          go_ret
          exact ⟨by rw [fst_at hkl hr'.out (fun i hi => hall.out i (by omega) hi)]; rfl, hbw'.out⟩
        | false =>
          have hall2 : ∀ i (hi : i < ls.length), i < k + 1 → p ls[i] = false := fun i hi h => by
            rcases Nat.lt_or_ge i k with h1 | h1
            · exact hall.out i hi h1
            · obtain rfl : i = k := by omega
              exact hr'.out
          have hbw' := Lib.hid hbw; have hall2' := Lib.hid hall2; clear hbw hall2
          go_wp2
          go_roundw
          case rel => exact ⟨k + 1, by omega, by go_num, hall2', hbw'⟩
          case measure => simp [intOf]; omega
      · obtain rfl : k = n := by omega
        go_wp2
        go_ret
        exact ⟨by rw [fst_no (fun i hi => hall.out i hi (by rw [hl'.out] at hi; exact hi))]; rfl, hb.out⟩
set_option maxHeartbeats 1000000 in
theorem ihas_any (fid : Nat) (hf : fid = 111) (cap : Value) (a : Option Addr) (n c : Nat) (ls : List Int) (p : Int → Bool) (w : World) (hs : Sl w a n c 1 (ints .i64 ls))
    (hc : ∀ W (x : Int), Below w.heap.size w W → Calls Tryz.prog fid #[.int .i64 x, cap] W fun e W' => e = .returned (.bool (p x)) ∧ Below W.heap.size W W') :
    Calls Tryz.prog 110 #[.slice a n c, .func (.func fid) #[] #[cap]] w fun e w' => e = .returned (.bool (ls.any p)) ∧ Below w.heap.size w w' := by
  have HX := iidx_any fid hf cap a n c ls p w hs hc; obtain ⟨r, hr⟩ : ∃ r, fst p ls = r := ⟨_, rfl⟩; have ha := fst_any (p := p) (l := ls); rw [hr] at HX ha; obtain ⟨q, hq⟩ : ∃ q, ls.any p = q := ⟨_, rfl⟩; rw [hq] at ha ⊢; clear hs hc; have HX' := Lib.hid HX; have hr' := Lib.hid hr; have hq' := Lib.hid hq; clear HX hr hq
  rcases hf with rfl
  all_goals
    go_enter Tryz.func110, Tryz.ntmps110
    go_wp2_with fail
    refine HX'.out.mono ?_; rintro e w2 ⟨rfl, hb2⟩; have hb2' := Lib.hid hb2; clear hb2
    go_wp2
    go_ret
    exact ⟨rfl, hb2'.out⟩
end Go.Proofs.YtilennmeiaehnaaGreat

namespace Go.Proofs.YtilennmeiaehnaaGreat
open Go.RowKit Tt
set_option linter.unusedVariables false

def mayB (size order : Int) : Bool := (size == 1 || size == 2 || size == 4) && (order == 1 || order == 2)
theorem omay1_any (n size : Int) (g : Nat) (w : World) (h : w.cell? ⟨g, 0, none⟩ = some (.int .i64 size)) :
    Calls Tryz.prog 111 #[.int .i64 n, .pointer (some ⟨g, 0, none⟩)] w fun e w' => e = .returned (.bool (n == size)) ∧ w = w' := by
  go_enter Tryz.func111, Tryz.ntmps111
  go_wp2
  go_ret
  exact ⟨rfl, rfl⟩
set_option maxRecDepth 20000 in
set_option maxHeartbeats 1000000 in
theorem omay_any (size order : Int) (w : World) :
    Calls Tryz.prog 60 #[.int .i64 size, .int .i64 order] w fun e w' => e = .returned (.bool (mayB size order)) ∧ Below w.heap.size w w' := by
  obtain ⟨W1, hW1⟩ : ∃ W1, W1 = (w.alloc (.cells #[.int .i64 size] 3)).alloc (.cells #[.int .i64 1, .int .i64 2, .int .i64 4] 55) := ⟨_, rfl⟩; have hb1 : Below w.heap.size w W1 := by rw [hW1]; exact ((Below.refl _ _).alloc (Nat.le_refl _) _).alloc (by simp) _
  have hc : W1.cell? ⟨w.heap.size, 0, none⟩ = some (.int .i64 size) := by
    rw [hW1]; unfold World.cell?; rw [heap_old _ _ (by simp), heap_new]; rfl
  have hsl : Sl W1 (some ⟨w.heap.size + 1, 0, none⟩) 3 3 1 (ints .i64 [1, 2, 4]) := by
    rw [hW1]; exact Sl.new' _ _ 1 3 #[.int .i64 1, .int .i64 2, .int .i64 4] (0, 0) (by simp) (by omega) rfl
  have hany : ([1, 2, 4] : List Int).any (fun n => n == size) = (size == 1 || size == 2 || size == 4) := by
    simp only [List.any_cons, List.any_nil, Bool.or_false]; rw [show ((1 : Int) == size) = (size == 1) by exact Bool.beq_comm .., show ((2 : Int) == size) = (size == 2) by exact Bool.beq_comm .., show ((4 : Int) == size) = (size == 4) by exact Bool.beq_comm .., Bool.or_assoc]
  have hc1 : w.heap.size < W1.heap.size := by rw [hW1]; simp; omega
  have HC := ihas_any 111 rfl (.pointer (some ⟨w.heap.size, 0, none⟩)) _ 3 3 [1, 2, 4] (fun n => n == size) W1 hsl
    (fun W x hb => (omay1_any x size _ _ (late hb hc1 hc)).mono fun e w' ⟨h1, h2⟩ => ⟨h1, by rw [h2]; exact Below.refl _ _⟩)
  rw [hany] at HC; have HC := Lib.hid HC; obtain ⟨r, hr⟩ : ∃ r, mayB size order = r := ⟨_, rfl⟩; rw [hr]; have Hb := Lib.hid hb1; clear hc hsl hb1 hany hc1
  go_enter Tryz.func60, Tryz.ntmps60
  go_upto_region 2 with fail
  rw [← hW1]; have hW1' := Lib.hid hW1; have hr' := Lib.hid hr; clear hW1 hr
  go_wp2_with fail
  refine HC.out.mono ?_; rintro e w2 ⟨rfl, hb2⟩; have Hb := Lib.hid (Hb.out.trans (hb2.mono Hb.out.size)); clear hb2; have hr2 := hr'.out; unfold mayB at hr2
  generalize (size == 1 || size == 2 || size == 4) = s at *
  have h1 : ∃ b, (order == 1) = b := ⟨_, rfl⟩; have h2 : ∃ b, (order == 2) = b := ⟨_, rfl⟩; obtain ⟨b1, h1⟩ := h1; obtain ⟨b2, h2⟩ := h2; rw [h1, h2] at hr2; have hr2' := Lib.hid hr2; clear hr2
  cases s <;> cases b1 <;> cases b2
  all_goals
    go_wp2
    go_ret
    exact ⟨by rw [← hr2'.out]; rfl, Hb.out⟩
end Go.Proofs.YtilennmeiaehnaaGreat

namespace Tt
open Go Go.RowKit
set_option linter.unusedVariables false

theorem or_i64 (a b : Nat) (ha : a < 9223372036854775808) (hb : b < 9223372036854775808) : bits .or .i64 (a : Int) (b : Int) = ((a ||| b : Nat) : Int) := by
  have hx : a ||| b < 2 ^ 63 := Nat.or_lt_two_pow (by omega) (by omega)
  have h1 : (BitVec.ofInt 64 (a : Int)).toNat = a := by rw [BitVec.ofInt_natCast, BitVec.toNat_ofNat]; exact Nat.mod_eq_of_lt (by omega)
  have h2 : (BitVec.ofInt 64 (b : Int)).toNat = b := by rw [BitVec.ofInt_natCast, BitVec.toNat_ofNat]; exact Nat.mod_eq_of_lt (by omega)
  show IntKind.i64.wrap ((BitVec.ofInt 64 (a : Int) ||| BitVec.ofInt 64 (b : Int)).toNat : Int) = _
  rw [BitVec.toNat_or, h1, h2, IntKind.wrap_i64]
  omega
theorem and_i64 (a b : Nat) (ha : a < 9223372036854775808) (hb : b < 9223372036854775808) : bits .and .i64 (a : Int) (b : Int) = ((a &&& b : Nat) : Int) := by
  have hx : a &&& b < 2 ^ 63 := Nat.and_lt_two_pow _ (by omega); have h1 : (BitVec.ofInt 64 (a : Int)).toNat = a := by rw [BitVec.ofInt_natCast, BitVec.toNat_ofNat]; exact Nat.mod_eq_of_lt (by omega)
  have h2 : (BitVec.ofInt 64 (b : Int)).toNat = b := by rw [BitVec.ofInt_natCast, BitVec.toNat_ofNat]; exact Nat.mod_eq_of_lt (by omega)
  show IntKind.i64.wrap ((BitVec.ofInt 64 (a : Int) &&& BitVec.ofInt 64 (b : Int)).toNat : Int) = _
  rw [BitVec.toNat_and, h1, h2, IntKind.wrap_i64]
  omega
/-- a number moved up by 8 bits, and a byte -/
theorem or_byte {N B : Int} (h0 : 0 ≤ N) (h1 : N < 36028797018963968) (h2 : 0 ≤ B) (h3 : B < 256) : bits .or .i64 (N * 256) B = N * 256 + B := by
  obtain ⟨a, rfl⟩ : ∃ a : Nat, N = a := ⟨N.toNat, by omega⟩; obtain ⟨b, rfl⟩ : ∃ b : Nat, B = b := ⟨B.toNat, by omega⟩; have h := or_i64 (a * 256) b (by omega) (by omega); have h4 := Nat.two_pow_add_eq_or_of_lt (i := 8) (b := b) (by omega) a; have h5 : (2 ^ 8 * a : Nat) = a * 256 := by omega
  rw [h5] at h4; rw [← h4] at h; rw [show ((a * 256 : Nat) : Int) = (a : Int) * 256 by omega, show ((a * 256 + b : Nat) : Int) = (a : Int) * 256 + b by omega] at h; exact h
/-- the number that bytes are, the first one the highest -/
def be (l : List Int) : Int := l.foldl (fun n b => n * 256 + b) 0
theorem be_snoc (l : List Int) (b : Int) : be (l ++ [b]) = be l * 256 + b := by unfold be; rw [List.foldl_append]; rfl
theorem take_snoc' {l : List Int} {j : Nat} (h : j < l.length) : l.take (j + 1) = l.take j ++ [l.getD j 0] := by
  rw [List.take_add_one, List.getElem?_eq_getElem h, List.getD_eq_getElem?_getD, List.getElem?_eq_getElem h]
  rfl
theorem be_take {l : List Int} {j : Nat} (h : j < l.length) : be (l.take (j + 1)) = be (l.take j) * 256 + l.getD j 0 := by rw [take_snoc' h, be_snoc]
theorem be_bound {l : List Int} (h : Byt l) : ∀ {j : Nat}, j ≤ l.length → 0 ≤ be (l.take j) ∧ be (l.take j) < 256 ^ j
  | 0, _ => by simp [be]
  | j + 1, hj => by
    have h1 := be_bound h (j := j) (by omega); have h2 := h.get j; rw [be_take (by omega), Int.pow_succ]
    omega
end Tt

namespace Go.Proofs.YtilennmeiaehnaaGreat
open Go.RowKit Tt
set_option linter.unusedVariables false

/-- the bytes of a number, the highest one first -/
def getL (z : List Int) (at_ : Nat) (size : Nat) (order : Int) : List Int := if order = 1 then ((z.drop at_).take size).reverse else (z.drop at_).take size
def getB (n : Nat) (at_ size order : Int) : Bool := mayB size order && decide (0 ≤ at_) && decide (at_ ≤ n - size)
def getV (z : List Int) (at_ size order : Int) : Int := if getB z.length at_ size order = true then be (getL z at_.toNat size.toNat order) else 0
theorem getL_len {z : List Int} {at_ size : Nat} {order : Int} (h : at_ + size ≤ z.length) : (getL z at_ size order).length = size := by
  unfold getL; split <;> simp <;> omega
theorem getL_byt {z : List Int} (hb : Byt z) (at_ size : Nat) (order : Int) : Byt (getL z at_ size order) := by
  unfold getL
  split
  · intro x hx; exact (hb.drop _).take _ x (List.mem_reverse.1 hx)
  · exact (hb.drop _).take _
theorem getL_get {z : List Int} {at_ size i : Nat} {order : Int} (h : at_ + size ≤ z.length) (hi : i < size) : (getL z at_ size order).getD i 0 = z.getD (if order = 1 then at_ + size - 1 - i else at_ + i) 0 := by
  unfold getL
  split
  · rw [List.getD_eq_getElem?_getD, List.getElem?_reverse (by simp; omega), List.getElem?_take]
    rw [if_pos (by simp; omega), List.getElem?_drop, List.getD_eq_getElem?_getD]
    congr 2
    simp
    omega
  · rw [List.getD_eq_getElem?_getD, List.getElem?_take, if_pos hi, List.getElem?_drop, List.getD_eq_getElem?_getD]
theorem mayB_size {size order : Int} (h : mayB size order = true) : (size = 1 ∨ size = 2 ∨ size = 4) ∧ (order = 1 ∨ order = 2) := by
  unfold mayB at h
  simp at h
  omega

set_option maxRecDepth 20000 in
set_option maxHeartbeats 4000000 in
theorem get_any (a : Option Addr) (n c : Nat) (z : List Int) (at_ size order : Int) (w : World) (hs : Sl w a n c 1 (ints .u8 z)) (hb : Byt z) :
    Calls Tryz.prog 25 #[.slice a n c, .int .i64 at_, .int .i64 size, .int .i64 order] w fun e w' => e = .returned (.tuple #[.int .i64 (getV z at_ size order), .bool (getB n at_ size order)]) ∧ Below w.heap.size w w' := by
  have hzl := hs.ilen; have hle := hs.le; have hmx := hs.max; have hmm := fun W => omay_any size order W; have hgv : getV z at_ size order = if getB n at_ size order = true then be (getL z at_.toNat size.toNat order) else 0 := by unfold getV; rw [hzl]
  rw [hgv]; obtain ⟨m, hm⟩ : ∃ m, mayB size order = m := ⟨_, rfl⟩; rw [hm] at hmm; have hgb : getB n at_ size order = (m && decide (0 ≤ at_) && decide (at_ ≤ n - size)) := by unfold getB; rw [hm]
  rw [hgb]; have hs' := Lib.hid hs; have hb' := Lib.hid hb; have hzl' := Lib.hid hzl; have hmm' := Lib.hid hmm; clear hs hb hzl hmm; clear hgv hgb
  cases m
  · clear hm
    go_enter Tryz.func25, Tryz.ntmps25
    go_wp2_with (go_at_call 60; refine (hmm'.out _).mono ?_; rintro e w1 ⟨rfl, hb1⟩; have HB1 := Lib.hid hb1; clear hb1)
    go_ret2
    exact ⟨rfl, HB1.out⟩
  · obtain ⟨hsz, hord⟩ := mayB_size hm
    clear hm
    by_cases ha : at_ < 0
    · have d1 : decide (at_ < 0) = true := by simp; omega
      have d2 : decide (0 ≤ at_) = false := by simp; omega
      rw [d2]; clear hsz hord
      go_enter Tryz.func25, Tryz.ntmps25
      go_wp2_with (go_at_call 60; refine (hmm'.out _).mono ?_; rintro e w1 ⟨rfl, hb1⟩; have HB1 := Lib.hid hb1; clear hb1)
      go_ret2
      exact ⟨rfl, HB1.out⟩
    · have d1 : decide (at_ < 0) = false := by simp; omega
      have d2 : decide (0 ≤ at_) = true := by simp; omega
      rw [d2]; obtain ⟨A, rfl⟩ : ∃ A : Nat, at_ = A := ⟨at_.toNat, by omega⟩; obtain ⟨s, rfl⟩ : ∃ s : Nat, size = s := ⟨size.toNat, by omega⟩; have hs1 : 1 ≤ s := by omega
      have hs4 : s ≤ 4 := by omega
      rw [Int.toNat_natCast, Int.toNat_natCast]; have hwn : IntKind.i64.wrap ((n : Int) - s) = n - s := by rw [IntKind.wrap_i64]; omega
      by_cases hb2 : (n : Int) - s < A
      · have d3 : decide ((n : Int) - s < A) = true := by simp; omega
        have d4 : decide ((A : Int) ≤ n - s) = false := by simp; omega
        rw [d4]; clear hsz hord
        go_enter Tryz.func25, Tryz.ntmps25
        go_wp2_with (go_at_call 60; refine (hmm'.out _).mono ?_; rintro e w1 ⟨rfl, hb1⟩; have HB1 := Lib.hid hb1; clear hb1)
        go_ret2
        exact ⟨rfl, HB1.out⟩
      · have d3 : decide ((n : Int) - s < A) = false := by simp; omega
        have d4 : decide ((A : Int) ≤ n - s) = true := by simp; omega
        rw [d4]; have hlen := getL_len (order := order) (show A + s ≤ z.length by rw [hzl'.out]; omega); have hbyt := getL_byt hb'.out A s order; have hget := fun i hi => getL_get (z := z) (at_ := A) (size := s) (i := i) (order := order) (by rw [hzl'.out]; omega) hi; obtain ⟨L, hL⟩ : ∃ L, getL z A s order = L := ⟨_, rfl⟩; rw [hL] at hlen hbyt hget ⊢; clear hsz hL; have HL := Lib.hid hlen; have HLB := Lib.hid hbyt; have HG := Lib.hid hget; clear hlen hbyt hget; have hAs : A + s ≤ n := by omega
        go_enter Tryz.func25, Tryz.ntmps25
        go_wp2_with (go_at_call 60; refine (hmm'.out _).mono ?_; rintro e w1 ⟨rfl, hb1⟩; have HB1 := Lib.hid hb1; clear hb1)
        go_loop [10, 30] (fun v i => ∃ k : Nat, k ≤ s ∧ i = .int .i64 k ∧ v = .int .i64 (be (L.take k))) (fun _ i => s - (intOf i).toNat)
        case atStart => exact ⟨0, by omega, rfl, rfl⟩
        case round =>
          obtain ⟨k, hk, rfl, rfl⟩ := hrel
          by_cases hlt : k < s
          · have hbb := be_bound HLB.out (j := k) (by rw [HL.out]; omega)
            have hnx := be_take (l := L) (j := k) (by rw [HL.out]; exact hlt); have hbt := HLB.out.get k; have hgk := HG.out k hlt
            have h24 : be (L.take k) < 16777216 := by
              have : k = 0 ∨ k = 1 ∨ k = 2 ∨ k = 3 := by omega
              rcases this with rfl | rfl | rfl | rfl <;> simp at hbb ⊢ <;> omega
            obtain ⟨j, hj⟩ : ∃ j, (if order = 1 then A + s - 1 - k else A + k) = j := ⟨_, rfl⟩; have hjn : j < n := by rw [← hj]; split <;> omega
            obtain ⟨b, o, rfl, hbb2, hc⟩ := (hs'.out.mono HB1.out).at (i := j) hjn; have f1 := hc j _ (ints_get (by rw [hzl'.out]; exact hjn)); rw [hj] at hgk; rw [← hgk] at f1; obtain ⟨B, hB⟩ : ∃ B, L.getD k 0 = B := ⟨_, rfl⟩; obtain ⟨N, hN⟩ : ∃ N, be (L.take k) = N := ⟨_, rfl⟩; rw [hB] at f1 hnx hbt; rw [hN] at hnx hbb h24; rw [hN]; have hw1 : IntKind.i64.wrap (N * 256) = N * 256 := by rw [IntKind.wrap_i64]; omega
            have hor := or_byte (N := N) (B := B) (by omega) (by omega) hbt.1 hbt.2; have hw2 : IntKind.i64.wrap ((A : Int) + k) = A + k := by rw [IntKind.wrap_i64]; omega
            have hw3 : IntKind.i64.wrap ((A : Int) + s) = A + s := by rw [IntKind.wrap_i64]; omega
            have hw4 : IntKind.i64.wrap ((A : Int) + s - 1) = A + s - 1 := by rw [IntKind.wrap_i64]; omega
            have hw5 : IntKind.i64.wrap ((A : Int) + s - 1 - k) = A + s - 1 - k := by rw [IntKind.wrap_i64]; omega
            have hnx' := Lib.hid hnx; have hbb' := Lib.hid hbb; have hB' := Lib.hid hB; have hN' := Lib.hid hN; have hgk' := Lib.hid hgk; clear hnx hbb hB hN hgk; obtain ⟨hb0, hb255⟩ := hbt; clear hc
            by_cases ho : order = 1
            · have d5 : (order == 1) = true := by simp [ho]
              rw [if_pos ho] at hj; have hji : (A : Int) + s - 1 - k = (j : Int) := by omega
              rw [hji] at hw5; have hjn' : (j : Int) < n := by omega
              have ho' := Lib.hid ho; have hj' := Lib.hid hj; clear ho hj; clear hord hw2
              go_wp2
              go_round
              case rel => exact ⟨k + 1, by omega, by go_num, by rw [hnx'.out]⟩
              case measure => simp [intOf]; omega
            · have d5 : (order == 1) = false := by simp [ho]
              rw [if_neg ho] at hj; have hji : (A : Int) + k = (j : Int) := by omega
              rw [hji] at hw2; have hjn' : (j : Int) < n := by omega
              have ho' := Lib.hid ho; have hj' := Lib.hid hj; clear ho hj; clear hord hw3 hw4 hw5
              go_wp2
              go_round
              case rel => exact ⟨k + 1, by omega, by go_num, by rw [hnx'.out]⟩
              case measure => simp [intOf]; omega
          · obtain rfl : k = s := by omega
            go_wp2
            go_ret2
            exact ⟨by rw [List.take_of_length_le (by rw [HL.out]; omega)]; rfl, HB1.out⟩
end Go.Proofs.YtilennmeiaehnaaGreat

namespace Go.Proofs.YtilennmeiaehnaaGreat
open Go.RowKit Tt
set_option linter.unusedVariables false

def topS (s : Int) : Int := if s = 1 then 256 else if s = 2 then 65536 else if s = 4 then 4294967296 else 0
def leb : Nat → Int → List Int
  | 0, _ => []
  | k + 1, n => n % 256 :: leb k (n / 256)
theorem leb_len : ∀ (k : Nat) (n : Int), (leb k n).length = k
  | 0, _ => rfl
  | k + 1, n => by simp [leb, leb_len k]
theorem leb_byt : ∀ (k : Nat) (n : Int), Byt (leb k n)
  | 0, _ => fun x hx => by cases hx
  | k + 1, n => fun x hx => by
    rcases List.mem_cons.1 hx with rfl | h
    · omega
    · exact leb_byt k _ x h
def putOk (n s o : Int) : Bool := decide (1 ≤ o) && decide (o ≤ 2) && decide (0 ≤ n) && decide (n < topS s)
def putS (n s o : Int) : List Int := if putOk n s o = true then (if o = 1 then leb s.toNat n else (leb s.toNat n).reverse) else []

theorem r1top_any (s : Int) (w : World) : Calls Tryz.prog 137 #[.int .i64 s] w fun e w' => e = .returned (.int .i64 (topS s)) ∧ w = w' := by
  by_cases h1 : s = 1
  · subst h1
    go_enter Tryz.func137, Tryz.ntmps137
    go_wp2
    go_ret
    exact ⟨rfl, rfl⟩
  · by_cases h2 : s = 2
    · subst h2
      go_enter Tryz.func137, Tryz.ntmps137
      go_wp2
      go_ret
      exact ⟨rfl, rfl⟩
    · by_cases h3 : s = 4
      · subst h3
        go_enter Tryz.func137, Tryz.ntmps137
        go_wp2
        go_ret
        exact ⟨rfl, rfl⟩
      · have e : topS s = 0 := by unfold topS; rw [if_neg h1, if_neg h2, if_neg h3]
        rw [e]
        go_enter Tryz.func137, Tryz.ntmps137
        go_wp2
        go_ret
        exact ⟨rfl, rfl⟩
theorem topS_pos {s : Int} (h : 0 < topS s) : s = 1 ∨ s = 2 ∨ s = 4 := by
  unfold topS at h
  split at h
  · exact .inl ‹_›
  · split at h
    · exact .inr (.inl ‹_›)
    · split at h
      · exact .inr (.inr ‹_›)
      · omega
theorem topS_le (s : Int) : topS s ≤ 4294967296 := by
  unfold topS
  split
  · omega
  · split
    · omega
    · split <;> omega

theorem info8 : (Tryz.prog.info? 5).map (fun i => (i.zero, i.size, i.bytes)) = some (some (.int .u8 0), 1, 1) := by kernel_rfl

set_option maxRecDepth 20000 in
set_option maxHeartbeats 4000000 in
theorem r1put_any (n s o : Int) (w : World) :
    Calls Tryz.prog 91 #[.int .i64 n, .int .i64 s, .int .i64 o] w fun e w' => ∃ a m c, e = .returned (.tuple #[.slice a m c, .bool (putOk n s o)]) ∧ w'.ownsRow w.heap.size 5 1 (.slice a m c) m (ints .u8 (putS n s o)) ∧ Below w.heap.size w w' := by
  obtain ⟨i0, hi, hz0, hz1, hz2⟩ := info_parts info8
  by_cases h1 : o < 1
  · have e : putOk n s o = false := by unfold putOk; rw [decide_eq_false (show ¬ 1 ≤ o by omega)]; rfl
    have e2 : putS n s o = [] := by unfold putS; rw [e]; rfl
    rw [e, e2]; clear e e2
    go_enter Tryz.func91, Tryz.ntmps91
    go_wp2
    go_ret2
    exact ⟨_, _, _, rfl, own_nil _ _ _ _, Below.refl _ _⟩
  · by_cases h2 : 2 < o
    · have e : putOk n s o = false := by unfold putOk; rw [decide_eq_false (show ¬ o ≤ 2 by omega)]; simp
      have e2 : putS n s o = [] := by unfold putS; rw [e]; rfl
      rw [e, e2]; clear e e2
      go_enter Tryz.func91, Tryz.ntmps91
      go_wp2
      go_ret2
      exact ⟨_, _, _, rfl, own_nil _ _ _ _, Below.refl _ _⟩
    · by_cases h3 : n < 0
      · have e : putOk n s o = false := by unfold putOk; rw [decide_eq_false (show ¬ 0 ≤ n by omega)]; simp
        have e2 : putS n s o = [] := by unfold putS; rw [e]; rfl
        rw [e, e2]; clear e e2
        go_enter Tryz.func91, Tryz.ntmps91
        go_wp2
        go_ret2
        exact ⟨_, _, _, rfl, own_nil _ _ _ _, Below.refl _ _⟩
      · by_cases h4 : topS s ≤ n
        · have e : putOk n s o = false := by unfold putOk; rw [decide_eq_false (show ¬ n < topS s by omega)]; simp
          have e2 : putS n s o = [] := by unfold putS; rw [e]; rfl
          rw [e, e2]; clear e e2
          generalize hT : topS s = T at h4
          have HT := Lib.hid hT; clear hT
          go_enter Tryz.func91, Tryz.ntmps91
          go_wp2_with (go_at_call 137; refine (r1top_any _ _).mono ?_; rw [HT.out]; rintro e w' ⟨rfl, rfl⟩)
          go_ret2
          exact ⟨_, _, _, rfl, own_nil _ _ _ _, Below.refl _ _⟩
        · have e : putOk n s o = true := by unfold putOk; rw [decide_eq_true (show 1 ≤ o by omega), decide_eq_true (show o ≤ 2 by omega), decide_eq_true (show 0 ≤ n by omega), decide_eq_true (show n < topS s by omega)]; rfl
          obtain ⟨S, hS, hSb⟩ : ∃ S : Nat, s = S ∧ S ≤ 4 := by
            rcases topS_pos (s := s) (by omega) with rfl | rfl | rfl
            · exact ⟨1, rfl, by omega⟩
            · exact ⟨2, rfl, by omega⟩
            · exact ⟨4, rfl, by omega⟩
          obtain ⟨B, hB, hT⟩ : ∃ B : Int, B ≤ 4294967296 ∧ topS s ≤ B := ⟨_, Int.le_refl _, topS_le s⟩; have HB := Lib.hid hB; clear hB
          generalize hTT : topS s = T at h4 hT
          subst hS; have HT := Lib.hid hTT; clear hTT
          rcases (show o = 1 ∨ o = 2 by omega) with ho | ho
          · have e2 : putS n S o = leb S n := by unfold putS; rw [if_pos e, if_pos ho]; rfl
            rw [e, e2]; have hnB := Lib.hid (show n ≤ B by omega); have H3 := Lib.hid h3; have HSb := Lib.hid hSb; have q1 : decide (o < 1) = false := by simp; omega
            have q2 : decide (2 < o) = false := by simp; omega
            have q3 : (o == 1) = true := by simp; omega
            have q4 : decide (n < 0) = false := by simp; omega
            have q5 : decide (T ≤ n) = false := by simp; omega
            clear ho h3 h4; clear e e2 h1 h2 hT hSb
            go_enter Tryz.func91, Tryz.ntmps91
            go_wp2_with (go_at_call 137; refine (r1top_any _ _).mono ?_; rw [HT.out]; rintro e w' ⟨rfl, rfl⟩)
            go_loopw [0, 8, 9] (fun nv v i wr => ∃ (k : Nat) (nk : Int) (a4 : Option Addr) (c4 : Nat) (l : List Int), k ≤ S ∧ nv = .int .i64 nk ∧ 0 ≤ nk ∧ Hid (nk ≤ B) ∧ v = .slice a4 k c4 ∧ i = .int .i64 k ∧ Hid (wr.ownsRow w.heap.size 5 1 (.slice a4 k c4) k (ints .u8 l)) ∧ Hid (l ++ leb (S - k) nk = leb S n) ∧ Hid (Below w.heap.size w wr)) (fun _ _ i _ => S - (intOf i).toNat)
            case atStart => exact ⟨0, n, none, 0, [], by omega, rfl, by have := H3.out; omega, hnB, rfl, rfl, Lib.hid (own_nil _ _ _ _), Lib.hid (by simp), Lib.hid (Below.refl _ _)⟩
            case round =>
              obtain ⟨k, nk, a4, c4, l, hk, rfl, hn0, hn1, rfl, rfl, Ho, Hl, Hb⟩ := hrel
              by_cases hlt : k < S
              · have hk4 : k ≤ 4 := by have := HSb.out; omega
                have hnn := hn1.out; have hBB := HB.out; obtain ⟨r, hr⟩ : ∃ r, nk % 256 = r := ⟨_, rfl⟩; obtain ⟨q, hq⟩ : ∃ q, nk / 256 = q := ⟨_, rfl⟩; have hm1 : Int.tmod nk 256 = r := by rw [Int.tmod_eq_emod_of_nonneg hn0]; exact hr
                have hm2 : Int.tdiv nk 256 = q := by rw [Int.tdiv_eq_ediv_of_nonneg hn0]; exact hq
                have hm3 : IntKind.u8.wrap r = r := by rw [IntKind.wrap_u8]; omega
                have hm4 : IntKind.i64.wrap r = r := by rw [IntKind.wrap_i64]; omega
                have hm5 : IntKind.i64.wrap q = q := by rw [IntKind.wrap_i64]; omega
                have Hq0 := Lib.hid (show 0 ≤ q by omega); have HqB := Lib.hid (show q ≤ B by omega); have Hr := Lib.hid hr; have Hq := Lib.hid hq; have Hn0 := Lib.hid hn0; clear hr hq hnn hBB hn0
                go_wp2_with (at_builtin; refine wpList_app rfl _ _ 30 rfl w.heap.size 5 i0 _ 1 1 Tryz.underlying30 hi hz0 hz1 hz2 rfl (by decide) _ k _ rfl (World.ownsRow.alloc Ho.out _) _ 1 1 _ rfl (Sl.new wr 5 1 1 _ (0, 0) (by omega) rfl) (by simp [Value.oneCell']) (by have := HSb.out; omega) (by decide) (by have := Hb.out.size; simp; omega) ?_; intro a5 c5 w2 ob hb2 hg2; clear hg2; have Ob := Lib.hid ob; have Hb2 := Lib.hid ((Hb.out.alloc Hb.out.size _).trans hb2); clear ob hb2)
                go_roundw
                case rel => exact ⟨k + 1, q, a5, c5, l ++ [r], by omega, rfl, Hq0.out, HqB, rfl, by have := HSb.out; go_num, Lib.hid (by have h1 := Ob.out; rw [ints_append]; exact h1), Lib.hid (by
                  have h0 := Hl.out; rw [show S - k = (S - (k + 1)) + 1 by omega] at h0; simp only [leb] at h0; rw [List.append_assoc, ← Hr.out, ← Hq.out]; exact h0), Hb2⟩
                case measure => have := HSb.out; simp [intOf]; omega
              · obtain rfl : k = S := by omega
                have hl := Hl.out; rw [Nat.sub_self] at hl; simp only [leb, List.append_nil] at hl; have HL := Lib.hid hl; clear hl
                go_wp2
                go_ret2
                exact ⟨_, _, _, rfl, by rw [← HL.out]; exact Ho.out, Hb.out⟩
          · have e2 : putS n S o = (leb S n).reverse := by unfold putS; rw [if_pos e, if_neg (show ¬ o = 1 by omega)]; rfl
            rw [e, e2]; have hnB := Lib.hid (show n ≤ B by omega); have H3 := Lib.hid h3; have HSb := Lib.hid hSb; have q1 : decide (o < 1) = false := by simp; omega
            have q2 : decide (2 < o) = false := by simp; omega
            have q3 : (o == 1) = false := by simp; omega
            have q4 : decide (n < 0) = false := by simp; omega
            have q5 : decide (T ≤ n) = false := by simp; omega
            clear ho h3 h4; clear e e2 h1 h2 hT hSb
            go_enter Tryz.func91, Tryz.ntmps91
            go_wp2_with (go_at_call 137; refine (r1top_any _ _).mono ?_; rw [HT.out]; rintro e w' ⟨rfl, rfl⟩)
            go_loopw [0, 8, 9] (fun nv v i wr => ∃ (k : Nat) (nk : Int) (a4 : Option Addr) (c4 : Nat) (l : List Int), k ≤ S ∧ nv = .int .i64 nk ∧ 0 ≤ nk ∧ Hid (nk ≤ B) ∧ v = .slice a4 k c4 ∧ i = .int .i64 k ∧ Hid (wr.ownsRow w.heap.size 5 1 (.slice a4 k c4) k (ints .u8 l)) ∧ Hid (l.reverse ++ leb (S - k) nk = leb S n) ∧ Hid (Below w.heap.size w wr)) (fun _ _ i _ => S - (intOf i).toNat)
            case atStart => exact ⟨0, n, none, 0, [], by omega, rfl, by have := H3.out; omega, hnB, rfl, rfl, Lib.hid (own_nil _ _ _ _), Lib.hid (by simp), Lib.hid (Below.refl _ _)⟩
            case round =>
              obtain ⟨k, nk, a4, c4, l, hk, rfl, hn0, hn1, rfl, rfl, Ho, Hl, Hb⟩ := hrel
              by_cases hlt : k < S
              · have hk4 : k ≤ 4 := by have := HSb.out; omega
                have hnn := hn1.out; have hBB := HB.out; obtain ⟨r, hr⟩ : ∃ r, nk % 256 = r := ⟨_, rfl⟩; obtain ⟨q, hq⟩ : ∃ q, nk / 256 = q := ⟨_, rfl⟩; have hm1 : Int.tmod nk 256 = r := by rw [Int.tmod_eq_emod_of_nonneg hn0]; exact hr
                have hm2 : Int.tdiv nk 256 = q := by rw [Int.tdiv_eq_ediv_of_nonneg hn0]; exact hq
                have hm3 : IntKind.u8.wrap r = r := by rw [IntKind.wrap_u8]; omega
                have hm4 : IntKind.i64.wrap r = r := by rw [IntKind.wrap_i64]; omega
                have hm5 : IntKind.i64.wrap q = q := by rw [IntKind.wrap_i64]; omega
                have Hq0 := Lib.hid (show 0 ≤ q by omega); have HqB := Lib.hid (show q ≤ B by omega); have Hr := Lib.hid hr; have Hq := Lib.hid hq; have Hn0 := Lib.hid hn0; clear hr hq hnn hBB hn0
                go_wp2_with (at_builtin; refine wpList_app rfl _ _ 30 rfl wr.heap.size 5 i0 _ 1 1 Tryz.underlying30 hi hz0 hz1 hz2 rfl (by decide) _ 1 _ rfl (own_new wr wr.heap.size 5 1 1 _ (Nat.le_refl _) (by unfold maxLen; omega) rfl) _ k c4 _ rfl (sl_alloc (Sl.of_own Ho.out).1 _) ints_one (by have := HSb.out; omega) (by decide) (by simp) ?_; intro a5 c5 w2 ob hb2 hg2; clear hg2; have Ob := Lib.hid (own_mono ob Hb.out.size); have Hb2 := Lib.hid ((Hb.out.alloc Hb.out.size _).trans (hb2.mono Hb.out.size)); clear ob hb2)
                go_roundw
                case rel => exact ⟨k + 1, q, a5, c5, r :: l, by omega, rfl, Hq0.out, HqB, by rw [Nat.add_comm], by have := HSb.out; go_num, Lib.hid (by have h1 := Ob.out; rw [Nat.add_comm 1 k] at h1; exact h1), Lib.hid (by
                  have h0 := Hl.out; rw [show S - k = (S - (k + 1)) + 1 by omega] at h0; simp only [leb] at h0; rw [← Hr.out, ← Hq.out]; simpa using h0), Hb2⟩
                case measure => have := HSb.out; simp [intOf]; omega
              · obtain rfl : k = S := by omega
                have hl := Hl.out; rw [Nat.sub_self] at hl; simp only [leb, List.append_nil] at hl; have HL := Lib.hid hl; clear hl
                go_wp2
                go_ret2
                exact ⟨_, _, _, rfl, by rw [← HL.out, List.reverse_reverse]; exact Ho.out, Hb.out⟩
end Go.Proofs.YtilennmeiaehnaaGreat
