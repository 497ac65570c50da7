/- Chapter 1: Turn of both sides, Get of the document. | Rows of structs: the cells of each, one behind the other (any program). | slices.IndexFunc, ContainsFunc over links, over bytes. |  -/
import Derived.Test.YtceclmpmpldmlaaGreatCs03
import Derived.Test.YtceclmpmpldmlaaGreatCs01
import Derived.Test.YtceclmpmpldmlaaGreatCs02
import Derived.Deep.QuietTactic
import Derived.BigQuiet
import Derived.Shelf.Bytes.SlIndexAt
import Derived.Lib.BytesEntry
import Derived.Deep.RegionLaw
import Derived.Deep.CutRange
import Derived.Deep.Cut
import Derived.BigRegion
import Derived.Lib.SliceRun
import Derived.Test.YtceclmpmpldmlaaGreatCs00
namespace Go.Proofs.YtceclmpmpldmlaaGreat
open Go.RowKit Tt
set_option linter.unusedVariables false
set_option linter.unusedSimpArgs false

def turnB (s o : Int) : Bool := mayB s o || (s == 8 && mayB 1 o)
def turnIx (n p i : Nat) : Nat := if i < n - n % p then i - i % p + p - 1 - i % p else i
def turned (p : Nat) (b : List Int) : List Int := (List.range b.length).map fun i => b.getD (turnIx b.length p i) 0
def turnS (b : List Int) (s o : Int) : List Int := if turnB s o = true then (if o = 1 then turned s.toNat b else b) else []
theorem turned_len (p : Nat) (b : List Int) : (turned p b).length = b.length := by simp [turned]
theorem turned_get {p i : Nat} {b : List Int} (h : i < b.length) : (turned p b).getD i 0 = b.getD (turnIx b.length p i) 0 := by
  rw [getD_el (by rw [turned_len]; exact h)]
  simp [turned]
theorem turnIx_lt {n p i : Nat} (hp : 0 < p) (h : i < n) : turnIx n p i < n := by
  unfold turnIx
  split
  · rename_i h1
    have := Nat.mod_lt i hp; have h2 := Nat.div_add_mod i p; have h3 := Nat.div_add_mod n p
    have h4 : i / p < n / p := by
      rw [Nat.div_lt_iff_lt_mul hp, Nat.mul_comm]
      omega
    have h5 : p * (i / p + 1) ≤ p * (n / p) := Nat.mul_le_mul_left p h4; rw [Nat.mul_succ] at h5
    omega
  · exact h
theorem turnB_size {s o : Int} (h : turnB s o = true) : (s = 1 ∨ s = 2 ∨ s = 4 ∨ s = 8) ∧ (o = 1 ∨ o = 2) := by
  unfold turnB mayB at h
  simp at h
  omega
theorem byt_turned {p : Nat} {b : List Int} (hb : Byt b) : Byt (turned p b) := by
  intro x hx; unfold turned at hx; obtain ⟨i, _, rfl⟩ := List.mem_map.1 hx; exact hb.get _
theorem byt_turn {b : List Int} (hb : Byt b) (s o : Int) : Byt (turnS b s o) := by
  unfold turnS
  split
  · split
    · exact byt_turned hb
    · exact hb
  · intro x hx; cases hx
/-- the bytes, of which those ahead of q are turned -/
def turnTo (p q : Nat) (b cs : List Int) : Prop := cs.length = b.length ∧ ∀ k, k < b.length → cs.getD k 0 = if k < q then b.getD (turnIx b.length p k) 0 else b.getD k 0
theorem turnTo_step {p q : Nat} {b cs cs' : List Int} (hp : p = 1 ∨ p = 2 ∨ p = 4 ∨ p = 8) (hq : q % p = 0) (hqn : q + p ≤ b.length) (h : turnTo p q b cs) (hl : cs'.length = cs.length)
    (hg : ∀ k, k < cs.length → cs'.getD k 0 = if q ≤ k ∧ k < q + p then cs.getD (2 * q + p - 1 - k) 0 else cs.getD k 0) : turnTo p (q + p) b cs' := by
  obtain ⟨h1, h2⟩ := h; refine ⟨hl.trans h1, fun k hk => ?_⟩; rw [hg k (by omega)]
  by_cases hi : q ≤ k ∧ k < q + p
  · rw [if_pos hi, if_pos hi.2, h2 _ (by omega), if_neg (by omega)]
    congr 1
    unfold turnIx
    rcases hp with rfl | rfl | rfl | rfl
    all_goals
      rw [if_pos (by omega)]
      omega
  · rw [if_neg hi, h2 k hk]
    by_cases hk2 : k < q
    · rw [if_pos hk2, if_pos (by omega)]
    · rw [if_neg hk2, if_neg (by omega)]
theorem turnTo_end {p q : Nat} {b cs : List Int} (hp : p = 1 ∨ p = 2 ∨ p = 4 ∨ p = 8) (hq : q % p = 0) (hqn : b.length < q + p) (hqb : q ≤ b.length) (h : turnTo p q b cs) : cs = turned p b := by
  refine getD_ext (by rw [h.1, turned_len]) (fun k hk => ?_); rw [h.1] at hk; rw [h.2 k hk, turned_get hk]
  by_cases hk2 : k < q
  · rw [if_pos hk2]
  · rw [if_neg hk2]
    unfold turnIx
    rcases hp with rfl | rfl | rfl | rfl
    all_goals rw [if_neg (by omega)]

theorem splice_all {b z : List Int} {n : Nat} (hb : b.length = n) (hz : z.length = n) : splice z 0 (b.take n) = b := by
  unfold splice
  simp [hb, hz, List.take_of_length_le (Nat.le_of_eq hb)]
theorem sub_at {P : Program} {T E : TypeId} (ht : P.underlying T = some (.slice E)) (hE : ∀ w, (Go.sizeOf E).run P w = .ok 1 w) (g n q p : Nat) (hp : 1 ≤ p) (h : q + p ≤ n) (W : World) :
    (Instr.sliceAt T (.slice (some ⟨g, 0, none⟩) n n) (some (.int .i64 (q : Int))) (some (.int .i64 ((q : Int) + p))) none).run P W = .ok (.slice (some ⟨g, q, none⟩) p (n - q)) W := by
  have he : P.elem T = E := by unfold Program.elem; rw [ht]
  rw [run_sliceAt_slice (h := by rw [he]; exact ht), run_slice_lh (ht := by rw [he]; exact ht) (h0 := by omega) (h1 := by omega) (h2 := by omega), he, hE]; simp only [Result.andThen, sliced]; have e1 : ((q : Int) + p - q).toNat = p := by omega
  have e2 : ¬ n = q := by omega
  simp [e1, e2, Addr.add]
  omega
set_option maxRecDepth 20000 in
set_option maxHeartbeats 4000000 in
theorem turn_any (a : Option Addr) (n c : Nat) (b : List Int) (s o : Int) (w : World) (hs : Sl w a n c 1 (ints .u8 b)) (hn : n ≤ 1000000000) :
    Calls Tryz.prog 117 #[.slice a n c, .int .i64 s, .int .i64 o] w fun e w' => ∃ a2 m c2, e = .returned (.slice a2 m c2) ∧ w'.ownsRow w.heap.size 5 1 (.slice a2 m c2) m (ints .u8 (turnS b s o)) ∧ Below w.heap.size w w' := by
  obtain ⟨i0, hi, hz0, hz1, hz2⟩ := info_parts info8; have hbl := hs.ilen; have hle := hs.le; have hmx := hs.max; have hm1 := fun W => omay_any s o W; have hm2 := fun W => omay_any 1 o W; obtain ⟨t, ht⟩ : ∃ t, turnB s o = t := ⟨_, rfl⟩; have hts : turnS b s o = if t = true then (if o = 1 then turned s.toNat b else b) else [] := by unfold turnS; rw [ht]
  obtain ⟨R, hR⟩ : ∃ R, turnS b s o = R := ⟨_, rfl⟩; rw [hR]; rw [hR] at hts
  replace hts := hts.symm
  have ht' := ht; unfold turnB at ht'; obtain ⟨r1, hr1⟩ : ∃ r, mayB s o = r := ⟨_, rfl⟩; obtain ⟨r2, hr2⟩ : ∃ r, mayB 1 o = r := ⟨_, rfl⟩; rw [hr1] at hm1 ht'; rw [hr2] at hm2 ht'; have hm1' := Lib.hid hm1; have hm2' := Lib.hid hm2; have hs' := Lib.hid hs; have hbl' := Lib.hid hbl; have hts' := Lib.hid hts; clear hm1 hm2 hs hbl hts; clear hr1 hr2 hR
  go_enter Tryz.func117, Tryz.ntmps117
  cases t
  · clear ht
    cases r1
    · by_cases h8 : s = 8
      · subst h8
        obtain rfl : r2 = false := by simpa using ht'
        clear ht'
        go_wp2_with fail
        refine (hm1'.out _).mono ?_; rintro e w1 ⟨rfl, hb1⟩; have HB1 := Lib.hid hb1; clear hb1
        go_wp2_with fail
        refine (hm2'.out _).mono ?_; rintro e w2 ⟨rfl, hb2⟩; have HB2 := Lib.hid (HB1.out.trans (hb2.mono HB1.out.size)); clear hb2
        go_wp2_with fail
        go_ret
        exact ⟨none, 0, 0, rfl, by rw [← hts'.out]; exact own_nil _ _ _ _, HB2.out⟩
      · have d8 : (s != 8) = true := by simp [h8]
        clear ht'
        go_wp2_with fail
        refine (hm1'.out _).mono ?_; rintro e w1 ⟨rfl, hb1⟩; have HB1 := Lib.hid hb1; clear hb1
        go_wp2_with fail
        go_ret
        exact ⟨none, 0, 0, rfl, by rw [← hts'.out]; exact own_nil _ _ _ _, HB1.out⟩
    · simp at ht'
  · obtain ⟨hsz, hord⟩ := turnB_size ht
    obtain ⟨p, rfl⟩ : ∃ p : Nat, s = p := ⟨s.toNat, by omega⟩; have hp : p = 1 ∨ p = 2 ∨ p = 4 ∨ p = 8 := by omega
    have hp1 : 1 ≤ p := by omega
    have hp8 : p ≤ 8 := by omega
    clear ht hsz
    cases r1
    · have h8 : p = 8 := by simp at ht'; omega
      subst h8; obtain rfl : r2 = true := by simpa using ht'
      clear ht' hp
      go_wp2_with fail
      refine (hm1'.out _).mono ?_; rintro e w1 ⟨rfl, hb1⟩; have HB1 := Lib.hid hb1; clear hb1
      go_wp2_with fail
      refine (hm2'.out _).mono ?_; rintro e w2 ⟨rfl, hb2⟩; have HB2 := Lib.hid (HB1.out.trans (hb2.mono HB1.out.size)); clear hb2 HB1
      go_wp2_with (first | (at_make; refine wpList_make_full w2 rfl _ _ 24 rfl w2.heap.size 5 i0 _ 1 Tryz.underlying24 hi hz0 hz1 .i64 .i64 _ _ n rfl rfl rfl rfl (by rw [hz2]; omega) (by unfold maxLen; omega) (Nat.le_refl _) ?_; intro w3 hown hg2; have R3 := Row.of_own (by rw [made_row] at hown; exact hown); have H3 := (HB2).out.trans (((Below.refl _ _).grown hg2 (Nat.le_refl _) (fun k e => by cases e)).mono (HB2).out.size); clear hown hg2) | (refine wpList_copy_row rfl (.tmp 25) (.tmp 26) 24 24 rfl 5 Tryz.underlying24 (by rw [hi]; simp [hz1]) w2.heap.size n .u8 _ rfl R3 (by simp) a n c b rfl (hs'.out.mono H3) w.heap.size w H3 (HB2).out.size ?_; intro w4 hr4 hb4; rw [splice_all hbl'.out (by simp)] at hr4; clear R3 H3))
      obtain ⟨g, hg⟩ : ∃ g, w2.heap.size = g := ⟨_, rfl⟩; have hgw : w.heap.size ≤ g := by rw [← hg]; exact (HB2).out.size
      rw [hg] at hr4; rw [hg]; clear HB2 hg; have hr4' := Lib.hid hr4; have hb4' := Lib.hid hb4; clear hr4 hb4
      by_cases ho : o = 1
      · have d1 : (o == 1) = true := by simp [ho]
        have ho' := Lib.hid ho; clear ho; clear hord
        go_loopw [8] (fun i wr => ∃ (q : Nat) (cs : List Int), q ≤ n ∧ i = .int .i64 q ∧ Hid (q % 8 = 0) ∧ Hid (Row wr g 5 .u8 cs) ∧ Hid (turnTo 8 q b cs) ∧ Hid (Below w.heap.size w wr)) (fun i _ => n - (intOf i).toNat)
        case atStart => exact ⟨0, b, by omega, rfl, Lib.hid (by simp), hr4', Lib.hid ⟨rfl, fun k hk => by simp⟩, hb4'⟩
        case round =>
          obtain ⟨q, cs, hq, rfl, hqm, hr, htu, hb⟩ := hrel; have hw1 : IntKind.i64.wrap ((q : Int) + 8) = q + 8 := by rw [IntKind.wrap_i64]; omega
          have hcl := htu.out.1; rw [hbl'.out] at hcl
          by_cases hlt : q + 8 ≤ n
          · have d2 : decide ((q : Int) + 8 ≤ n) = true := by simp; omega
            have hRV := fun cc => reverse_row g q 8 cc cs 5 wr hr.out (by omega) (by omega); have hsl := sub_at (P := Tryz.prog) (T := 24) (E := 5) Tryz.underlying24 (fun W => by kernel_rfl) g n q 8 (by omega) hlt; have hRV' := Lib.hid hRV; clear hRV
            go_wp2_with (go_at_call 149; refine (hRV'.out _).mono ?_; rintro e w5 ⟨rfl, p', hr5, hl5, hg5, hb5⟩; have HR5 := Lib.hid hr5; have HL5 := Lib.hid hl5; have HG5 := Lib.hid hg5; have HB5 := Lib.hid hb5; clear hr5 hl5 hg5 hb5)
            go_roundw
            case rel => exact ⟨q + 8, p', by omega, by go_num, Lib.hid (by have := hqm.out; first | omega | (rw [Nat.add_mod_right]; exact this)), HR5, Lib.hid (turnTo_step (by omega) hqm.out (by rw [hbl'.out]; omega) htu.out HL5.out HG5.out), Lib.hid (hb.out.trans (HB5.out.below hgw hb.out.size))⟩
            case measure => simp [intOf]; omega
          · have d2 : decide ((q : Int) + 8 ≤ n) = false := by simp; omega
            go_wp2
            go_ret
            refine ⟨some ⟨g, 0, none⟩, n, n, rfl, ?_, hb.out⟩; have := turnTo_end (p := 8) (by omega) hqm.out (by rw [hbl'.out]; omega) (by rw [hbl'.out]; exact hq) htu.out; have hr2 := hr.out; rw [this] at hr2; have hR := hts'.out; rw [if_pos trivial, if_pos ho'.out] at hR; rw [Int.toNat_natCast] at hR; rw [← hR]; exact hr2.own (by rw [turned_len]; exact hbl'.out) hgw (by unfold maxLen; omega)
      · have d1 : (o == 1) = false := by simp [ho]
        have ho' := Lib.hid ho; clear ho; clear hord
        go_loopw [8] (fun i wr => i = .int .i64 0 ∧ wr = w4) (fun i _ => 0)
        case atStart => exact ⟨rfl, rfl⟩
        case round =>
          obtain ⟨rfl, rfl⟩ := hrel
          go_wp2
          go_ret
          refine ⟨some ⟨g, 0, none⟩, n, n, rfl, ?_, hb4'.out⟩; rw [← hts'.out, if_pos trivial, if_neg ho'.out]; exact hr4'.out.own hbl'.out hgw (by unfold maxLen; omega)
    · clear ht'
      go_wp2_with fail
      refine (hm1'.out _).mono ?_; rintro e w2 ⟨rfl, hb2⟩; have HB2 := Lib.hid hb2; clear hb2
      go_wp2_with (first | (at_make; refine wpList_make_full w2 rfl _ _ 24 rfl w2.heap.size 5 i0 _ 1 Tryz.underlying24 hi hz0 hz1 .i64 .i64 _ _ n rfl rfl rfl rfl (by rw [hz2]; omega) (by unfold maxLen; omega) (Nat.le_refl _) ?_; intro w3 hown hg2; have R3 := Row.of_own (by rw [made_row] at hown; exact hown); have H3 := (HB2).out.trans (((Below.refl _ _).grown hg2 (Nat.le_refl _) (fun k e => by cases e)).mono (HB2).out.size); clear hown hg2) | (refine wpList_copy_row rfl (.tmp 25) (.tmp 26) 24 24 rfl 5 Tryz.underlying24 (by rw [hi]; simp [hz1]) w2.heap.size n .u8 _ rfl R3 (by simp) a n c b rfl (hs'.out.mono H3) w.heap.size w H3 (HB2).out.size ?_; intro w4 hr4 hb4; rw [splice_all hbl'.out (by simp)] at hr4; clear R3 H3))
      obtain ⟨g, hg⟩ : ∃ g, w2.heap.size = g := ⟨_, rfl⟩; have hgw : w.heap.size ≤ g := by rw [← hg]; exact (HB2).out.size
      rw [hg] at hr4; rw [hg]; clear HB2 hg; have hr4' := Lib.hid hr4; have hb4' := Lib.hid hb4; clear hr4 hb4
      by_cases ho : o = 1
      · have d1 : (o == 1) = true := by simp [ho]
        have ho' := Lib.hid ho; clear ho; clear hord
        go_loopw [8] (fun i wr => ∃ (q : Nat) (cs : List Int), q ≤ n ∧ i = .int .i64 q ∧ Hid (q % p = 0) ∧ Hid (Row wr g 5 .u8 cs) ∧ Hid (turnTo p q b cs) ∧ Hid (Below w.heap.size w wr)) (fun i _ => n - (intOf i).toNat)
        case atStart => exact ⟨0, b, by omega, rfl, Lib.hid (by simp), hr4', Lib.hid ⟨rfl, fun k hk => by simp⟩, hb4'⟩
        case round =>
          obtain ⟨q, cs, hq, rfl, hqm, hr, htu, hb⟩ := hrel; have hw1 : IntKind.i64.wrap ((q : Int) + p) = q + p := by rw [IntKind.wrap_i64]; omega
          have hcl := htu.out.1; rw [hbl'.out] at hcl
          by_cases hlt : q + p ≤ n
          · have d2 : decide ((q : Int) + p ≤ n) = true := by simp; omega
            have hRV := fun cc => reverse_row g q p cc cs 5 wr hr.out (by omega) (by omega); have hsl := sub_at (P := Tryz.prog) (T := 24) (E := 5) Tryz.underlying24 (fun W => by kernel_rfl) g n q p (by omega) hlt; have hRV' := Lib.hid hRV; clear hRV
            go_wp2_with (go_at_call 149; refine (hRV'.out _).mono ?_; rintro e w5 ⟨rfl, p', hr5, hl5, hg5, hb5⟩; have HR5 := Lib.hid hr5; have HL5 := Lib.hid hl5; have HG5 := Lib.hid hg5; have HB5 := Lib.hid hb5; clear hr5 hl5 hg5 hb5)
            go_roundw
            case rel => exact ⟨q + p, p', by omega, by go_num, Lib.hid (by have := hqm.out; first | omega | (rw [Nat.add_mod_right]; exact this)), HR5, Lib.hid (turnTo_step (by omega) hqm.out (by rw [hbl'.out]; omega) htu.out HL5.out HG5.out), Lib.hid (hb.out.trans (HB5.out.below hgw hb.out.size))⟩
            case measure => simp [intOf]; omega
          · have d2 : decide ((q : Int) + p ≤ n) = false := by simp; omega
            go_wp2
            go_ret
            refine ⟨some ⟨g, 0, none⟩, n, n, rfl, ?_, hb.out⟩; have := turnTo_end (p := p) (by omega) hqm.out (by rw [hbl'.out]; omega) (by rw [hbl'.out]; exact hq) htu.out; have hr2 := hr.out; rw [this] at hr2; have hR := hts'.out; rw [if_pos trivial, if_pos ho'.out] at hR; rw [Int.toNat_natCast] at hR; rw [← hR]; exact hr2.own (by rw [turned_len]; exact hbl'.out) hgw (by unfold maxLen; omega)
      · have d1 : (o == 1) = false := by simp [ho]
        have ho' := Lib.hid ho; clear ho; clear hord
        go_loopw [8] (fun i wr => i = .int .i64 0 ∧ wr = w4) (fun i _ => 0)
        case atStart => exact ⟨rfl, rfl⟩
        case round =>
          obtain ⟨rfl, rfl⟩ := hrel
          go_wp2
          go_ret
          refine ⟨some ⟨g, 0, none⟩, n, n, rfl, ?_, hb4'.out⟩; rw [← hts'.out, if_pos trivial, if_neg ho'.out]; exact hr4'.out.own hbl'.out hgw (by unfold maxLen; omega)
end Go.Proofs.YtceclmpmpldmlaaGreat

namespace Tt
open Go Go.RowKit
set_option linter.unusedVariables false

/-- the cells of a row, each element's by f -/
def fl {α : Type} (f : α → List Value) (l : List α) : List Value := l.flatMap f
section
variable {α : Type} {f : α → List Value} {k : Nat}
theorem fl_cons (x : α) (r : List α) : fl f (x :: r) = f x ++ fl f r := rfl
theorem fl_append (x y : List α) : fl f (x ++ y) = fl f x ++ fl f y := by simp [fl]
theorem fl_snoc (x : List α) (y : α) : fl f (x ++ [y]) = fl f x ++ f y := by rw [fl_append]; simp [fl]
theorem fl_len (hf : ∀ x, (f x).length = k) : ∀ (l : List α), (fl f l).length = l.length * k
  | [] => by simp [fl]
  | x :: r => by rw [fl_cons, List.length_append, fl_len hf r, hf x, List.length_cons, Nat.succ_mul, Nat.add_comm]
theorem fl_get (hf : ∀ x, (f x).length = k) (d : α) : ∀ {l : List α} {i j : Nat}, i < l.length → j < k → (fl f l)[i * k + j]? = (f (l.getD i d))[j]?
  | x :: r, 0, j, _, hj => by rw [fl_cons, List.getElem?_append_left (by rw [hf x]; omega), Nat.zero_mul, Nat.zero_add]; rfl
  | x :: r, i + 1, j, hi, hj => by
    have e : (i + 1) * k + j - k = i * k + j := by rw [Nat.succ_mul]; omega
    rw [fl_cons, List.getElem?_append_right (by rw [hf x, Nat.succ_mul]; omega), hf x, e, fl_get hf d (by simpa using hi) hj]
    rfl
theorem fl_one (h1 : ∀ x, ∀ u ∈ f x, u.oneCell' = true) {l : List α} : ∀ u ∈ fl f l, u.oneCell' = true := by
  intro u hu; obtain ⟨x, _, hx⟩ := List.mem_flatMap.1 hu; exact h1 x u hx
theorem Sl.flen {w : World} {a : Option Addr} {n c : Nat} {l : List α} (hf : ∀ x, (f x).length = k) (hk : 0 < k) (h : Sl w a n c k (fl f l)) : l.length = n := by
  have := h.len; rw [fl_len hf] at this; exact Nat.eq_of_mul_eq_mul_right hk this
/-- an element of a row that is read: its cells -/
theorem Sl.elem {w : World} {a : Option Addr} {n c : Nat} {l : List α} (hf : ∀ x, (f x).length = k) (hk : 0 < k) (d : α) (h : Sl w a n c k (fl f l)) {i : Nat} (hi : i < n) :
    ∃ b o, a = some ⟨b, o, none⟩ ∧ b < w.heap.size ∧ ∀ j v, (f (l.getD i d))[j]? = some v → w.cell? ⟨b, o + i * k + j, none⟩ = some v := by
  have hl := h.flen hf hk; obtain ⟨b, o, rfl, hb, hc⟩ := h.at hi; refine ⟨b, o, rfl, hb, fun j v hj => ?_⟩
  have hjk : j < k := by
    have := (List.getElem?_eq_some_iff.1 hj).1
    rwa [hf] at this
  have := hc (i * k + j) v ((fl_get hf d (by omega) hjk).trans hj)
  rwa [← Nat.add_assoc] at this
end
end Tt

namespace Go.Proofs.YtceclmpmpldmlaaGreat
open Go.RowKit Tt
set_option linter.unusedVariables false
set_option linter.unusedSimpArgs false

abbrev Lk := Int × Int
def lkc (x : Lk) : List Value := [.int .i64 x.1, .int .i64 x.2]
theorem lkc_len (x : Lk) : (lkc x).length = 2 := rfl
set_option maxHeartbeats 1000000 in
theorem lidx_any (fid : Nat) (hf : fid = 254 ∨ fid = 214) (cap : Value) (a : Option Addr) (n c : Nat) (ls : List Lk) (p : Lk → Bool) (w : World) (hs : Sl w a n c 2 (fl lkc ls))
    (hc : ∀ W (x : Lk), Below w.heap.size w W → Calls Tryz.prog fid #[.agg #[.int .i64 x.1, .int .i64 x.2], cap] W fun e W' => e = .returned (.bool (p x)) ∧ Below W.heap.size W W') :
    Calls Tryz.prog 91 #[.slice a n c, .func (.func fid) #[] #[cap]] w fun e w' => e = .returned (.int .i64 (fst p ls)) ∧ Below w.heap.size w w' := by
  have hl := hs.flen lkc_len (by decide); have hm := hs.max; have hle := hs.le; have hs' := Lib.hid hs; have hc' := Lib.hid hc; have hl' := Lib.hid hl; clear hs hc hl
  rcases hf with rfl | rfl
  all_goals
    go_enter Tryz.func91, Tryz.ntmps91
    go_wp2
    go_loopw [8] (fun iv wr => ∃ k : Nat, k ≤ n ∧ iv = .int .i64 k ∧ Hid (∀ i (hi : i < ls.length), i < k → p ls[i] = false) ∧ Hid (Below w.heap.size w wr)) (fun iv _ => n - (intOf iv).toNat)
    case atStart => exact ⟨0, by omega, rfl, Lib.hid (fun j _ hj => by omega), Lib.hid (Below.refl _ _)⟩
    case round =>
      obtain ⟨k, hk, rfl, hall, hb⟩ := hrel
      by_cases hlt : k < n
      · have hww : IntKind.i64.wrap ((k : Int) + 1) = k + 1 := by rw [IntKind.wrap_i64]; omega
        have hkl : k < ls.length := by rw [hl'.out]; exact hlt
        obtain ⟨b, o, rfl, hbb, f⟩ := (hs'.out.mono hb.out).elem lkc_len (by decide) (0, 0) hlt; rw [getD_el hkl] at f; have f0 := f 0 _ rfl; have f1 := f 1 _ rfl; clear f; rw [Nat.add_zero] at f0; obtain ⟨r, hr⟩ : ∃ r, p (ls[k]'hkl) = r := ⟨_, rfl⟩; have HC := hc'.out wr (ls[k]'hkl) hb.out; rw [hr] at HC
        generalize (ls[k]'hkl).1 = x1 at *
        generalize (ls[k]'hkl).2 = x2 at *
        have HC' := Lib.hid HC; have hr' := Lib.hid hr; clear HC hr
        go_wp2_with fail
        refine HC'.out.mono ?_; rintro e w2 ⟨rfl, hb2⟩; have hbw := hb.out.trans (hb2.mono hb.out.size); clear hb2
        cases r with
        | true =>
          have hbw' := Lib.hid hbw; clear hbw
          go_wp2
          go_ret
          exact ⟨by rw [fst_at hkl hr'.out (fun i hi => hall.out i (by omega) hi)]; rfl, hbw'.out⟩
        | false =>
          have hall2 : ∀ i (hi : i < ls.length), i < k + 1 → p ls[i] = false := fun i hi h => by
            rcases Nat.lt_or_ge i k with h1 | h1
            · exact hall.out i hi h1
            · obtain rfl : i = k := by omega
              exact hr'.out
          have hbw' := Lib.hid hbw; have hall2' := Lib.hid hall2; clear hbw hall2
          go_wp2
          go_roundw
          case rel => exact ⟨k + 1, by omega, by go_num, hall2', hbw'⟩
          case measure => simp [intOf]; omega
      · obtain rfl : k = n := by omega
        go_wp2
        go_ret
        exact ⟨by rw [fst_no (fun i hi => hall.out i hi (by rw [hl'.out] at hi; exact hi))]; rfl, hb.out⟩
set_option maxHeartbeats 1000000 in
theorem bidx_any (fid : Nat) (hf : fid = 114) (a : Option Addr) (n c : Nat) (ls : List Int) (p : Int → Bool) (w : World) (hs : Sl w a n c 1 (ints .u8 ls))
    (hc : ∀ W (x : Int), Below w.heap.size w W → Calls Tryz.prog fid #[.int .u8 x] W fun e W' => e = .returned (.bool (p x)) ∧ Below W.heap.size W W') :
    Calls Tryz.prog 166 #[.slice a n c, .func (.func fid) #[] #[]] w fun e w' => e = .returned (.int .i64 (fst p ls)) ∧ Below w.heap.size w w' := by
  have hl := hs.ilen; have hm := hs.max; have hle := hs.le; have hs' := Lib.hid hs; have hc' := Lib.hid hc; have hl' := Lib.hid hl; clear hs hc hl
  rcases hf with rfl
  all_goals
    go_enter Tryz.func166, Tryz.ntmps166
    go_wp2
    go_loopw [8] (fun iv wr => ∃ k : Nat, k ≤ n ∧ iv = .int .i64 k ∧ Hid (∀ i (hi : i < ls.length), i < k → p ls[i] = false) ∧ Hid (Below w.heap.size w wr)) (fun iv _ => n - (intOf iv).toNat)
    case atStart => exact ⟨0, by omega, rfl, Lib.hid (fun j _ hj => by omega), Lib.hid (Below.refl _ _)⟩
    case round =>
      obtain ⟨k, hk, rfl, hall, hb⟩ := hrel
      by_cases hlt : k < n
      · have hww : IntKind.i64.wrap ((k : Int) + 1) = k + 1 := by rw [IntKind.wrap_i64]; omega
        have hkl : k < ls.length := by rw [hl'.out]; exact hlt
        obtain ⟨b, o, rfl, hbb, f⟩ := (hs'.out.mono hb.out).at hlt; have f0 := f k _ (ints_get hkl); rw [getD_el hkl] at f0; clear f; obtain ⟨r, hr⟩ : ∃ r, p (ls[k]'hkl) = r := ⟨_, rfl⟩; have HC := hc'.out wr (ls[k]'hkl) hb.out; rw [hr] at HC
        generalize (ls[k]'hkl) = x1 at f0 HC
        have HC' := Lib.hid HC; have hr' := Lib.hid hr; clear HC hr
        go_wp2_with fail
        refine HC'.out.mono ?_; rintro e w2 ⟨rfl, hb2⟩; have hbw := hb.out.trans (hb2.mono hb.out.size); clear hb2
        cases r with
        | true =>
          have hbw' := Lib.hid hbw; clear hbw
          go_wp2
          go_ret
          exact ⟨by rw [fst_at hkl hr'.out (fun i hi => hall.out i (by omega) hi)]; rfl, hbw'.out⟩
        | false =>
          have hall2 : ∀ i (hi : i < ls.length), i < k + 1 → p ls[i] = false := fun i hi h => by
            rcases Nat.lt_or_ge i k with h1 | h1
            · exact hall.out i hi h1
            · obtain rfl : i = k := by omega
              exact hr'.out
          have hbw' := Lib.hid hbw; have hall2' := Lib.hid hall2; clear hbw hall2
          go_wp2
          go_roundw
          case rel => exact ⟨k + 1, by omega, by go_num, hall2', hbw'⟩
          case measure => simp [intOf]; omega
      · obtain rfl : k = n := by omega
        go_wp2
        go_ret
        exact ⟨by rw [fst_no (fun i hi => hall.out i hi (by rw [hl'.out] at hi; exact hi))]; rfl, hb.out⟩
set_option maxHeartbeats 1000000 in
theorem bhas_any (fid : Nat) (hf : fid = 114) (a : Option Addr) (n c : Nat) (ls : List Int) (p : Int → Bool) (w : World) (hs : Sl w a n c 1 (ints .u8 ls))
    (hc : ∀ W (x : Int), Below w.heap.size w W → Calls Tryz.prog fid #[.int .u8 x] W fun e W' => e = .returned (.bool (p x)) ∧ Below W.heap.size W W') :
    Calls Tryz.prog 115 #[.slice a n c, .func (.func fid) #[] #[]] w fun e w' => e = .returned (.bool (ls.any p)) ∧ Below w.heap.size w w' := by
  have HX := bidx_any fid hf a n c ls p w hs hc; obtain ⟨r, hr⟩ : ∃ r, fst p ls = r := ⟨_, rfl⟩; have ha := fst_any (p := p) (l := ls); rw [hr] at HX ha; obtain ⟨q, hq⟩ : ∃ q, ls.any p = q := ⟨_, rfl⟩; rw [hq] at ha ⊢; clear hs hc; have HX' := Lib.hid HX; have hr' := Lib.hid hr; have hq' := Lib.hid hq; clear HX hr hq
  rcases hf with rfl
  all_goals
    go_enter Tryz.func115, Tryz.ntmps115
    go_wp2_with fail
    refine HX'.out.mono ?_; rintro e w2 ⟨rfl, hb2⟩; have hb2' := Lib.hid hb2; clear hb2
    go_wp2
    go_ret
    exact ⟨rfl, hb2'.out⟩
end Go.Proofs.YtceclmpmpldmlaaGreat

/- Chapter 18: kinds of values, and which may be; what a row of numbers holds. -/
namespace Go.Proofs.YtceclmpmpldmlaaGreat
open Go.RowKit Tt
set_option linter.unusedVariables false

def kindL : List (Int × Int × Int) := [(0, 0, 0), (1, 1, 1), (1, 1, 1), (2, 2, 1), (4, 4, 1), (8, 4, 3), (1, 1, 2), (1, 1, 1), (2, 2, 2), (4, 4, 2), (8, 4, 4), (4, 4, 5), (8, 8, 5)]
def kindS (n : Int) : Int × Int × Int := if n < 0 ∨ 12 < n then (0, 0, 0) else kindL.getD n.toNat (0, 0, 0)
theorem kindS_out {n : Int} (h : n < 0 ∨ 12 < n) : kindS n = (0, 0, 0) := if_pos h
theorem kindS_size (n : Int) : 0 ≤ (kindS n).1 ∧ (kindS n).1 ≤ 8 := by
  unfold kindS
  split
  · exact ⟨by decide, by decide⟩
  · have : ∀ x ∈ kindL, 0 ≤ x.1 ∧ x.1 ≤ 8 := by decide
    rw [List.getD_eq_getElem?_getD]
    cases h : kindL[n.toNat]? with
    | none => exact ⟨by decide, by decide⟩
    | some x => exact this x (List.mem_of_getElem? h)


set_option maxRecDepth 100000 in
set_option maxHeartbeats 1000000 in
theorem indexbyte_any (a : Option Addr) (n c : Nat) (x : List Int) (cv : Int) (w : World) (hs : Sl w a n c 1 (ints .u8 x)) :
    Calls Tryz.prog 159 #[.slice a n c, .int .u8 cv] w fun e w' => e = .returned (.int .i64 (Lib.indexByte (Lib.bytesOf x) cv.toNat.toUInt8)) ∧ w = w' := by
  have hl := hs.ilen
  cases a with
  | none =>
    have h1 := hs.fit rfl; have h2 := hs.le; subst h1; obtain rfl : n = 0 := by omega
    obtain rfl : x = [] := List.eq_nil_of_length_eq_zero hl
    go_enter Tryz.func159, Tryz.ntmps159
    go_wp2
    rw [run_callFunc_extern Tryz.func226 (by kernel_rfl) (by kernel_rfl) (by kernel_rfl) (e := Extern.BytealgIndexByte.indexByte) (by kernel_rfl), Lib.run_indexByteNil w 0 0 cv]; simp only [Result.andThen]; rw [Oper.upon_value]
    go_wp2
    go_ret
    exact ⟨rfl, rfl⟩
  | some y =>
    have hc : ∀ i, i < n → w.cell? (y.add i) = some (.int .u8 (x.getD i 0)) := fun i hi => by
      obtain ⟨b, off, e, _, hc⟩ := hs.at hi; injection e with e; subst e; rw [Addr.add_lit]; exact hc i _ (ints_get (by omega))
    go_enter Tryz.func159, Tryz.ntmps159
    go_wp2
    rw [run_callFunc_extern Tryz.func226 (by kernel_rfl) (by kernel_rfl) (by kernel_rfl) (e := Extern.BytealgIndexByte.indexByte) (by kernel_rfl), Lib.run_indexByteAt w y n c x hl hc cv]; simp only [Result.andThen]; rw [Oper.upon_value]
    go_wp2
    go_ret
    exact ⟨rfl, rfl⟩
end Go.Proofs.YtceclmpmpldmlaaGreat
