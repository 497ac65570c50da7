/- Chapter 1: Turn of both sides, Get of the document. | Chapter 1: Get of the document. | Rows of structs: the cells of each, one behind the other (any program). | slices.IndexFunc, ContainsFunc over links, over bytes. |  -/
import Derived.Lib.ConvBytes
import Derived.Laws.AppendOwn
import Derived.Test.YtilennmeiaehnaaGreatCw03
import Derived.Test.YtilennmeiaehnaaGreatCw00
import Derived.Test.YtilennmeiaehnaaGreatCw01
import Derived.Test.YtilennmeiaehnaaGreatCw02
import Derived.Deep.QuietTactic
import Derived.BigQuiet
import Derived.Shelf.Bytes.SlIndexAt
import Derived.Lib.BytesEntry
import Derived.Deep.RegionLaw
import Derived.Deep.CutRange
import Derived.Deep.Cut
import Derived.BigRegion
namespace Go.Proofs.YtilennmeiaehnaaGreat
open Go.RowKit Tt
set_option linter.unusedVariables false
set_option linter.unusedSimpArgs false

def turnB (s o : Int) : Bool := mayB s o || (s == 8 && mayB 1 o)
def turnIx (n p i : Nat) : Nat := if i < n - n % p then i - i % p + p - 1 - i % p else i
def turned (p : Nat) (b : List Int) : List Int := (List.range b.length).map fun i => b.getD (turnIx b.length p i) 0
def turnS (b : List Int) (s o : Int) : List Int := if turnB s o = true then (if o = 1 then turned s.toNat b else b) else []
theorem turned_len (p : Nat) (b : List Int) : (turned p b).length = b.length := by simp [turned]
theorem turned_get {p i : Nat} {b : List Int} (h : i < b.length) : (turned p b).getD i 0 = b.getD (turnIx b.length p i) 0 := by
  rw [getD_el (by rw [turned_len]; exact h)]
  simp [turned]
theorem turnIx_lt {n p i : Nat} (hp : 0 < p) (h : i < n) : turnIx n p i < n := by
  unfold turnIx
  split
  · rename_i h1
    have := Nat.mod_lt i hp
    have h2 := Nat.div_add_mod i p
    have h3 := Nat.div_add_mod n p
    have h4 : i / p < n / p := by
      rw [Nat.div_lt_iff_lt_mul hp, Nat.mul_comm]
      omega
    have h5 : p * (i / p + 1) ≤ p * (n / p) := Nat.mul_le_mul_left p h4
    rw [Nat.mul_succ] at h5
    omega
  · exact h
theorem turnB_size {s o : Int} (h : turnB s o = true) : (s = 1 ∨ s = 2 ∨ s = 4 ∨ s = 8) ∧ (o = 1 ∨ o = 2) := by
  unfold turnB mayB at h
  simp at h
  omega
theorem byt_turned {p : Nat} {b : List Int} (hb : Byt b) : Byt (turned p b) := by
  intro x hx
  unfold turned at hx
  obtain ⟨i, _, rfl⟩ := List.mem_map.1 hx
  exact hb.get _
theorem byt_turn {b : List Int} (hb : Byt b) (s o : Int) : Byt (turnS b s o) := by
  unfold turnS
  split
  · split
    · exact byt_turned hb
    · exact hb
  · intro x hx; cases hx
/-- the bytes, of which those ahead of q are turned -/
def turnTo (p q : Nat) (b cs : List Int) : Prop := cs.length = b.length ∧ ∀ k, k < b.length → cs.getD k 0 = if k < q then b.getD (turnIx b.length p k) 0 else b.getD k 0
theorem turnTo_step {p q : Nat} {b cs cs' : List Int} (hp : p = 1 ∨ p = 2 ∨ p = 4 ∨ p = 8) (hq : q % p = 0) (hqn : q + p ≤ b.length) (h : turnTo p q b cs) (hl : cs'.length = cs.length)
    (hg : ∀ k, k < cs.length → cs'.getD k 0 = if q ≤ k ∧ k < q + p then cs.getD (2 * q + p - 1 - k) 0 else cs.getD k 0) : turnTo p (q + p) b cs' := by
  obtain ⟨h1, h2⟩ := h
  refine ⟨hl.trans h1, fun k hk => ?_⟩
  rw [hg k (by omega)]
  by_cases hi : q ≤ k ∧ k < q + p
  · rw [if_pos hi, if_pos hi.2, h2 _ (by omega), if_neg (by omega)]
    congr 1
    unfold turnIx
    rcases hp with rfl | rfl | rfl | rfl
    all_goals
      rw [if_pos (by omega)]
      omega
  · rw [if_neg hi, h2 k hk]
    by_cases hk2 : k < q
    · rw [if_pos hk2, if_pos (by omega)]
    · rw [if_neg hk2, if_neg (by omega)]
theorem turnTo_end {p q : Nat} {b cs : List Int} (hp : p = 1 ∨ p = 2 ∨ p = 4 ∨ p = 8) (hq : q % p = 0) (hqn : b.length < q + p) (hqb : q ≤ b.length) (h : turnTo p q b cs) : cs = turned p b := by
  refine getD_ext (by rw [h.1, turned_len]) (fun k hk => ?_)
  rw [h.1] at hk
  rw [h.2 k hk, turned_get hk]
  by_cases hk2 : k < q
  · rw [if_pos hk2]
  · rw [if_neg hk2]
    unfold turnIx
    rcases hp with rfl | rfl | rfl | rfl
    all_goals rw [if_neg (by omega)]

theorem splice_all {b z : List Int} {n : Nat} (hb : b.length = n) (hz : z.length = n) : splice z 0 (b.take n) = b := by
  unfold splice
  simp [hb, hz, List.take_of_length_le (Nat.le_of_eq hb)]
theorem sub_at {P : Program} {T E : TypeId} (ht : P.underlying T = some (.slice E)) (hE : ∀ w, (Go.sizeOf E).run P w = .ok 1 w) (g n q p : Nat) (hp : 1 ≤ p) (h : q + p ≤ n) (W : World) :
    (Instr.sliceAt T (.slice (some ⟨g, 0, none⟩) n n) (some (.int .i64 (q : Int))) (some (.int .i64 ((q : Int) + p))) none).run P W = .ok (.slice (some ⟨g, q, none⟩) p (n - q)) W := by
  have he : P.elem T = E := by unfold Program.elem; rw [ht]
  rw [run_sliceAt_slice (h := by rw [he]; exact ht), run_slice_lh (ht := by rw [he]; exact ht) (h0 := by omega) (h1 := by omega) (h2 := by omega), he, hE]
  simp only [Result.andThen, sliced]
  have e1 : ((q : Int) + p - q).toNat = p := by omega
  have e2 : ¬ n = q := by omega
  simp [e1, e2, Addr.add]
  omega
theorem turnB_eq (s o : Int) : turnB s o = ((decide (topS s ≠ 0) || s == 8) && decide (1 ≤ o) && decide (o ≤ 2)) := by
  unfold turnB mayB topS
  rw [Bool.eq_iff_iff]
  simp
  split <;> (try split) <;> (try split) <;> omega
set_option maxRecDepth 20000 in
set_option maxHeartbeats 4000000 in
theorem rturn_any (a : Option Addr) (n c : Nat) (b : List Int) (s o : Int) (w : World) (hs : Sl w a n c 1 (ints .u8 b)) (hn : n ≤ 1000000000) :
    Calls Tryz.prog 177 #[.slice a n c, .int .i64 s, .int .i64 o] w fun e w' => ∃ a2 m c2, e = .returned (.slice a2 m c2) ∧ w'.ownsRow w.heap.size 5 1 (.slice a2 m c2) m (ints .u8 (turnS b s o)) ∧ Below w.heap.size w w' := by
  obtain ⟨i0, hi, hz0, hz1, hz2⟩ := info_parts info8
  have hbl := hs.ilen
  have hle := hs.le
  have hmx := hs.max
  have htb := turnB_eq s o
  have HT := Lib.hid (fun W => r1top_any s W)
  by_cases ht : turnB s o = true
  · obtain ⟨hsz, hord⟩ := turnB_size ht
    obtain ⟨p, rfl⟩ : ∃ p : Nat, s = p := ⟨s.toNat, by omega⟩
    have hp0 : ¬ (p : Int) = 0 := by omega
    have hp8 : p ≤ 8 := by omega
    have d0 : (topS (p : Int) == 0 && (p : Int) != 8) = false := by
      rw [ht] at htb
      simp at htb ⊢
      intro h; exact (htb.1.1.resolve_left (fun h2 => h2 h)) 
    have hR : turnS b p o = if o = 1 then turned p b else b := by unfold turnS; rw [if_pos ht]; rfl
    obtain ⟨R, hRR⟩ : ∃ R, turnS b p o = R := ⟨_, rfl⟩
    have hRl : R.length = n := by rw [← hRR, hR, ← hbl]; split <;> simp [turned_len]
    rw [hRR] at hR ⊢
    have hRg : ∀ k, k < n → R.getD k 0 = b.getD (if o = 1 then turnIx n p k else k) 0 := fun k hk => by
      rw [hR]
      by_cases ho : o = 1
      · rw [if_pos ho, if_pos ho, turned_get (by rw [hbl]; exact hk), hbl]
      · rw [if_neg ho, if_neg ho]
    have d1 : decide (o < 1) = false := by simp; omega
    have d2 : decide (2 < o) = false := by simp; omega
    generalize topS (p : Int) = T at *
    clear hR hRR htb ht
    have hRl' := Lib.hid hRl
    have hRg' := Lib.hid hRg
    have hs' := Lib.hid hs
    have hbl' := Lib.hid hbl
    clear hRl hRg hs hbl
    obtain ⟨rn, hrn⟩ : ∃ rn, n % p = rn := ⟨_, rfl⟩
    have hrnp : rn ≤ n := by rw [← hrn]; exact Nat.mod_le _ _
    have ht1 : Int.tmod (n : Int) (p : Int) = rn := by rw [Int.tmod_eq_emod_of_nonneg (by omega), ← hrn]; rfl
    have hp1 : 1 ≤ p := by omega
    clear hsz
    have hrn' := Lib.hid hrn
    clear hrn
    have main : ∀ w1 : World, True := fun _ => trivial
    obtain ⟨z0, hT⟩ : ∃ z0, (T == 0) = z0 := ⟨_, rfl⟩
    rw [hT] at d0
    cases z0
    all_goals
      go_enter Tryz.func177, Tryz.ntmps177
      go_wp2_with (go_at_call 137; refine (HT.out _).mono ?_; rintro e w1 ⟨rfl, rfl⟩)
      go_loopw [7, 8] (fun v i wr => ∃ (k : Nat) (a4 : Option Addr) (c4 : Nat), k ≤ n ∧ v = .slice a4 k c4 ∧ i = .int .i64 k ∧ Hid (wr.ownsRow w.heap.size 5 1 (.slice a4 k c4) k (ints .u8 (R.take k))) ∧ Hid (Below w.heap.size w wr)) (fun _ i _ => n - (intOf i).toNat)
      case atStart => exact ⟨0, none, 0, by omega, rfl, rfl, Lib.hid (own_nil _ _ _ _), Lib.hid (Below.refl _ _)⟩
      case round =>
        obtain ⟨k, a4, c4, hk, rfl, rfl, Ho, Hb⟩ := hrel
        by_cases hlt : k < n
        · have hnx : R.take k ++ [R.getD k 0] = R.take (k + 1) := (take_snoc' (by rw [hRl'.out]; exact hlt)).symm
          have hrg := hRg'.out k hlt
          have hixl : (if o = 1 then turnIx n p k else k) < n := by
            split
            · exact turnIx_lt (by omega) hlt
            · exact hlt
          obtain ⟨ix, hix⟩ : ∃ ix, (if o = 1 then turnIx n p k else k) = ix := ⟨_, rfl⟩
          rw [hix] at hrg hixl
          obtain ⟨bl, off, rfl, hbl2, hc⟩ := (hs'.out.mono Hb.out).at (i := ix) hixl
          have f1 := hc ix _ (ints_get (by rw [hbl'.out]; exact hixl))
          rw [← hrg] at f1
          generalize R.getD k 0 = x at *
          have hixl2 : (ix : Int) < n := by omega
          clear hc hrg
          have hnx' := Lib.hid hnx
          clear hnx
          by_cases ho : o = 1
          · have d5 : (o == 1) = true := by simp [ho]
            rw [if_pos ho] at hix
            unfold turnIx at hix
            rw [hrn'.out] at hix
            have hw9 : IntKind.i64.wrap ((n : Int) - rn) = n - rn := by rw [IntKind.wrap_i64]; omega
            by_cases hlk : k < n - rn
            · have d6 : decide ((k : Int) < n - rn) = true := by simp; omega
              obtain ⟨r, hr⟩ : ∃ r, k % p = r := ⟨_, rfl⟩
              have ht2 : Int.tmod (k : Int) (p : Int) = r := by rw [Int.tmod_eq_emod_of_nonneg (by omega), ← hr]; rfl
              have hrp : r < p := by rw [← hr]; exact Nat.mod_lt _ (by omega)
              have hrk : r ≤ k := by rw [← hr]; exact Nat.mod_le _ _
              rw [if_pos hlk, hr] at hix
              have hw1 : IntKind.i64.wrap ((k : Int) - r) = k - r := by rw [IntKind.wrap_i64]; omega
              have hw2 : IntKind.i64.wrap ((k : Int) - r + p) = k - r + p := by rw [IntKind.wrap_i64]; omega
              have hw3 : IntKind.i64.wrap ((k : Int) - r + p - 1) = k - r + p - 1 := by rw [IntKind.wrap_i64]; omega
              have hw4 : IntKind.i64.wrap ((k : Int) - r + p - 1 - r) = ix := by rw [IntKind.wrap_i64]; omega
              have hw5 : IntKind.i64.wrap (rn : Int) = rn := by rw [IntKind.wrap_i64]; omega
              have hw6 : IntKind.i64.wrap (r : Int) = r := by rw [IntKind.wrap_i64]; omega
              have hix' := Lib.hid hix
              have hr' := Lib.hid hr
              have ho' := Lib.hid ho
              clear hix hr ho
              clear hord
              go_wp2_with fail
              go_quiet (fail)
              go_wp2_with (at_builtin; refine wpList_app rfl _ _ 30 rfl w.heap.size 5 i0 _ 1 1 Tryz.underlying30 hi hz0 hz1 hz2 rfl (by decide) _ k _ rfl (World.ownsRow.alloc (w := wr.drewN _) Ho.out _) _ 1 1 _ rfl (Sl.new (wr.drewN _) 5 1 1 _ (0, 0) (by omega) rfl) (by simp [Value.oneCell']) (by omega) (by decide) (by have := Hb.out.size; simp; omega) ?_; intro a5 c5 w2 ob hb2 hg2; clear hg2; have Ob := Lib.hid ob; have Hb2 := Lib.hid (((below_drewN Hb.out _).alloc Hb.out.size _).trans hb2); clear ob hb2)
              go_roundw
              case rel => exact ⟨k + 1, a5, c5, by omega, rfl, by go_num, Lib.hid (by rw [← hnx'.out, ints_append]; exact Ob.out), Hb2⟩
              case measure => simp [intOf]; omega
            · have d6 : decide ((k : Int) < n - rn) = false := by simp; omega
              have hw5 : IntKind.i64.wrap (rn : Int) = rn := by rw [IntKind.wrap_i64]; omega
              rw [if_neg hlk] at hix
              subst hix
              have ho' := Lib.hid ho
              clear ho
              clear hord
              go_wp2_with (at_builtin; refine wpList_app rfl _ _ 30 rfl w.heap.size 5 i0 _ 1 1 Tryz.underlying30 hi hz0 hz1 hz2 rfl (by decide) _ k _ rfl (World.ownsRow.alloc Ho.out _) _ 1 1 _ rfl (Sl.new wr 5 1 1 _ (0, 0) (by omega) rfl) (by simp [Value.oneCell']) (by omega) (by decide) (by have := Hb.out.size; simp; omega) ?_; intro a5 c5 w2 ob hb2 hg2; clear hg2; have Ob := Lib.hid ob; have Hb2 := Lib.hid ((Hb.out.alloc Hb.out.size _).trans hb2); clear ob hb2)
              go_roundw
              case rel => exact ⟨k + 1, a5, c5, by omega, rfl, by go_num, Lib.hid (by rw [← hnx'.out, ints_append]; exact Ob.out), Hb2⟩
              case measure => simp [intOf]; omega
          · have d5 : (o == 1) = false := by simp [ho]
            rw [if_neg ho] at hix
            subst hix
            have ho' := Lib.hid ho
            clear ho
            clear hord
            go_wp2_with (at_builtin; refine wpList_app rfl _ _ 30 rfl w.heap.size 5 i0 _ 1 1 Tryz.underlying30 hi hz0 hz1 hz2 rfl (by decide) _ k _ rfl (World.ownsRow.alloc Ho.out _) _ 1 1 _ rfl (Sl.new wr 5 1 1 _ (0, 0) (by omega) rfl) (by simp [Value.oneCell']) (by omega) (by decide) (by have := Hb.out.size; simp; omega) ?_; intro a5 c5 w2 ob hb2 hg2; clear hg2; have Ob := Lib.hid ob; have Hb2 := Lib.hid ((Hb.out.alloc Hb.out.size _).trans hb2); clear ob hb2)
            go_roundw
            case rel => exact ⟨k + 1, a5, c5, by omega, rfl, by go_num, Lib.hid (by rw [← hnx'.out, ints_append]; exact Ob.out), Hb2⟩
            case measure => simp [intOf]; omega
        · obtain rfl : k = n := by omega
          go_wp2
          go_ret
          exact ⟨_, _, _, rfl, by have h := Ho.out; rw [List.take_of_length_le (Nat.le_of_eq hRl'.out)] at h; exact h, Hb.out⟩
  · have hR : turnS b s o = [] := by unfold turnS; rw [if_neg ht]
    have hf : turnB s o = false := by simpa using ht
    rw [hf] at htb
    rw [hR]
    generalize topS s = T at *
    clear hR ht hf
    have htb2 : (T = 0 ∧ ¬ s = 8) ∨ o < 1 ∨ 2 < o := by
      by_cases h1 : o < 1
      · exact .inr (.inl h1)
      · by_cases h2 : 2 < o
        · exact .inr (.inr h2)
        · simp at htb
          exact .inl (by by_cases h3 : T = 0 <;> by_cases h4 : s = 8 <;> simp_all <;> omega)
    clear htb
    by_cases h0 : T = 0 ∧ ¬ s = 8
    · obtain ⟨rfl, h8⟩ := h0
      have d1 : (s != 8) = true := by simp [h8]
      clear htb2
      go_enter Tryz.func177, Tryz.ntmps177
      go_wp2_with (go_at_call 137; refine (HT.out _).mono ?_; rintro e w1 ⟨rfl, rfl⟩)
      go_ret
      exact ⟨none, 0, 0, rfl, own_nil _ _ _ _, Below.refl _ _⟩
    · have d0 : ((T == 0) && (s != 8)) = false := by
        by_cases h3 : T = 0 <;> by_cases h4 : s = 8 <;> simp_all
      have htb3 : o < 1 ∨ 2 < o := htb2.resolve_left h0
      clear htb2 h0
      obtain ⟨z0, hT⟩ : ∃ z0, (T == 0) = z0 := ⟨_, rfl⟩
      rw [hT] at d0
      by_cases h1 : o < 1
      · have d1 : decide (o < 1) = true := by simp; omega
        clear htb3
        cases z0
        all_goals
          go_enter Tryz.func177, Tryz.ntmps177
          go_wp2_with (go_at_call 137; refine (HT.out _).mono ?_; rintro e w1 ⟨rfl, rfl⟩)
          go_ret
          exact ⟨none, 0, 0, rfl, own_nil _ _ _ _, Below.refl _ _⟩
      · have d1 : decide (o < 1) = false := by simp; omega
        have d2 : decide (2 < o) = true := by simp; omega
        clear htb3
        cases z0
        all_goals
          go_enter Tryz.func177, Tryz.ntmps177
          go_wp2_with (go_at_call 137; refine (HT.out _).mono ?_; rintro e w1 ⟨rfl, rfl⟩)
          go_ret
          exact ⟨none, 0, 0, rfl, own_nil _ _ _ _, Below.refl _ _⟩
end Go.Proofs.YtilennmeiaehnaaGreat

namespace Go.Proofs.YtilennmeiaehnaaGreat
open Go.RowKit Tt
set_option linter.unusedVariables false
set_option linter.unusedSimpArgs false

theorem topS_no (s : Int) : (topS s == 0) = !(s == 1 || s == 2 || s == 4) := by
  unfold topS
  rw [Bool.eq_iff_iff]
  simp
  split <;> (try split) <;> (try split) <;> omega
set_option maxRecDepth 20000 in
set_option maxHeartbeats 4000000 in
theorem rget_any (a : Option Addr) (n c : Nat) (z : List Int) (at_ size order : Int) (w : World) (hs : Sl w a n c 1 (ints .u8 z)) (hb : Byt z) :
    Calls Tryz.prog 176 #[.slice a n c, .int .i64 at_, .int .i64 size, .int .i64 order] w fun e w' => e = .returned (.tuple #[.int .i64 (getV z at_ size order), .bool (getB n at_ size order)]) ∧ Below w.heap.size w w' := by
  have hzl := hs.ilen
  have hle := hs.le
  have hmx := hs.max
  have hT0 := topS_no size
  have HT := Lib.hid (fun W => r1top_any size W)
  have hgv : getV z at_ size order = if getB n at_ size order = true then be (getL z at_.toNat size.toNat order) else 0 := by unfold getV; rw [hzl]
  rw [hgv]
  clear hgv
  by_cases h0 : (size == 1 || size == 2 || size == 4) = true
  case neg =>
    have e1 : getB n at_ size order = false := by unfold getB mayB; simp only [Bool.not_eq_true] at h0; rw [h0]; simp
    rw [e1]
    simp only [Bool.not_eq_true] at h0
    rw [h0] at hT0
    simp only [Bool.not_false] at hT0
    clear e1 h0 hs hb
    generalize topS size = T at *
    go_enter Tryz.func176, Tryz.ntmps176
    go_wp2_with (go_at_call 137; refine (HT.out _).mono ?_; rintro e w1 ⟨rfl, rfl⟩)
    go_ret2
    exact ⟨rfl, Below.refl _ _⟩
  rw [h0] at hT0
  simp only [Bool.not_true] at hT0
  have hsz : size = 1 ∨ size = 2 ∨ size = 4 := by simpa [or_assoc] using h0
  generalize topS size = T at *
  by_cases h1 : order < 1
  case pos =>
    have e1 : getB n at_ size order = false := by unfold getB mayB; simp; omega
    rw [e1]
    clear e1 h0 hs hb hsz
    have d1 : decide (order < 1) = true := by simp; omega
    go_enter Tryz.func176, Tryz.ntmps176
    go_wp2_with (go_at_call 137; refine (HT.out _).mono ?_; rintro e w1 ⟨rfl, rfl⟩)
    go_ret2
    exact ⟨rfl, Below.refl _ _⟩
  have d1 : decide (order < 1) = false := by simp; omega
  by_cases h2 : 2 < order
  case pos =>
    have e1 : getB n at_ size order = false := by unfold getB mayB; simp; omega
    rw [e1]
    clear e1 h0 hs hb hsz
    have d2 : decide (2 < order) = true := by simp; omega
    go_enter Tryz.func176, Tryz.ntmps176
    go_wp2_with (go_at_call 137; refine (HT.out _).mono ?_; rintro e w1 ⟨rfl, rfl⟩)
    go_ret2
    exact ⟨rfl, Below.refl _ _⟩
  have d2 : decide (2 < order) = false := by simp; omega
  have hord : order = 1 ∨ order = 2 := by omega
  have hm : mayB size order = true := by unfold mayB; rw [h0]; simp; omega
  by_cases h3 : at_ < 0
  case pos =>
    have e1 : getB n at_ size order = false := by unfold getB; simp; omega
    rw [e1]
    clear e1 h0 hs hb hsz hm
    have d3 : decide (at_ < 0) = true := by simp; omega
    go_enter Tryz.func176, Tryz.ntmps176
    go_wp2_with (go_at_call 137; refine (HT.out _).mono ?_; rintro e w1 ⟨rfl, rfl⟩)
    go_ret2
    exact ⟨rfl, Below.refl _ _⟩
  have d3 : decide (at_ < 0) = false := by simp; omega
  by_cases h4 : n < at_
  case pos =>
    have e1 : getB n at_ size order = false := by unfold getB; simp; omega
    rw [e1]
    clear e1 h0 hs hb hsz hm
    have d4 : decide (n < at_) = true := by simp; omega
    go_enter Tryz.func176, Tryz.ntmps176
    go_wp2_with (go_at_call 137; refine (HT.out _).mono ?_; rintro e w1 ⟨rfl, rfl⟩)
    go_ret2
    exact ⟨rfl, Below.refl _ _⟩
  have d4 : decide (n < at_) = false := by simp; omega
  have hw0 : IntKind.i64.wrap ((n : Int) - at_) = n - at_ := by rw [IntKind.wrap_i64]; omega
  by_cases h5 : (n : Int) - at_ < size
  case pos =>
    have e1 : getB n at_ size order = false := by unfold getB; simp; omega
    rw [e1]
    clear e1 h0 hs hb hsz hm
    have d5 : decide ((n : Int) - at_ < size) = true := by simp; omega
    go_enter Tryz.func176, Tryz.ntmps176
    go_wp2_with (go_at_call 137; refine (HT.out _).mono ?_; rintro e w1 ⟨rfl, rfl⟩)
    go_ret2
    exact ⟨rfl, Below.refl _ _⟩
  have d5 : decide ((n : Int) - at_ < size) = false := by simp; omega
  have e1 : getB n at_ size order = true := by unfold getB; rw [hm]; simp; omega
  rw [e1, if_pos rfl]
  clear e1 hm h0
  obtain ⟨A, rfl⟩ : ∃ A : Nat, at_ = A := ⟨at_.toNat, by omega⟩
  obtain ⟨s, rfl⟩ : ∃ s : Nat, size = s := ⟨size.toNat, by omega⟩
  have hs4 : s ≤ 4 := by omega
  rw [Int.toNat_natCast, Int.toNat_natCast]
  have hAs : A + s ≤ n := by omega
  have hlen := getL_len (order := order) (show A + s ≤ z.length by rw [hzl]; omega)
  have hbyt := getL_byt hb A s order
  have hget := fun i hi => getL_get (z := z) (at_ := A) (size := s) (i := i) (order := order) (by rw [hzl]; omega) hi
  obtain ⟨L, hL⟩ : ∃ L, getL z A s order = L := ⟨_, rfl⟩
  rw [hL] at hlen hbyt hget ⊢
  clear hL h1 h2 h3 h4 h5 hsz
  have hlen' := Lib.hid hlen
  have hbyt' := Lib.hid hbyt
  have hget' := Lib.hid hget
  have hs' := Lib.hid hs
  have hb' := Lib.hid hb
  have hzl' := Lib.hid hzl
  clear hlen hbyt hget hs hb hzl
  go_enter Tryz.func176, Tryz.ntmps176
  go_wp2_with (go_at_call 137; refine (HT.out _).mono ?_; rintro e w1 ⟨rfl, rfl⟩)
  go_loop [10, 11, 12] (fun nv bv iv => ∃ (k : Nat) (N B : Int), k ≤ s ∧ iv = .int .i64 k ∧ nv = .int .i64 N ∧ bv = .int .i64 B ∧ Hid (B = 256 ^ k ∧ 0 ≤ N ∧ N < B ∧ be L = be (L.take (s - k)) * B + N)) (fun _ _ i => s - (intOf i).toNat)
  case atStart => exact ⟨0, 0, 1, by omega, rfl, rfl, rfl, Lib.hid ⟨rfl, by omega, by omega, by rw [Nat.sub_zero, List.take_of_length_le (Nat.le_of_eq hlen'.out)]; omega⟩⟩
  case round =>
    obtain ⟨k, N, B, hk, rfl, rfl, rfl, hinv⟩ := hrel
    by_cases hlt : k < s
    · obtain ⟨hB, hN0, hN1, hbe⟩ := hinv.out
      have hB4 : B = 1 ∨ B = 256 ∨ B = 65536 ∨ B = 16777216 := by
        have : k = 0 ∨ k = 1 ∨ k = 2 ∨ k = 3 := by omega
        rcases this with rfl | rfl | rfl | rfl <;> simp at hB <;> omega
      obtain ⟨q, hq⟩ : ∃ q, s - 1 - k = q := ⟨_, rfl⟩
      have hgk := hget'.out q (by omega)
      have hbt := hbyt'.out.get q
      have hnx := be_take (l := L) (j := q) (by rw [hlen'.out]; omega)
      rw [show q + 1 = s - k by omega] at hnx
      obtain ⟨j, hj⟩ : ∃ j, (if order = 1 then A + s - 1 - q else A + q) = j := ⟨_, rfl⟩
      have hjn : j < n := by rw [← hj]; split <;> omega
      obtain ⟨b, o, rfl, hbb2, hc⟩ := hs'.out.at (i := j) hjn
      have f1 := hc j _ (ints_get (by rw [hzl'.out]; exact hjn))
      rw [hj] at hgk
      rw [← hgk] at f1
      generalize L.getD q 0 = x at *
      have hxB : 0 ≤ B * x ∧ B * x ≤ B * 255 := ⟨Int.mul_nonneg (by omega) hbt.1, Int.mul_le_mul_of_nonneg_left (by omega) (by omega)⟩
      have hnew : be L = be (L.take (s - (k + 1))) * (256 * B) + (N + B * x) := by
        rw [hbe, hnx, show s - (k + 1) = q by omega, Int.add_mul, Int.mul_assoc, Int.mul_comm x B]
        omega
      have hB2 : 256 * B = 256 ^ (k + 1) := by rw [hB, Int.pow_succ]; omega
      have hN2 : N + B * x < 256 * B := by omega
      have hw1 : IntKind.i64.wrap (B * x) = B * x := by rw [IntKind.wrap_i64]; omega
      have hw2 : IntKind.i64.wrap (N + B * x) = N + B * x := by rw [IntKind.wrap_i64]; omega
      have hw3 : IntKind.i64.wrap (256 * B) = 256 * B := by rw [IntKind.wrap_i64]; omega
      have hw4 : IntKind.i64.wrap x = x := by rw [IntKind.wrap_i64]; omega
      have hM2 : 0 ≤ N + B * x := by omega
      clear hinv hB4 hc hgk hnx hbe hB
      have hnew' := Lib.hid hnew
      have hB2' := Lib.hid hB2
      have hN2' := Lib.hid hN2
      have hM2' := Lib.hid hM2
      have hxB' := Lib.hid hxB
      clear hnew hB2 hN2 hM2 hxB
      by_cases ho : order = 1
      · have d6 : (order == 2) = false := by simp [ho]
        rw [if_pos ho] at hj
        have hw5 : IntKind.i64.wrap ((A : Int) + k) = j := by rw [IntKind.wrap_i64]; omega
        have hjn' : (j : Int) < n := by omega
        have ho' := Lib.hid ho
        have hj' := Lib.hid hj
        have hq' := Lib.hid hq
        clear ho hj hq
        clear hord
        go_wp2
        go_round
        case rel => exact ⟨k + 1, _, _, by omega, by go_num, rfl, rfl, Lib.hid ⟨hB2'.out, hM2'.out, hN2'.out, hnew'.out⟩⟩
        case measure => simp [intOf]; omega
      · have d6 : (order == 2) = true := by simp; omega
        rw [if_neg ho] at hj
        have hw5 : IntKind.i64.wrap ((A : Int) + s) = A + s := by rw [IntKind.wrap_i64]; omega
        have hw6 : IntKind.i64.wrap ((A : Int) + s - 1) = A + s - 1 := by rw [IntKind.wrap_i64]; omega
        have hw7 : IntKind.i64.wrap ((A : Int) + s - 1 - k) = j := by rw [IntKind.wrap_i64]; omega
        have hw8 : IntKind.i64.wrap ((A : Int) + k) = A + k := by rw [IntKind.wrap_i64]; omega
        have hjn' : (j : Int) < n := by omega
        have ho' := Lib.hid ho
        have hj' := Lib.hid hj
        have hq' := Lib.hid hq
        clear ho hj hq
        clear hord
        go_wp2
        go_round
        case rel => exact ⟨k + 1, _, _, by omega, by go_num, rfl, rfl, Lib.hid ⟨hB2'.out, hM2'.out, hN2'.out, hnew'.out⟩⟩
        case measure => simp [intOf]; omega
    · obtain rfl : k = s := by omega
      have hbe := hinv.out.2.2.2
      rw [Nat.sub_self, List.take_zero, show be [] = 0 from rfl, Int.zero_mul, Int.zero_add] at hbe
      have hbe2 : be L = N := hbe
      have hbe2' := Lib.hid hbe2
      have hbe' := Lib.hid hbe
      have hinv' := Lib.hid hinv
      clear hbe2 hbe hinv
      go_wp2
      go_ret2
      exact ⟨by rw [hbe2'.out]; rfl, Below.refl _ _⟩
end Go.Proofs.YtilennmeiaehnaaGreat

namespace Tt
open Go Go.RowKit
set_option linter.unusedVariables false

/-- the cells of a row, each element's by f -/
def fl {α : Type} (f : α → List Value) (l : List α) : List Value := l.flatMap f
section
variable {α : Type} {f : α → List Value} {k : Nat}
theorem fl_cons (x : α) (r : List α) : fl f (x :: r) = f x ++ fl f r := rfl
theorem fl_append (x y : List α) : fl f (x ++ y) = fl f x ++ fl f y := by simp [fl]
theorem fl_snoc (x : List α) (y : α) : fl f (x ++ [y]) = fl f x ++ f y := by rw [fl_append]; simp [fl]
theorem fl_len (hf : ∀ x, (f x).length = k) : ∀ (l : List α), (fl f l).length = l.length * k
  | [] => by simp [fl]
  | x :: r => by rw [fl_cons, List.length_append, fl_len hf r, hf x, List.length_cons, Nat.succ_mul, Nat.add_comm]
theorem fl_get (hf : ∀ x, (f x).length = k) (d : α) : ∀ {l : List α} {i j : Nat}, i < l.length → j < k → (fl f l)[i * k + j]? = (f (l.getD i d))[j]?
  | x :: r, 0, j, _, hj => by rw [fl_cons, List.getElem?_append_left (by rw [hf x]; omega), Nat.zero_mul, Nat.zero_add]; rfl
  | x :: r, i + 1, j, hi, hj => by
    have e : (i + 1) * k + j - k = i * k + j := by rw [Nat.succ_mul]; omega
    rw [fl_cons, List.getElem?_append_right (by rw [hf x, Nat.succ_mul]; omega), hf x, e, fl_get hf d (by simpa using hi) hj]
    rfl
theorem fl_one (h1 : ∀ x, ∀ u ∈ f x, u.oneCell' = true) {l : List α} : ∀ u ∈ fl f l, u.oneCell' = true := by
  intro u hu
  obtain ⟨x, _, hx⟩ := List.mem_flatMap.1 hu
  exact h1 x u hx
theorem Sl.flen {w : World} {a : Option Addr} {n c : Nat} {l : List α} (hf : ∀ x, (f x).length = k) (hk : 0 < k) (h : Sl w a n c k (fl f l)) : l.length = n := by
  have := h.len
  rw [fl_len hf] at this
  exact Nat.eq_of_mul_eq_mul_right hk this
/-- an element of a row that is read: its cells -/
theorem Sl.elem {w : World} {a : Option Addr} {n c : Nat} {l : List α} (hf : ∀ x, (f x).length = k) (hk : 0 < k) (d : α) (h : Sl w a n c k (fl f l)) {i : Nat} (hi : i < n) :
    ∃ b o, a = some ⟨b, o, none⟩ ∧ b < w.heap.size ∧ ∀ j v, (f (l.getD i d))[j]? = some v → w.cell? ⟨b, o + i * k + j, none⟩ = some v := by
  have hl := h.flen hf hk
  obtain ⟨b, o, rfl, hb, hc⟩ := h.at hi
  refine ⟨b, o, rfl, hb, fun j v hj => ?_⟩
  have hjk : j < k := by
    have := (List.getElem?_eq_some_iff.1 hj).1
    rwa [hf] at this
  have := hc (i * k + j) v ((fl_get hf d (by omega) hjk).trans hj)
  rwa [← Nat.add_assoc] at this
end
end Tt

namespace Go.Proofs.YtilennmeiaehnaaGreat
open Go.RowKit Tt
set_option linter.unusedVariables false
set_option linter.unusedSimpArgs false

abbrev Lk := Int × Int
def lkc (x : Lk) : List Value := [.int .i64 x.1, .int .i64 x.2]
theorem lkc_len (x : Lk) : (lkc x).length = 2 := rfl
end Go.Proofs.YtilennmeiaehnaaGreat

/- Chapter 18: kinds of values, and which may be; what a row of numbers holds. -/
namespace Go.Proofs.YtilennmeiaehnaaGreat
open Go.RowKit Tt
set_option linter.unusedVariables false

def kindL : List (Int × Int × Int) := [(0, 0, 0), (1, 1, 1), (1, 1, 1), (2, 2, 1), (4, 4, 1), (8, 4, 3), (1, 1, 2), (1, 1, 1), (2, 2, 2), (4, 4, 2), (8, 4, 4), (4, 4, 5), (8, 8, 5)]
def kindS (n : Int) : Int × Int × Int := if n < 0 ∨ 12 < n then (0, 0, 0) else kindL.getD n.toNat (0, 0, 0)
theorem kindS_out {n : Int} (h : n < 0 ∨ 12 < n) : kindS n = (0, 0, 0) := if_pos h
theorem kindS_size (n : Int) : 0 ≤ (kindS n).1 ∧ (kindS n).1 ≤ 8 := by
  unfold kindS
  split
  · exact ⟨by decide, by decide⟩
  · have : ∀ x ∈ kindL, 0 ≤ x.1 ∧ x.1 ≤ 8 := by decide
    rw [List.getD_eq_getElem?_getD]
    cases h : kindL[n.toNat]? with
    | none => exact ⟨by decide, by decide⟩
    | some x => exact this x (List.mem_of_getElem? h)


set_option maxRecDepth 100000 in
set_option maxHeartbeats 1000000 in
theorem indexbyte_any (a : Option Addr) (n c : Nat) (x : List Int) (cv : Int) (w : World) (hs : Sl w a n c 1 (ints .u8 x)) :
    Calls Tryz.prog 146 #[.slice a n c, .int .u8 cv] w fun e w' => e = .returned (.int .i64 (Lib.indexByte (Lib.bytesOf x) cv.toNat.toUInt8)) ∧ w = w' := by
  have hl := hs.ilen
  cases a with
  | none =>
    have h1 := hs.fit rfl
    have h2 := hs.le
    subst h1
    obtain rfl : n = 0 := by omega
    obtain rfl : x = [] := List.eq_nil_of_length_eq_zero hl
    go_enter Tryz.func146, Tryz.ntmps146
    go_wp2
    rw [run_callFunc_extern Tryz.func180 (by kernel_rfl) (by kernel_rfl) (by kernel_rfl) (e := Extern.BytealgIndexByte.indexByte) (by kernel_rfl), Lib.run_indexByteNil w 0 0 cv]
    simp only [Result.andThen]
    rw [Oper.upon_value]
    go_wp2
    go_ret
    exact ⟨rfl, rfl⟩
  | some y =>
    have hc : ∀ i, i < n → w.cell? (y.add i) = some (.int .u8 (x.getD i 0)) := fun i hi => by
      obtain ⟨b, off, e, _, hc⟩ := hs.at hi
      injection e with e
      subst e
      rw [Addr.add_lit]
      exact hc i _ (ints_get (by omega))
    go_enter Tryz.func146, Tryz.ntmps146
    go_wp2
    rw [run_callFunc_extern Tryz.func180 (by kernel_rfl) (by kernel_rfl) (by kernel_rfl) (e := Extern.BytealgIndexByte.indexByte) (by kernel_rfl), Lib.run_indexByteAt w y n c x hl hc cv]
    simp only [Result.andThen]
    rw [Oper.upon_value]
    go_wp2
    go_ret
    exact ⟨rfl, rfl⟩
end Go.Proofs.YtilennmeiaehnaaGreat
