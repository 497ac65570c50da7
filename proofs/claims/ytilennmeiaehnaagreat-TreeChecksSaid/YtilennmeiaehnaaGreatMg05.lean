/- Chapter 1: Turn of both sides, Get of the document. -/
import Derived.Test.YtilennmeiaehnaaGreatMg04
namespace Go.Proofs.YtilennmeiaehnaaGreat
open Go.RowKit Tt
set_option linter.unusedVariables false
set_option linter.unusedSimpArgs false

def turnB (s o : Int) : Bool := mayB s o || (s == 8 && mayB 1 o)
def turnIx (n p i : Nat) : Nat := if i < n - n % p then i - i % p + p - 1 - i % p else i
def turned (p : Nat) (b : List Int) : List Int := (List.range b.length).map fun i => b.getD (turnIx b.length p i) 0
def turnS (b : List Int) (s o : Int) : List Int := if turnB s o = true then (if o = 1 then turned s.toNat b else b) else []
theorem turned_len (p : Nat) (b : List Int) : (turned p b).length = b.length := by simp [turned]
theorem turned_get {p i : Nat} {b : List Int} (h : i < b.length) : (turned p b).getD i 0 = b.getD (turnIx b.length p i) 0 := by
  rw [getD_el (by rw [turned_len]; exact h)]
  simp [turned]
theorem turnIx_lt {n p i : Nat} (hp : 0 < p) (h : i < n) : turnIx n p i < n := by
  unfold turnIx
  split
  · rename_i h1
    have := Nat.mod_lt i hp
    have h2 := Nat.div_add_mod i p
    have h3 := Nat.div_add_mod n p
    have h4 : i / p < n / p := by
      rw [Nat.div_lt_iff_lt_mul hp, Nat.mul_comm]
      omega
    have h5 : p * (i / p + 1) ≤ p * (n / p) := Nat.mul_le_mul_left p h4
    rw [Nat.mul_succ] at h5
    omega
  · exact h
theorem turnB_size {s o : Int} (h : turnB s o = true) : (s = 1 ∨ s = 2 ∨ s = 4 ∨ s = 8) ∧ (o = 1 ∨ o = 2) := by
  unfold turnB mayB at h
  simp at h
  omega
theorem byt_turned {p : Nat} {b : List Int} (hb : Byt b) : Byt (turned p b) := by
  intro x hx
  unfold turned at hx
  obtain ⟨i, _, rfl⟩ := List.mem_map.1 hx
  exact hb.get _
theorem byt_turn {b : List Int} (hb : Byt b) (s o : Int) : Byt (turnS b s o) := by
  unfold turnS
  split
  · split
    · exact byt_turned hb
    · exact hb
  · intro x hx; cases hx
/-- the bytes, of which those ahead of q are turned -/
def turnTo (p q : Nat) (b cs : List Int) : Prop := cs.length = b.length ∧ ∀ k, k < b.length → cs.getD k 0 = if k < q then b.getD (turnIx b.length p k) 0 else b.getD k 0
theorem turnTo_step {p q : Nat} {b cs cs' : List Int} (hp : p = 1 ∨ p = 2 ∨ p = 4 ∨ p = 8) (hq : q % p = 0) (hqn : q + p ≤ b.length) (h : turnTo p q b cs) (hl : cs'.length = cs.length)
    (hg : ∀ k, k < cs.length → cs'.getD k 0 = if q ≤ k ∧ k < q + p then cs.getD (2 * q + p - 1 - k) 0 else cs.getD k 0) : turnTo p (q + p) b cs' := by
  obtain ⟨h1, h2⟩ := h
  refine ⟨hl.trans h1, fun k hk => ?_⟩
  rw [hg k (by omega)]
  by_cases hi : q ≤ k ∧ k < q + p
  · rw [if_pos hi, if_pos hi.2, h2 _ (by omega), if_neg (by omega)]
    congr 1
    unfold turnIx
    rcases hp with rfl | rfl | rfl | rfl
    all_goals
      rw [if_pos (by omega)]
      omega
  · rw [if_neg hi, h2 k hk]
    by_cases hk2 : k < q
    · rw [if_pos hk2, if_pos (by omega)]
    · rw [if_neg hk2, if_neg (by omega)]
theorem turnTo_end {p q : Nat} {b cs : List Int} (hp : p = 1 ∨ p = 2 ∨ p = 4 ∨ p = 8) (hq : q % p = 0) (hqn : b.length < q + p) (hqb : q ≤ b.length) (h : turnTo p q b cs) : cs = turned p b := by
  refine getD_ext (by rw [h.1, turned_len]) (fun k hk => ?_)
  rw [h.1] at hk
  rw [h.2 k hk, turned_get hk]
  by_cases hk2 : k < q
  · rw [if_pos hk2]
  · rw [if_neg hk2]
    unfold turnIx
    rcases hp with rfl | rfl | rfl | rfl
    all_goals rw [if_neg (by omega)]

theorem splice_all {b z : List Int} {n : Nat} (hb : b.length = n) (hz : z.length = n) : splice z 0 (b.take n) = b := by
  unfold splice
  simp [hb, hz, List.take_of_length_le (Nat.le_of_eq hb)]
theorem sub_at {P : Program} {T E : TypeId} (ht : P.underlying T = some (.slice E)) (hE : ∀ w, (Go.sizeOf E).run P w = .ok 1 w) (g n q p : Nat) (hp : 1 ≤ p) (h : q + p ≤ n) (W : World) :
    (Instr.sliceAt T (.slice (some ⟨g, 0, none⟩) n n) (some (.int .i64 (q : Int))) (some (.int .i64 ((q : Int) + p))) none).run P W = .ok (.slice (some ⟨g, q, none⟩) p (n - q)) W := by
  have he : P.elem T = E := by unfold Program.elem; rw [ht]
  rw [run_sliceAt_slice (h := by rw [he]; exact ht), run_slice_lh (ht := by rw [he]; exact ht) (h0 := by omega) (h1 := by omega) (h2 := by omega), he, hE]
  simp only [Result.andThen, sliced]
  have e1 : ((q : Int) + p - q).toNat = p := by omega
  have e2 : ¬ n = q := by omega
  simp [e1, e2, Addr.add]
  omega
set_option maxRecDepth 20000 in
set_option maxHeartbeats 4000000 in
theorem turn_any (a : Option Addr) (n c : Nat) (b : List Int) (s o : Int) (w : World) (hs : Sl w a n c 1 (ints .u8 b)) (hn : n ≤ 1000000000) :
    Calls Tryz.prog 118 #[.slice a n c, .int .i64 s, .int .i64 o] w fun e w' => ∃ a2 m c2, e = .returned (.slice a2 m c2) ∧ w'.ownsRow w.heap.size 5 1 (.slice a2 m c2) m (ints .u8 (turnS b s o)) ∧ Below w.heap.size w w' := by
  obtain ⟨i0, hi, hz0, hz1, hz2⟩ := info_parts info8
  have hbl := hs.ilen
  have hle := hs.le
  have hmx := hs.max
  have hm1 := fun W => omay_any s o W
  have hm2 := fun W => omay_any 1 o W
  obtain ⟨t, ht⟩ : ∃ t, turnB s o = t := ⟨_, rfl⟩
  have hts : turnS b s o = if t = true then (if o = 1 then turned s.toNat b else b) else [] := by unfold turnS; rw [ht]
  obtain ⟨R, hR⟩ : ∃ R, turnS b s o = R := ⟨_, rfl⟩
  rw [hR]
  rw [hR] at hts
  replace hts := hts.symm
  have ht' := ht
  unfold turnB at ht'
  obtain ⟨r1, hr1⟩ : ∃ r, mayB s o = r := ⟨_, rfl⟩
  obtain ⟨r2, hr2⟩ : ∃ r, mayB 1 o = r := ⟨_, rfl⟩
  rw [hr1] at hm1 ht'
  rw [hr2] at hm2 ht'
  have hm1' := Lib.hid hm1
  have hm2' := Lib.hid hm2
  have hs' := Lib.hid hs
  have hbl' := Lib.hid hbl
  have hts' := Lib.hid hts
  clear hm1 hm2 hs hbl hts
  clear hr1 hr2 hR
  go_enter Tryz.func118, Tryz.ntmps118
  cases t
  · clear ht
    cases r1
    · by_cases h8 : s = 8
      · subst h8
        obtain rfl : r2 = false := by simpa using ht'
        clear ht'
        go_wp2_with fail
        refine (hm1'.out _).mono ?_
        rintro e w1 ⟨rfl, hb1⟩
        have HB1 := Lib.hid hb1
        clear hb1
        go_wp2_with fail
        refine (hm2'.out _).mono ?_
        rintro e w2 ⟨rfl, hb2⟩
        have HB2 := Lib.hid (HB1.out.trans (hb2.mono HB1.out.size))
        clear hb2
        go_wp2_with fail
        go_ret
        exact ⟨none, 0, 0, rfl, by rw [← hts'.out]; exact own_nil _ _ _ _, HB2.out⟩
      · have d8 : (s != 8) = true := by simp [h8]
        clear ht'
        go_wp2_with fail
        refine (hm1'.out _).mono ?_
        rintro e w1 ⟨rfl, hb1⟩
        have HB1 := Lib.hid hb1
        clear hb1
        go_wp2_with fail
        go_ret
        exact ⟨none, 0, 0, rfl, by rw [← hts'.out]; exact own_nil _ _ _ _, HB1.out⟩
    · simp at ht'
  · obtain ⟨hsz, hord⟩ := turnB_size ht
    obtain ⟨p, rfl⟩ : ∃ p : Nat, s = p := ⟨s.toNat, by omega⟩
    have hp : p = 1 ∨ p = 2 ∨ p = 4 ∨ p = 8 := by omega
    have hp1 : 1 ≤ p := by omega
    have hp8 : p ≤ 8 := by omega
    clear ht hsz
    cases r1
    · have h8 : p = 8 := by simp at ht'; omega
      subst h8
      obtain rfl : r2 = true := by simpa using ht'
      clear ht' hp
      go_wp2_with fail
      refine (hm1'.out _).mono ?_
      rintro e w1 ⟨rfl, hb1⟩
      have HB1 := Lib.hid hb1
      clear hb1
      go_wp2_with fail
      refine (hm2'.out _).mono ?_
      rintro e w2 ⟨rfl, hb2⟩
      have HB2 := Lib.hid (HB1.out.trans (hb2.mono HB1.out.size))
      clear hb2 HB1
      go_wp2_with (first | (at_make; refine wpList_make_full w2 rfl _ _ 30 rfl w2.heap.size 5 i0 _ 1 Tryz.underlying30 hi hz0 hz1 .i64 .i64 _ _ n rfl rfl rfl rfl (by rw [hz2]; omega) (by unfold maxLen; omega) (Nat.le_refl _) ?_; intro w3 hown hg2; have R3 := Row.of_own (by rw [made_row] at hown; exact hown); have H3 := (HB2).out.trans (((Below.refl _ _).grown hg2 (Nat.le_refl _) (fun k e => by cases e)).mono (HB2).out.size); clear hown hg2) | (refine wpList_copy_row rfl (.tmp 25) (.tmp 26) 30 30 rfl 5 Tryz.underlying30 (by rw [hi]; simp [hz1]) w2.heap.size n .u8 _ rfl R3 (by simp) a n c b rfl (hs'.out.mono H3) w.heap.size w H3 (HB2).out.size ?_; intro w4 hr4 hb4; rw [splice_all hbl'.out (by simp)] at hr4; clear R3 H3))
      obtain ⟨g, hg⟩ : ∃ g, w2.heap.size = g := ⟨_, rfl⟩
      have hgw : w.heap.size ≤ g := by rw [← hg]; exact (HB2).out.size
      rw [hg] at hr4
      rw [hg]
      clear HB2 hg
      have hr4' := Lib.hid hr4
      have hb4' := Lib.hid hb4
      clear hr4 hb4
      by_cases ho : o = 1
      · have d1 : (o == 1) = true := by simp [ho]
        have ho' := Lib.hid ho
        clear ho
        clear hord
        go_loopw [8] (fun i wr => ∃ (q : Nat) (cs : List Int), q ≤ n ∧ i = .int .i64 q ∧ Hid (q % 8 = 0) ∧ Hid (Row wr g 5 .u8 cs) ∧ Hid (turnTo 8 q b cs) ∧ Hid (Below w.heap.size w wr)) (fun i _ => n - (intOf i).toNat)
        case atStart => exact ⟨0, b, by omega, rfl, Lib.hid (by simp), hr4', Lib.hid ⟨rfl, fun k hk => by simp⟩, hb4'⟩
        case round =>
          obtain ⟨q, cs, hq, rfl, hqm, hr, htu, hb⟩ := hrel
          have hw1 : IntKind.i64.wrap ((q : Int) + 8) = q + 8 := by rw [IntKind.wrap_i64]; omega
          have hcl := htu.out.1
          rw [hbl'.out] at hcl
          by_cases hlt : q + 8 ≤ n
          · have d2 : decide ((q : Int) + 8 ≤ n) = true := by simp; omega
            have hRV := fun cc => reverse_row g q 8 cc cs 5 wr hr.out (by omega) (by omega)
            have hsl := sub_at (P := Tryz.prog) (T := 30) (E := 5) Tryz.underlying30 (fun W => by kernel_rfl) g n q 8 (by omega) hlt
            have hRV' := Lib.hid hRV
            clear hRV
            go_wp2_with (go_at_call 127; refine (hRV'.out _).mono ?_; rintro e w5 ⟨rfl, p', hr5, hl5, hg5, hb5⟩; have HR5 := Lib.hid hr5; have HL5 := Lib.hid hl5; have HG5 := Lib.hid hg5; have HB5 := Lib.hid hb5; clear hr5 hl5 hg5 hb5)
            go_roundw
            case rel => exact ⟨q + 8, p', by omega, by go_num, Lib.hid (by have := hqm.out; first | omega | (rw [Nat.add_mod_right]; exact this)), HR5, Lib.hid (turnTo_step (by omega) hqm.out (by rw [hbl'.out]; omega) htu.out HL5.out HG5.out), Lib.hid (hb.out.trans (HB5.out.below hgw hb.out.size))⟩
            case measure => simp [intOf]; omega
          · have d2 : decide ((q : Int) + 8 ≤ n) = false := by simp; omega
            go_wp2
            go_ret
            refine ⟨some ⟨g, 0, none⟩, n, n, rfl, ?_, hb.out⟩
            have := turnTo_end (p := 8) (by omega) hqm.out (by rw [hbl'.out]; omega) (by rw [hbl'.out]; exact hq) htu.out
            have hr2 := hr.out
            rw [this] at hr2
            have hR := hts'.out
            rw [if_pos trivial, if_pos ho'.out] at hR
            rw [Int.toNat_natCast] at hR
            rw [← hR]
            exact hr2.own (by rw [turned_len]; exact hbl'.out) hgw (by unfold maxLen; omega)
      · have d1 : (o == 1) = false := by simp [ho]
        have ho' := Lib.hid ho
        clear ho
        clear hord
        go_loopw [8] (fun i wr => i = .int .i64 0 ∧ wr = w4) (fun i _ => 0)
        case atStart => exact ⟨rfl, rfl⟩
        case round =>
          obtain ⟨rfl, rfl⟩ := hrel
          go_wp2
          go_ret
          refine ⟨some ⟨g, 0, none⟩, n, n, rfl, ?_, hb4'.out⟩
          rw [← hts'.out, if_pos trivial, if_neg ho'.out]
          exact hr4'.out.own hbl'.out hgw (by unfold maxLen; omega)
    · clear ht'
      go_wp2_with fail
      refine (hm1'.out _).mono ?_
      rintro e w2 ⟨rfl, hb2⟩
      have HB2 := Lib.hid hb2
      clear hb2
      go_wp2_with (first | (at_make; refine wpList_make_full w2 rfl _ _ 30 rfl w2.heap.size 5 i0 _ 1 Tryz.underlying30 hi hz0 hz1 .i64 .i64 _ _ n rfl rfl rfl rfl (by rw [hz2]; omega) (by unfold maxLen; omega) (Nat.le_refl _) ?_; intro w3 hown hg2; have R3 := Row.of_own (by rw [made_row] at hown; exact hown); have H3 := (HB2).out.trans (((Below.refl _ _).grown hg2 (Nat.le_refl _) (fun k e => by cases e)).mono (HB2).out.size); clear hown hg2) | (refine wpList_copy_row rfl (.tmp 25) (.tmp 26) 30 30 rfl 5 Tryz.underlying30 (by rw [hi]; simp [hz1]) w2.heap.size n .u8 _ rfl R3 (by simp) a n c b rfl (hs'.out.mono H3) w.heap.size w H3 (HB2).out.size ?_; intro w4 hr4 hb4; rw [splice_all hbl'.out (by simp)] at hr4; clear R3 H3))
      obtain ⟨g, hg⟩ : ∃ g, w2.heap.size = g := ⟨_, rfl⟩
      have hgw : w.heap.size ≤ g := by rw [← hg]; exact (HB2).out.size
      rw [hg] at hr4
      rw [hg]
      clear HB2 hg
      have hr4' := Lib.hid hr4
      have hb4' := Lib.hid hb4
      clear hr4 hb4
      by_cases ho : o = 1
      · have d1 : (o == 1) = true := by simp [ho]
        have ho' := Lib.hid ho
        clear ho
        clear hord
        go_loopw [8] (fun i wr => ∃ (q : Nat) (cs : List Int), q ≤ n ∧ i = .int .i64 q ∧ Hid (q % p = 0) ∧ Hid (Row wr g 5 .u8 cs) ∧ Hid (turnTo p q b cs) ∧ Hid (Below w.heap.size w wr)) (fun i _ => n - (intOf i).toNat)
        case atStart => exact ⟨0, b, by omega, rfl, Lib.hid (by simp), hr4', Lib.hid ⟨rfl, fun k hk => by simp⟩, hb4'⟩
        case round =>
          obtain ⟨q, cs, hq, rfl, hqm, hr, htu, hb⟩ := hrel
          have hw1 : IntKind.i64.wrap ((q : Int) + p) = q + p := by rw [IntKind.wrap_i64]; omega
          have hcl := htu.out.1
          rw [hbl'.out] at hcl
          by_cases hlt : q + p ≤ n
          · have d2 : decide ((q : Int) + p ≤ n) = true := by simp; omega
            have hRV := fun cc => reverse_row g q p cc cs 5 wr hr.out (by omega) (by omega)
            have hsl := sub_at (P := Tryz.prog) (T := 30) (E := 5) Tryz.underlying30 (fun W => by kernel_rfl) g n q p (by omega) hlt
            have hRV' := Lib.hid hRV
            clear hRV
            go_wp2_with (go_at_call 127; refine (hRV'.out _).mono ?_; rintro e w5 ⟨rfl, p', hr5, hl5, hg5, hb5⟩; have HR5 := Lib.hid hr5; have HL5 := Lib.hid hl5; have HG5 := Lib.hid hg5; have HB5 := Lib.hid hb5; clear hr5 hl5 hg5 hb5)
            go_roundw
            case rel => exact ⟨q + p, p', by omega, by go_num, Lib.hid (by have := hqm.out; first | omega | (rw [Nat.add_mod_right]; exact this)), HR5, Lib.hid (turnTo_step (by omega) hqm.out (by rw [hbl'.out]; omega) htu.out HL5.out HG5.out), Lib.hid (hb.out.trans (HB5.out.below hgw hb.out.size))⟩
            case measure => simp [intOf]; omega
          · have d2 : decide ((q : Int) + p ≤ n) = false := by simp; omega
            go_wp2
            go_ret
            refine ⟨some ⟨g, 0, none⟩, n, n, rfl, ?_, hb.out⟩
            have := turnTo_end (p := p) (by omega) hqm.out (by rw [hbl'.out]; omega) (by rw [hbl'.out]; exact hq) htu.out
            have hr2 := hr.out
            rw [this] at hr2
            have hR := hts'.out
            rw [if_pos trivial, if_pos ho'.out] at hR
            rw [Int.toNat_natCast] at hR
            rw [← hR]
            exact hr2.own (by rw [turned_len]; exact hbl'.out) hgw (by unfold maxLen; omega)
      · have d1 : (o == 1) = false := by simp [ho]
        have ho' := Lib.hid ho
        clear ho
        clear hord
        go_loopw [8] (fun i wr => i = .int .i64 0 ∧ wr = w4) (fun i _ => 0)
        case atStart => exact ⟨rfl, rfl⟩
        case round =>
          obtain ⟨rfl, rfl⟩ := hrel
          go_wp2
          go_ret
          refine ⟨some ⟨g, 0, none⟩, n, n, rfl, ?_, hb4'.out⟩
          rw [← hts'.out, if_pos trivial, if_neg ho'.out]
          exact hr4'.out.own hbl'.out hgw (by unfold maxLen; omega)
theorem turnB_eq (s o : Int) : turnB s o = ((decide (topS s ≠ 0) || s == 8) && decide (1 ≤ o) && decide (o ≤ 2)) := by
  unfold turnB mayB topS
  rw [Bool.eq_iff_iff]
  simp
  split <;> (try split) <;> (try split) <;> omega
set_option maxRecDepth 20000 in
set_option maxHeartbeats 4000000 in
theorem rturn_any (a : Option Addr) (n c : Nat) (b : List Int) (s o : Int) (w : World) (hs : Sl w a n c 1 (ints .u8 b)) (hn : n ≤ 1000000000) :
    Calls Tryz.prog 177 #[.slice a n c, .int .i64 s, .int .i64 o] w fun e w' => ∃ a2 m c2, e = .returned (.slice a2 m c2) ∧ w'.ownsRow w.heap.size 5 1 (.slice a2 m c2) m (ints .u8 (turnS b s o)) ∧ Below w.heap.size w w' := by
  obtain ⟨i0, hi, hz0, hz1, hz2⟩ := info_parts info8
  have hbl := hs.ilen
  have hle := hs.le
  have hmx := hs.max
  have htb := turnB_eq s o
  have HT := Lib.hid (fun W => r1top_any s W)
  by_cases ht : turnB s o = true
  · obtain ⟨hsz, hord⟩ := turnB_size ht
    obtain ⟨p, rfl⟩ : ∃ p : Nat, s = p := ⟨s.toNat, by omega⟩
    have hp0 : ¬ (p : Int) = 0 := by omega
    have hp8 : p ≤ 8 := by omega
    have d0 : (topS (p : Int) == 0 && (p : Int) != 8) = false := by
      rw [ht] at htb
      simp at htb ⊢
      intro h; exact (htb.1.1.resolve_left (fun h2 => h2 h)) 
    have hR : turnS b p o = if o = 1 then turned p b else b := by unfold turnS; rw [if_pos ht]; rfl
    obtain ⟨R, hRR⟩ : ∃ R, turnS b p o = R := ⟨_, rfl⟩
    have hRl : R.length = n := by rw [← hRR, hR, ← hbl]; split <;> simp [turned_len]
    rw [hRR] at hR ⊢
    have hRg : ∀ k, k < n → R.getD k 0 = b.getD (if o = 1 then turnIx n p k else k) 0 := fun k hk => by
      rw [hR]
      by_cases ho : o = 1
      · rw [if_pos ho, if_pos ho, turned_get (by rw [hbl]; exact hk), hbl]
      · rw [if_neg ho, if_neg ho]
    have d1 : decide (o < 1) = false := by simp; omega
    have d2 : decide (2 < o) = false := by simp; omega
    generalize topS (p : Int) = T at *
    clear hR hRR htb ht
    have hRl' := Lib.hid hRl
    have hRg' := Lib.hid hRg
    have hs' := Lib.hid hs
    have hbl' := Lib.hid hbl
    clear hRl hRg hs hbl
    obtain ⟨rn, hrn⟩ : ∃ rn, n % p = rn := ⟨_, rfl⟩
    have hrnp : rn ≤ n := by rw [← hrn]; exact Nat.mod_le _ _
    have ht1 : Int.tmod (n : Int) (p : Int) = rn := by rw [Int.tmod_eq_emod_of_nonneg (by omega), ← hrn]; rfl
    have hp1 : 1 ≤ p := by omega
    clear hsz
    have hrn' := Lib.hid hrn
    clear hrn
    have main : ∀ w1 : World, True := fun _ => trivial
    obtain ⟨z0, hT⟩ : ∃ z0, (T == 0) = z0 := ⟨_, rfl⟩
    rw [hT] at d0
    cases z0
    all_goals
      go_enter Tryz.func177, Tryz.ntmps177
      go_wp2_with (go_at_call 137; refine (HT.out _).mono ?_; rintro e w1 ⟨rfl, rfl⟩)
      go_loopw [7, 8] (fun v i wr => ∃ (k : Nat) (a4 : Option Addr) (c4 : Nat), k ≤ n ∧ v = .slice a4 k c4 ∧ i = .int .i64 k ∧ Hid (wr.ownsRow w.heap.size 5 1 (.slice a4 k c4) k (ints .u8 (R.take k))) ∧ Hid (Below w.heap.size w wr)) (fun _ i _ => n - (intOf i).toNat)
      case atStart => exact ⟨0, none, 0, by omega, rfl, rfl, Lib.hid (own_nil _ _ _ _), Lib.hid (Below.refl _ _)⟩
      case round =>
        obtain ⟨k, a4, c4, hk, rfl, rfl, Ho, Hb⟩ := hrel
        by_cases hlt : k < n
        · have hnx : R.take k ++ [R.getD k 0] = R.take (k + 1) := (take_snoc' (by rw [hRl'.out]; exact hlt)).symm
          have hrg := hRg'.out k hlt
          have hixl : (if o = 1 then turnIx n p k else k) < n := by
            split
            · exact turnIx_lt (by omega) hlt
            · exact hlt
          obtain ⟨ix, hix⟩ : ∃ ix, (if o = 1 then turnIx n p k else k) = ix := ⟨_, rfl⟩
          rw [hix] at hrg hixl
          obtain ⟨bl, off, rfl, hbl2, hc⟩ := (hs'.out.mono Hb.out).at (i := ix) hixl
          have f1 := hc ix _ (ints_get (by rw [hbl'.out]; exact hixl))
          rw [← hrg] at f1
          generalize R.getD k 0 = x at *
          have hixl2 : (ix : Int) < n := by omega
          clear hc hrg
          have hnx' := Lib.hid hnx
          clear hnx
          by_cases ho : o = 1
          · have d5 : (o == 1) = true := by simp [ho]
            rw [if_pos ho] at hix
            unfold turnIx at hix
            rw [hrn'.out] at hix
            have hw9 : IntKind.i64.wrap ((n : Int) - rn) = n - rn := by rw [IntKind.wrap_i64]; omega
            by_cases hlk : k < n - rn
            · have d6 : decide ((k : Int) < n - rn) = true := by simp; omega
              obtain ⟨r, hr⟩ : ∃ r, k % p = r := ⟨_, rfl⟩
              have ht2 : Int.tmod (k : Int) (p : Int) = r := by rw [Int.tmod_eq_emod_of_nonneg (by omega), ← hr]; rfl
              have hrp : r < p := by rw [← hr]; exact Nat.mod_lt _ (by omega)
              have hrk : r ≤ k := by rw [← hr]; exact Nat.mod_le _ _
              rw [if_pos hlk, hr] at hix
              have hw1 : IntKind.i64.wrap ((k : Int) - r) = k - r := by rw [IntKind.wrap_i64]; omega
              have hw2 : IntKind.i64.wrap ((k : Int) - r + p) = k - r + p := by rw [IntKind.wrap_i64]; omega
              have hw3 : IntKind.i64.wrap ((k : Int) - r + p - 1) = k - r + p - 1 := by rw [IntKind.wrap_i64]; omega
              have hw4 : IntKind.i64.wrap ((k : Int) - r + p - 1 - r) = ix := by rw [IntKind.wrap_i64]; omega
              have hw5 : IntKind.i64.wrap (rn : Int) = rn := by rw [IntKind.wrap_i64]; omega
              have hw6 : IntKind.i64.wrap (r : Int) = r := by rw [IntKind.wrap_i64]; omega
              have hix' := Lib.hid hix
              have hr' := Lib.hid hr
              have ho' := Lib.hid ho
              clear hix hr ho
              clear hord
              go_wp2_with fail
              go_quiet (fail)
              go_wp2_with (at_builtin; refine wpList_app rfl _ _ 30 rfl w.heap.size 5 i0 _ 1 1 Tryz.underlying30 hi hz0 hz1 hz2 rfl (by decide) _ k _ rfl (World.ownsRow.alloc (w := wr.drewN _) Ho.out _) _ 1 1 _ rfl (Sl.new (wr.drewN _) 5 1 1 _ (0, 0) (by omega) rfl) (by simp [Value.oneCell']) (by omega) (by decide) (by have := Hb.out.size; simp; omega) ?_; intro a5 c5 w2 ob hb2 hg2; clear hg2; have Ob := Lib.hid ob; have Hb2 := Lib.hid (((below_drewN Hb.out _).alloc Hb.out.size _).trans hb2); clear ob hb2)
              go_roundw
              case rel => exact ⟨k + 1, a5, c5, by omega, rfl, by go_num, Lib.hid (by rw [← hnx'.out, ints_append]; exact Ob.out), Hb2⟩
              case measure => simp [intOf]; omega
            · have d6 : decide ((k : Int) < n - rn) = false := by simp; omega
              have hw5 : IntKind.i64.wrap (rn : Int) = rn := by rw [IntKind.wrap_i64]; omega
              rw [if_neg hlk] at hix
              subst hix
              have ho' := Lib.hid ho
              clear ho
              clear hord
              go_wp2_with (at_builtin; refine wpList_app rfl _ _ 30 rfl w.heap.size 5 i0 _ 1 1 Tryz.underlying30 hi hz0 hz1 hz2 rfl (by decide) _ k _ rfl (World.ownsRow.alloc Ho.out _) _ 1 1 _ rfl (Sl.new wr 5 1 1 _ (0, 0) (by omega) rfl) (by simp [Value.oneCell']) (by omega) (by decide) (by have := Hb.out.size; simp; omega) ?_; intro a5 c5 w2 ob hb2 hg2; clear hg2; have Ob := Lib.hid ob; have Hb2 := Lib.hid ((Hb.out.alloc Hb.out.size _).trans hb2); clear ob hb2)
              go_roundw
              case rel => exact ⟨k + 1, a5, c5, by omega, rfl, by go_num, Lib.hid (by rw [← hnx'.out, ints_append]; exact Ob.out), Hb2⟩
              case measure => simp [intOf]; omega
          · have d5 : (o == 1) = false := by simp [ho]
            rw [if_neg ho] at hix
            subst hix
            have ho' := Lib.hid ho
            clear ho
            clear hord
            go_wp2_with (at_builtin; refine wpList_app rfl _ _ 30 rfl w.heap.size 5 i0 _ 1 1 Tryz.underlying30 hi hz0 hz1 hz2 rfl (by decide) _ k _ rfl (World.ownsRow.alloc Ho.out _) _ 1 1 _ rfl (Sl.new wr 5 1 1 _ (0, 0) (by omega) rfl) (by simp [Value.oneCell']) (by omega) (by decide) (by have := Hb.out.size; simp; omega) ?_; intro a5 c5 w2 ob hb2 hg2; clear hg2; have Ob := Lib.hid ob; have Hb2 := Lib.hid ((Hb.out.alloc Hb.out.size _).trans hb2); clear ob hb2)
            go_roundw
            case rel => exact ⟨k + 1, a5, c5, by omega, rfl, by go_num, Lib.hid (by rw [← hnx'.out, ints_append]; exact Ob.out), Hb2⟩
            case measure => simp [intOf]; omega
        · obtain rfl : k = n := by omega
          go_wp2
          go_ret
          exact ⟨_, _, _, rfl, by have h := Ho.out; rw [List.take_of_length_le (Nat.le_of_eq hRl'.out)] at h; exact h, Hb.out⟩
  · have hR : turnS b s o = [] := by unfold turnS; rw [if_neg ht]
    have hf : turnB s o = false := by simpa using ht
    rw [hf] at htb
    rw [hR]
    generalize topS s = T at *
    clear hR ht hf
    have htb2 : (T = 0 ∧ ¬ s = 8) ∨ o < 1 ∨ 2 < o := by
      by_cases h1 : o < 1
      · exact .inr (.inl h1)
      · by_cases h2 : 2 < o
        · exact .inr (.inr h2)
        · simp at htb
          exact .inl (by by_cases h3 : T = 0 <;> by_cases h4 : s = 8 <;> simp_all <;> omega)
    clear htb
    by_cases h0 : T = 0 ∧ ¬ s = 8
    · obtain ⟨rfl, h8⟩ := h0
      have d1 : (s != 8) = true := by simp [h8]
      clear htb2
      go_enter Tryz.func177, Tryz.ntmps177
      go_wp2_with (go_at_call 137; refine (HT.out _).mono ?_; rintro e w1 ⟨rfl, rfl⟩)
      go_ret
      exact ⟨none, 0, 0, rfl, own_nil _ _ _ _, Below.refl _ _⟩
    · have d0 : ((T == 0) && (s != 8)) = false := by
        by_cases h3 : T = 0 <;> by_cases h4 : s = 8 <;> simp_all
      have htb3 : o < 1 ∨ 2 < o := htb2.resolve_left h0
      clear htb2 h0
      obtain ⟨z0, hT⟩ : ∃ z0, (T == 0) = z0 := ⟨_, rfl⟩
      rw [hT] at d0
      by_cases h1 : o < 1
      · have d1 : decide (o < 1) = true := by simp; omega
        clear htb3
        cases z0
        all_goals
          go_enter Tryz.func177, Tryz.ntmps177
          go_wp2_with (go_at_call 137; refine (HT.out _).mono ?_; rintro e w1 ⟨rfl, rfl⟩)
          go_ret
          exact ⟨none, 0, 0, rfl, own_nil _ _ _ _, Below.refl _ _⟩
      · have d1 : decide (o < 1) = false := by simp; omega
        have d2 : decide (2 < o) = true := by simp; omega
        clear htb3
        cases z0
        all_goals
          go_enter Tryz.func177, Tryz.ntmps177
          go_wp2_with (go_at_call 137; refine (HT.out _).mono ?_; rintro e w1 ⟨rfl, rfl⟩)
          go_ret
          exact ⟨none, 0, 0, rfl, own_nil _ _ _ _, Below.refl _ _⟩
end Go.Proofs.YtilennmeiaehnaaGreat
