import Derived.Test.YtgmcnjnkiblbjaaDoorIccH
import Derived.Test.YtgmcnjnkiblbjaaDoorIccQ
namespace Go.Proofs.YtgmcnjnkiblbjaaDoor
open Go.RowKit Tt
set_option linter.unusedVariables false

theorem join_small {l : List (List Int)} (h : (joinS l).2 = 0) : (joinS l).1.length ≤ 16707345 := by
  have hc := cut_join h
  rcases Nat.lt_or_ge 255 (cntN (joinS l).1.length) with h1 | h1
  · have h2 : (joinS l).1 ≠ [] := by
      intro h0
      rw [h0] at h1
      simp [cntN] at h1
    have hlen : l.length ≤ 255 := by
      rcases Nat.lt_or_ge 255 l.length with h1 | h1
      · unfold joinS at h; rw [if_pos h1] at h; exact absurd h (by decide)
      · exact h1
    rw [cutS_long h1] at hc
    injection hc with _ h3
    exact absurd h3 (by decide)
  · have : ¬ 255 < cntN (joinS l).1.length := by omega
    rw [cntN_lt] at this
    omega
theorem join_byt {l : List (List Int)} (h : ∀ x ∈ l, Byt x) : Byt (joinS l).1 := by
  unfold joinS
  split
  · intro x hx; cases hx
  · split
    · intro x hx
      obtain ⟨b, hb, hx⟩ := List.mem_flatMap.1 hx
      exact (h b hb).drop 14 x hx
    · intro x hx; cases hx
theorem join_none {l : List (List Int)} (h : (joinS l).2 ≠ 0) : (joinS l).1 = [] := by
  unfold joinS at *
  split
  · rfl
  · split
    · rename_i h1 h2
      rw [if_neg h1, if_pos h2] at h
      exact absurd rfl h
    · rfl
theorem bne_self {x : Int} : (x != x) = false := by simp
theorem beq_self' {x : List Int} : (x == x) = true := by simp

set_option maxHeartbeats 4000000 in
theorem back_any (n seed : Int) (a : Option Addr) (m c : Nat) (x : List Int) (a2 : Option Addr) (n2 c2 : Nat) (ls : List (List Int)) (w : World) (hn1 : -9223372036854775808 ≤ n) (hn2 : n ≤ 9223372036854775807)
    (hx : Sl w a m c 1 (ints .u8 x)) (bx : Byt x) (hl : Rs w a2 n2 c2 ls) (bl : ∀ l ∈ ls, Byt l) :
    Calls Tryd.prog 5 #[.int .i64 n, .int .i64 seed, .slice a m c, .slice a2 n2 c2] w fun e w' => e = .returned (.bool true) ∧ Below w.heap.size w w' := by
  have Hx := Lib.hid hx
  have Bx := Lib.hid bx
  have Hl := Lib.hid hl
  have Bl := Lib.hid bl
  have hlc := hl.cap
  have hll := Lib.hid hl.len
  clear hx bx hl bl
  go_enter Tryd.func5, Tryd.ntmps5
  go_wp2_with fail
  refine (long_any n seed a m c x w hn1 hn2 Hx.out Bx.out).mono ?_
  rintro e w1 ⟨g, L, p, rfl, hg, hr1, hpl, bp, hL, hb1⟩
  have hs1 := (Sl.of_own (hr1.own hpl hg (by unfold maxLen; omega))).1
  have Bp := Lib.hid bp
  have hL2 : L ≤ 140737488355328 := by omega
  have hc4 : cntN p.length ≤ 4 := cntN_top (by omega)
  have HcL := Lib.hid (cut_len (p := p) (by omega))
  have Hrow := Lib.hid (fun i => @cut_row p i (by omega))
  have HJ := Lib.hid (join_cut (p := p) (by omega))
  have hcnt := cnt_nat L
  rw [← hpl] at hcnt
  rw [← HcL.out] at hcnt
  rw [hpl] at hcnt
  have Hcnt := Lib.hid hcnt
  have hcode := cut_code (p := p) (by omega)
  clear hr1 bp hcnt hc4
  go_wp2_with fail
  refine (cut_any _ L L p w1 hs1 Bp.out hL2).mono ?_
  rintro e w2 ⟨a4, n4, c4, rfl, hr4, hb2⟩
  rw [hcode]
  clear hcode
  have hB2 := hb1.trans (hb2.mono hb1.size)
  have hp2 := hs1.mono hb2
  have hrs := hr4.rs
  have hbyt : ∀ l ∈ (cutS p).1, Byt l := byt_cutS Bp.out
  clear hr4 hs1 hb2 hb1
  have hn4 := hrs.len
  rw [hn4] at Hcnt
  have Hp2 := Lib.hid hp2
  have hLn := Lib.hid hpl
  clear hp2 hpl HcL
  generalize (cutS p).1 = ys at *
  have Hbyt := Lib.hid hbyt
  have Hrs := Lib.hid hrs
  have Hn4 := Lib.hid hn4
  have hc4 := hrs.cap
  clear hrs hn4 hbyt
  have hself : ((n4 : Int) != (n4 : Int)) = false := by simp
  have hC := count_any L w2 (by omega)
  rw [Hcnt.out] at hC
  go_wp2_with (go_at_call 15; refine hC.mono ?_; rintro e w9 ⟨rfl, rfl⟩)
  clear hC hself
  go_loopw [12] (fun i wr => ∃ k : Nat, k ≤ n4 ∧ i = .int .i64 k ∧ Below w.heap.size w wr ∧ Below w2.heap.size w2 wr) (fun i _ => n4 - (intOf i).toNat)
  case atStart => exact ⟨0, by omega, rfl, hB2, Below.refl _ _⟩
  case round =>
    obtain ⟨k, hk, rfl, hb, hb2⟩ := hrel
    by_cases hlt : k < n4
    · obtain ⟨b, o, a5, n5, c5, rfl, hb5, f5, s5⟩ := rows_at (Hrs.out.mono hb2) hlt
      have b5 := Hbyt.out _ (row_mem Hn4.out hlt)
      have hrk := Hrow.out k (by rw [Hn4.out]; exact hlt)
      have hl5 := s5.ilen
      generalize ys.getD k [] = row at *
      have h65 : n5 ≤ 65533 := by have := hrk.1; omega
      have hB := Lib.hid hrk.2
      clear hrk hl5
      have hd : decide ((65533 : Int) < n5) = false := by simp; omega
      go_wp2_with fail
      refine (is_any a5 n5 c5 row wr s5 b5).mono ?_
      rw [hB.out]
      rintro e w6 ⟨rfl, hb6⟩
      clear s5 b5 hb5 f5 hB
      go_wp2
      go_roundw
      case rel => exact ⟨k + 1, by omega, by go_num, hb.trans (hb6.mono hb.size), hb2.trans (hb6.mono hb2.size)⟩
      case measure => simp [intOf]; omega
    · clear hB2
      go_wp2_with fail
      refine (join_any a4 n4 c4 ys wr (Hrs.out.mono hb2) Hbyt.out).mono ?_
      rintro e w5 ⟨a5, n5, c5, rfl, ho5, hb5⟩
      rw [HJ.out] at ho5 ⊢
      have hs5 := (Sl.of_own ho5).1
      have hp5 := (Hp2.out.mono hb2).mono hb5
      have hB5 := hb.trans (hb5.mono hb.size)
      have hpp : (p == p) = true := by simp
      have hsm := same_any a5 (some ⟨g, 0, none⟩) n5 L c5 L p p w5 hs5 hp5
      rw [hpp] at hsm
      clear hpp ho5 hs5 hp5 hb5 hb hb2 Hp2
      go_wp2_with (go_at_call 12; refine hsm.mono ?_; rintro e w6 ⟨rfl, hq6⟩)
      have hB6 := hB5.trans (hq6.below _)
      clear hq6 hB5 hsm hk hlt HJ Hrs Hbyt Hrow
      go_loopw [15] (fun i W => ∃ k : Nat, 4 ≤ k ∧ i = .int .i64 k ∧ Hid (W = w6)) (fun i _ => n2 + 4 - (intOf i).toNat)
      case atStart => exact ⟨4, by omega, rfl, Lib.hid rfl⟩
      case round =>
        obtain ⟨k, hk, rfl, hw⟩ := hrel
        obtain rfl := hw.out.symm
        clear hw
        by_cases hlt : k < n2
        · obtain ⟨b, o, a7, n7, c7, rfl, hb7, f7, s7⟩ := rows_at (Hl.out.mono hB6) hlt
          clear s7
          by_cases hbig : 300 < n7
          · have hd : decide ((300 : Int) < n7) = true := by simp; omega
            go_wp2_with fail
            refine (awake_any w6).mono ?_
            rintro e w9 ⟨rfl, hb9⟩
            go_wp2
            go_ret
            exact ⟨ret_bool rfl, hB6.trans (hb9.mono hB6.size)⟩
          · have hd : decide ((300 : Int) < n7) = false := by simp; omega
            go_wp2
            go_roundw
            case rel => exact ⟨k + 1, by omega, by go_num, Lib.hid trivial⟩
            case measure => simp [intOf]; omega
        · by_cases hmany : 260 < n2
          · have hd : decide ((260 : Int) < n2) = true := by simp; omega
            go_wp2_with fail
            refine (awake_any w6).mono ?_
            rintro e w9 ⟨rfl, hb9⟩
            go_wp2
            go_ret
            exact ⟨ret_bool rfl, hB6.trans (hb9.mono hB6.size)⟩
          · have hd : decide ((260 : Int) < n2) = false := by simp; omega
            clear hk
            go_wp2_with fail
            refine (join_any a2 n2 c2 ls w6 (Hl.out.mono hB6) Bl.out).mono ?_
            rintro e w7 ⟨a7, n7, c7, rfl, ho7, hb7⟩
            have hB7 := hB6.trans (hb7.mono hB6.size)
            have hs7 := (Sl.of_own ho7).1
            have hl7 := hs7.ilen
            by_cases hcode : (joinS ls).2 = 0
            · have hcj := Lib.hid (cut_join hcode)
              have hsm := join_small hcode
              have hby := Lib.hid (join_byt Bl.out)
              have hl2 := Hl.out.mono hB7
              rw [hcode]
              generalize (joinS ls).1 = q at *
              have hn7 : n7 ≤ 140737488355328 := by omega
              have hself : (ls == ls) = true := by simp
              have Hself := Lib.hid hself
              clear hcode ho7 hl7 hsm hself
              go_wp2_with fail
              refine (cut_any a7 n7 c7 q w7 hs7 hby.out hn7).mono ?_
              rintro e w8 ⟨a8, n8, c8, rfl, hr8, hb8⟩
              rw [hcj.out] at hr8 ⊢
              have hrr := rows_any a8 a2 n8 n2 c8 c2 ls ls w8 hr8.rs (hl2.mono hb8)
              rw [Hself.out] at hrr
              have hB8 := hB7.trans (hb8.mono hB7.size)
              clear hs7 hb7 hB6 hr8 hl2 hb8
              go_wp2_with (go_at_call 11; refine hrr.mono ?_; rintro e w9 ⟨rfl, hq9⟩)
              refine (awake_any w9).mono ?_
              rintro e w10 ⟨rfl, hb10⟩
              have hB9 := hB8.trans (hq9.below _)
              go_wp2
              go_ret
              exact ⟨ret_bool rfl, hB9.trans (hb10.mono hB9.size)⟩
            · have hnil := join_none hcode
              rw [hnil] at hl7
              have hn0 : n7 = 0 := by simpa using hl7.symm
              subst hn0
              have htest : ((joinS ls).2 != 0) = true := by simpa using hcode
              generalize (joinS ls).2 = ev at *
              clear hnil hl7 hcode ho7 hs7
              go_wp2_with fail
              refine (awake_any w7).mono ?_
              rintro e w10 ⟨rfl, hb10⟩
              go_wp2
              go_ret
              exact ⟨ret_bool rfl, hB7.trans (hb10.mono hB7.size)⟩
end Go.Proofs.YtgmcnjnkiblbjaaDoor
