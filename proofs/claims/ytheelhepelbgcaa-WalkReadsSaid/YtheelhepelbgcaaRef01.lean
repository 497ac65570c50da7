/- Chapter 1 of the document's answer: Own, Same, Top, Put: what each computes. -/
import Derived.Test.YtheelhepelbgcaaL5
namespace Go.Proofs.Ytheelhepelbgcaa
open Go.RowKit Tt
set_option linter.unusedVariables false

def topS (s : Int) : Int := if s = 1 then 256 else if s = 2 then 65536 else if s = 4 then 4294967296 else 0
def leb : Nat → Int → List Int
  | 0, _ => []
  | k + 1, n => n % 256 :: leb k (n / 256)
theorem leb_len : ∀ (k : Nat) (n : Int), (leb k n).length = k
  | 0, _ => rfl
  | k + 1, n => by simp [leb, leb_len k]
theorem leb_byt : ∀ (k : Nat) (n : Int), Byt (leb k n)
  | 0, _ => fun x hx => by cases hx
  | k + 1, n => fun x hx => by
    rcases List.mem_cons.1 hx with rfl | h
    · omega
    · exact leb_byt k _ x h
def putOk (n s o : Int) : Bool := decide (1 ≤ o) && decide (o ≤ 2) && decide (0 ≤ n) && decide (n < topS s)
def putS (n s o : Int) : List Int := if putOk n s o = true then (if o = 1 then leb s.toNat n else (leb s.toNat n).reverse) else []

theorem r1top_any (s : Int) (w : World) : Calls Try.prog 60 #[.int .i64 s] w fun e w' => e = .returned (.int .i64 (topS s)) ∧ w = w' := by
  by_cases h1 : s = 1
  · subst h1
    go_enter Try.func60, Try.ntmps60
    go_wp2
    go_ret
    exact ⟨rfl, rfl⟩
  · by_cases h2 : s = 2
    · subst h2
      go_enter Try.func60, Try.ntmps60
      go_wp2
      go_ret
      exact ⟨rfl, rfl⟩
    · by_cases h3 : s = 4
      · subst h3
        go_enter Try.func60, Try.ntmps60
        go_wp2
        go_ret
        exact ⟨rfl, rfl⟩
      · have e : topS s = 0 := by unfold topS; rw [if_neg h1, if_neg h2, if_neg h3]
        rw [e]
        go_enter Try.func60, Try.ntmps60
        go_wp2
        go_ret
        exact ⟨rfl, rfl⟩
theorem topS_pos {s : Int} (h : 0 < topS s) : s = 1 ∨ s = 2 ∨ s = 4 := by
  unfold topS at h
  split at h
  · exact .inl ‹_›
  · split at h
    · exact .inr (.inl ‹_›)
    · split at h
      · exact .inr (.inr ‹_›)
      · omega
theorem topS_le (s : Int) : topS s ≤ 4294967296 := by
  unfold topS
  split
  · omega
  · split
    · omega
    · split <;> omega

theorem info8 : (Try.prog.info? 5).map (fun i => (i.zero, i.size, i.bytes)) = some (some (.int .u8 0), 1, 1) := by kernel_rfl

set_option maxRecDepth 20000 in
set_option maxHeartbeats 4000000 in
theorem r1put_any (n s o : Int) (w : World) :
    Calls Try.prog 42 #[.int .i64 n, .int .i64 s, .int .i64 o] w fun e w' => ∃ a m c, e = .returned (.tuple #[.slice a m c, .bool (putOk n s o)]) ∧ w'.ownsRow w.heap.size 5 1 (.slice a m c) m (ints .u8 (putS n s o)) ∧ Below w.heap.size w w' := by
  obtain ⟨i0, hi, hz0, hz1, hz2⟩ := info_parts info8
  by_cases h1 : o < 1
  · have e : putOk n s o = false := by unfold putOk; rw [decide_eq_false (show ¬ 1 ≤ o by omega)]; rfl
    have e2 : putS n s o = [] := by unfold putS; rw [e]; rfl
    rw [e, e2]
    clear e e2
    go_enter Try.func42, Try.ntmps42
    go_wp2
    go_ret2
    exact ⟨_, _, _, rfl, own_nil _ _ _ _, Below.refl _ _⟩
  · by_cases h2 : 2 < o
    · have e : putOk n s o = false := by unfold putOk; rw [decide_eq_false (show ¬ o ≤ 2 by omega)]; simp
      have e2 : putS n s o = [] := by unfold putS; rw [e]; rfl
      rw [e, e2]
      clear e e2
      go_enter Try.func42, Try.ntmps42
      go_wp2
      go_ret2
      exact ⟨_, _, _, rfl, own_nil _ _ _ _, Below.refl _ _⟩
    · by_cases h3 : n < 0
      · have e : putOk n s o = false := by unfold putOk; rw [decide_eq_false (show ¬ 0 ≤ n by omega)]; simp
        have e2 : putS n s o = [] := by unfold putS; rw [e]; rfl
        rw [e, e2]
        clear e e2
        go_enter Try.func42, Try.ntmps42
        go_wp2
        go_ret2
        exact ⟨_, _, _, rfl, own_nil _ _ _ _, Below.refl _ _⟩
      · by_cases h4 : topS s ≤ n
        · have e : putOk n s o = false := by unfold putOk; rw [decide_eq_false (show ¬ n < topS s by omega)]; simp
          have e2 : putS n s o = [] := by unfold putS; rw [e]; rfl
          rw [e, e2]
          clear e e2
          generalize hT : topS s = T at h4
          have HT := Lib.hid hT
          clear hT
          go_enter Try.func42, Try.ntmps42
          go_wp2_with (go_at_call 60; refine (r1top_any _ _).mono ?_; rw [HT.out]; rintro e w' ⟨rfl, rfl⟩)
          go_ret2
          exact ⟨_, _, _, rfl, own_nil _ _ _ _, Below.refl _ _⟩
        · have e : putOk n s o = true := by unfold putOk; rw [decide_eq_true (show 1 ≤ o by omega), decide_eq_true (show o ≤ 2 by omega), decide_eq_true (show 0 ≤ n by omega), decide_eq_true (show n < topS s by omega)]; rfl
          obtain ⟨S, hS, hSb⟩ : ∃ S : Nat, s = S ∧ S ≤ 4 := by
            rcases topS_pos (s := s) (by omega) with rfl | rfl | rfl
            · exact ⟨1, rfl, by omega⟩
            · exact ⟨2, rfl, by omega⟩
            · exact ⟨4, rfl, by omega⟩
          obtain ⟨B, hB, hT⟩ : ∃ B : Int, B ≤ 4294967296 ∧ topS s ≤ B := ⟨_, Int.le_refl _, topS_le s⟩
          have HB := Lib.hid hB
          clear hB
          generalize hTT : topS s = T at h4 hT
          subst hS
          have HT := Lib.hid hTT
          clear hTT
          rcases (show o = 1 ∨ o = 2 by omega) with ho | ho
          · have e2 : putS n S o = leb S n := by unfold putS; rw [if_pos e, if_pos ho]; rfl
            rw [e, e2]
            have hnB := Lib.hid (show n ≤ B by omega)
            have H3 := Lib.hid h3
            have HSb := Lib.hid hSb
            have q1 : decide (o < 1) = false := by simp; omega
            have q2 : decide (2 < o) = false := by simp; omega
            have q3 : (o == 1) = true := by simp; omega
            have q4 : decide (n < 0) = false := by simp; omega
            have q5 : decide (T ≤ n) = false := by simp; omega
            clear ho h3 h4
            clear e e2 h1 h2 hT hSb
            go_enter Try.func42, Try.ntmps42
            go_wp2_with (go_at_call 60; refine (r1top_any _ _).mono ?_; rw [HT.out]; rintro e w' ⟨rfl, rfl⟩)
            go_loopw [0, 8, 9] (fun nv v i wr => ∃ (k : Nat) (nk : Int) (a4 : Option Addr) (c4 : Nat) (l : List Int), k ≤ S ∧ nv = .int .i64 nk ∧ 0 ≤ nk ∧ Hid (nk ≤ B) ∧ v = .slice a4 k c4 ∧ i = .int .i64 k ∧ Hid (wr.ownsRow w.heap.size 5 1 (.slice a4 k c4) k (ints .u8 l)) ∧ Hid (l ++ leb (S - k) nk = leb S n) ∧ Hid (Below w.heap.size w wr)) (fun _ _ i _ => S - (intOf i).toNat)
            case atStart => exact ⟨0, n, none, 0, [], by omega, rfl, by have := H3.out; omega, hnB, rfl, rfl, Lib.hid (own_nil _ _ _ _), Lib.hid (by simp), Lib.hid (Below.refl _ _)⟩
            case round =>
              obtain ⟨k, nk, a4, c4, l, hk, rfl, hn0, hn1, rfl, rfl, Ho, Hl, Hb⟩ := hrel
              by_cases hlt : k < S
              · have hk4 : k ≤ 4 := by have := HSb.out; omega
                have hnn := hn1.out
                have hBB := HB.out
                obtain ⟨r, hr⟩ : ∃ r, nk % 256 = r := ⟨_, rfl⟩
                obtain ⟨q, hq⟩ : ∃ q, nk / 256 = q := ⟨_, rfl⟩
                have hm1 : Int.tmod nk 256 = r := by rw [Int.tmod_eq_emod_of_nonneg hn0]; exact hr
                have hm2 : Int.tdiv nk 256 = q := by rw [Int.tdiv_eq_ediv_of_nonneg hn0]; exact hq
                have hm3 : IntKind.u8.wrap r = r := by rw [IntKind.wrap_u8]; omega
                have hm4 : IntKind.i64.wrap r = r := by rw [IntKind.wrap_i64]; omega
                have hm5 : IntKind.i64.wrap q = q := by rw [IntKind.wrap_i64]; omega
                have Hq0 := Lib.hid (show 0 ≤ q by omega)
                have HqB := Lib.hid (show q ≤ B by omega)
                have Hr := Lib.hid hr
                have Hq := Lib.hid hq
                have Hn0 := Lib.hid hn0
                clear hr hq hnn hBB hn0
                go_wp2_with (at_builtin; refine wpList_app rfl _ _ 24 rfl w.heap.size 5 i0 _ 1 1 Try.underlying24 hi hz0 hz1 hz2 rfl (by decide) _ k _ rfl (World.ownsRow.alloc Ho.out _) _ 1 1 _ rfl (Sl.new wr 5 1 1 _ (0, 0) (by omega) rfl) (by simp [Value.oneCell']) (by have := HSb.out; omega) (by decide) (by have := Hb.out.size; simp; omega) ?_; intro a5 c5 w2 ob hb2 hg2; clear hg2; have Ob := Lib.hid ob; have Hb2 := Lib.hid ((Hb.out.alloc Hb.out.size _).trans hb2); clear ob hb2)
                go_roundw
                case rel => exact ⟨k + 1, q, a5, c5, l ++ [r], by omega, rfl, Hq0.out, HqB, rfl, by have := HSb.out; go_num, Lib.hid (by have h1 := Ob.out; rw [ints_append]; exact h1), Lib.hid (by
                  have h0 := Hl.out
                  rw [show S - k = (S - (k + 1)) + 1 by omega] at h0
                  simp only [leb] at h0
                  rw [List.append_assoc, ← Hr.out, ← Hq.out]; exact h0), Hb2⟩
                case measure => have := HSb.out; simp [intOf]; omega
              · obtain rfl : k = S := by omega
                have hl := Hl.out
                rw [Nat.sub_self] at hl
                simp only [leb, List.append_nil] at hl
                have HL := Lib.hid hl
                clear hl
                go_wp2
                go_ret2
                exact ⟨_, _, _, rfl, by rw [← HL.out]; exact Ho.out, Hb.out⟩
          · have e2 : putS n S o = (leb S n).reverse := by unfold putS; rw [if_pos e, if_neg (show ¬ o = 1 by omega)]; rfl
            rw [e, e2]
            have hnB := Lib.hid (show n ≤ B by omega)
            have H3 := Lib.hid h3
            have HSb := Lib.hid hSb
            have q1 : decide (o < 1) = false := by simp; omega
            have q2 : decide (2 < o) = false := by simp; omega
            have q3 : (o == 1) = false := by simp; omega
            have q4 : decide (n < 0) = false := by simp; omega
            have q5 : decide (T ≤ n) = false := by simp; omega
            clear ho h3 h4
            clear e e2 h1 h2 hT hSb
            go_enter Try.func42, Try.ntmps42
            go_wp2_with (go_at_call 60; refine (r1top_any _ _).mono ?_; rw [HT.out]; rintro e w' ⟨rfl, rfl⟩)
            go_loopw [0, 8, 9] (fun nv v i wr => ∃ (k : Nat) (nk : Int) (a4 : Option Addr) (c4 : Nat) (l : List Int), k ≤ S ∧ nv = .int .i64 nk ∧ 0 ≤ nk ∧ Hid (nk ≤ B) ∧ v = .slice a4 k c4 ∧ i = .int .i64 k ∧ Hid (wr.ownsRow w.heap.size 5 1 (.slice a4 k c4) k (ints .u8 l)) ∧ Hid (l.reverse ++ leb (S - k) nk = leb S n) ∧ Hid (Below w.heap.size w wr)) (fun _ _ i _ => S - (intOf i).toNat)
            case atStart => exact ⟨0, n, none, 0, [], by omega, rfl, by have := H3.out; omega, hnB, rfl, rfl, Lib.hid (own_nil _ _ _ _), Lib.hid (by simp), Lib.hid (Below.refl _ _)⟩
            case round =>
              obtain ⟨k, nk, a4, c4, l, hk, rfl, hn0, hn1, rfl, rfl, Ho, Hl, Hb⟩ := hrel
              by_cases hlt : k < S
              · have hk4 : k ≤ 4 := by have := HSb.out; omega
                have hnn := hn1.out
                have hBB := HB.out
                obtain ⟨r, hr⟩ : ∃ r, nk % 256 = r := ⟨_, rfl⟩
                obtain ⟨q, hq⟩ : ∃ q, nk / 256 = q := ⟨_, rfl⟩
                have hm1 : Int.tmod nk 256 = r := by rw [Int.tmod_eq_emod_of_nonneg hn0]; exact hr
                have hm2 : Int.tdiv nk 256 = q := by rw [Int.tdiv_eq_ediv_of_nonneg hn0]; exact hq
                have hm3 : IntKind.u8.wrap r = r := by rw [IntKind.wrap_u8]; omega
                have hm4 : IntKind.i64.wrap r = r := by rw [IntKind.wrap_i64]; omega
                have hm5 : IntKind.i64.wrap q = q := by rw [IntKind.wrap_i64]; omega
                have Hq0 := Lib.hid (show 0 ≤ q by omega)
                have HqB := Lib.hid (show q ≤ B by omega)
                have Hr := Lib.hid hr
                have Hq := Lib.hid hq
                have Hn0 := Lib.hid hn0
                clear hr hq hnn hBB hn0
                go_wp2_with (at_builtin; refine wpList_app rfl _ _ 24 rfl wr.heap.size 5 i0 _ 1 1 Try.underlying24 hi hz0 hz1 hz2 rfl (by decide) _ 1 _ rfl (own_new wr wr.heap.size 5 1 1 _ (Nat.le_refl _) (by unfold maxLen; omega) rfl) _ k c4 _ rfl (sl_alloc (Sl.of_own Ho.out).1 _) ints_one (by have := HSb.out; omega) (by decide) (by simp) ?_; intro a5 c5 w2 ob hb2 hg2; clear hg2; have Ob := Lib.hid (own_mono ob Hb.out.size); have Hb2 := Lib.hid ((Hb.out.alloc Hb.out.size _).trans (hb2.mono Hb.out.size)); clear ob hb2)
                go_roundw
                case rel => exact ⟨k + 1, q, a5, c5, r :: l, by omega, rfl, Hq0.out, HqB, by rw [Nat.add_comm], by have := HSb.out; go_num, Lib.hid (by have h1 := Ob.out; rw [Nat.add_comm 1 k] at h1; exact h1), Lib.hid (by
                  have h0 := Hl.out
                  rw [show S - k = (S - (k + 1)) + 1 by omega] at h0
                  simp only [leb] at h0
                  rw [← Hr.out, ← Hq.out]; simpa using h0), Hb2⟩
                case measure => have := HSb.out; simp [intOf]; omega
              · obtain rfl : k = S := by omega
                have hl := Hl.out
                rw [Nat.sub_self] at hl
                simp only [leb, List.append_nil] at hl
                have HL := Lib.hid hl
                clear hl
                go_wp2
                go_ret2
                exact ⟨_, _, _, rfl, by rw [← HL.out, List.reverse_reverse]; exact Ho.out, Hb.out⟩
end Go.Proofs.Ytheelhepelbgcaa
