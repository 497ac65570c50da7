/- Chapter 23: types.Same of the same; the walk of RegistrySets. -/
import Derived.Test.YtnhcmibngcmebaaTgF
namespace Go.Proofs.Ytnhcmibngcmebaa
open Go.RowKit Tt
set_option linter.unusedVariables false
set_option linter.unusedSimpArgs false

set_option maxHeartbeats 400000 in
theorem bequal_eq (a a' : Option Addr) (n c c' : Nat) (x : List Int) (w : World) (hx : Sl w a n c 1 (ints .u8 x)) (hy : Sl w a' n c' 1 (ints .u8 x)) :
    Calls Try.prog 48 #[.slice a n c, .slice a' n c'] w fun e w' => e = .returned (.bool true) ∧ w = w' := by
  have e1 := conv_run (P := Try.prog) hx 22 5 9 Try.underlying22 Try.underlying5 Try.underlying9
  have e2 := conv_run (P := Try.prog) hy 22 5 9 Try.underlying22 Try.underlying5 Try.underlying9
  have e3 : ((strOfNums x).toList == (strOfNums x).toList) = true := by simp
  go_enter Try.func48, Try.ntmps48
  go_wp2
  go_ret
  exact ⟨ret_bool rfl, rfl⟩
set_option maxHeartbeats 400000 in
theorem tsame_eq (y k : Int) (a a' : Option Addr) (n c c' : Nat) (d : List Int) (w : World) (hs : Sl w a n c 1 (ints .u8 d)) (hs2 : Sl w a' n c' 1 (ints .u8 d)) :
    Calls Try.prog 28 #[.agg #[.int .i64 y, .int .i64 k, .slice a n c], .agg #[.int .i64 y, .int .i64 k, .slice a' n c']] w fun e w' => e = .returned (.bool true) ∧ Below w.heap.size w w' := by
  have h1 : (y == y) = true := by simp
  have h2 : (k == k) = true := by simp
  have hs' := Lib.hid hs
  have hs2' := Lib.hid hs2
  clear hs hs2
  go_enter Try.func28, Try.ntmps28
  go_wp2_with fail
  have hb0 := ((Below.refl w.heap.size w).alloc (Nat.le_refl _) (.cells #[.int .i64 y, .int .i64 k, .slice a n c] 24)).alloc (by simp) (.cells #[.int .i64 y, .int .i64 k, .slice a' n c'] 24)
  refine (bequal_eq a a' n c c' d _ (hs'.out.mono hb0) (hs2'.out.mono hb0)).mono ?_
  rintro e w2 ⟨rfl, rfl⟩
  have hb0' := Lib.hid hb0
  clear hb0
  go_wp2_with fail
  go_ret
  exact ⟨rfl, hb0'.out⟩

theorem find_len {ts : List Tg} {t : Int} {b : Bool} {y k : Int} {d : List Int} (h : findS ts t = (b, y, k, d)) (hb : ∀ x ∈ ts, x.2.2.2.length ≤ 600) : d.length ≤ 600 := by
  unfold findS at h
  cases hq : ts.find? (fun y => decide (y.1 = t)) with
  | none => rw [hq] at h; simp only [Prod.mk.injEq] at h; rw [← h.2.2.2]; simp
  | some x =>
    rw [hq] at h
    simp only [Prod.mk.injEq] at h
    have := hb x (List.mem_of_find?_eq_some hq)
    rw [h.2] at this
    exact this
theorem rise_pw {zs : List Tz} {n : Nat} (hn : zs.length = n) (h : Pw (zs.map tag)) : ∀ i, i + 1 < n → key zs i < key zs (i + 1) := rise_of rfl (by simpa using hn) (of_pw h)
theorem find_s (a : Option Addr) (n c : Nat) (zs : List Tz) (t : Int) (w : World) (hs : Tr w a n c zs) (hp : Pw (zs.map tag)) (hl : n ≤ 1000000) (hd : ∀ z ∈ zs, z.1.2.2.2.2.1 ≤ 1000000) :
    Calls Try.prog 22 #[.slice a n c, .int .i64 t] w fun e w' => ∃ (b : Bool) (y2 y3 : Int) (a' : Option Addr) (n' c' : Nat) (d : List Int), e = .returned (.tuple #[.agg #[.int .i64 y2, .int .i64 y3, .slice a' n' c'], .bool b]) ∧
      Sl w' a' n' c' 1 (ints .u8 d) ∧ findS (zs.map tag) t = (b, y2, y3, d) ∧ Below w.heap.size w w' := by
  have hr := rise_pw hs.len hp
  refine (find_any a n c zs t w hs hr hl hd).mono ?_
  rintro e w' ⟨k, y2, y3, a', n', c', d, hpos, rfl, ho, hv, hb⟩
  refine ⟨isB zs t k, y2, y3, a', n', c', d, rfl, (Sl.of_own ho).1, ?_, hb⟩
  rw [find_at hpos (by rw [hs.len]; exact hr)]
  cases hq : isB zs t k with
  | true => rw [hq, if_pos rfl] at hv; rw [if_pos rfl, ← hv]
  | false => rw [hq, if_neg (by decide)] at hv; rw [if_neg (by decide), ← hv]
theorem set_s (a : Option Addr) (n c : Nat) (zs : List Tz) (x1 x2 x3 : Int) (xa : Option Addr) (xn xc : Nat) (d : List Int) (w : World) (hs : Tr w a n c zs) (hp : Pw (zs.map tag)) (hl : n ≤ 1000) (hd : ∀ z ∈ zs, z.1.2.2.2.2.1 ≤ 1000000)
    (hx : Sl w xa xn xc 1 (ints .u8 d)) (hxn : xn ≤ 1000000) :
    Calls Try.prog 20 #[.slice a n c, .agg #[.int .i64 x1, .int .i64 x2, .int .i64 x3, .slice xa xn xc]] w fun e w' => ∃ a' n' c' zs', e = .returned (.slice a' n' c') ∧ Tr w' a' n' c' zs' ∧ zs'.map tag = setS (zs.map tag) (x1, x2, x3, d) ∧ Below w.heap.size w w' :=
  (set_any a n c zs x1 x2 x3 xa xn xc d w hs (rise_pw hs.len hp) (by omega) hd hx hxn).mono fun e w' ⟨a', n', c', zs', h1, h2, h3, h4⟩ => ⟨a', n', c', zs', h1, h2.tr, h3, h4⟩
theorem drop_s (a : Option Addr) (n c : Nat) (zs : List Tz) (t : Int) (w : World) (hs : Tr w a n c zs) (hp : Pw (zs.map tag)) (hl : n ≤ 1000000) (hd : ∀ z ∈ zs, z.1.2.2.2.2.1 ≤ 1000000) :
    Calls Try.prog 21 #[.slice a n c, .int .i64 t] w fun e w' => ∃ a' n' c' zs', e = .returned (.slice a' n' c') ∧ Tr w' a' n' c' zs' ∧ zs'.map tag = dropS (zs.map tag) t ∧ Below w.heap.size w w' :=
  (drop_any a n c zs t w hs (rise_pw hs.len hp) hl hd).mono fun e w' ⟨a', n', c', zs', h1, h2, h3, h4⟩ => ⟨a', n', c', zs', h1, h2.tr, h3, h4⟩

set_option maxRecDepth 20000 in
set_option maxHeartbeats 16000000 in
theorem sets_law (dir : Int) (la : Option Addr) (ln lp : Nat) (ts : List Tg) (xt xy xc : Int) (xa : Option Addr) (xn xp : Nat) (xd : List Int) (w : World)
    (hd : (Lit.int .i64 dir).wf = true) (hl : Ts w la ln lp ts) (hok : ∀ x ∈ ts, TgOk x) (hs : Sl w xa xn xp 1 (ints .u8 xd)) (hbx : Byt xd) (hxw : (Lit.int .i64 xt).wf = true) :
    Calls Try.prog 5 #[.int .i64 dir, .slice la ln lp, .agg #[.int .i64 xt, .int .i64 xy, .int .i64 xc, .slice xa xn xp]] w fun e w' => e = .returned (.bool true) ∧ Below w.heap.size w w' := by
  have hxn := hs.max
  have hxl := hs.le
  obtain ⟨W0, hW0⟩ : ∃ W0, w.alloc (.cells #[.int .i64 xt, .int .i64 xy, .int .i64 xc, .slice xa xn xp] 26) = W0 := ⟨_, rfl⟩
  obtain ⟨g, hg⟩ : ∃ g, w.heap.size = g := ⟨_, rfl⟩
  have T0 : TagAt W0 g xt xy xc xa xn xp := by rw [← hg, ← hW0]; exact TagAt.new ..
  have hb0 : Below w.heap.size w W0 := by rw [← hW0]; exact (Below.refl _ _).alloc (Nat.le_refl _) _
  have hl0 := hl.mono hb0
  have hs0 := hs.mono hb0
  have HT := Lib.hid T0
  obtain ⟨c0, c1, c2, c3, hlt⟩ := T0
  have hV := vast_any la ln lp ts W0 hl0
  have htl := hl.len
  have hlm := hl.max
  have hl0' := Lib.hid hl0
  have hs0' := Lib.hid hs0
  have hl' := Lib.hid hl
  have hs' := Lib.hid hs
  have hb0' := Lib.hid hb0
  have hok' := Lib.hid hok
  have hbx' := Lib.hid hbx
  have hxw' := Lib.hid hxw
  have hd' := Lib.hid hd
  clear hl0 hs0 hl hs hb0 hok hbx hxw hd
  go_enter Try.func5, Try.ntmps5
  go_upto_region 1 with fail
  try rw [hW0]
  try rw [hg]
  clear hW0
  cases hv : vastS ts with
  | true =>
    rw [hv] at hV
    have hv' := Lib.hid hv
    have hV' := Lib.hid hV
    clear hv hV
    go_wp2_with (first
      | (go_at_call 7; refine (hV'.out).mono ?_; rintro e w' ⟨rfl, rfl⟩)
      | (go_at_call 16; refine (hR'.out).mono ?_; rintro e w8 ⟨rfl, hq⟩; have HTr := HT.out.mono hq; obtain ⟨d0, d1, d2, d3, hlt2⟩ := HTr; have Hq := Lib.hid hq; clear hq)
      | (go_at_call 14; refine ((rmay1_any dir xt xy xc xa xn xp xd _ (hs0'.out.mono Hq.out) hbx'.out hd'.out hxw'.out)).mono ?_; rintro e w9 ⟨rfl, hq⟩; rw [hm'.out]; have HTr9 := HT.out.mono (Hq.out.trans (hq.mono Hq.out.size)); obtain ⟨e0, e1, e2, e3, hlt3⟩ := HTr9; have Hq9 := Lib.hid hq; clear hq)
      | (go_at_call 8; refine (awake_any _).mono ?_; rintro e w1 ⟨rfl, hb1⟩; have HB1 := Lib.hid hb1; clear hb1))
    go_ret
    exact ⟨rfl, hb0'.out.trans (HB1.out.mono (by rw [hg]; exact Nat.le_of_lt hlt))⟩
  | false =>
    rw [hv] at hV
    by_cases h6 : 600 < xn
    · have h6' : decide ((600 : Int) < (xn : Int)) = true := by simp; omega
      have hv' := Lib.hid hv
      have hV' := Lib.hid hV
      clear hv hV
      go_wp2_with (first
        | (go_at_call 7; refine (hV'.out).mono ?_; rintro e w' ⟨rfl, rfl⟩)
        | (go_at_call 16; refine (hR'.out).mono ?_; rintro e w8 ⟨rfl, hq⟩; have HTr := HT.out.mono hq; obtain ⟨d0, d1, d2, d3, hlt2⟩ := HTr; have Hq := Lib.hid hq; clear hq)
        | (go_at_call 14; refine ((rmay1_any dir xt xy xc xa xn xp xd _ (hs0'.out.mono Hq.out) hbx'.out hd'.out hxw'.out)).mono ?_; rintro e w9 ⟨rfl, hq⟩; rw [hm'.out]; have HTr9 := HT.out.mono (Hq.out.trans (hq.mono Hq.out.size)); obtain ⟨e0, e1, e2, e3, hlt3⟩ := HTr9; have Hq9 := Lib.hid hq; clear hq)
        | (go_at_call 8; refine (awake_any _).mono ?_; rintro e w1 ⟨rfl, hb1⟩; have HB1 := Lib.hid hb1; clear hb1))
      go_ret
      exact ⟨rfl, hb0'.out.trans (HB1.out.mono (by rw [hg]; exact Nat.le_of_lt hlt))⟩
    · have h6' : decide ((600 : Int) < (xn : Int)) = false := by simp; omega
      have hR := row_any dir la ln lp ts W0 hl0'.out hd'.out hok'.out
      cases hr : rowS dir ts with
      | false =>
        rw [hr] at hR
        have hv' := Lib.hid hv
        have hV' := Lib.hid hV
        have hR' := Lib.hid hR
        have hr' := Lib.hid hr
        clear hv hV hR hr
        go_wp2_with (first
          | (go_at_call 7; refine (hV'.out).mono ?_; rintro e w' ⟨rfl, rfl⟩)
          | (go_at_call 16; refine (hR'.out).mono ?_; rintro e w8 ⟨rfl, hq⟩; have HTr := HT.out.mono hq; obtain ⟨d0, d1, d2, d3, hlt2⟩ := HTr; have Hq := Lib.hid hq; clear hq)
          | (go_at_call 14; refine ((rmay1_any dir xt xy xc xa xn xp xd _ (hs0'.out.mono Hq.out) hbx'.out hd'.out hxw'.out)).mono ?_; rintro e w9 ⟨rfl, hq⟩; rw [hm'.out]; have HTr9 := HT.out.mono (Hq.out.trans (hq.mono Hq.out.size)); obtain ⟨e0, e1, e2, e3, hlt3⟩ := HTr9; have Hq9 := Lib.hid hq; clear hq)
          | (go_at_call 8; refine (awake_any _).mono ?_; rintro e w1 ⟨rfl, hb1⟩; have HB1 := Lib.hid hb1; clear hb1))
        go_ret
        exact ⟨rfl, hb0'.out.trans ((Hq.out.trans (HB1.out.mono Hq.out.size)).mono (by rw [hg]; exact Nat.le_of_lt hlt))⟩
      | true =>
        rw [hr] at hR
        cases hm : tmayS dir xt xy xc xd with
        | false =>
          have hv' := Lib.hid hv
          have hV' := Lib.hid hV
          have hR' := Lib.hid hR
          have hr' := Lib.hid hr
          have hm' := Lib.hid hm
          clear hv hV hR hr hm
          go_wp2_with (first
            | (go_at_call 7; refine (hV'.out).mono ?_; rintro e w' ⟨rfl, rfl⟩)
            | (go_at_call 16; refine (hR'.out).mono ?_; rintro e w8 ⟨rfl, hq⟩; have HTr := HT.out.mono hq; obtain ⟨d0, d1, d2, d3, hlt2⟩ := HTr; have Hq := Lib.hid hq; clear hq)
            | (go_at_call 14; refine ((rmay1_any dir xt xy xc xa xn xp xd _ (hs0'.out.mono Hq.out) hbx'.out hd'.out hxw'.out)).mono ?_; rintro e w9 ⟨rfl, hq⟩; rw [hm'.out]; have HTr9 := HT.out.mono (Hq.out.trans (hq.mono Hq.out.size)); obtain ⟨e0, e1, e2, e3, hlt3⟩ := HTr9; have Hq9 := Lib.hid hq; clear hq)
            | (go_at_call 8; refine (awake_any _).mono ?_; rintro e w1 ⟨rfl, hb1⟩; have HB1 := Lib.hid hb1; clear hb1))
          go_ret
          exact ⟨rfl, hb0'.out.trans (((Hq.out.trans (Hq9.out.mono Hq.out.size)).trans (HB1.out.mono (Hq.out.trans (Hq9.out.mono Hq.out.size)).size)).mono (by rw [hg]; exact Nat.le_of_lt hlt))⟩
        | true =>
          have hv' := Lib.hid hv
          have hV' := Lib.hid hV
          have hR' := Lib.hid hR
          have hr' := Lib.hid hr
          have hm' := Lib.hid hm
          clear hv hV hR hr hm
          go_wp2_with (first
            | (go_at_call 7; refine (hV'.out).mono ?_; rintro e w' ⟨rfl, rfl⟩)
            | (go_at_call 16; refine (hR'.out).mono ?_; rintro e w8 ⟨rfl, hq⟩; have HTr := HT.out.mono hq; obtain ⟨d0, d1, d2, d3, hlt2⟩ := HTr; have Hq := Lib.hid hq; clear hq)
            | (go_at_call 14; refine ((rmay1_any dir xt xy xc xa xn xp xd _ (hs0'.out.mono Hq.out) hbx'.out hd'.out hxw'.out)).mono ?_; rintro e w9 ⟨rfl, hq⟩; rw [hm'.out]; have HTr9 := HT.out.mono (Hq.out.trans (hq.mono Hq.out.size)); obtain ⟨e0, e1, e2, e3, hlt3⟩ := HTr9; have Hq9 := Lib.hid hq; clear hq)
            | (go_at_call 8; refine (awake_any _).mono ?_; rintro e w1 ⟨rfl, hb1⟩; have HB1 := Lib.hid hb1; clear hb1))
          have hc0 := Hq.out.trans (Hq9.out.mono Hq.out.size)
          obtain ⟨zs, htr, hzm⟩ := Ts.tr hl0'.out
          obtain ⟨hv1, hv2⟩ := vast_no hv'.out
          have hzb := bnd htr hzm hv1
          have hpw := pw_of (row_rises hr'.out)
          have hln : ln ≤ 60 := by omega
          obtain ⟨b, v2, v3, vd, hf⟩ : ∃ b v2 v3 vd, findS ts xt = (b, v2, v3, vd) := ⟨_, _, _, _, rfl⟩
          have hS := set_ok hpw (xt, xy, xc, xd) hf
          have hxl : xd.length = xn := hs0'.out.ilen
          have hv3 : ∀ y ∈ setS ts (xt, xy, xc, xd), y.2.2.2.length ≤ 600 := fun y hy => by
            rcases mem_set hy with rfl | hy
            · show xd.length ≤ 600; omega
            · exact hv1 y hy
          have hok3 : ∀ y ∈ setS ts (xt, xy, xc, xd), TgOk y := fun y hy => by
            rcases mem_set hy with rfl | hy
            · exact ⟨hxw'.out, hbx'.out⟩
            · exact hok'.out y hy
          have hc0' := Lib.hid hc0
          have htr' := Lib.hid htr
          have hzm' := Lib.hid hzm
          have hv1' := Lib.hid hv1
          have hzb' := Lib.hid hzb
          have hpw' := Lib.hid hpw
          have hf' := Lib.hid hf
          have hS' := Lib.hid hS
          have hv3' := Lib.hid hv3
          have hok3' := Lib.hid hok3
          clear hc0 htr hzm hv1 hzb hpw hf hS hv3 hok3
          refine (set_s la ln lp zs xt xy xc xa xn xp xd w9 (htr'.out.mono hc0'.out) (by rw [hzm'.out]; exact hpw'.out) (by omega) hzb'.out (hs0'.out.mono hc0'.out) (by omega)).mono ?_
          rintro e w10 ⟨sa, sn, sc, zset, rfl, hset, hsm, hb10⟩
          rw [hzm'.out] at hsm
          have hc0 := hc0'.out.trans (hb10.mono hc0'.out.size)
          have hzsb := bnd hset hsm hv3'.out
          have hsn : zset.length = sn := hset.len
          have hsl : sn ≤ 100 := by
            have h1 : (setS ts (xt, xy, xc, xd)).length = sn := by rw [← hsm, List.length_map]; exact hsn
            cases b with
            | true => have := hS'.out.lenT rfl; omega
            | false => have := hS'.out.lenF rfl; omega
          have HT1 := HT.out.mono hc0
          clear c0 c1 c2 c3 d0 d1 d2 d3 e0 e1 e2 e3
          obtain ⟨c0, c1, c2, c3, hlt10⟩ := HT1
          clear hc0'
          have hset' := Lib.hid hset
          have hsm' := Lib.hid hsm
          have hc0' := Lib.hid hc0
          have hb10' := Lib.hid hb10
          have hzsb' := Lib.hid hzsb
          have hsn' := Lib.hid hsn
          clear hset hsm hc0 hb10 hzsb hsn
          go_wp2_with fail
          refine (find_s sa sn sc zset xt w10 hset'.out (by rw [hsm'.out]; exact hS'.out.pw) (by omega) hzsb'.out).mono ?_
          rintro e w11 ⟨b1, y2, y3, va, vn, vc, vd1, rfl, hv, hf1, hb11⟩
          rw [hsm'.out, hS'.out.found] at hf1
          simp only [Prod.mk.injEq] at hf1
          obtain ⟨rfl, rfl, rfl, rfl⟩ := hf1
          have hc0 := hc0'.out.trans (hb11.mono hc0'.out.size)
          have HT1 := HT.out.mono hc0
          clear c0 c1 c2 c3
          obtain ⟨c0, c1, c2, c3, hlt11⟩ := HT1
          clear hc0'
          have hc1 := hb11
          have hc0' := Lib.hid hc0
          have hb11' := Lib.hid hb11
          have hv' := Lib.hid hv
          have hc1' := Lib.hid hc1
          clear hc0 hb11 hv hc1
          go_wp2_with fail
          have hal := (Below.refl w11.heap.size w11).alloc (Nat.le_refl _) (.cells #[.int .i64 xy, .int .i64 xc, .slice va vn vc] 24)
          have hbk : Blk (w11.alloc (.cells #[.int .i64 xy, .int .i64 xc, .slice va vn vc] 24)) w11.heap.size 24 #[.int .i64 xy, .int .i64 xc, .slice va vn vc] := heap_new _ _
          obtain ⟨W11, hW⟩ : ∃ W, w11.alloc (.cells #[.int .i64 xy, .int .i64 xc, .slice va vn vc] 24) = W := ⟨_, rfl⟩
          obtain ⟨g8, hg8⟩ : ∃ g8, w11.heap.size = g8 := ⟨_, rfl⟩
          rw [hW] at hal hbk ⊢
          rw [hg8] at hbk ⊢
          clear hW hg8
          have hc0 := hc0'.out.trans (hal.mono hc0'.out.size)
          have hc1 := hc1'.out.trans (hal.mono hc1'.out.size)
          have hv := hv'.out.mono hal
          clear hc0' hc1' hv' hal
          have hc0' := Lib.hid hc0
          have hc1' := Lib.hid hc1
          have hv' := Lib.hid hv
          have hbk' := Lib.hid hbk
          clear hc0 hc1 hv hbk
          refine (find_s la ln lp zs xt W11 (htr'.out.mono hc0'.out) (by rw [hzm'.out]; exact hpw'.out) (by omega) hzb'.out).mono ?_
          rintro e w12 ⟨b2, u2, u3, wa, wn, wc, wd, rfl, hw, hf2, hb12⟩
          rw [hzm'.out, hf'.out] at hf2
          simp only [Prod.mk.injEq] at hf2
          obtain ⟨rfl, rfl, rfl, rfl⟩ := hf2
          have hc0 := hc0'.out.trans (hb12.mono hc0'.out.size)
          have hc1 := hc1'.out.trans (hb12.mono hc1'.out.size)
          have hc2 := hb12
          have HT1 := HT.out.mono hc0
          have b8 := hbk'.out.late hb12
          have hv := hv'.out.mono hb12
          obtain rfl : vn = xn := by have := hv.ilen; omega
          have hl8 : g8 < w12.heap.size := b8.lt
          have p0 : w12.cell? ⟨g8, 0, none⟩ = some (.int .i64 xy) := b8.cell rfl
          have p1 : w12.cell? ⟨g8, 1, none⟩ = some (.int .i64 xc) := b8.cell rfl
          have p2 : w12.cell? ⟨g8, 2, none⟩ = some (.slice va vn vc) := b8.cell rfl
          clear c0 c1 c2 c3
          obtain ⟨c0, c1, c2, c3, hlt12⟩ := HT1
          clear hc0' hc1' hbk' hv'
          have hc0' := Lib.hid hc0
          have hc1' := Lib.hid hc1
          have hc2' := Lib.hid hc2
          have hw' := Lib.hid hw
          have b8' := Lib.hid b8
          have hv' := Lib.hid hv
          clear hc0 hc1 hc2 hw b8 hv
          go_wp2_with fail
          have hal := (Below.refl w12.heap.size w12).alloc (Nat.le_refl _) (.cells #[.int .i64 v2, .int .i64 v3, .slice wa wn wc] 24)
          have hbk : Blk (w12.alloc (.cells #[.int .i64 v2, .int .i64 v3, .slice wa wn wc] 24)) w12.heap.size 24 #[.int .i64 v2, .int .i64 v3, .slice wa wn wc] := heap_new _ _
          obtain ⟨W12, hW⟩ : ∃ W, w12.alloc (.cells #[.int .i64 v2, .int .i64 v3, .slice wa wn wc] 24) = W := ⟨_, rfl⟩
          obtain ⟨g10, hg8⟩ : ∃ g8, w12.heap.size = g8 := ⟨_, rfl⟩
          rw [hW] at hal hbk ⊢
          rw [hg8] at hbk ⊢
          clear hW hg8
          have hc0 := hc0'.out.trans (hal.mono hc0'.out.size)
          have hc1 := hc1'.out.trans (hal.mono hc1'.out.size)
          have hw := hw'.out.mono hal
          have hv := hv'.out.mono hal
          have b8 := b8'.out.late hal
          clear hc0' hc1' hv' hw' b8' hal p0 p1 p2
          have hc0' := Lib.hid hc0
          have hc1' := Lib.hid hc1
          have hw' := Lib.hid hw
          have hbk' := Lib.hid hbk
          clear hc0 hc1 hw hbk
          refine (tsame_eq xy xc va xa vn vc xp xd W12 hv (hs0'.out.mono hc0'.out)).mono ?_
          rintro e w13 ⟨rfl, hb13⟩
          have hc0 := hc0'.out.trans (hb13.mono hc0'.out.size)
          have hc1 := hc1'.out.trans (hb13.mono hc1'.out.size)
          have hc2 := hb13
          clear hc0' hc1' hv b8
          have hc0' := Lib.hid hc0
          have hc1' := Lib.hid hc1
          have hc2' := Lib.hid hc2
          clear hc0 hc1 hc2
          go_wp2_with fail
          refine (row_any dir sa sn sc (zset.map tag) w13 (hset'.out.mono hc1'.out).ts hd'.out (by rw [hsm'.out]; exact hok3'.out)).mono ?_
          rw [hsm'.out, row_set (x := (xt, xy, xc, xd)) hr'.out hm'.out hS'.out.pw]
          rintro e w14 ⟨rfl, hb14⟩
          have hc0 := hc0'.out.trans (hb14.mono hc0'.out.size)
          have hc1 := hc1'.out.trans (hb14.mono hc1'.out.size)
          have hc2 := hc2'.out.trans (hb14.mono hc2'.out.size)
          clear hc0' hc1' hc2'
          have hc0' := Lib.hid hc0
          have hc1' := Lib.hid hc1
          have hc2' := Lib.hid hc2
          clear hc0 hc1 hc2
          have hsn2 : (setS ts (xt, xy, xc, xd)).length = sn := by rw [← hsm'.out, List.length_map]; exact hsn'.out
          have hrow2 := Lib.hid (row_set (x := (xt, xy, xc, xd)) hr'.out hm'.out hS'.out.pw)
          clear c0 c1 c2 c3 hlt12 hlt11 hlt10
          cases b with
          | true =>
            have hlenS := hS'.out.lenT rfl
            obtain rfl : ln = sn := by omega
            have hne : ((ln : Int) != (ln : Int)) = false := by simp
            go_wp2_with fail
            go_loopw [12] (fun iv wr => ∃ i : Nat, i ≤ ln ∧ iv = .int .i64 i ∧ Hid (Below w14.heap.size w14 wr)) (fun iv _ => ln - (intOf iv).toNat)
            case atStart => exact ⟨0, by omega, rfl, Lib.hid (Below.refl _ _)⟩
            case round =>
              obtain ⟨i, hin, rfl, hbr⟩ := hrel
              have hc0 := hc0'.out.trans (hbr.out.mono hc0'.out.size)
              have hc1 := hc1'.out.trans (hbr.out.mono hc1'.out.size)
              have hc2 := hc2'.out.trans (hbr.out.mono hc2'.out.size)
              clear hc0' hc1' hc2'
              have hc0' := Lib.hid hc0
              have hc1' := Lib.hid hc1
              have hc2' := Lib.hid hc2
              clear hc0 hc1 hc2
              have HT1 := HT.out.mono hc0'.out
              obtain ⟨c0, c1, c2, c3, hltr⟩ := HT1
              by_cases hi : i < ln
              · have hil : (i : Int) < (ln : Int) := by omega
                have hww : IntKind.i64.wrap ((i : Int) + 1) = i + 1 := by rw [IntKind.wrap_i64]; omega
                obtain ⟨bl, o, rfl, hblt, f0, f1, f2, f3, hrd⟩ := (htr'.out.mono hc0'.out).at hi
                have hzl : i < zs.length := by rw [htr'.out.len]; exact hi
                have hmem : tag (zs.getD i tz0) ∈ ts := by rw [← hzm'.out]; exact List.mem_map_of_mem (getD_mem hzl)
                obtain ⟨q, hq1, hq2⟩ := hS'.out.each _ hmem
                obtain ⟨⟨⟨y, ty, k, ya, yn, yc⟩, yd⟩, hzi⟩ : ∃ z, zs.getD i tz0 = z := ⟨_, rfl⟩
                rw [hzi] at f0 f1 f2 f3 hrd hq1 hq2
                simp only at f0 f1 f2 f3
                change Sl wr ya yn yc 1 (ints .u8 yd) at hrd
                have hmem' := Lib.hid hmem
                have hzl' := Lib.hid hzl
                have hzi' := Lib.hid hzi
                have hrd' := Lib.hid hrd
                have hq1' := Lib.hid hq1
                have hq2' := Lib.hid hq2
                clear hmem hzl hzi hrd hq1 hq2
                go_wp2_with fail
                refine (find_s sa _ sc zset y wr (hset'.out.mono hc1'.out) (by rw [hsm'.out]; exact hS'.out.pw) (by omega) hzsb'.out).mono ?_
                rintro e w15 ⟨b3, q2, q3, ra, rn, rc, rd, rfl, hrr, hf3, hb15⟩
                have hq1 : findS (setS ts (xt, xy, xc, xd)) y = (true, q) := hq1'.out
                rw [hsm'.out, hq1] at hf3
                simp only [Prod.mk.injEq] at hf3
                obtain ⟨rfl, rfl⟩ := hf3
                have hq2 : y ≠ xt → (q2, q3, rd) = (ty, k, yd) := hq2'.out
                have g0 := late hb15 hblt f0
                have g1 := late hb15 hblt f1
                have g2 := late hb15 hblt f2
                have g3 := late hb15 hblt f3
                have hblt2 := Nat.lt_of_lt_of_le hblt hb15.size
                have hltr2 := Nat.lt_of_lt_of_le hltr hb15.size
                have k0 := late hb15 hltr c0
                have hrd2 := hrd'.out.mono hb15
                clear f0 f1 f2 f3 c0 c1 c2 c3 hq1' hq2'
                have hq1' := Lib.hid hq1
                have hq2' := Lib.hid hq2
                have hrr' := Lib.hid hrr
                have hrd2' := Lib.hid hrd2
                have hb15' := Lib.hid hb15
                clear hq1 hq2 hrr hrd2 hb15
                go_wp2_with fail
                have hal := (Below.refl w15.heap.size w15).alloc (Nat.le_refl _) (.cells #[.int .i64 q2, .int .i64 q3, .slice ra rn rc] 24)
                have hbk : Blk (w15.alloc (.cells #[.int .i64 q2, .int .i64 q3, .slice ra rn rc] 24)) w15.heap.size 24 #[.int .i64 q2, .int .i64 q3, .slice ra rn rc] := heap_new _ _
                obtain ⟨W15, hW⟩ : ∃ W, w15.alloc (.cells #[.int .i64 q2, .int .i64 q3, .slice ra rn rc] 24) = W := ⟨_, rfl⟩
                obtain ⟨g13, hg8⟩ : ∃ g8, w15.heap.size = g8 := ⟨_, rfl⟩
                rw [hW] at hal hbk ⊢
                rw [hg8] at hbk ⊢
                clear hW hg8
                have hend := hb15'.out.trans (hal.mono hb15'.out.size)
                have hrr3 := hrr'.out.mono hal
                have hrd3 := hrd2'.out.mono hal
                have hbl3 := Nat.lt_of_lt_of_le hblt2 hal.size
                have hl3 := Nat.lt_of_lt_of_le hltr2 hal.size
                have hg13 : g13 < W15.heap.size := hbk.lt
                obtain ⟨Ty, f, hne, hbel, hsurj⟩ := later_worlds W15
                have m0 : ∀ s, (f s).cell? ⟨bl, o + i * 4, none⟩ = some (.int .i64 y) := fun s => late (hbel s) hbl3 (late hal hblt2 g0)
                have m1 : ∀ s, (f s).cell? ⟨bl, o + i * 4 + 1, none⟩ = some (.int .i64 ty) := fun s => late (hbel s) hbl3 (late hal hblt2 g1)
                have m2 : ∀ s, (f s).cell? ⟨bl, o + i * 4 + 2, none⟩ = some (.int .i64 k) := fun s => late (hbel s) hbl3 (late hal hblt2 g2)
                have m3 : ∀ s, (f s).cell? ⟨bl, o + i * 4 + 3, none⟩ = some (.slice ya yn yc) := fun s => late (hbel s) hbl3 (late hal hblt2 g3)
                have n0 : ∀ s, (f s).cell? ⟨g, 0, none⟩ = some (.int .i64 xt) := fun s => late (hbel s) hl3 (late hal hltr2 k0)
                have t0 : ∀ s, (f s).cell? ⟨g13, 0, none⟩ = some (.int .i64 q2) := fun s => late (hbel s) hg13 (hbk.cell rfl)
                have t1 : ∀ s, (f s).cell? ⟨g13, 1, none⟩ = some (.int .i64 q3) := fun s => late (hbel s) hg13 (hbk.cell rfl)
                have t2 : ∀ s, (f s).cell? ⟨g13, 2, none⟩ = some (.slice ra rn rc) := fun s => late (hbel s) hg13 (hbk.cell rfl)
                have HS := Lib.hid (hsurj _ ((Below.refl _ _).drew))
                clear g0 g1 g2 g3 k0 hal hbk
                by_cases hyx : y = xt
                · have hyn : (y != xt) = false := by simp [hyx]
                  have hbel' := Lib.hid hbel
                  have hsurj' := Lib.hid hsurj
                  have hend' := Lib.hid hend
                  have hrr3' := Lib.hid hrr3
                  have hrd3' := Lib.hid hrd3
                  have hyx' := Lib.hid hyx
                  clear hbel hsurj hend hrr3 hrd3 hyx
                  refine wp_quiet_in f (by kernel_rfl) (by kernel_rfl) HS.out ?_
                  iterate 22 (go_big_quiet_step ((go_at_call 28; refine (tsame_eq q2 q3 ra ya rn rc yc rd _ (hrr3'.out.mono (hbel'.out _)) (hrd3'.out.mono (hbel'.out _))).mono ?_; rintro e w9 ⟨rfl, hb9⟩; exact ⟨rfl, hsurj'.out _ ((hbel'.out _).trans (hb9.mono (hbel'.out _).size))⟩)))
                  refine wpQuiet_nil ?_
                  intro s
                  have hfs := hend'.out.trans ((hbel'.out s).mono hend'.out.size)
                  clear m0 m1 m2 m3 n0 t0 t1 t2
                  have hfs' := Lib.hid hfs
                  clear hfs
                  go_wp2_with fail
                  go_roundw
                  case rel => exact ⟨i + 1, by omega, by go_num, Lib.hid (hbr.out.trans (hfs'.out.mono hbr.out.size))⟩
                  case measure => simp [intOf]; omega
                · have hyn : (y != xt) = true := by simp [hyx]
                  have he := hq2'.out hyx
                  simp only [Prod.mk.injEq] at he
                  obtain ⟨rfl, rfl, rfl⟩ := he
                  obtain rfl : rn = yn := by have h1 := hrr3.ilen; have h2 := hrd3.ilen; omega
                  have hbel' := Lib.hid hbel
                  have hsurj' := Lib.hid hsurj
                  have hend' := Lib.hid hend
                  have hrr3' := Lib.hid hrr3
                  have hrd3' := Lib.hid hrd3
                  have hyx' := Lib.hid hyx
                  clear hbel hsurj hend hrr3 hrd3 hyx
                  refine wp_quiet_in f (by kernel_rfl) (by kernel_rfl) HS.out ?_
                  iterate 22 (go_big_quiet_step ((go_at_call 28; refine (tsame_eq q2 q3 ra ya rn rc yc rd _ (hrr3'.out.mono (hbel'.out _)) (hrd3'.out.mono (hbel'.out _))).mono ?_; rintro e w9 ⟨rfl, hb9⟩; exact ⟨rfl, hsurj'.out _ ((hbel'.out _).trans (hb9.mono (hbel'.out _).size))⟩)))
                  refine wpQuiet_nil ?_
                  intro s
                  have hfs := hend'.out.trans ((hbel'.out s).mono hend'.out.size)
                  clear m0 m1 m2 m3 n0 t0 t1 t2
                  have hfs' := Lib.hid hfs
                  clear hfs
                  go_wp2_with fail
                  go_roundw
                  case rel => exact ⟨i + 1, by omega, by go_num, Lib.hid (hbr.out.trans (hfs'.out.mono hbr.out.size))⟩
                  case measure => simp [intOf]; omega
              · obtain rfl : i = ln := by omega
                have hdi : decide ((i : Int) < (i : Int)) = false := by simp
                go_wp2_with fail
                refine (drop_s sa _ sc zset xt wr (hset'.out.mono hc1'.out) (by rw [hsm'.out]; exact hS'.out.pw) (by omega) hzsb'.out).mono ?_
                rintro e w16 ⟨da, dn, dc, zd, rfl, hdr, hdm, hb16⟩
                rw [hsm'.out] at hdm
                have hdn : (dropS (setS ts (xt, xy, xc, xd)) xt).length = dn := by rw [← hdm, List.length_map]; exact hdr.len
                have hld := hS'.out.lend
                have hdzb := bnd hdr hdm (fun y hy => hv3'.out y (List.mem_filter.1 hy).1)
                have hdok : ∀ y ∈ zd.map tag, TgOk y := fun y hy => hok3'.out y (by rw [hdm] at hy; exact (List.mem_filter.1 hy).1)
                have hdn2 : dn + 1 = (setS ts (xt, xy, xc, xd)).length := by rw [← hdn]; exact hld
                have hc0 := hc0'.out.trans (hb16.mono hc0'.out.size)
                have hc1 := hc1'.out.trans (hb16.mono hc1'.out.size)
                have hc2 := hc2'.out.trans (hb16.mono hc2'.out.size)
                clear hc0' hc1' hc2'
                have hc0' := Lib.hid hc0
                have hc1' := Lib.hid hc1
                have hc2' := Lib.hid hc2
                clear hc0 hc1 hc2
                have HT1 := HT.out.mono hc0'.out
                clear c0 c1 c2 c3 hltr hdn hld
                obtain ⟨c0, c1, c2, c3, hltr⟩ := HT1
                have hdr' := Lib.hid hdr
                have hdm' := Lib.hid hdm
                have hdzb' := Lib.hid hdzb
                have hdok' := Lib.hid hdok
                have hb16' := Lib.hid hb16
                clear hdr hdm hdzb hdok hb16
                go_wp2_with fail
                refine (find_s da dn dc zd xt w16 hdr'.out (by rw [hdm'.out]; exact hS'.out.pwd) (by omega) hdzb'.out).mono ?_
                rintro e w17 ⟨b4, q2, q3, ra, rn, rc, rd, rfl, hrr, hf4, hb17⟩
                rw [hdm'.out, hS'.out.gone] at hf4
                simp only [Prod.mk.injEq] at hf4
                obtain ⟨rfl, rfl, rfl, rfl⟩ := hf4
                have hc3 := hb17
                have hc0 := hc0'.out.trans (hb17.mono hc0'.out.size)
                have hc1 := hc1'.out.trans (hb17.mono hc1'.out.size)
                have hc2 := hc2'.out.trans (hb17.mono hc2'.out.size)
                clear hc0' hc1' hc2'
                have hc0' := Lib.hid hc0
                have hc1' := Lib.hid hc1
                have hc2' := Lib.hid hc2
                clear hc0 hc1 hc2
                clear c0 c1 c2 c3 hltr hrr
                have hc3' := Lib.hid hc3
                clear hc3
                go_wp2_with fail
                have hal := (Below.refl w17.heap.size w17).alloc (Nat.le_refl _) (.cells #[.int .i64 0, .int .i64 0, .slice ra rn rc] 24)
                have hbk : Blk (w17.alloc (.cells #[.int .i64 0, .int .i64 0, .slice ra rn rc] 24)) w17.heap.size 24 #[.int .i64 0, .int .i64 0, .slice ra rn rc] := heap_new _ _
                obtain ⟨W17, hW⟩ : ∃ W, w17.alloc (.cells #[.int .i64 0, .int .i64 0, .slice ra rn rc] 24) = W := ⟨_, rfl⟩
                obtain ⟨g16, hg8⟩ : ∃ g8, w17.heap.size = g8 := ⟨_, rfl⟩
                rw [hW] at hal hbk ⊢
                rw [hg8] at hbk ⊢
                clear hW hg8
                have hc0 := hc0'.out.trans (hal.mono hc0'.out.size)
                have hc1 := hc1'.out.trans (hal.mono hc1'.out.size)
                have hc2 := hc2'.out.trans (hal.mono hc2'.out.size)
                clear hc0' hc1' hc2'
                have hc0' := Lib.hid hc0
                have hc1' := Lib.hid hc1
                have hc2' := Lib.hid hc2
                clear hc0 hc1 hc2
                have hc3 := hc3'.out.trans (hal.mono hc3'.out.size)
                clear hc3' hal hbk
                have hc3' := Lib.hid hc3
                clear hc3
                refine (row_any dir da dn dc (zd.map tag) W17 (hdr'.out.mono hc3'.out).ts hd'.out hdok'.out).mono ?_
                rw [hdm'.out, row_drop hrow2.out hS'.out.pwd]
                rintro e w18 ⟨rfl, hb18⟩
                have hc0 := hc0'.out.trans (hb18.mono hc0'.out.size)
                have hc1 := hc1'.out.trans (hb18.mono hc1'.out.size)
                have hc2 := hc2'.out.trans (hb18.mono hc2'.out.size)
                clear hc0' hc1' hc2'
                have hc0' := Lib.hid hc0
                have hc1' := Lib.hid hc1
                have hc2' := Lib.hid hc2
                clear hc0 hc1 hc2
                have hc3 := hc3'.out.trans (hb18.mono hc3'.out.size)
                clear hc3'
                have HT1 := HT.out.mono hc0'.out
                obtain ⟨c0, c1, c2, c3, hltr⟩ := HT1
                have hc3' := Lib.hid hc3
                have hb18' := Lib.hid hb18
                clear hc3 hb18
                have hi1 : dn + 1 = i := by omega
                have hsw : IntKind.i64.wrap ((i : Int) - 1) = i - 1 := by rw [IntKind.wrap_i64]; omega
                have hsd : ((dn : Int) != (i : Int) - 1) = false := by simp; omega
                go_wp2_with fail
                refine (drop_s la _ lp zs xt w18 (htr'.out.mono hc0'.out) (by rw [hzm'.out]; exact hpw'.out) (by omega) hzb'.out).mono ?_
                rintro e w19 ⟨ea, en, ec, ze, rfl, hze, hem, hb19⟩
                rw [hzm'.out] at hem
                have hc0 := hc0'.out.trans (hb19.mono hc0'.out.size)
                have hc1 := hc1'.out.trans (hb19.mono hc1'.out.size)
                have hc2 := hc2'.out.trans (hb19.mono hc2'.out.size)
                clear hc0' hc1' hc2'
                have hc0' := Lib.hid hc0
                have hc1' := Lib.hid hc1
                have hc2' := Lib.hid hc2
                clear hc0 hc1 hc2
                have hc3 := hc3'.out.trans (hb19.mono hc3'.out.size)
                clear hc3' c0 c1 c2 c3 hltr
                have hc3' := Lib.hid hc3
                clear hc3
                go_wp2_with fail
                refine (tags_eq da ea dn dc en ec zd ze w19 (hdr'.out.mono hc3'.out) hze (by rw [hdm'.out, hem]; exact hS'.out.same)).mono ?_
                rintro e w20 ⟨rfl, hb20⟩
                have hc0 := hc0'.out.trans (hb20.mono hc0'.out.size)
                have hc1 := hc1'.out.trans (hb20.mono hc1'.out.size)
                have hc2 := hc2'.out.trans (hb20.mono hc2'.out.size)
                clear hc0' hc1' hc2'
                have hc0' := Lib.hid hc0
                have hc1' := Lib.hid hc1
                have hc2' := Lib.hid hc2
                clear hc0 hc1 hc2
                have hc3 := hc3'.out.trans (hb20.mono hc3'.out.size)
                clear hc3' hze hem
                have hc3' := Lib.hid hc3
                clear hc3
                have HT1 := HT.out.mono hc0'.out
                obtain ⟨c0, c1, c2, c3, hltr⟩ := HT1
                have b10 := hbk'.out.late hc2'.out
                have p0 : w20.cell? ⟨g10, 0, none⟩ = some (.int .i64 v2) := b10.cell rfl
                have p1 : w20.cell? ⟨g10, 1, none⟩ = some (.int .i64 v3) := b10.cell rfl
                have p2 : w20.cell? ⟨g10, 2, none⟩ = some (.slice wa wn wc) := b10.cell rfl
                have hw20 := hw'.out.mono hc2'.out
                have hwn : wn ≤ 600 := by
                  have h1 := hw20.ilen
                  have h2 := find_len hf'.out hv1'.out
                  omega
                have b10' := Lib.hid b10
                have hw20' := Lib.hid hw20
                clear b10 hw20
                go_wp2_with fail
                refine (set_s da dn dc zd xt v2 v3 wa wn wc vd w20 (hdr'.out.mono hc3'.out) (by rw [hdm'.out]; exact hS'.out.pwd) (by omega) hdzb'.out hw20'.out (by omega)).mono ?_
                rintro e w21 ⟨fa, fn, fc, zf, rfl, hzf, hfm, hb21⟩
                rw [hdm'.out] at hfm
                have hfm := hfm.trans (hS'.out.backT rfl)
                have hc0 := hc0'.out.trans (hb21.mono hc0'.out.size)
                have hc1 := hc1'.out.trans (hb21.mono hc1'.out.size)
                have hc2 := hc2'.out.trans (hb21.mono hc2'.out.size)
                clear hc0' hc1' hc2'
                have hc0' := Lib.hid hc0
                have hc1' := Lib.hid hc1
                have hc2' := Lib.hid hc2
                clear hc0 hc1 hc2
                clear p0 p1 p2 c0 c1 c2 c3 hltr
                have hzf' := Lib.hid hzf
                have hfm' := Lib.hid hfm
                clear hzf hfm
                go_wp2_with fail
                refine (tags_eq fa la fn fc _ lp zf zs w21 hzf'.out (htr'.out.mono hc0'.out) (by rw [hfm'.out, hzm'.out])).mono ?_
                rintro e w22 ⟨rfl, hb22⟩
                have hc0 := hc0'.out.trans (hb22.mono hc0'.out.size)
                have hc1 := hc1'.out.trans (hb22.mono hc1'.out.size)
                have hc2 := hc2'.out.trans (hb22.mono hc2'.out.size)
                clear hc0' hc1' hc2'
                have hc0' := Lib.hid hc0
                have hc1' := Lib.hid hc1
                have hc2' := Lib.hid hc2
                clear hc0 hc1 hc2
                go_wp2_with (go_at_call 8; refine (awake_any _).mono ?_; rintro e w30 ⟨rfl, hb30⟩; have HB1 := Lib.hid hb30; clear hb30)
                go_ret
                exact ⟨rfl, hb0'.out.trans ((hc0'.out.trans (HB1.out.mono hc0'.out.size)).mono (by rw [hg]; exact Nat.le_of_lt hlt))⟩
          | false =>
            have hlenS := hS'.out.lenF rfl
            obtain rfl : sn = ln + 1 := by omega
            have hwl : IntKind.i64.wrap ((ln : Int) + 1) = ln + 1 := by rw [IntKind.wrap_i64]; omega
            have hne : (((ln + 1 : Nat) : Int) != (ln : Int) + 1) = false := by simp
            have hne2 : ((ln : Int) + 1 != (ln : Int) + 1) = false := by simp
            go_wp2_with fail
            go_loopw [12] (fun iv wr => ∃ i : Nat, i ≤ ln ∧ iv = .int .i64 i ∧ Hid (Below w14.heap.size w14 wr)) (fun iv _ => ln - (intOf iv).toNat)
            case atStart => exact ⟨0, by omega, rfl, Lib.hid (Below.refl _ _)⟩
            case round =>
              obtain ⟨i, hin, rfl, hbr⟩ := hrel
              have hc0 := hc0'.out.trans (hbr.out.mono hc0'.out.size)
              have hc1 := hc1'.out.trans (hbr.out.mono hc1'.out.size)
              have hc2 := hc2'.out.trans (hbr.out.mono hc2'.out.size)
              clear hc0' hc1' hc2'
              have hc0' := Lib.hid hc0
              have hc1' := Lib.hid hc1
              have hc2' := Lib.hid hc2
              clear hc0 hc1 hc2
              have HT1 := HT.out.mono hc0'.out
              obtain ⟨c0, c1, c2, c3, hltr⟩ := HT1
              by_cases hi : i < ln
              · have hil : (i : Int) < (ln : Int) := by omega
                have hww : IntKind.i64.wrap ((i : Int) + 1) = i + 1 := by rw [IntKind.wrap_i64]; omega
                obtain ⟨bl, o, rfl, hblt, f0, f1, f2, f3, hrd⟩ := (htr'.out.mono hc0'.out).at hi
                have hzl : i < zs.length := by rw [htr'.out.len]; exact hi
                have hmem : tag (zs.getD i tz0) ∈ ts := by rw [← hzm'.out]; exact List.mem_map_of_mem (getD_mem hzl)
                obtain ⟨q, hq1, hq2⟩ := hS'.out.each _ hmem
                obtain ⟨⟨⟨y, ty, k, ya, yn, yc⟩, yd⟩, hzi⟩ : ∃ z, zs.getD i tz0 = z := ⟨_, rfl⟩
                rw [hzi] at f0 f1 f2 f3 hrd hq1 hq2
                simp only at f0 f1 f2 f3
                change Sl wr ya yn yc 1 (ints .u8 yd) at hrd
                have hmem' := Lib.hid hmem
                have hzl' := Lib.hid hzl
                have hzi' := Lib.hid hzi
                have hrd' := Lib.hid hrd
                have hq1' := Lib.hid hq1
                have hq2' := Lib.hid hq2
                clear hmem hzl hzi hrd hq1 hq2
                go_wp2_with fail
                refine (find_s sa _ sc zset y wr (hset'.out.mono hc1'.out) (by rw [hsm'.out]; exact hS'.out.pw) (by omega) hzsb'.out).mono ?_
                rintro e w15 ⟨b3, q2, q3, ra, rn, rc, rd, rfl, hrr, hf3, hb15⟩
                have hq1 : findS (setS ts (xt, xy, xc, xd)) y = (true, q) := hq1'.out
                rw [hsm'.out, hq1] at hf3
                simp only [Prod.mk.injEq] at hf3
                obtain ⟨rfl, rfl⟩ := hf3
                have hq2 : y ≠ xt → (q2, q3, rd) = (ty, k, yd) := hq2'.out
                have g0 := late hb15 hblt f0
                have g1 := late hb15 hblt f1
                have g2 := late hb15 hblt f2
                have g3 := late hb15 hblt f3
                have hblt2 := Nat.lt_of_lt_of_le hblt hb15.size
                have hltr2 := Nat.lt_of_lt_of_le hltr hb15.size
                have k0 := late hb15 hltr c0
                have hrd2 := hrd'.out.mono hb15
                clear f0 f1 f2 f3 c0 c1 c2 c3 hq1' hq2'
                have hq1' := Lib.hid hq1
                have hq2' := Lib.hid hq2
                have hrr' := Lib.hid hrr
                have hrd2' := Lib.hid hrd2
                have hb15' := Lib.hid hb15
                clear hq1 hq2 hrr hrd2 hb15
                go_wp2_with fail
                have hal := (Below.refl w15.heap.size w15).alloc (Nat.le_refl _) (.cells #[.int .i64 q2, .int .i64 q3, .slice ra rn rc] 24)
                have hbk : Blk (w15.alloc (.cells #[.int .i64 q2, .int .i64 q3, .slice ra rn rc] 24)) w15.heap.size 24 #[.int .i64 q2, .int .i64 q3, .slice ra rn rc] := heap_new _ _
                obtain ⟨W15, hW⟩ : ∃ W, w15.alloc (.cells #[.int .i64 q2, .int .i64 q3, .slice ra rn rc] 24) = W := ⟨_, rfl⟩
                obtain ⟨g13, hg8⟩ : ∃ g8, w15.heap.size = g8 := ⟨_, rfl⟩
                rw [hW] at hal hbk ⊢
                rw [hg8] at hbk ⊢
                clear hW hg8
                have hend := hb15'.out.trans (hal.mono hb15'.out.size)
                have hrr3 := hrr'.out.mono hal
                have hrd3 := hrd2'.out.mono hal
                have hbl3 := Nat.lt_of_lt_of_le hblt2 hal.size
                have hl3 := Nat.lt_of_lt_of_le hltr2 hal.size
                have hg13 : g13 < W15.heap.size := hbk.lt
                obtain ⟨Ty, f, hne, hbel, hsurj⟩ := later_worlds W15
                have m0 : ∀ s, (f s).cell? ⟨bl, o + i * 4, none⟩ = some (.int .i64 y) := fun s => late (hbel s) hbl3 (late hal hblt2 g0)
                have m1 : ∀ s, (f s).cell? ⟨bl, o + i * 4 + 1, none⟩ = some (.int .i64 ty) := fun s => late (hbel s) hbl3 (late hal hblt2 g1)
                have m2 : ∀ s, (f s).cell? ⟨bl, o + i * 4 + 2, none⟩ = some (.int .i64 k) := fun s => late (hbel s) hbl3 (late hal hblt2 g2)
                have m3 : ∀ s, (f s).cell? ⟨bl, o + i * 4 + 3, none⟩ = some (.slice ya yn yc) := fun s => late (hbel s) hbl3 (late hal hblt2 g3)
                have n0 : ∀ s, (f s).cell? ⟨g, 0, none⟩ = some (.int .i64 xt) := fun s => late (hbel s) hl3 (late hal hltr2 k0)
                have t0 : ∀ s, (f s).cell? ⟨g13, 0, none⟩ = some (.int .i64 q2) := fun s => late (hbel s) hg13 (hbk.cell rfl)
                have t1 : ∀ s, (f s).cell? ⟨g13, 1, none⟩ = some (.int .i64 q3) := fun s => late (hbel s) hg13 (hbk.cell rfl)
                have t2 : ∀ s, (f s).cell? ⟨g13, 2, none⟩ = some (.slice ra rn rc) := fun s => late (hbel s) hg13 (hbk.cell rfl)
                have HS := Lib.hid (hsurj _ ((Below.refl _ _).drew))
                clear g0 g1 g2 g3 k0 hal hbk
                by_cases hyx : y = xt
                · have hyn : (y != xt) = false := by simp [hyx]
                  have hbel' := Lib.hid hbel
                  have hsurj' := Lib.hid hsurj
                  have hend' := Lib.hid hend
                  have hrr3' := Lib.hid hrr3
                  have hrd3' := Lib.hid hrd3
                  have hyx' := Lib.hid hyx
                  clear hbel hsurj hend hrr3 hrd3 hyx
                  refine wp_quiet_in f (by kernel_rfl) (by kernel_rfl) HS.out ?_
                  iterate 22 (go_big_quiet_step ((go_at_call 28; refine (tsame_eq q2 q3 ra ya rn rc yc rd _ (hrr3'.out.mono (hbel'.out _)) (hrd3'.out.mono (hbel'.out _))).mono ?_; rintro e w9 ⟨rfl, hb9⟩; exact ⟨rfl, hsurj'.out _ ((hbel'.out _).trans (hb9.mono (hbel'.out _).size))⟩)))
                  refine wpQuiet_nil ?_
                  intro s
                  have hfs := hend'.out.trans ((hbel'.out s).mono hend'.out.size)
                  clear m0 m1 m2 m3 n0 t0 t1 t2
                  have hfs' := Lib.hid hfs
                  clear hfs
                  go_wp2_with fail
                  go_roundw
                  case rel => exact ⟨i + 1, by omega, by go_num, Lib.hid (hbr.out.trans (hfs'.out.mono hbr.out.size))⟩
                  case measure => simp [intOf]; omega
                · have hyn : (y != xt) = true := by simp [hyx]
                  have he := hq2'.out hyx
                  simp only [Prod.mk.injEq] at he
                  obtain ⟨rfl, rfl, rfl⟩ := he
                  obtain rfl : rn = yn := by have h1 := hrr3.ilen; have h2 := hrd3.ilen; omega
                  have hbel' := Lib.hid hbel
                  have hsurj' := Lib.hid hsurj
                  have hend' := Lib.hid hend
                  have hrr3' := Lib.hid hrr3
                  have hrd3' := Lib.hid hrd3
                  have hyx' := Lib.hid hyx
                  clear hbel hsurj hend hrr3 hrd3 hyx
                  refine wp_quiet_in f (by kernel_rfl) (by kernel_rfl) HS.out ?_
                  iterate 22 (go_big_quiet_step ((go_at_call 28; refine (tsame_eq q2 q3 ra ya rn rc yc rd _ (hrr3'.out.mono (hbel'.out _)) (hrd3'.out.mono (hbel'.out _))).mono ?_; rintro e w9 ⟨rfl, hb9⟩; exact ⟨rfl, hsurj'.out _ ((hbel'.out _).trans (hb9.mono (hbel'.out _).size))⟩)))
                  refine wpQuiet_nil ?_
                  intro s
                  have hfs := hend'.out.trans ((hbel'.out s).mono hend'.out.size)
                  clear m0 m1 m2 m3 n0 t0 t1 t2
                  have hfs' := Lib.hid hfs
                  clear hfs
                  go_wp2_with fail
                  go_roundw
                  case rel => exact ⟨i + 1, by omega, by go_num, Lib.hid (hbr.out.trans (hfs'.out.mono hbr.out.size))⟩
                  case measure => simp [intOf]; omega
              · obtain rfl : i = ln := by omega
                have hdi : decide ((i : Int) < (i : Int)) = false := by simp
                go_wp2_with fail
                refine (drop_s sa _ sc zset xt wr (hset'.out.mono hc1'.out) (by rw [hsm'.out]; exact hS'.out.pw) (by omega) hzsb'.out).mono ?_
                rintro e w16 ⟨da, dn, dc, zd, rfl, hdr, hdm, hb16⟩
                rw [hsm'.out] at hdm
                have hdn : (dropS (setS ts (xt, xy, xc, xd)) xt).length = dn := by rw [← hdm, List.length_map]; exact hdr.len
                have hld := hS'.out.lend
                have hdzb := bnd hdr hdm (fun y hy => hv3'.out y (List.mem_filter.1 hy).1)
                have hdok : ∀ y ∈ zd.map tag, TgOk y := fun y hy => hok3'.out y (by rw [hdm] at hy; exact (List.mem_filter.1 hy).1)
                have hdn2 : dn + 1 = (setS ts (xt, xy, xc, xd)).length := by rw [← hdn]; exact hld
                have hc0 := hc0'.out.trans (hb16.mono hc0'.out.size)
                have hc1 := hc1'.out.trans (hb16.mono hc1'.out.size)
                have hc2 := hc2'.out.trans (hb16.mono hc2'.out.size)
                clear hc0' hc1' hc2'
                have hc0' := Lib.hid hc0
                have hc1' := Lib.hid hc1
                have hc2' := Lib.hid hc2
                clear hc0 hc1 hc2
                have HT1 := HT.out.mono hc0'.out
                clear c0 c1 c2 c3 hltr hdn hld
                obtain ⟨c0, c1, c2, c3, hltr⟩ := HT1
                have hdr' := Lib.hid hdr
                have hdm' := Lib.hid hdm
                have hdzb' := Lib.hid hdzb
                have hdok' := Lib.hid hdok
                have hb16' := Lib.hid hb16
                clear hdr hdm hdzb hdok hb16
                go_wp2_with fail
                refine (find_s da dn dc zd xt w16 hdr'.out (by rw [hdm'.out]; exact hS'.out.pwd) (by omega) hdzb'.out).mono ?_
                rintro e w17 ⟨b4, q2, q3, ra, rn, rc, rd, rfl, hrr, hf4, hb17⟩
                rw [hdm'.out, hS'.out.gone] at hf4
                simp only [Prod.mk.injEq] at hf4
                obtain ⟨rfl, rfl, rfl, rfl⟩ := hf4
                have hc3 := hb17
                have hc0 := hc0'.out.trans (hb17.mono hc0'.out.size)
                have hc1 := hc1'.out.trans (hb17.mono hc1'.out.size)
                have hc2 := hc2'.out.trans (hb17.mono hc2'.out.size)
                clear hc0' hc1' hc2'
                have hc0' := Lib.hid hc0
                have hc1' := Lib.hid hc1
                have hc2' := Lib.hid hc2
                clear hc0 hc1 hc2
                clear c0 c1 c2 c3 hltr hrr
                have hc3' := Lib.hid hc3
                clear hc3
                go_wp2_with fail
                have hal := (Below.refl w17.heap.size w17).alloc (Nat.le_refl _) (.cells #[.int .i64 0, .int .i64 0, .slice ra rn rc] 24)
                have hbk : Blk (w17.alloc (.cells #[.int .i64 0, .int .i64 0, .slice ra rn rc] 24)) w17.heap.size 24 #[.int .i64 0, .int .i64 0, .slice ra rn rc] := heap_new _ _
                obtain ⟨W17, hW⟩ : ∃ W, w17.alloc (.cells #[.int .i64 0, .int .i64 0, .slice ra rn rc] 24) = W := ⟨_, rfl⟩
                obtain ⟨g16, hg8⟩ : ∃ g8, w17.heap.size = g8 := ⟨_, rfl⟩
                rw [hW] at hal hbk ⊢
                rw [hg8] at hbk ⊢
                clear hW hg8
                have hc0 := hc0'.out.trans (hal.mono hc0'.out.size)
                have hc1 := hc1'.out.trans (hal.mono hc1'.out.size)
                have hc2 := hc2'.out.trans (hal.mono hc2'.out.size)
                clear hc0' hc1' hc2'
                have hc0' := Lib.hid hc0
                have hc1' := Lib.hid hc1
                have hc2' := Lib.hid hc2
                clear hc0 hc1 hc2
                have hc3 := hc3'.out.trans (hal.mono hc3'.out.size)
                clear hc3' hal hbk
                have hc3' := Lib.hid hc3
                clear hc3
                refine (row_any dir da dn dc (zd.map tag) W17 (hdr'.out.mono hc3'.out).ts hd'.out hdok'.out).mono ?_
                rw [hdm'.out, row_drop hrow2.out hS'.out.pwd]
                rintro e w18 ⟨rfl, hb18⟩
                have hc0 := hc0'.out.trans (hb18.mono hc0'.out.size)
                have hc1 := hc1'.out.trans (hb18.mono hc1'.out.size)
                have hc2 := hc2'.out.trans (hb18.mono hc2'.out.size)
                clear hc0' hc1' hc2'
                have hc0' := Lib.hid hc0
                have hc1' := Lib.hid hc1
                have hc2' := Lib.hid hc2
                clear hc0 hc1 hc2
                have hc3 := hc3'.out.trans (hb18.mono hc3'.out.size)
                clear hc3'
                have HT1 := HT.out.mono hc0'.out
                obtain ⟨c0, c1, c2, c3, hltr⟩ := HT1
                have hc3' := Lib.hid hc3
                have hb18' := Lib.hid hb18
                clear hc3 hb18
                obtain rfl : dn = i := by omega
                clear hdn2 hsn2 hlenS
                have hsw : IntKind.i64.wrap (dn : Int) = dn := by rw [IntKind.wrap_i64]; omega
                have hsw2 : IntKind.i64.wrap ((dn : Int) + 1 - 1) = dn := by rw [IntKind.wrap_i64]; omega
                have hsd : ((dn : Int) != (dn : Int)) = false := by simp
                go_wp2_with fail
                refine (drop_s la _ lp zs xt w18 (htr'.out.mono hc0'.out) (by rw [hzm'.out]; exact hpw'.out) (by omega) hzb'.out).mono ?_
                rintro e w19 ⟨ea, en, ec, ze, rfl, hze, hem, hb19⟩
                rw [hzm'.out] at hem
                have hc0 := hc0'.out.trans (hb19.mono hc0'.out.size)
                have hc1 := hc1'.out.trans (hb19.mono hc1'.out.size)
                have hc2 := hc2'.out.trans (hb19.mono hc2'.out.size)
                clear hc0' hc1' hc2'
                have hc0' := Lib.hid hc0
                have hc1' := Lib.hid hc1
                have hc2' := Lib.hid hc2
                clear hc0 hc1 hc2
                have hc3 := hc3'.out.trans (hb19.mono hc3'.out.size)
                clear hc3' c0 c1 c2 c3 hltr
                have hc3' := Lib.hid hc3
                clear hc3
                go_wp2_with fail
                refine (tags_eq da ea dn dc en ec zd ze w19 (hdr'.out.mono hc3'.out) hze (by rw [hdm'.out, hem]; exact hS'.out.same)).mono ?_
                rintro e w20 ⟨rfl, hb20⟩
                have hc0 := hc0'.out.trans (hb20.mono hc0'.out.size)
                have hc1 := hc1'.out.trans (hb20.mono hc1'.out.size)
                have hc2 := hc2'.out.trans (hb20.mono hc2'.out.size)
                clear hc0' hc1' hc2'
                have hc0' := Lib.hid hc0
                have hc1' := Lib.hid hc1
                have hc2' := Lib.hid hc2
                clear hc0 hc1 hc2
                have hc3 := hc3'.out.trans (hb20.mono hc3'.out.size)
                clear hc3' hze hem
                have hc3' := Lib.hid hc3
                clear hc3
                have HT1 := HT.out.mono hc0'.out
                obtain ⟨c0, c1, c2, c3, hltr⟩ := HT1
                have b10 := hbk'.out.late hc2'.out
                have p0 : w20.cell? ⟨g10, 0, none⟩ = some (.int .i64 v2) := b10.cell rfl
                have p1 : w20.cell? ⟨g10, 1, none⟩ = some (.int .i64 v3) := b10.cell rfl
                have p2 : w20.cell? ⟨g10, 2, none⟩ = some (.slice wa wn wc) := b10.cell rfl
                have hw20 := hw'.out.mono hc2'.out
                have hwn : wn ≤ 600 := by
                  have h1 := hw20.ilen
                  have h2 := find_len hf'.out hv1'.out
                  omega
                have b10' := Lib.hid b10
                have hw20' := Lib.hid hw20
                clear b10 hw20
                go_wp2_with fail
                refine (tags_eq da la _ dc _ lp zd zs w20 (hdr'.out.mono hc3'.out) (htr'.out.mono hc0'.out) (by rw [hdm'.out, hzm'.out]; exact hS'.out.backF rfl)).mono ?_
                rintro e w22 ⟨rfl, hb22⟩
                have hc0 := hc0'.out.trans (hb22.mono hc0'.out.size)
                have hc1 := hc1'.out.trans (hb22.mono hc1'.out.size)
                have hc2 := hc2'.out.trans (hb22.mono hc2'.out.size)
                clear hc0' hc1' hc2'
                have hc0' := Lib.hid hc0
                have hc1' := Lib.hid hc1
                have hc2' := Lib.hid hc2
                clear hc0 hc1 hc2
                go_wp2_with (go_at_call 8; refine (awake_any _).mono ?_; rintro e w30 ⟨rfl, hb30⟩; have HB1 := Lib.hid hb30; clear hb30)
                go_ret
                exact ⟨rfl, hb0'.out.trans ((hc0'.out.trans (HB1.out.mono hc0'.out.size)).mono (by rw [hg]; exact Nat.le_of_lt hlt))⟩
end Go.Proofs.Ytnhcmibngcmebaa
