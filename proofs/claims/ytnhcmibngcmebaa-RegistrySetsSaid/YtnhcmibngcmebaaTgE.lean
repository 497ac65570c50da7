/- Rows of bytes that are owned, cleared one behind another; the walk of RegistryRows. | Chapter 23: the walk of RegistryRows. -/
import Derived.Test.YtnhcmibngcmebaaTgD
import Derived.Test.YtnhcmibngcmebaaReg16
import Derived.Test.YtnhcmibngcmebaaL3
namespace Go.Proofs.Ytnhcmibngcmebaa
open Go.RowKit Tt
set_option linter.unusedVariables false
set_option linter.unusedSimpArgs false

/-- one row of bytes that the call owns is cleared, or nothing is -/
def Cl (B : Nat) (W W' : World) : Prop := W' = W ∨ ∃ (g : Nat) (vs : List Value) (v : Value) (n : Nat) (xs : List Value), v.ownBlock = some g ∧ W.ownsRow B 5 1 v n xs ∧ B ≤ g ∧ W' = W.setCells g 0 vs
/-- a row of bytes that the call owns, whatever it holds -/
def Wk (B : Nat) (W : World) (v : Value) (n : Nat) : Prop := ∃ xs, W.ownsRow B 5 1 v n xs
theorem Wk.cl {B B' : Nat} {W W' : World} {v : Value} {n : Nat} (h : Wk B W v n) (hc : Cl B' W W') : Wk B W' v n := by
  obtain ⟨xs, h⟩ := h
  rcases hc with rfl | ⟨g, vs, v', n', xs', hg, _, _, rfl⟩
  · exact ⟨xs, h⟩
  · exact own_cleared h g 0 vs
theorem Wk.later {B : Nat} {W W' : World} {v : Value} {n : Nat} (h : Wk B W v n) (hb : Below W.heap.size W W') : Wk B W' v n := by
  obtain ⟨xs, h⟩ := h
  exact ⟨xs, own_later h hb⟩
theorem Cl.below {B : Nat} {W W' : World} (hc : Cl B W W') : Below B W W' := by
  rcases hc with rfl | ⟨g, vs, v', n', xs', hg, _, hB, rfl⟩
  · exact Below.refl _ _
  · exact below_cells g hB vs 0 (Below.refl _ _)
theorem Cl.row {B B' : Nat} {W W' : World} {E : TypeId} {sz : Nat} {v : Value} {n : Nat} {xs : List Value} (hc : Cl B' W W') (h : W.ownsRow B E sz v n xs) (hE : E ≠ 5) : W'.ownsRow B E sz v n xs := by
  rcases hc with rfl | ⟨g, vs, v', n', xs', hg, ho, _, rfl⟩
  · exact h
  · exact own_kept h ho hE hg 0 vs
theorem own_at_block {W : World} {B : Nat} {E : TypeId} {sz : Nat} {v : Value} {n : Nat} {xs : List Value} (h : W.ownsRow B E sz v n xs) {g : Nat} (hg : v.ownBlock = some g) : ∃ cur, Blk W g E cur := by
  rcases h.2 with ⟨rfl, _⟩ | ⟨g', cap, cur, rfl, _, hb, _⟩
  · cases hg
  · injection hg with hg
    subst hg
    exact ⟨cur, hb⟩
theorem Cl.blk {B : Nat} {W W' : World} {E : TypeId} {g : Nat} {cs : Array Value} (hc : Cl B W W') (h : Blk W g E cs) (hE : E ≠ 5) : Blk W' g E cs := by
  rcases hc with rfl | ⟨g', vs, v', n', xs', hg, ho, _, rfl⟩
  · exact h
  · obtain ⟨cur, hb⟩ := own_at_block ho hg
    refine (setCells_other g' vs 0 W g ?_).trans h
    rintro rfl
    have := h.symm.trans hb
    injection this with this
    injection this with h1 h2 h3
    exact hE h2
/-- a row of tags that the call owns, and each one's data, whatever they hold -/
structure Tc (B : Nat) (W : World) (a : Option Addr) (n c : Nat) (zs : List Tz) : Prop where
  row : W.ownsRow B 26 4 (.slice a n c) n (zc zs)
  each : ∀ z ∈ zs, Wk B W (.slice z.1.2.2.2.1 z.1.2.2.2.2.1 z.1.2.2.2.2.2) z.1.2.2.2.2.1
theorem To.tc {B : Nat} {W : World} {a : Option Addr} {n c : Nat} {zs : List Tz} (h : To B W a n c zs) : Tc B W a n c zs := ⟨h.row, fun z hz => ⟨_, h.each z hz⟩⟩
theorem Tc.cl {B B' : Nat} {W W' : World} {a : Option Addr} {n c : Nat} {zs : List Tz} (h : Tc B W a n c zs) (hc : Cl B' W W') : Tc B W' a n c zs := ⟨hc.row h.row (by decide), fun z hz => (h.each z hz).cl hc⟩
theorem Tc.later {B : Nat} {W W' : World} {a : Option Addr} {n c : Nat} {zs : List Tz} (h : Tc B W a n c zs) (hb : Below W.heap.size W W') : Tc B W' a n c zs := ⟨own_later h.row hb, fun z hz => (h.each z hz).later hb⟩
theorem Tc.len {B : Nat} {W : World} {a : Option Addr} {n c : Nat} {zs : List Tz} (h : Tc B W a n c zs) : zs.length = n := by
  have := (Sl.of_own h.row).1.len
  rw [zc_len] at this
  omega
/-- what of it is read, where its data are -/
theorem Tc.at {B : Nat} {W : World} {a : Option Addr} {n c : Nat} {zs : List Tz} (h : Tc B W a n c zs) {k : Nat} (hk : k < n) :
    ∃ g b m p, a = some ⟨g, 0, none⟩ ∧ W.cell? ⟨g, k * 4 + 3, none⟩ = some (.slice b m p) ∧ Wk B W (.slice b m p) m := by
  obtain ⟨g, rfl, _, _, _, hc⟩ := own_at h.row hk
  have hl := h.len
  exact ⟨g, _, _, _, rfl, hc _ _ (zc_get (zs := zs) (i := k) (j := 3) (by omega) (by omega)), h.each _ (getD_mem (by omega))⟩
theorem Cl.mk {B : Nat} {W W' : World} {ad : Option Addr} {n c : Nat} {xs : List Value} (ho : W.ownsRow B 5 1 (.slice ad n c) n xs) (h : W' = W ∨ ∃ g vs, (Value.slice ad n c).ownBlock = some g ∧ B ≤ g ∧ W' = W.setCells g 0 vs) : Cl B W W' := by
  rcases h with rfl | ⟨g, vs, hg, hB, rfl⟩
  · exact .inl rfl
  · exact .inr ⟨g, vs, _, n, xs, hg, ho, hB, rfl⟩
theorem zeroB : ∀ w, (Go.zeroValue 5).run Try.prog w = .ok (.int .u8 0) w := fun w => by kernel_rfl
end Go.Proofs.Ytnhcmibngcmebaa

namespace Go.Proofs.Ytnhcmibngcmebaa
open Go.RowKit Tt
set_option linter.unusedVariables false
set_option linter.unusedSimpArgs false

theorem vast_no {ts : List Tg} (h : vastS ts = false) : (∀ x ∈ ts, x.2.2.2.length ≤ 600) ∧ ts.length ≤ 60 := by
  unfold vastS at h
  simp only [Bool.or_eq_false_iff, List.any_eq_false, decide_eq_true_eq, decide_eq_false_iff_not] at h
  exact ⟨fun x hx => by have := h.1 x hx; omega, by omega⟩
theorem bnd {W : World} {a : Option Addr} {n c : Nat} {zs : List Tz} {ts : List Tg} (h : Tr W a n c zs) (hm : zs.map tag = ts) (hb : ∀ x ∈ ts, x.2.2.2.length ≤ 600) : ∀ z ∈ zs, z.1.2.2.2.2.1 ≤ 1000000 := fun z hz => by
  have h1 := hb (tag z) (by rw [← hm]; exact List.mem_map_of_mem hz)
  have h2 : z.2.length = z.1.2.2.2.2.1 := (h.each z hz).ilen
  have h3 : (tag z).2.2.2 = z.2 := rfl
  rw [h3] at h1
  omega
theorem rise_of {zs : List Tz} {ts : List Tg} {n : Nat} (hm : zs.map tag = ts) (hn : ts.length = n) (hr : risesS ts = true) : ∀ i, i + 1 < n → key zs i < key zs (i + 1) := fun i hi => by
  have h := risesS_iff.1 hr i (by omega)
  have hk : ∀ j, j < n → (ts.getD j (0, 0, 0, [])).1 = key zs j := fun j hj => by
    have hj2 : j < zs.length := by rw [← hm] at hn; simpa using (by omega : j < (zs.map tag).length)
    rw [← hm, List.getD_eq_getElem?_getD, List.getElem?_map, List.getElem?_eq_getElem hj2]
    unfold key
    rw [List.getD_eq_getElem?_getD, List.getElem?_eq_getElem hj2]
    rfl
  rw [← hk i (by omega), ← hk (i + 1) hi]
  exact h

set_option maxRecDepth 20000 in
set_option maxHeartbeats 16000000 in
theorem rows_law (la : Option Addr) (ln lp : Nat) (ts : List Tg) (xt xy xc : Int) (xa : Option Addr) (xn xp : Nat) (xd : List Int) (t : Int) (w : World)
    (hl : Ts w la ln lp ts) (hs : Sl w xa xn xp 1 (ints .u8 xd)) :
    Calls Try.prog 4 #[.slice la ln lp, .agg #[.int .i64 xt, .int .i64 xy, .int .i64 xc, .slice xa xn xp], .int .i64 t] w fun e w' => e = .returned (.bool true) ∧ Below w.heap.size w w' := by
  have hxn := hs.max
  have hxl := hs.le
  obtain ⟨W0, hW0⟩ : ∃ W0, w.alloc (.cells #[.int .i64 xt, .int .i64 xy, .int .i64 xc, .slice xa xn xp] 26) = W0 := ⟨_, rfl⟩
  obtain ⟨g, hg⟩ : ∃ g, w.heap.size = g := ⟨_, rfl⟩
  have T0 : TagAt W0 g xt xy xc xa xn xp := by rw [← hg, ← hW0]; exact TagAt.new ..
  have hb0 : Below w.heap.size w W0 := by rw [← hW0]; exact (Below.refl _ _).alloc (Nat.le_refl _) _
  have hl0 := hl.mono hb0
  have hs0 := hs.mono hb0
  have HT := Lib.hid T0
  obtain ⟨c0, c1, c2, c3, hlt⟩ := T0
  go_enter Try.func4, Try.ntmps4
  go_upto_region 1 with fail
  try rw [hW0]
  try rw [hg]
  rw [hg] at hb0
  have hV := vast_any la ln lp ts W0 hl0
  have hR := rises_any la ln lp ts W0 hl0
  have htl := hl.len
  have hlm := hl.max
  have hl0' := Lib.hid hl0
  have hs0' := Lib.hid hs0
  have hl' := Lib.hid hl
  have hs' := Lib.hid hs
  have hb0' := Lib.hid hb0
  clear hl0 hs0 hl hs hb0
  clear hW0
  cases hv : vastS ts with
  | true =>
    rw [hv] at hV
    have hv' := Lib.hid hv
    have hV' := Lib.hid hV
    have hR' := Lib.hid hR
    clear hv hV hR
    go_wp2_with (first
      | (go_at_call 7; refine (hV'.out).mono ?_; rintro e w' ⟨rfl, rfl⟩)
      | (go_at_call 18; refine (hR'.out).mono ?_; rintro e w9 ⟨rfl, hq⟩; have Hq := Lib.hid hq; clear hq)
      | (go_at_call 8; refine (awake_any _).mono ?_; rintro e w1 ⟨rfl, hb1⟩; have HB1 := Lib.hid hb1; clear hb1))
    go_ret
    exact ⟨rfl, by rw [hg]; exact hb0'.out.trans (HB1.out.mono (Nat.le_of_lt hlt))⟩
  | false =>
    rw [hv] at hV
    by_cases h6 : 600 < xn
    · have h6' : decide ((600 : Int) < (xn : Int)) = true := by simp; omega
      have hv' := Lib.hid hv
      have hV' := Lib.hid hV
      have hR' := Lib.hid hR
      clear hv hV hR
      go_wp2_with (first
        | (go_at_call 7; refine (hV'.out).mono ?_; rintro e w' ⟨rfl, rfl⟩)
        | (go_at_call 18; refine (hR'.out).mono ?_; rintro e w9 ⟨rfl, hq⟩; have Hq := Lib.hid hq; clear hq)
        | (go_at_call 8; refine (awake_any _).mono ?_; rintro e w1 ⟨rfl, hb1⟩; have HB1 := Lib.hid hb1; clear hb1))
      go_ret
      exact ⟨rfl, by rw [hg]; exact hb0'.out.trans (HB1.out.mono (Nat.le_of_lt hlt))⟩
    · have h6' : decide ((600 : Int) < (xn : Int)) = false := by simp; omega
      cases hr : risesS ts with
      | false =>
        rw [hr] at hR
        have hv' := Lib.hid hv
        have hV' := Lib.hid hV
        have hR' := Lib.hid hR
        have hr' := Lib.hid hr
        clear hv hV hR hr
        go_wp2_with (first
          | (go_at_call 7; refine (hV'.out).mono ?_; rintro e w' ⟨rfl, rfl⟩)
          | (go_at_call 18; refine (hR'.out).mono ?_; rintro e w9 ⟨rfl, hq⟩; have Hq := Lib.hid hq; clear hq)
          | (go_at_call 8; refine (awake_any _).mono ?_; rintro e w1 ⟨rfl, hb1⟩; have HB1 := Lib.hid hb1; clear hb1))
        go_ret
        exact ⟨rfl, by rw [hg]; exact hb0'.out.trans (((Hq.out.below _).trans (HB1.out.mono (Hq.out.below 0).size)).mono (Nat.le_of_lt hlt))⟩
      | true =>
        rw [hr] at hR
        obtain ⟨hv1, hv2⟩ := vast_no hv
        obtain ⟨zs, htr, hzm⟩ := Ts.tr hl0'.out
        have hzb := bnd htr hzm hv1
        have hrz := rise_of hzm htl hr
        have hln : ln ≤ 60 := by omega
        have hv' := Lib.hid hv
        have hV' := Lib.hid hV
        have hR' := Lib.hid hR
        have hr' := Lib.hid hr
        have hv1' := Lib.hid hv1
        have htr' := Lib.hid htr
        have hzm' := Lib.hid hzm
        have hzb' := Lib.hid hzb
        have hrz' := Lib.hid hrz
        clear hv hV hR hr hv1 htr hzm hzb hrz
        go_wp2_with (first
          | (go_at_call 7; refine (hV'.out).mono ?_; rintro e w' ⟨rfl, rfl⟩)
          | (go_at_call 18; refine (hR'.out).mono ?_; rintro e w1 ⟨rfl, hq⟩; have Hq := Lib.hid hq; clear hq))
        have hb1 := Hq.out.below W0.heap.size
        refine (owntags_any la ln lp zs w1 (htr'.out.mono hb1) (by omega) hzb'.out).mono ?_
        rintro e w2 ⟨oa, oc, zo, rfl, ho, hom, hb2⟩
        have hb2 := hb1.trans (hb2.mono hb1.size)
        have HT2 := HT.out.mono hb2
        obtain ⟨c0, c1, c2, c3, hlt2⟩ := HT2
        have hom := hom.trans hzm'.out
        have hro := rise_of hom htl hr'.out
        have hbo := bnd ho.tr hom hv1'.out
        have hs2 := hs0'.out.mono hb2
        have ho' := Lib.hid ho
        have hom' := Lib.hid hom
        have hb2' := Lib.hid hb2
        have hro' := Lib.hid hro
        have hbo' := Lib.hid hbo
        have hs2' := Lib.hid hs2
        clear ho hom hb2 hro hbo hs2
        clear hb1
        go_wp2_with fail
        refine (set_any oa ln oc zo xt xy xc xa xn xp xd w2 ho'.out.tr hro'.out (by omega) hbo'.out hs2'.out (by omega)).mono ?_
        rintro e w3 ⟨sa, sn, sc, zset, rfl, hset, hsm, hb3⟩
        have ho3 := ho'.out.later hb3
        have hsm := hsm.trans (by rw [hom'.out])
        have hb23 := hb2'.out.trans (hb3.mono hb2'.out.size)
        have hset' := Lib.hid hset
        have hsm' := Lib.hid hsm
        have hb3' := Lib.hid hb3
        have ho3' := Lib.hid ho3
        have hb23' := Lib.hid hb23
        clear hset hsm hb3 ho3 hb23
        go_wp2_with fail
        refine (drop_any oa ln oc zo t w3 ho3'.out.tr hro'.out (by omega) hbo'.out).mono ?_
        rintro e w4 ⟨da, dn, dc, zd, rfl, hdr, hdm, hb4⟩
        have ho4 := ho3'.out.later hb4
        have hset4 := hset'.out.later hb4
        have hdm := hdm.trans (by rw [hom'.out])
        have hb34 := hb3'.out.trans (hb4.mono hb3'.out.size)
        have hdr' := Lib.hid hdr
        have hdm' := Lib.hid hdm
        have hb4' := Lib.hid hb4
        have ho4' := Lib.hid ho4
        have hset4' := Lib.hid hset4
        have hb34' := Lib.hid hb34
        clear hdr hdm hb4 ho4 hset4 hb34
        go_wp2_with fail
        refine (find_any oa ln oc zo t w4 ho4'.out.tr hro'.out (by omega) hbo'.out).mono ?_
        rintro e w5 ⟨k, y2, y3, va, vn, vc, vd, hp, rfl, hvo, hvd, hb5⟩
        have hset5 := hset4'.out.later hb5
        have hdr5 := hdr'.out.later hb5
        have hb45 := hb34'.out.trans (hb5.mono hb34'.out.size)
        have hfo := find_at hp (by rw [ho4'.out.len]; exact hro'.out)
        rw [hom'.out] at hfo
        obtain ⟨bb, hbb⟩ : ∃ bb, isB zo t k = bb := ⟨_, rfl⟩
        rw [hbb] at hvd hfo ⊢
        have hfo2 : findS ts t = (bb, y2, y3, vd) := by
          rw [hfo]
          cases bb with
          | true => rw [if_pos rfl] at hvd ⊢; rw [← hvd]
          | false => rw [if_neg (by decide)] at hvd ⊢; rw [← hvd]
        have hvo' := Lib.hid hvo
        have hvd' := Lib.hid hvd
        have hp' := Lib.hid hp
        have hfo' := Lib.hid hfo
        have hfo2' := Lib.hid hfo2
        have hset5' := Lib.hid hset5
        have hdr5' := Lib.hid hdr5
        have hb45' := Lib.hid hb45
        have hb5' := Lib.hid hb5
        have hbb' := Lib.hid hbb
        clear hvo hvd hp hfo hfo2 hset5 hdr5 hb45 hb5 hbb
        go_wp2_with fail
        have ha5 := (Below.refl w5.heap.size w5).alloc (Nat.le_refl _) (.cells #[.int .i64 y2, .int .i64 y3, .slice va vn vc] 24)
        have b5 : Blk (w5.alloc (.cells #[.int .i64 y2, .int .i64 y3, .slice va vn vc] 24)) w5.heap.size 24 #[.int .i64 y2, .int .i64 y3, .slice va vn vc] := heap_new _ _
        have hset6 := hset5'.out.later ha5
        have hdr6 := hdr5'.out.later ha5
        have hvo6 := own_later hvo'.out ha5
        have hb56 := hb45'.out.trans (ha5.mono hb45'.out.size)
        have hb06 := hb2'.out.trans (hb56.mono hb2'.out.size)
        obtain ⟨W5, hW5⟩ : ∃ W5, w5.alloc (.cells #[.int .i64 y2, .int .i64 y3, .slice va vn vc] 24) = W5 := ⟨_, rfl⟩
        obtain ⟨g1, hg1⟩ : ∃ g1, w5.heap.size = g1 := ⟨_, rfl⟩
        rw [hW5] at b5 hset6 hdr6 hvo6 hb56 hb06 ⊢
        rw [hg1] at b5 ⊢
        clear hW5 hg1 ha5
        refine (rfind_any la ln lp zs t W5 (htr'.out.mono hb06) (by omega)).mono ?_
        rintro e w6 ⟨b6, z2, z3, ra, rn, rc, rd, rfl, hrs, hfr, hb6⟩
        rw [hzm'.out, hfo2'.out] at hfr
        simp only [Prod.mk.injEq] at hfr
        obtain ⟨rfl, rfl, rfl, rfl⟩ := hfr
        have b6 := b5.late hb6
        have hset7 := hset6.later hb6
        have hdr7 := hdr6.later hb6
        have hvo7 := own_later hvo6 hb6
        have hb67 := hb56.trans (hb6.mono hb56.size)
        have hb07 := hb06.trans (hb6.mono hb06.size)
        have HT7 := HT.out.mono hb07
        clear c0 c1 c2 c3
        obtain ⟨c0, c1, c2, c3, hlt7⟩ := HT7
        clear b5 hset6 hdr6 hvo6 hb56 hb06 hb6
        have hset7' := Lib.hid hset7
        have hdr7' := Lib.hid hdr7
        have hvo7' := Lib.hid hvo7
        have hb67' := Lib.hid hb67
        have hb07' := Lib.hid hb07
        have b6' := Lib.hid b6
        have hrs' := Lib.hid hrs
        clear hset7 hdr7 hvo7 hb67 hb07 b6 hrs
        go_wp2_with fail
        have ha6 := (Below.refl w6.heap.size w6).alloc (Nat.le_refl _) (.cells #[.int .i64 y2, .int .i64 y3, .slice ra rn rc] 24)
        have b7 : Blk (w6.alloc (.cells #[.int .i64 y2, .int .i64 y3, .slice ra rn rc] 24)) w6.heap.size 24 #[.int .i64 y2, .int .i64 y3, .slice ra rn rc] := heap_new _ _
        have b6 := b6'.out.late ha6
        have hset8 := hset7'.out.later ha6
        have hdr8 := hdr7'.out.later ha6
        have hvo8 := own_later hvo7'.out ha6
        have hrs8 := hrs'.out.mono ha6
        have hb78 := hb67'.out.trans (ha6.mono hb67'.out.size)
        have hb08 := hb07'.out.trans (ha6.mono hb07'.out.size)
        obtain ⟨W6, hW6⟩ : ∃ W6, w6.alloc (.cells #[.int .i64 y2, .int .i64 y3, .slice ra rn rc] 24) = W6 := ⟨_, rfl⟩
        obtain ⟨g2, hg2⟩ : ∃ g2, w6.heap.size = g2 := ⟨_, rfl⟩
        rw [hW6] at b6 b7 hset8 hdr8 hvo8 hb78 hb08 hrs8 ⊢
        rw [hg2] at b7 ⊢
        clear hW6 hg2 ha6 c0 c1 c2 c3
        clear b6' hset7' hdr7' hvo7' hb67' hb07' hrs'
        refine (rset_any la ln lp zs xt xy xc xa xn xp xd W6 (htr'.out.mono hb08) (by omega) hzb'.out (hs0'.out.mono hb08) (by omega)).mono ?_
        rintro e w7 ⟨ea, en, ec, ze, rfl, he, hem, hb7⟩
        have b6 := b6.late hb7
        have b7 := b7.late hb7
        have hset9 := hset8.later hb7
        have hdr9 := hdr8.later hb7
        have hvo9 := own_later hvo8 hb7
        have hrs9 := hrs8.mono hb7
        have hb79 := hb78.trans (hb7.mono hb78.size)
        have hb09 := hb08.trans (hb7.mono hb08.size)
        clear hset8 hdr8 hvo8 hrs8 hb78 hb08 hb7
        have hem := hsm'.out.trans (hem.trans (by rw [hzm'.out])).symm
        have b6' := Lib.hid b6
        have b7' := Lib.hid b7
        have hset9' := Lib.hid hset9
        have hdr9' := Lib.hid hdr9
        have hvo9' := Lib.hid hvo9
        have hrs9' := Lib.hid hrs9
        have hb79' := Lib.hid hb79
        have hb09' := Lib.hid hb09
        have he' := Lib.hid he
        have hem' := Lib.hid hem
        clear b6 b7 hset9 hdr9 hvo9 hrs9 hb79 hb09 he hem
        go_wp2_with fail
        refine (tags_eq sa ea sn sc en ec zset ze w7 hset9'.out.tr he'.out.tr hem'.out).mono ?_
        rintro e w8 ⟨rfl, hb8⟩
        have b6 := b6'.out.late hb8
        have b7 := b7'.out.late hb8
        have hset10 := hset9'.out.later hb8
        have hdr10 := hdr9'.out.later hb8
        have hvo10 := own_later hvo9'.out hb8
        have hrs10 := hrs9'.out.mono hb8
        have hb80 := hb79'.out.trans (hb8.mono hb79'.out.size)
        have hb010 := hb09'.out.trans (hb8.mono hb09'.out.size)
        clear hset9' hdr9' hvo9' hrs9' hb79' hb09' hb8 he' hem'
        have b6' := Lib.hid b6
        have b7' := Lib.hid b7
        have hset10' := Lib.hid hset10
        have hdr10' := Lib.hid hdr10
        have hvo10' := Lib.hid hvo10
        have hrs10' := Lib.hid hrs10
        have hb80' := Lib.hid hb80
        have hb010' := Lib.hid hb010
        clear b6 b7 hset10 hdr10 hvo10 hrs10 hb80 hb010
        go_wp2_with fail
        refine (rdrop_any la ln lp zs t w8 (htr'.out.mono hb010'.out) (by omega) hzb'.out).mono ?_
        rintro e w9 ⟨fa, fn, fc, zf, rfl, he, hem, hb9⟩
        have b6 := b6'.out.late hb9
        have b7 := b7'.out.late hb9
        have hset11 := hset10'.out.later hb9
        have hdr11 := hdr10'.out.later hb9
        have hvo11 := own_later hvo10'.out hb9
        have hrs11 := hrs10'.out.mono hb9
        have hb81 := hb80'.out.trans (hb9.mono hb80'.out.size)
        have hb011 := hb010'.out.trans (hb9.mono hb010'.out.size)
        clear hset10' hdr10' hvo10' hrs10' hb80' hb010' hb9
        have hem := hdm'.out.trans (hem.trans (by rw [hzm'.out])).symm
        have b6' := Lib.hid b6
        have b7' := Lib.hid b7
        have hset11' := Lib.hid hset11
        have hdr11' := Lib.hid hdr11
        have hvo11' := Lib.hid hvo11
        have hrs11' := Lib.hid hrs11
        have hb81' := Lib.hid hb81
        have hb011' := Lib.hid hb011
        have he' := Lib.hid he
        have hem' := Lib.hid hem
        clear b6 b7 hset11 hdr11 hvo11 hrs11 hb81 hb011 he hem
        go_wp2_with fail
        refine (tags_eq da fa dn dc fn fc zd zf w9 hdr11'.out.tr he'.out.tr hem'.out).mono ?_
        rintro e w10 ⟨rfl, hb10⟩
        have b6 := b6'.out.late hb10
        have b7 := b7'.out.late hb10
        have hset12 := hset11'.out.later hb10
        have hdr12 := hdr11'.out.later hb10
        have hvo12 := own_later hvo11'.out hb10
        have hrs12 := hrs11'.out.mono hb10
        have hb82 := hb81'.out.trans (hb10.mono hb81'.out.size)
        have hb012 := hb011'.out.trans (hb10.mono hb011'.out.size)
        clear hset11' hdr11' hvo11' hrs11' hb81' hb011' hb10 he' hem'
        have p0 : w10.cell? ⟨g1, 0, none⟩ = some (.int .i64 y2) := b6.cell rfl
        have p1 : w10.cell? ⟨g1, 1, none⟩ = some (.int .i64 y3) := b6.cell rfl
        have p2 : w10.cell? ⟨g1, 2, none⟩ = some (.slice va vn vc) := b6.cell rfl
        have q0 : w10.cell? ⟨g2, 0, none⟩ = some (.int .i64 y2) := b7.cell rfl
        have q1 : w10.cell? ⟨g2, 1, none⟩ = some (.int .i64 y3) := b7.cell rfl
        have q2 : w10.cell? ⟨g2, 2, none⟩ = some (.slice ra rn rc) := b7.cell rfl
        obtain rfl : rn = vn := by have h1 := hrs12.ilen; have h2 := (Sl.of_own hvo12).1.ilen; omega
        have b6' := Lib.hid b6
        have b7' := Lib.hid b7
        have hset12' := Lib.hid hset12
        have hdr12' := Lib.hid hdr12
        have hvo12' := Lib.hid hvo12
        have hrs12' := Lib.hid hrs12
        have hb82' := Lib.hid hb82
        have hb012' := Lib.hid hb012
        clear b6 b7 hset12 hdr12 hvo12 hrs12 hb82 hb012
        go_wp2_with fail
        refine (same18_eq y2 y3 va ra rn vc rc vd w10 (Sl.of_own hvo12'.out).1 hrs12'.out).mono ?_
        rintro e w11 ⟨rfl, hb11⟩
        have b6 := b6'.out.late hb11
        have hset13 := hset12'.out.later hb11
        have hdr13 := hdr12'.out.later hb11
        have hvo13 := own_later hvo12'.out hb11
        have hb83 := hb82'.out.trans (hb11.mono hb82'.out.size)
        have hb013 := hb012'.out.trans (hb11.mono hb012'.out.size)
        clear hset12' hdr12' hvo12' hrs12' hb82' hb012' b6' b7' p0 p1 p2 q0 q1 q2
        have hbbn : (bb != bb) = false := by simp
        have b6' := Lib.hid b6
        have hset13' := Lib.hid hset13
        have hdr13' := Lib.hid hdr13
        have hvo13' := Lib.hid hvo13
        have hb83' := Lib.hid hb83
        have hb013' := Lib.hid hb013
        clear b6 hset13 hdr13 hvo13 hb83 hb013
        go_wp2_with fail
        have hmx := (Sl.of_own hset13'.out.row).1.max
        have hmle := (Sl.of_own hset13'.out.row).1.le
        have hmx2 := (Sl.of_own hdr13'.out.row).1.max
        have hmle2 := (Sl.of_own hdr13'.out.row).1.le
        have hk1 := hset13'.out.tc
        have hk2 := (hdr13'.out.le hb3'.out.size).tc
        have hk3 : Wk w2.heap.size w11 (.slice va rn vc) rn := ⟨_, own_mono hvo13'.out hb34'.out.size⟩
        have hom2 := Lib.hid (hom'.out.trans hzm'.out.symm)
        have hfinb : ∀ W W', Below w2.heap.size w2 W → Below W.heap.size W W' → Below w.heap.size w W' := fun W W' h h' => by
          rw [hg]
          exact hb0'.out.trans ((hb2'.out.trans ((h.trans (h'.mono h.size)).mono hb2'.out.size)).mono (Nat.le_of_lt hlt))
        have hk1' := Lib.hid hk1
        have hk2' := Lib.hid hk2
        have hk3' := Lib.hid hk3
        have hfinb' := Lib.hid hfinb
        clear hk1 hk2 hk3 hfinb
        clear hset13' hdr13' hvo13' hb013' hsm' hdm' hfo' hfo2' hvd' hset' hdr' ho3' ho4' hset4' hset5' hdr5' hvo' hp' hb45' hb5'
        go_loopw [14] (fun iv wr => ∃ i : Nat, i ≤ sn ∧ iv = .int .i64 i ∧ Hid (Tc w2.heap.size wr sa sn sc zset) ∧ Hid (Tc w2.heap.size wr da dn dc zd) ∧ Hid (Wk w2.heap.size wr (.slice va rn vc) rn) ∧ Hid (Blk wr g1 24 #[.int .i64 y2, .int .i64 y3, .slice va rn vc]) ∧ Hid (Below w2.heap.size w2 wr)) (fun iv _ => sn - (intOf iv).toNat)
        case atStart => exact ⟨0, by omega, rfl, hk1', hk2', hk3', b6', hb83'⟩
        case round =>
          clear hk1' hk2' hk3' b6' hb83'
          obtain ⟨i, hin, rfl, hk1, hk2, hk3, hb6, hbl⟩ := hrel
          by_cases hi : i < sn
          · have hil : (i : Int) < (sn : Int) := by omega
            have hww : IntKind.i64.wrap ((i : Int) + 1) = i + 1 := by rw [IntKind.wrap_i64]; omega
            obtain ⟨g', ca, cn, cp, rfl, f3, xs', hox⟩ := hk1.out.at hi
            have hox' := Lib.hid hox
            clear hox
            go_wp2_with (refine wpList_clear rfl (.tmp 87) 22 rfl rfl 5 (.int .u8 0) Try.underlying22 zeroB rfl rfl ca cn cp w2.heap.size xs' rfl hox'.out ?_; intro w9 hw9)
            have hC := Cl.mk hox'.out hw9
            go_roundw
            case rel => exact ⟨i + 1, by omega, by go_num, Lib.hid (hk1.out.cl hC), Lib.hid (hk2.out.cl hC), Lib.hid (hk3.out.cl hC), Lib.hid (hC.blk hb6.out (by decide)), Lib.hid (hbl.out.trans hC.below)⟩
            case measure => simp [intOf]; omega
          · obtain rfl : i = sn := by omega
            have hdi : decide ((i : Int) < (i : Int)) = false := by simp
            go_wp2_with fail
            go_loopw [15] (fun iv wr => ∃ j : Nat, j ≤ dn ∧ iv = .int .i64 j ∧ Hid (Tc w2.heap.size wr da dn dc zd) ∧ Hid (Wk w2.heap.size wr (.slice va rn vc) rn) ∧ Hid (Blk wr g1 24 #[.int .i64 y2, .int .i64 y3, .slice va rn vc]) ∧ Hid (Below w2.heap.size w2 wr)) (fun iv _ => dn - (intOf iv).toNat)
            case atStart => exact ⟨0, by omega, rfl, hk2, hk3, hb6, hbl⟩
            case round =>
              clear hk1 hk2 hk3 hb6 hbl
              obtain ⟨j, hjn, rfl, hk2, hk3, hb6, hbl⟩ := hrel
              by_cases hj : j < dn
              · have hjl : (j : Int) < (dn : Int) := by omega
                have hww : IntKind.i64.wrap ((j : Int) + 1) = j + 1 := by rw [IntKind.wrap_i64]; omega
                obtain ⟨g', ca, cn, cp, rfl, f3, xs', hox⟩ := hk2.out.at hj
                have hox' := Lib.hid hox
                clear hox
                go_wp2_with (refine wpList_clear rfl (.tmp 99) 22 rfl rfl 5 (.int .u8 0) Try.underlying22 zeroB rfl rfl ca cn cp w2.heap.size xs' rfl hox'.out ?_; intro w9 hw9)
                have hC := Cl.mk hox'.out hw9
                go_roundw
                case rel => exact ⟨j + 1, by omega, by go_num, Lib.hid (hk2.out.cl hC), Lib.hid (hk3.out.cl hC), Lib.hid (hC.blk hb6.out (by decide)), Lib.hid (hbl.out.trans hC.below)⟩
                case measure => simp [intOf]; omega
              · obtain rfl : j = dn := by omega
                have hdj : decide ((j : Int) < (j : Int)) = false := by simp
                have p2 := hb6.out.cell (i := 2) rfl
                obtain ⟨xs', hox⟩ := hk3.out
                have hox' := Lib.hid hox
                clear hox
                go_wp2_with (refine wpList_clear rfl (.tmp 101) 22 rfl rfl 5 (.int .u8 0) Try.underlying22 zeroB rfl rfl va rn vc w2.heap.size xs' rfl hox'.out ?_; intro w9 hw9; have hC := Lib.hid (Cl.mk hox'.out hw9); clear hw9)
                have hbl2 := hbl.out.trans hC.out.below
                refine (tags_eq oa la ln oc ln lp zo zs w9 (ho'.out.tr.mono hbl2) (htr'.out.mono (hb2'.out.trans (hbl2.mono hb2'.out.size))) hom2.out).mono ?_
                rintro e w12 ⟨rfl, hb12⟩
                have hbl2' := Lib.hid hbl2
                have hb12' := Lib.hid hb12
                clear hbl2 hb12
                go_wp2_with (go_at_call 8; refine (awake_any _).mono ?_; rintro e w13 ⟨rfl, hb13⟩; have HB1 := Lib.hid hb13; clear hb13)
                go_ret
                exact ⟨rfl, hfinb'.out _ _ hbl2'.out (hb12'.out.trans (HB1.out.mono hb12'.out.size))⟩
end Go.Proofs.Ytnhcmibngcmebaa
