/- Chapter 23: the walk of RegistryKnows. -/
import Derived.Test.YtnhcmibngcmebaaReg16
namespace Go.Proofs.Ytnhcmibngcmebaa
open Go.RowKit Tt
set_option linter.unusedVariables false

set_option maxHeartbeats 8000000 in
theorem knows_law (dir tag xt xy xc : Int) (xa : Option Addr) (xn xp : Nat) (xd : List Int) (la : Option Addr) (ln lp : Nat) (ts : List Tg) (w : World)
    (hd : (Lit.int .i64 dir).wf = true) (ht : (Lit.int .i64 tag).wf = true) (hx : (Lit.int .i64 xt).wf = true) (hbx : Byt xd) (hs : Sl w xa xn xp 1 (ints .u8 xd)) (hl : Ts w la ln lp ts) (hok : ∀ x ∈ ts, TgOk x) :
    Calls Try.prog 3 #[.int .i64 dir, .int .i64 tag, .agg #[.int .i64 xt, .int .i64 xy, .int .i64 xc, .slice xa xn xp], .slice la ln lp] w fun e w' => e = .returned (.bool true) ∧ Below w.heap.size w w' := by
  have hxn := hs.max
  have hxl := hs.le
  obtain ⟨W0, hW0⟩ : ∃ W0, W0 = w.alloc (.cells #[.int .i64 xt, .int .i64 xy, .int .i64 xc, .slice xa xn xp] 26) := ⟨_, rfl⟩
  obtain ⟨g, hg⟩ : ∃ g, g = w.heap.size := ⟨_, rfl⟩
  have T0 : TagAt W0 g xt xy xc xa xn xp := by rw [hg, hW0]; exact TagAt.new ..
  have hb0 : Below w.heap.size w W0 := by rw [hW0]; exact (Below.refl _ _).alloc (Nat.le_refl _) _
  have HT := Lib.hid T0
  have HB0 := Lib.hid hb0
  have HS := Lib.hid (hs.mono hb0)
  have HL := Lib.hid (hl.mono hb0)
  have Hd := Lib.hid hd
  have Ht := Lib.hid ht
  have Hx := Lib.hid hx
  have Hbx := Lib.hid hbx
  have Hok := Lib.hid hok
  clear hs hl hd ht hx hbx hok hb0
  obtain ⟨c0, c1, c2, c3, hlt⟩ := T0
  obtain ⟨v, hv⟩ : ∃ v, vastS ts = v := ⟨_, rfl⟩
  have Hv := Lib.hid hv
  clear hv
  go_enter Try.func3, Try.ntmps3
  go_upto_region 1 with fail
  rw [← hW0, ← hg]
  clear hW0 hg
  cases v
  · by_cases h6 : 600 < xn
    · have h6' : decide ((600 : Int) < (xn : Int)) = true := by simp; omega
      go_wp2_with (first
        | (go_at_call 7; refine (vast_any _ _ _ ts _ HL.out).mono ?_; rw [Hv.out]; rintro e w' ⟨rfl, rfl⟩)
        | (go_at_call 8; refine (awake_any _).mono ?_; rintro e w1 ⟨rfl, hb1⟩; have HB1 := Lib.hid hb1; clear hb1))
      go_ret
      exact ⟨rfl, HB0.out.trans (HB1.out.mono HB0.out.size)⟩
    · have h6' : decide ((600 : Int) < (xn : Int)) = false := by simp; omega
      obtain ⟨m, hm⟩ : ∃ m, (knownS dir tag).2 = m := ⟨_, rfl⟩
      obtain ⟨tl, htl⟩ : ∃ tl, (knownS dir tag).1 = tl := ⟨_, rfl⟩
      have HK := Lib.hid (known_any dir tag W0 Hd.out Ht.out)
      have HR := Lib.hid (fun W => rknown_any dir tag W)
      rw [hm, htl] at HK HR
      clear hm htl
      go_wp2_with (first
        | (go_at_call 7; refine (vast_any _ _ _ ts _ HL.out).mono ?_; rw [Hv.out]; rintro e w' ⟨rfl, rfl⟩)
        | (go_at_call 9; refine HK.out.mono ?_; rintro e w1 ⟨a1, n1, p1, rfl, hs1, hb1⟩; have S1 := Lib.hid hs1; have HB1 := Lib.hid hb1; clear hs1 hb1)
        | (go_at_call 10; refine (HR.out _).mono ?_; rintro e w2 ⟨a2, n2, p2, rfl, hs2, hb2⟩; have S2 := Lib.hid hs2; have S1' := Lib.hid (S1.out.mono hb2); have HB2 := Lib.hid (HB1.out.trans (hb2.mono HB1.out.size)); clear hs2 hb2)
        | (go_at_call 11; refine (ints_any _ _ _ _ _ _ tl tl _ S1'.out S2.out).mono ?_; rw [show (tl == tl) = true by simp]; rintro e w3 ⟨rfl, hq3⟩; have HB3 := Lib.hid (HB2.out.trans (hq3.below _)); clear hq3))
      obtain ⟨r1, hr1⟩ : ∃ r, resS dir tag = r := ⟨_, rfl⟩
      obtain ⟨r2, hr2⟩ : ∃ r, tmayS dir xt xy xc xd = r := ⟨_, rfl⟩
      obtain ⟨r3, hr3⟩ : ∃ r, rowS dir ts = r := ⟨_, rfl⟩
      have Hr1 := Lib.hid hr1
      have Hr2 := Lib.hid hr2
      have Hr3 := Lib.hid hr3
      have e1 : (r1 == r1) = true := by simp
      have e2 : (r2 == r2) = true := by simp
      have e3 : (r3 == r3) = true := by simp
      rename World => w5
      have HT5 := Lib.hid (HT.out.mono HB3.out)
      have HS5 := Lib.hid (HS.out.mono HB3.out)
      have HL5 := Lib.hid (HL.out.mono HB3.out)
      obtain ⟨S, f, hne, hbel, hsurj⟩ := later_worlds w5
      have d0 : ∀ s, (f s).cell? ⟨g, 0, none⟩ = some (.int .i64 xt) := fun s => (HT5.out.mono (hbel s)).c0
      have d1 : ∀ s, (f s).cell? ⟨g, 1, none⟩ = some (.int .i64 xy) := fun s => (HT5.out.mono (hbel s)).c1
      have d2 : ∀ s, (f s).cell? ⟨g, 2, none⟩ = some (.int .i64 xc) := fun s => (HT5.out.mono (hbel s)).c2
      have d3 : ∀ s, (f s).cell? ⟨g, 3, none⟩ = some (.slice xa xn xp) := fun s => (HT5.out.mono (hbel s)).c3
      have HSS := Lib.hid (hsurj _ ((Below.refl _ _).drew))
      have Hbel := Lib.hid hbel
      have Hsurj := Lib.hid hsurj
      clear hbel hsurj hr1 hr2 hr3
      refine wp_quiet_in f (by kernel_rfl) (by kernel_rfl) HSS.out ?_
      iterate 29 (go_big_quiet_step ((first
        | (go_at_call 12; refine (reserved_any dir tag _).mono ?_; rw [Hr1.out]; rintro e w4 ⟨rfl, hb4⟩; exact ⟨rfl, Hsurj.out _ ((Hbel.out _).trans (hb4.mono (Hbel.out _).size))⟩)
        | (go_at_call 13; refine (rreserved_any dir tag _).mono ?_; rw [Hr1.out]; rintro e w4 ⟨rfl, rfl⟩; exact ⟨rfl, _, rfl⟩)
        | (go_at_call 14; refine (rmay1_any dir xt xy xc xa xn xp xd _ (HS5.out.mono (Hbel.out _)) Hbx.out Hd.out Hx.out).mono ?_; rw [Hr2.out]; rintro e w4 ⟨rfl, hb4⟩; exact ⟨rfl, Hsurj.out _ ((Hbel.out _).trans (hb4.mono (Hbel.out _).size))⟩)
        | (go_at_call 15; refine (rtmay_any dir xt xy xc xa xn xp xd _ (HS5.out.mono (Hbel.out _))).mono ?_; rw [Hr2.out]; rintro e w4 ⟨rfl, hb4⟩; exact ⟨rfl, Hsurj.out _ ((Hbel.out _).trans (hb4.mono (Hbel.out _).size))⟩)
        | (go_at_call 16; refine (row_any dir la ln lp ts _ (HL5.out.mono (Hbel.out _)) Hd.out Hok.out).mono ?_; rw [Hr3.out]; rintro e w4 ⟨rfl, hb4⟩; exact ⟨rfl, Hsurj.out _ ((Hbel.out _).trans (hb4.mono (Hbel.out _).size))⟩)
        | (go_at_call 17; refine (rrow_any dir la ln lp ts _ (HL5.out.mono (Hbel.out _))).mono ?_; rw [Hr3.out]; rintro e w4 ⟨rfl, hb4⟩; exact ⟨rfl, Hsurj.out _ ((Hbel.out _).trans (hb4.mono (Hbel.out _).size))⟩)
        | (go_at_call 8; refine (awake_any _).mono ?_; rintro e w4 ⟨rfl, hb4⟩; exact ⟨rfl, Hsurj.out _ ((Hbel.out _).trans (hb4.mono (Hbel.out _).size))⟩))))
      refine wpQuiet_nil ?_
      intro s
      have hfin := HB3.out.trans ((Hbel.out s).mono HB3.out.size)
      go_wp2
      go_ret
      exact ⟨rfl, HB0.out.trans (hfin.mono HB0.out.size)⟩
  · go_wp2_with (first
      | (go_at_call 7; refine (vast_any _ _ _ ts _ HL.out).mono ?_; rw [Hv.out]; rintro e w' ⟨rfl, rfl⟩)
      | (go_at_call 8; refine (awake_any _).mono ?_; rintro e w1 ⟨rfl, hb1⟩; have HB1 := Lib.hid hb1; clear hb1))
    go_ret
    exact ⟨rfl, HB0.out.trans (HB1.out.mono HB0.out.size)⟩
end Go.Proofs.Ytnhcmibngcmebaa
