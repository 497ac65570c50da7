/- Chapter 21: the law TreeOrders: the walk. | Frames: what came in, as the walks take it; the witness of a row that lists a variable. -/
import Derived.Test.YtilennmeiaehnaaGreatCo32
import Derived.Test.YtilennmeiaehnaaGreatCo29
import Derived.Test.YtilennmeiaehnaaGreatCo36
import Derived.Test.YtilennmeiaehnaaGreatCo37
import Derived.Test.YtilennmeiaehnaaGreatCo21
import Derived.Test.YtilennmeiaehnaaGreatCo13
import Derived.Test.YtilennmeiaehnaaGreatCo40
import Derived.ProofKit
import Derived.OpenShut
import Derived.ShutString
import Derived.ChangeOld
import Derived.Below
import Derived.SizedLaws
import Derived.LaidMore
import Derived.LaidLaws
import Derived.Stop.Joined
import Derived.Deep.DeepHandedRow
import Derived.Deep.Matrix
import Derived.Test.YtilennmeiaehnaaGreatCo00
import Derived.Test.YtilennmeiaehnaaGreatRows
namespace Go.Proofs.YtilennmeiaehnaaGreat
open Go.RowKit Tt
set_option linter.unusedVariables false
set_option linter.unusedSimpArgs false
set_option maxRecDepth 20000 in
set_option maxHeartbeats 1000000 in
theorem torders_any (f : Nat) (o : Int) (sa : Option Addr) (sn sc : Nat) (ds : List (DirT f)) (o2 : Int) (ua : Option Addr) (un uc : Nat) (us : List (DirT f)) (a : Option Addr) (n c : Nat) (zs : List Shz) (w : World)
    (hwf : -9223372036854775808 ≤ o ∧ o ≤ 9223372036854775807) (h : DirsR f w sa sn sc ds) (hby : ∀ d ∈ ds, bytD f d) (h2 : DirsR f w ua un uc us) (hby2 : ∀ d ∈ us, bytD f d) (hz : ShR w a n c zs) :
    Calls Tryz.prog 4 #[.agg #[.int .i64 o, .slice sa sn sc], .agg #[.int .i64 o2, .slice ua un uc], .slice a n c] w fun e w' => e = .returned (.bool true) ∧ Below w.heap.size w w' := by
  obtain ⟨W1, hW1, bA, bB, hb1, s1⟩ := two_boxes w 24 #[.int .i64 o, .slice sa sn sc] 24 #[.int .i64 o2, .slice ua un uc]
  have a0 : W1.cell? ⟨w.heap.size, 0, none⟩ = some (.int .i64 o) := bA.cell rfl
  have a1 : W1.cell? ⟨w.heap.size, 1, none⟩ = some (.slice sa sn sc) := bA.cell rfl
  have hH1 := huge_any f o sa sn sc ds W1 (h.mono hb1)
  have h' := Lib.hid h
  have hby' := Lib.hid hby
  have h2' := Lib.hid h2
  have hby2' := Lib.hid hby2
  have hz' := Lib.hid hz
  have hW1' := Lib.hid hW1
  have bA' := Lib.hid bA
  have bB' := Lib.hid bB
  have hb1' := Lib.hid hb1
  have s1' := Lib.hid s1
  have hH1' := Lib.hid hH1
  clear h hby h2 hby2 hz hW1 bA bB hb1 s1 hH1
  go_enter Tryz.func4, Tryz.ntmps4
  go_wp2_with fail
  rw [hW1'.out]
  refine hH1'.out.mono ?_
  rintro e w2 ⟨b1, rfl, hb2, hp1⟩
  have hbw2 := hb1'.out.trans (hb2.mono hb1'.out.size)
  have bA2 := bA'.out.late hb2
  have bB2 := bB'.out.late hb2
  clear a0 a1
  cases b1 with
  | true =>
    have hbwz := hbw2
    have hb2' := Lib.hid hb2
    have hp1' := Lib.hid hp1
    have hbw2' := Lib.hid hbw2
    have bA2' := Lib.hid bA2
    have bB2' := Lib.hid bB2
    clear hb2 hp1 hbw2 bA2 bB2
    have hbwz' := Lib.hid hbwz
    clear hbwz
    go_wp2_with fail
    refine (awake_any _).mono ?_
    rintro e w9 ⟨rfl, hb9⟩
    have hbw9 := hbwz'.out.trans (hb9.mono hbwz'.out.size)
    have hb9' := Lib.hid hb9
    have hbw9' := Lib.hid hbw9
    clear hb9 hbw9
    go_wp2_with fail
    go_ret
    exact ⟨rfl, hbw9'.out⟩
  | false =>
  have hk1 := hp1 rfl
  clear hp1
  have g0 : w2.cell? ⟨w.heap.size + 1, 0, none⟩ = some (.int .i64 o2) := bB2.cell rfl
  have g1 : w2.cell? ⟨w.heap.size + 1, 1, none⟩ = some (.slice ua un uc) := bB2.cell rfl
  have hH2 := huge_any f o2 ua un uc us w2 (h2'.out.mono hbw2)
  have hb2' := Lib.hid hb2
  have hbw2' := Lib.hid hbw2
  have bA2' := Lib.hid bA2
  have bB2' := Lib.hid bB2
  have hk1' := Lib.hid hk1
  have hH2' := Lib.hid hH2
  clear hb2 hbw2 bA2 bB2 hk1 hH2
  go_wp2_with fail
  refine hH2'.out.mono ?_
  rintro e w3 ⟨b2, rfl, hb3, hp2⟩
  have hbw3 := hbw2'.out.trans (hb3.mono hbw2'.out.size)
  have bA3 := bA2'.out.late hb3
  have bB3 := bB2'.out.late hb3
  clear g0 g1
  cases b2 with
  | true =>
    have hbwz := hbw3
    have hb3' := Lib.hid hb3
    have hp2' := Lib.hid hp2
    have hbw3' := Lib.hid hbw3
    have bA3' := Lib.hid bA3
    have bB3' := Lib.hid bB3
    clear hb3 hp2 hbw3 bA3 bB3
    have hbwz' := Lib.hid hbwz
    clear hbwz
    go_wp2_with fail
    refine (awake_any _).mono ?_
    rintro e w9 ⟨rfl, hb9⟩
    have hbw9 := hbwz'.out.trans (hb9.mono hbwz'.out.size)
    have hb9' := Lib.hid hb9
    have hbw9' := Lib.hid hbw9
    clear hb9 hbw9
    go_wp2_with fail
    go_ret
    exact ⟨rfl, hbw9'.out⟩
  | false =>
  have hk2 := hp2 rfl
  clear hp2
  have hM := many_any a n c zs w3 (hz'.out.mono hbw3)
  have hb3' := Lib.hid hb3
  have hbw3' := Lib.hid hbw3
  have bA3' := Lib.hid bA3
  have bB3' := Lib.hid bB3
  have hk2' := Lib.hid hk2
  have hM' := Lib.hid hM
  clear hb3 hbw3 bA3 bB3 hk2 hM
  go_wp2_with fail
  refine hM'.out.mono ?_
  rintro e w4 ⟨b3, rfl, rfl⟩
  cases b3 with
  | true =>
    have hbwz := hbw3'.out
    have hbwz' := Lib.hid hbwz
    clear hbwz
    go_wp2_with fail
    refine (awake_any _).mono ?_
    rintro e w9 ⟨rfl, hb9⟩
    have hbw9 := hbwz'.out.trans (hb9.mono hbwz'.out.size)
    have hb9' := Lib.hid hb9
    have hbw9' := Lib.hid hbw9
    clear hb9 hbw9
    go_wp2_with fail
    go_ret
    exact ⟨rfl, hbw9'.out⟩
  | false =>
  obtain ⟨hv1, hl1, hn1⟩ := hk1'.out
  obtain ⟨hv2, hl2, hn2⟩ := hk2'.out
  have hsn : ds.length = sn := by obtain ⟨dvs, e1, e2, _⟩ := h'.out; rw [← e1]; exact e2.flen dvC_len (by decide)
  have hun : us.length = un := by obtain ⟨dvs, e1, e2, _⟩ := h2'.out; rw [← e1]; exact e2.flen dvC_len (by decide)
  have hsm1 := fun d hd => (hv1 d hd).1
  have hsm2 := fun d hd => (hv2 d hd).1
  rw [hsn] at hl1
  rw [hun] at hl2
  obtain ⟨o3, ho3⟩ : ∃ x, IntKind.i64.wrap (3 - o) = x := ⟨_, rfl⟩
  have hck3 : checkS f o3 ds (shps zs) = checkS f o ds (shps zs) := by rw [← ho3]; exact checkS_turned hwf
  have hok1 := fun e => okt_of (f := f) (o := o) (ds := ds) (L := shps zs) e hby'.out
  have hok2 := fun e => okt_of (f := f) (o := o2) (ds := us) (L := shps zs) e hby2'.out
  have hok3 := fun e => okt_of (f := f) (o := o3) (ds := ds) (L := shps zs) e hby'.out
  have hlen1 : (wrtS f o ds (shps zs)).length = if checkS f o ds (shps zs) = 0 then (longT f ds).toNat else 0 := wrtS_len hby'.out
  have hlen3 : (wrtS f o3 ds (shps zs)).length = if checkS f o ds (shps zs) = 0 then (longT f ds).toNat else 0 := by rw [← hck3]; exact wrtS_len hby'.out
  obtain ⟨b, hb⟩ : ∃ b : Bool, b = true ↔ o = o2 ∧ ds = us := by
    by_cases hh : o = o2 ∧ ds = us
    · exact ⟨true, by simp [hh]⟩
    · exact ⟨false, by simp [hh]⟩
  have hsame := fun (e1 : checkS f o ds (shps zs) = 0) (e2 : checkS f o2 us (shps zs) = 0) => wrtS_same e1 hby'.out (by omega) e2 hby2'.out (by omega) hb
  have hWr1 := twrite_any f o sa sn sc ds a n c zs w3 (h'.out.mono hbw3'.out) (hz'.out.mono hbw3'.out) hsm1 hby'.out (by omega) hl1 hok1
  have hWr2 := fun W (hb : Below w.heap.size w W) => twrite_any f o2 ua un uc us a n c zs W (h2'.out.mono hb) (hz'.out.mono hb) hsm2 hby2'.out (by omega) hl2 hok2
  have hCk1 := fun W (hb : Below w.heap.size w W) => pcheck_any f o sa sn sc ds a n c zs W (h'.out.mono hb) (hz'.out.mono hb) hsm1 hby'.out (by omega) hl1
  have hCk2 := fun W (hb : Below w.heap.size w W) => pcheck_any f o2 ua un uc us a n c zs W (h2'.out.mono hb) (hz'.out.mono hb) hsm2 hby2'.out (by omega) hl2
  obtain ⟨c1, hc1⟩ : ∃ x, checkS f o ds (shps zs) = x := ⟨_, rfl⟩
  obtain ⟨c2, hc2⟩ : ∃ x, checkS f o2 us (shps zs) = x := ⟨_, rfl⟩
  obtain ⟨WB, hWB⟩ : ∃ x, wrtS f o ds (shps zs) = x := ⟨_, rfl⟩
  obtain ⟨WC, hWC⟩ : ∃ x, wrtS f o2 us (shps zs) = x := ⟨_, rfl⟩
  obtain ⟨N1, hN1⟩ : ∃ x, (if c1 = 0 then (longT f ds).toNat else 0) = x := ⟨_, rfl⟩
  rw [hc1] at hck3 hlen1 hlen3
  rw [hN1] at hlen1 hlen3
  rw [hWB] at hlen1
  rw [hc1, hWB] at hWr1
  simp only [hc2, hWC] at hWr2
  simp only [hc1] at hCk1
  simp only [hc2] at hCk2
  rw [hc1, hc2, hWB, hWC] at hsame
  have a0 : w3.cell? ⟨w.heap.size, 0, none⟩ = some (.int .i64 o) := bA3'.out.cell rfl
  have a1 : w3.cell? ⟨w.heap.size, 1, none⟩ = some (.slice sa sn sc) := bA3'.out.cell rfl
  have hv1' := Lib.hid hv1
  have hv2' := Lib.hid hv2
  have hsm1' := Lib.hid hsm1
  have hsm2' := Lib.hid hsm2
  have hck3' := Lib.hid hck3
  have hok1' := Lib.hid hok1
  have hok2' := Lib.hid hok2
  have hok3' := Lib.hid hok3
  have hlen1' := Lib.hid hlen1
  have hlen3' := Lib.hid hlen3
  have hb' := Lib.hid hb
  have hsame' := Lib.hid hsame
  have hWr1' := Lib.hid hWr1
  have hWr2' := Lib.hid hWr2
  have hCk1' := Lib.hid hCk1
  have hCk2' := Lib.hid hCk2
  have hc1' := Lib.hid hc1
  have hc2' := Lib.hid hc2
  have hWB' := Lib.hid hWB
  have hWC' := Lib.hid hWC
  have hN1' := Lib.hid hN1
  have hsn' := Lib.hid hsn
  have hun' := Lib.hid hun
  clear hv1 hv2 hsm1 hsm2 hck3 hok1 hok2 hok3 hlen1 hlen3 hb hsame hWr1 hWr2 hCk1 hCk2 hc1 hc2 hWB hWC hN1 hsn hun
  go_wp2_with fail
  refine hWr1'.out.mono ?_
  rintro e w5 ⟨a5, m1, c5, rfl, ho5, hb5⟩
  have hbw5 := hbw3'.out.trans (hb5.mono hbw3'.out.size)
  have bA5 := bA3'.out.late hb5
  have bB5 := bB3'.out.late hb5
  have hm1 := (Sl.of_own ho5).1.ilen
  rw [hlen1'.out] at hm1
  clear a0 a1
  have g0 : w5.cell? ⟨w.heap.size + 1, 0, none⟩ = some (.int .i64 o2) := bB5.cell rfl
  have g1 : w5.cell? ⟨w.heap.size + 1, 1, none⟩ = some (.slice ua un uc) := bB5.cell rfl
  have hW2 := hWr2'.out w5 hbw5
  have ho5' := Lib.hid ho5
  have hb5' := Lib.hid hb5
  have hbw5' := Lib.hid hbw5
  have bA5' := Lib.hid bA5
  have bB5' := Lib.hid bB5
  have hW2' := Lib.hid hW2
  have hm1' := Lib.hid hm1
  clear ho5 hb5 hbw5 bA5 bB5 hW2 hm1
  go_wp2_with fail
  refine hW2'.out.mono ?_
  rintro e w8 ⟨a8, m8, c8, rfl, ho8, hb8⟩
  have hbw8 := hbw5'.out.trans (hb8.mono hbw5'.out.size)
  have bA8 := bA5'.out.late hb8
  have bB8 := bB5'.out.late hb8
  have ho58 := own_later ho5'.out hb8
  clear g0 g1
  obtain ⟨Ty, ff, hne, hbel, hsurj⟩ := later_worlds w8
  have HS := Lib.hid (hsurj _ ((Below.refl _ _).drew))
  have q0 : ∀ s, (ff s).cell? ⟨w.heap.size, 0, none⟩ = some (.int .i64 o) := fun s => (bA8.late (hbel s)).cell rfl
  have q1 : ∀ s, (ff s).cell? ⟨w.heap.size, 1, none⟩ = some (.slice sa sn sc) := fun s => (bA8.late (hbel s)).cell rfl
  have q2 : ∀ s, (ff s).cell? ⟨w.heap.size + 1, 0, none⟩ = some (.int .i64 o2) := fun s => (bB8.late (hbel s)).cell rfl
  have q3 : ∀ s, (ff s).cell? ⟨w.heap.size + 1, 1, none⟩ = some (.slice ua un uc) := fun s => (bB8.late (hbel s)).cell rfl
  have hC1 := fun s => hCk1'.out (ff s) (hbw8.trans ((hbel s).mono hbw8.size))
  have hC2 := fun s => hCk2'.out (ff s) (hbw8.trans ((hbel s).mono hbw8.size))
  have hC3 : ∀ s, Calls Tryz.prog 15 #[.slice a5 m1 c5, .slice a8 m8 c8] (ff s) fun e w' => e = .returned (.bool (WB == WC)) ∧ Below (ff s).heap.size (ff s) w' := fun s => (same01 a5 a8 m1 m8 c5 c8 WB WC (ff s) ((Sl.of_own ho58).1.mono (hbel s)) ((Sl.of_own ho8).1.mono (hbel s))).mono fun e w' hh => ⟨hh.1, hh.2.below _⟩
  have hC4 := fun s => tree_same f o o2 sa sn sc ua un uc ds us (ff s) (h'.out.mono (hbw8.trans ((hbel s).mono hbw8.size))) (h2'.out.mono (hbw8.trans ((hbel s).mono hbw8.size))) b hb'.out
  have e1 : (c1 != c1) = false := by simp
  have e2 : (c2 != c2) = false := by simp
  have e3 : (b != b) = false := by simp
  have e4 : (c1 == c1) = true := by simp
  have ho8' := Lib.hid ho8
  have hb8' := Lib.hid hb8
  have hbw8' := Lib.hid hbw8
  have bA8' := Lib.hid bA8
  have bB8' := Lib.hid bB8
  have ho58' := Lib.hid ho58
  have hbel' := Lib.hid hbel
  have hsurj' := Lib.hid hsurj
  have hC1' := Lib.hid hC1
  have hC2' := Lib.hid hC2
  have hC4' := Lib.hid hC4
  clear ho8 hb8 hbw8 bA8 bB8 ho58 hbel hsurj hC1 hC2 hC4
  by_cases z1 : c1 = 0
  · have f1 : (c1 == 0) = true := by simp [z1]
    by_cases z2 : c2 = 0
    · have f2 : (c2 == 0) = true := by simp [z2]
      rw [hsame'.out z1 z2] at hC3
      have z1' := Lib.hid z1
      have z2' := Lib.hid z2
      have hC3' := Lib.hid hC3
      clear z1 z2 hC3
      go_wp2_with fail
      refine wp_quiet_in ff (by kernel_rfl) (by kernel_rfl) HS.out ?_
      iterate 4 (go_big_quiet_step ((go_at_call 17; refine (hC1'.out _).mono ?_; rintro e w8 ⟨rfl, hb8⟩; exact ⟨rfl, hsurj'.out _ ((hbel'.out _).trans (hb8.mono (hbel'.out _).size))⟩)))
      iterate 25 (go_big_quiet_step (first | (go_at_call 17; refine (hC2'.out _).mono ?_; rintro e w8 ⟨rfl, hb8⟩; exact ⟨rfl, hsurj'.out _ ((hbel'.out _).trans (hb8.mono (hbel'.out _).size))⟩) | (go_at_call 15; refine (hC3'.out _).mono ?_; rintro e w8 ⟨rfl, hb8⟩; exact ⟨rfl, hsurj'.out _ ((hbel'.out _).trans (hb8.mono (hbel'.out _).size))⟩) | (go_at_call 16; refine (hC4'.out _).mono ?_; rintro e w8 ⟨rfl, hb8⟩; exact ⟨rfl, hsurj'.out _ ((hbel'.out _).trans (hb8.mono (hbel'.out _).size))⟩)))
      refine wpQuiet_nil ?_
      intro s
      have hbz := hbel'.out s
      have hbwz0 := hbw8'.out.trans (hbz.mono hbw8'.out.size)
      have bAz := bA8'.out.late hbz
      have hr9 := h'.out.mono hbwz0
      have hZ9 := hz'.out.mono hbwz0
      clear q0 q1 q2 q3
      obtain ⟨wz, hwz⟩ : ∃ x, ff s = x := ⟨_, rfl⟩
      rw [hwz] at hbz hbwz0 bAz hr9 hZ9 ⊢
      have q0 : wz.cell? ⟨w.heap.size, 0, none⟩ = some (.int .i64 o) := bAz.cell rfl
      have q1 : wz.cell? ⟨w.heap.size, 1, none⟩ = some (.slice sa sn sc) := bAz.cell rfl
      have hal := (Below.refl wz.heap.size wz).alloc (Nat.le_refl _) (.cells #[.int .i64 o3, .slice sa sn sc] 24)
      have bG := Blk.new wz 24 #[.int .i64 o3, .slice sa sn sc]
      have q4 := bG.cell (i := 0) rfl
      have q5 := bG.cell (i := 1) rfl
      have hW3 := twrite_any f o3 sa sn sc ds a n c zs _ (hr9.mono hal) (hZ9.mono hal) hsm1'.out hby'.out (by omega) (by omega) hok3'.out
      rw [hck3'.out] at hW3
      have hbwa := hbwz0.trans (hal.mono hbwz0.size)
      have hbz' := Lib.hid hbz
      have hbwz0' := Lib.hid hbwz0
      have bAz' := Lib.hid bAz
      have hr9' := Lib.hid hr9
      have hZ9' := Lib.hid hZ9
      have hal' := Lib.hid hal
      have bG' := Lib.hid bG
      have hW3' := Lib.hid hW3
      have hbwa' := Lib.hid hbwa
      have hwz' := Lib.hid hwz
      clear hbz hbwz0 bAz hr9 hZ9 hal bG hW3 hbwa hwz
      go_wp2_with fail
      refine hW3'.out.mono ?_
      rintro e w11 ⟨a11, m11, c11, rfl, ho11, hb11⟩
      have hm11 := (Sl.of_own ho11).1.ilen
      rw [hlen3'.out] at hm11
      obtain ⟨rfl⟩ : m11 = m1 := by rw [← hm11, hm1'.out]
      have hbwz := hbwa'.out.trans (hb11.mono hbwa'.out.size)
      clear q0 q1 q4 q5 hm11
      have ho11' := Lib.hid ho11
      have hb11' := Lib.hid hb11
      clear ho11 hb11
      have hbwz' := Lib.hid hbwz
      clear hbwz
      go_wp2_with fail
      refine (awake_any _).mono ?_
      rintro e w9 ⟨rfl, hb9⟩
      have hbw9 := hbwz'.out.trans (hb9.mono hbwz'.out.size)
      have hb9' := Lib.hid hb9
      have hbw9' := Lib.hid hbw9
      clear hb9 hbw9
      go_wp2_with fail
      go_ret
      exact ⟨rfl, hbw9'.out⟩
    · have f2 : (c2 == 0) = false := by simp [z2]
      have z1' := Lib.hid z1
      have z2' := Lib.hid z2
      have hC3' := Lib.hid hC3
      clear z1 z2 hC3
      go_wp2_with fail
      refine wp_quiet_in ff (by kernel_rfl) (by kernel_rfl) HS.out ?_
      iterate 4 (go_big_quiet_step ((go_at_call 17; refine (hC1'.out _).mono ?_; rintro e w8 ⟨rfl, hb8⟩; exact ⟨rfl, hsurj'.out _ ((hbel'.out _).trans (hb8.mono (hbel'.out _).size))⟩)))
      iterate 25 (go_big_quiet_step (first | (go_at_call 17; refine (hC2'.out _).mono ?_; rintro e w8 ⟨rfl, hb8⟩; exact ⟨rfl, hsurj'.out _ ((hbel'.out _).trans (hb8.mono (hbel'.out _).size))⟩) | (go_at_call 15; refine (hC3'.out _).mono ?_; rintro e w8 ⟨rfl, hb8⟩; exact ⟨rfl, hsurj'.out _ ((hbel'.out _).trans (hb8.mono (hbel'.out _).size))⟩) | (go_at_call 16; refine (hC4'.out _).mono ?_; rintro e w8 ⟨rfl, hb8⟩; exact ⟨rfl, hsurj'.out _ ((hbel'.out _).trans (hb8.mono (hbel'.out _).size))⟩)))
      refine wpQuiet_nil ?_
      intro s
      have hbz := hbel'.out s
      have hbwz0 := hbw8'.out.trans (hbz.mono hbw8'.out.size)
      have bAz := bA8'.out.late hbz
      have hr9 := h'.out.mono hbwz0
      have hZ9 := hz'.out.mono hbwz0
      clear q0 q1 q2 q3
      obtain ⟨wz, hwz⟩ : ∃ x, ff s = x := ⟨_, rfl⟩
      rw [hwz] at hbz hbwz0 bAz hr9 hZ9 ⊢
      have q0 : wz.cell? ⟨w.heap.size, 0, none⟩ = some (.int .i64 o) := bAz.cell rfl
      have q1 : wz.cell? ⟨w.heap.size, 1, none⟩ = some (.slice sa sn sc) := bAz.cell rfl
      have hal := (Below.refl wz.heap.size wz).alloc (Nat.le_refl _) (.cells #[.int .i64 o3, .slice sa sn sc] 24)
      have bG := Blk.new wz 24 #[.int .i64 o3, .slice sa sn sc]
      have q4 := bG.cell (i := 0) rfl
      have q5 := bG.cell (i := 1) rfl
      have hW3 := twrite_any f o3 sa sn sc ds a n c zs _ (hr9.mono hal) (hZ9.mono hal) hsm1'.out hby'.out (by omega) (by omega) hok3'.out
      rw [hck3'.out] at hW3
      have hbwa := hbwz0.trans (hal.mono hbwz0.size)
      have hbz' := Lib.hid hbz
      have hbwz0' := Lib.hid hbwz0
      have bAz' := Lib.hid bAz
      have hr9' := Lib.hid hr9
      have hZ9' := Lib.hid hZ9
      have hal' := Lib.hid hal
      have bG' := Lib.hid bG
      have hW3' := Lib.hid hW3
      have hbwa' := Lib.hid hbwa
      have hwz' := Lib.hid hwz
      clear hbz hbwz0 bAz hr9 hZ9 hal bG hW3 hbwa hwz
      go_wp2_with fail
      refine hW3'.out.mono ?_
      rintro e w11 ⟨a11, m11, c11, rfl, ho11, hb11⟩
      have hm11 := (Sl.of_own ho11).1.ilen
      rw [hlen3'.out] at hm11
      obtain ⟨rfl⟩ : m11 = m1 := by rw [← hm11, hm1'.out]
      have hbwz := hbwa'.out.trans (hb11.mono hbwa'.out.size)
      clear q0 q1 q4 q5 hm11
      have ho11' := Lib.hid ho11
      have hb11' := Lib.hid hb11
      clear ho11 hb11
      have hbwz' := Lib.hid hbwz
      clear hbwz
      go_wp2_with fail
      refine (awake_any _).mono ?_
      rintro e w9 ⟨rfl, hb9⟩
      have hbw9 := hbwz'.out.trans (hb9.mono hbwz'.out.size)
      have hb9' := Lib.hid hb9
      have hbw9' := Lib.hid hbw9
      clear hb9 hbw9
      go_wp2_with fail
      go_ret
      exact ⟨rfl, hbw9'.out⟩
  · have f1 : (c1 == 0) = false := by simp [z1]
    have z1' := Lib.hid z1
    have hC3' := Lib.hid hC3
    clear z1 hC3
    go_wp2_with fail
    refine wp_quiet_in ff (by kernel_rfl) (by kernel_rfl) HS.out ?_
    iterate 4 (go_big_quiet_step ((go_at_call 17; refine (hC1'.out _).mono ?_; rintro e w8 ⟨rfl, hb8⟩; exact ⟨rfl, hsurj'.out _ ((hbel'.out _).trans (hb8.mono (hbel'.out _).size))⟩)))
    iterate 25 (go_big_quiet_step (first | (go_at_call 17; refine (hC2'.out _).mono ?_; rintro e w8 ⟨rfl, hb8⟩; exact ⟨rfl, hsurj'.out _ ((hbel'.out _).trans (hb8.mono (hbel'.out _).size))⟩) | (go_at_call 15; refine (hC3'.out _).mono ?_; rintro e w8 ⟨rfl, hb8⟩; exact ⟨rfl, hsurj'.out _ ((hbel'.out _).trans (hb8.mono (hbel'.out _).size))⟩) | (go_at_call 16; refine (hC4'.out _).mono ?_; rintro e w8 ⟨rfl, hb8⟩; exact ⟨rfl, hsurj'.out _ ((hbel'.out _).trans (hb8.mono (hbel'.out _).size))⟩)))
    refine wpQuiet_nil ?_
    intro s
    have hbz := hbel'.out s
    have hbwz0 := hbw8'.out.trans (hbz.mono hbw8'.out.size)
    have bAz := bA8'.out.late hbz
    have hr9 := h'.out.mono hbwz0
    have hZ9 := hz'.out.mono hbwz0
    clear q0 q1 q2 q3
    obtain ⟨wz, hwz⟩ : ∃ x, ff s = x := ⟨_, rfl⟩
    rw [hwz] at hbz hbwz0 bAz hr9 hZ9 ⊢
    have q0 : wz.cell? ⟨w.heap.size, 0, none⟩ = some (.int .i64 o) := bAz.cell rfl
    have q1 : wz.cell? ⟨w.heap.size, 1, none⟩ = some (.slice sa sn sc) := bAz.cell rfl
    have hal := (Below.refl wz.heap.size wz).alloc (Nat.le_refl _) (.cells #[.int .i64 o3, .slice sa sn sc] 24)
    have bG := Blk.new wz 24 #[.int .i64 o3, .slice sa sn sc]
    have q4 := bG.cell (i := 0) rfl
    have q5 := bG.cell (i := 1) rfl
    have hW3 := twrite_any f o3 sa sn sc ds a n c zs _ (hr9.mono hal) (hZ9.mono hal) hsm1'.out hby'.out (by omega) (by omega) hok3'.out
    rw [hck3'.out] at hW3
    have hbwa := hbwz0.trans (hal.mono hbwz0.size)
    have hbz' := Lib.hid hbz
    have hbwz0' := Lib.hid hbwz0
    have bAz' := Lib.hid bAz
    have hr9' := Lib.hid hr9
    have hZ9' := Lib.hid hZ9
    have hal' := Lib.hid hal
    have bG' := Lib.hid bG
    have hW3' := Lib.hid hW3
    have hbwa' := Lib.hid hbwa
    have hwz' := Lib.hid hwz
    clear hbz hbwz0 bAz hr9 hZ9 hal bG hW3 hbwa hwz
    go_wp2_with fail
    refine hW3'.out.mono ?_
    rintro e w11 ⟨a11, m11, c11, rfl, ho11, hb11⟩
    have hm11 := (Sl.of_own ho11).1.ilen
    rw [hlen3'.out] at hm11
    obtain ⟨rfl⟩ : m11 = m1 := by rw [← hm11, hm1'.out]
    have hbwz := hbwa'.out.trans (hb11.mono hbwa'.out.size)
    clear q0 q1 q4 q5 hm11
    have ho11' := Lib.hid ho11
    have hb11' := Lib.hid hb11
    clear ho11 hb11
    have hbwz' := Lib.hid hbwz
    clear hbwz
    go_wp2_with fail
    refine (awake_any _).mono ?_
    rintro e w9 ⟨rfl, hb9⟩
    have hbw9 := hbwz'.out.trans (hb9.mono hbwz'.out.size)
    have hb9' := Lib.hid hb9
    have hbw9' := Lib.hid hbw9
    clear hb9 hbw9
    go_wp2_with fail
    go_ret
    exact ⟨rfl, hbw9'.out⟩
theorem torders_law (o : Int) (sa : Option Addr) (sn sc F : Nat) (o2 : Int) (ua : Option Addr) (un uc G : Nat) (a : Option Addr) (n c : Nat) (zs : List Shz) (w : World) (hwf : -9223372036854775808 ≤ o ∧ o ≤ 9223372036854775807)
    (h : ∀ g, F ≤ g → ∃ ds : List (DirT g), DirsR g w sa sn sc ds ∧ ∀ d ∈ ds, bytD g d) (h2 : ∀ g, G ≤ g → ∃ ds : List (DirT g), DirsR g w ua un uc ds ∧ ∀ d ∈ ds, bytD g d) (hz : ShR w a n c zs) :
    Calls Tryz.prog 4 #[.agg #[.int .i64 o, .slice sa sn sc], .agg #[.int .i64 o2, .slice ua un uc], .slice a n c] w fun e w' => e = .returned (.bool true) ∧ Below w.heap.size w w' := by
  obtain ⟨ds, h3, h4⟩ := h (max F G) (Nat.le_max_left ..)
  obtain ⟨us, h5, h6⟩ := h2 (max F G) (Nat.le_max_right ..)
  exact torders_any (max F G) o sa sn sc ds o2 ua un uc us a n c zs w hwf h3 h4 h5 h6 hz
end Go.Proofs.YtilennmeiaehnaaGreat

namespace Tt
open Go Go.RowKit Go.ChangeShapes Go.WideShapes Go.ChangeAt
set_option linter.unusedVariables false

theorem cell_spot {w : World} {a : Addr} {v : Value} (h : w.cell? a = some v) : a = ⟨a.block, a.off, none⟩ ∧ a.block < w.heap.size := by
  refine ⟨?_, World.block_lt_of_cell? w a h⟩
  obtain ⟨b, o, s⟩ := a
  cases s with
  | none => rfl
  | some x => simp [World.cell?] at h; split at h <;> simp_all
theorem add_zero_addr (a : Addr) : a.add 0 = a := rfl
theorem mk_add (b o n : Nat) : (⟨b, o, none⟩ : Addr).add n = ⟨b, o + n, none⟩ := by
  unfold Addr.add
  split
  · next h => rw [h, Nat.add_zero]
  · rfl

/-- A row of cells behind an address reads as a slice. -/
theorem Sl.of_cells {w : World} {x : Addr} {n c : Nat} {vs : List Value} (hn : n ≤ c) (hc : c ≤ maxLen) (hl : vs.length = c) (h : ∀ i v, vs[i]? = some v → w.cell? (x.add i) = some v) : Sl w (some x) n c 1 (vs.take n) := by
  refine ⟨by rw [List.length_take]; omega, hn, hc, fun i hi => ?_, fun he => by cases he⟩
  have h0 := h 0 _ (List.getElem?_eq_getElem (show 0 < vs.length by omega))
  rw [add_zero_addr] at h0
  obtain ⟨e, hlt⟩ := cell_spot h0
  refine ⟨x.block, x.off, by rw [← e], hlt, fun j v hj => ?_⟩
  have hj' : vs[j]? = some v := by
    rw [List.getElem?_take] at hj
    split at hj
    · exact hj
    · cases hj
  have := h j v hj'
  rw [e, mk_add] at this
  exact this

theorem Sl.of_ints {w : World} {k : IntKind} {x : Addr} {n c : Nat} {zs : List Int} (hn : n ≤ c) (hc : c ≤ maxLen) (hl : zs.length = c) (h : ∀ i, i < zs.length → w.cell? (x.add i) = some (.int k (zs.getD i 0))) : Sl w (some x) n c 1 (ints k (zs.take n)) := by
  have := Sl.of_cells (vs := ints k zs) hn hc (by rw [ints_len, hl]) (fun i v hv => by
    have hi : i < zs.length := by
      have := (List.getElem?_eq_some_iff.1 hv).1
      rwa [ints_len] at this
    rw [ints_get hi] at hv
    rw [h i hi]; exact hv)
  rwa [show (ints k zs).take n = ints k (zs.take n) by simp [ints, List.map_take]] at this
theorem byt_wf {zs : List Int} (h : ∀ n ∈ zs, (Lit.int .u8 n).wf = true) : Byt zs := fun n hn => by
  have := h n hn
  simp [Lit.wf, IntKind.min, IntKind.max, IntKind.signed, IntKind.bits] at this
  omega
theorem wf_i64 {n : Int} (h : (Lit.int .i64 n).wf = true) : -9223372036854775808 ≤ n ∧ n ≤ 9223372036854775807 := by
  simp [Lit.wf, IntKind.min, IntKind.max, IntKind.signed, IntKind.bits] at h
  omega

/-- A slice of bytes that came in. -/
theorem open_bytes {H : Type} {enc : TypeId × Value → H} {P : Program} {W : World} {t e : TypeId} {base : Nat} {spare : Nat → Bool} {held : Bool} {a : Option Addr} {n c fuel : Nat} {x : DataW H × List MemPlace} (ht : P.underlying t = some (.slice e)) (he : P.underlying e = some (.int .u8)) (hc : P.cellsOf e = 1)
    (h : DataW.trod enc P W base spare held fuel t (Value.slice a n c).cells.toList = some x) (hs : spare = fun _ => true) : ∃ l, Sl W a n c 1 (ints .u8 l) ∧ Byt l := by
  subst hs
  rcases open_ints ht he hc h with ⟨hcs, _⟩ | ⟨y, l, c', zs, hcs, _, hl, hm, hz, _, hcell, hwz⟩
  · simp [Value.cells] at hcs
    obtain ⟨rfl, rfl, rfl⟩ := hcs
    exact ⟨[], Sl.nil _ _, fun x hx => by cases hx⟩
  · simp [Value.cells] at hcs
    obtain ⟨rfl, rfl, rfl⟩ := hcs
    exact ⟨_, Sl.of_ints hl hm (by simpa using hz) hcell, (byt_wf hwz).take _⟩

section
variable {H : Type} {enc : TypeId × Value → H}
end
end Tt
