/- Chapter 21: the law TreeChecks: the walk. | Frames: what came in, as the walks take it; the witness of a row that lists a variable. | Frames: a row of numbers that came in; a row of structs of numbers. -/
import Derived.Test.YtilennmeiaehnaaGreatMg39
import Derived.Test.YtilennmeiaehnaaGreatMg40
import Derived.Test.YtilennmeiaehnaaGreatMg35
import Derived.Test.YtilennmeiaehnaaGreatMg38
import Derived.Test.YtilennmeiaehnaaGreatMg00
import Derived.Test.YtilennmeiaehnaaGreatRows
import Derived.ProofKit
import Derived.OpenShut
import Derived.ShutString
import Derived.ChangeOld
import Derived.Below
import Derived.SizedLaws
import Derived.LaidMore
import Derived.LaidLaws
import Derived.Stop.Joined
import Derived.Deep.DeepHandedRow
import Derived.Deep.Matrix
import Derived.Test.YtilennmeiaehnaaGreatMg01
import Derived.Deep.Strs
namespace Go.Proofs.YtilennmeiaehnaaGreat
open Go.RowKit Tt
set_option linter.unusedVariables false
set_option linter.unusedSimpArgs false

theorem flatT_cap (f c : Nat) : ∀ (ds : List (DirT f)), (∀ d ∈ ds, (flatS f d).length ≤ c) → (flatT f ds).length ≤ ds.length * c
  | [], _ => by simp [flatT]
  | d :: ds, h => by
    have h1 := h d (List.mem_cons_self ..)
    have h2 := flatT_cap f c ds (fun x hx => h x (List.mem_cons_of_mem _ hx))
    have e : (flatT f (d :: ds)).length = (flatS f d).length + (flatT f ds).length := by simp [flatT]
    rw [e, List.length_cons, Nat.add_mul, Nat.one_mul]
    omega
theorem cap8 : capV 8 = 335923 := by decide
/-- a tree is gone through -/
def okHt (f : Nat) (ds : List (DirT f)) : Prop := (∀ d ∈ ds, okVt f 8 d) ∧ ds.length ≤ 6 ∧ (flatT f ds).length ≤ 40
set_option maxRecDepth 20000 in
set_option maxHeartbeats 4000000 in
theorem huge_any (f : Nat) (o : Int) (sa : Option Addr) (sn sc : Nat) (ds : List (DirT f)) (w : World) (h : DirsR f w sa sn sc ds) :
    Calls Tryz.prog 9 #[.agg #[.int .i64 o, .slice sa sn sc]] w fun e w' => ∃ b, e = .returned (.bool b) ∧ Below w.heap.size w w' ∧ (b = false → okHt f ds) := by
  obtain ⟨dvs, hdl, hsl, hsub⟩ := h
  have hsn : ds.length = sn := by rw [← hdl]; exact hsl.flen dvC_len (by decide)
  have hsmax := hsl.max
  have hsle := hsl.le
  have hb1 := (Below.refl w.heap.size w).alloc (Nat.le_refl _) (.cells #[.int .i64 o, .slice sa sn sc] 24)
  have bk := Blk.new w 24 #[.int .i64 o, .slice sa sn sc]
  obtain ⟨W1, hW1⟩ : ∃ W1, w.alloc (.cells #[.int .i64 o, .slice sa sn sc] 24) = W1 := ⟨_, rfl⟩
  rw [hW1] at hb1 bk
  have hsl' := Lib.hid hsl
  have hsub' := Lib.hid hsub
  have hb1' := Lib.hid hb1
  have bk' := Lib.hid bk
  have hsn' := Lib.hid hsn
  have hW1' := Lib.hid hW1
  clear hsl hsub hb1 bk hsn hW1
  go_enter Tryz.func9, Tryz.ntmps9
  go_wp2_with fail
  rw [hW1'.out]
  go_loopw [3] (fun iv wr => ∃ i : Nat, i ≤ sn ∧ iv = .int .i64 i ∧ Hid (∀ k (h : k < ds.length), k < i → okVt f 8 ds[k]) ∧ Hid (Below W1.heap.size W1 wr)) (fun iv _ => sn - (intOf iv).toNat)
  case atStart => exact ⟨0, by omega, rfl, Lib.hid (fun k _ h => by omega), Lib.hid (Below.refl _ _)⟩
  case round =>
    obtain ⟨i, hi, rfl, hall, hbr⟩ := hrel
    have bkr := bk'.out.late hbr.out
    have q1 : wr.cell? ⟨w.heap.size, 1, none⟩ = some (.slice sa sn sc) := bkr.cell rfl
    have hbw := hb1'.out.trans (hbr.out.mono hb1'.out.size)
    by_cases hlt : i < sn
    · have hil : (i : Int) < (sn : Int) := by omega
      have hw5 : IntKind.i64.wrap ((i : Int) + 1) = i + 1 := by rw [IntKind.wrap_i64]; omega
      have hid : i < ds.length := by rw [hsn'.out]; exact hlt
      have hids : i < dvs.length := by rw [hdl]; exact hid
      obtain ⟨b, o', rfl, hblt, fe⟩ := (hsl'.out.mono hbw).elem dvC_len (by decide) (.slice none 0 0, .slice none 0 0, .slice none 0 0) hlt
      rw [getD_el hids] at fe
      have hq2 := hsub'.out i hids hid
      obtain ⟨ua, un, uc, pa, pn, pc, ra, rn, rc, hv⟩ := hq2.v
      have g0 := fe 0 _ rfl
      have g1 := fe 1 _ rfl
      have g2 := fe 2 _ rfl
      clear fe
      rw [hv] at hq2 g0 g1 g2
      simp only [Nat.add_zero] at g0 g1 g2
      have hI := vast_any 8 (by omega) f w wr ds[i] (.slice ua un uc, .slice pa pn pc, .slice ra rn rc) hq2 hbw
      simp only at hI
      have hq2' := Lib.hid hq2
      have hv' := Lib.hid hv
      have hI' := Lib.hid hI
      have hbw' := Lib.hid hbw
      have bkr' := Lib.hid bkr
      clear hq2 hv hI hbw bkr
      go_wp2_with fail
      refine hI'.out.mono ?_
      rintro e w3 ⟨bv, rfl, hb3, hpost⟩
      have hbw3 := hbw'.out.trans (hb3.mono hbw'.out.size)
      have hbr3 := hbr.out.trans (hb3.mono hbr.out.size)
      clear g0 g1 g2 q1
      cases bv with
      | true =>
        have hbw3' := Lib.hid hbw3
        have hbr3' := Lib.hid hbr3
        have hb3' := Lib.hid hb3
        have hpost' := Lib.hid hpost
        clear hbw3 hbr3 hb3 hpost
        go_wp2_with fail
        go_ret
        exact ⟨_, rfl, hbw3'.out, fun h => by cases h⟩
      | false =>
        have hp := hpost rfl
        have hall3 : ∀ k (h : k < ds.length), k < i + 1 → okVt f 8 ds[k] := fun k h hk => by
          by_cases hij : k = i
          · subst hij; exact hp
          · exact hall.out k h (by omega)
        clear hpost
        have hbw3' := Lib.hid hbw3
        have hbr3' := Lib.hid hbr3
        have hb3' := Lib.hid hb3
        have hp' := Lib.hid hp
        have hall3' := Lib.hid hall3
        clear hbw3 hbr3 hb3 hp hall3
        go_wp2_with fail
        go_roundw
        case rel => exact ⟨i + 1, by omega, by go_num, hall3', hbr3'⟩
        case measure => simp [intOf]; omega
    · obtain rfl : i = sn := by omega
      have hall2 : ∀ d ∈ ds, okVt f 8 d := fun d hd => by
        obtain ⟨k, hk, rfl⟩ := List.getElem_of_mem hd
        exact hall.out k hk (by rw [← hsn'.out]; exact hk)
      by_cases h6 : 6 < i
      · have d1 : decide ((6 : Int) < (i : Int)) = true := by simp; omega
        have hbw' := Lib.hid hbw
        have hall2' := Lib.hid hall2
        clear hbw hall2
        go_wp2_with fail
        go_ret
        exact ⟨_, rfl, hbw'.out, fun h => by cases h⟩
      · have d1 : decide ((6 : Int) < (i : Int)) = false := by simp; omega
        have q0 : wr.cell? ⟨w.heap.size, 0, none⟩ = some (.int .i64 o) := bkr.cell rfl
        have hcap := flatT_cap f (capV 8) ds (fun d hd => (hall2 d hd).2.2)
        have hcap2 : ds.length * capV 8 ≤ 6 * capV 8 := Nat.mul_le_mul_right _ (by rw [hsn'.out]; omega)
        rw [cap8] at hcap hcap2
        have hDr : DirsR f wr sa i sc ds := DirsR.mono (w := w) ⟨dvs, hdl, hsl'.out, hsub'.out⟩ hbw
        have hDi := rdirs2_any f o sa i sc ds wr hDr (by omega) (fun d hd => by have := (hall2 d hd).2.2; rw [cap8] at this; omega)
        obtain ⟨N, hN⟩ : ∃ N, (flatT f ds).length = N := ⟨_, rfl⟩
        have hNl : N ≤ 3000000 := by omega
        rw [hN] at hDi
        clear hcap hcap2
        have hbw' := Lib.hid hbw
        have hall2' := Lib.hid hall2
        have hDr' := Lib.hid hDr
        have hDi' := Lib.hid hDi
        have hN' := Lib.hid hN
        clear hbw hall2 hDr hDi hN
        go_wp2_with fail
        refine hDi'.out.mono ?_
        rintro e w4 ⟨a4, c4, vs4, rfl, ho4, hf4, hb4⟩
        have hbw4 := hbw'.out.trans (hb4.mono hbw'.out.size)
        have ho4' := Lib.hid ho4
        have hf4' := Lib.hid hf4
        have hb4' := Lib.hid hb4
        have hbw4' := Lib.hid hbw4
        clear ho4 hf4 hb4 hbw4
        clear q0 q1
        by_cases h40 : 40 < N
        · have d2 : decide ((40 : Int) < (N : Int)) = true := by simp; omega
          go_wp2_with fail
          go_ret
          exact ⟨_, rfl, hbw4'.out, fun h => by cases h⟩
        · have d2 : decide ((40 : Int) < (N : Int)) = false := by simp; omega
          go_wp2_with fail
          go_ret
          exact ⟨_, rfl, hbw4'.out, fun _ => ⟨hall2'.out, by rw [hsn'.out]; omega, by rw [hN'.out]; omega⟩⟩
set_option maxRecDepth 20000 in
set_option maxHeartbeats 8000000 in
theorem checks_any (f : Nat) (o : Int) (sa : Option Addr) (sn sc : Nat) (ds : List (DirT f)) (o2 : Int) (ua : Option Addr) (un uc : Nat) (us : List (DirT f)) (a : Option Addr) (n c : Nat) (zs : List Shz) (w : World)
    (h : DirsR f w sa sn sc ds) (hby : ∀ d ∈ ds, bytD f d) (h2 : DirsR f w ua un uc us) (hby2 : ∀ d ∈ us, bytD f d) (hz : ShR w a n c zs) :
    Calls Tryz.prog 5 #[.agg #[.int .i64 o, .slice sa sn sc], .agg #[.int .i64 o2, .slice ua un uc], .slice a n c] w fun e w' => e = .returned (.bool true) ∧ Below w.heap.size w w' := by
  obtain ⟨W1, hW1, bA, bB, hb1, s1⟩ := two_boxes w 24 #[.int .i64 o, .slice sa sn sc] 24 #[.int .i64 o2, .slice ua un uc]
  have a0 : W1.cell? ⟨w.heap.size, 0, none⟩ = some (.int .i64 o) := bA.cell rfl
  have a1 : W1.cell? ⟨w.heap.size, 1, none⟩ = some (.slice sa sn sc) := bA.cell rfl
  have hH1 := huge_any f o sa sn sc ds W1 (h.mono hb1)
  have h' := Lib.hid h
  have hby' := Lib.hid hby
  have h2' := Lib.hid h2
  have hby2' := Lib.hid hby2
  have hz' := Lib.hid hz
  have hW1' := Lib.hid hW1
  have bA' := Lib.hid bA
  have bB' := Lib.hid bB
  have hb1' := Lib.hid hb1
  have s1' := Lib.hid s1
  have hH1' := Lib.hid hH1
  clear h hby h2 hby2 hz hW1 bA bB hb1 s1 hH1
  go_enter Tryz.func5, Tryz.ntmps5
  go_wp2_with fail
  rw [hW1'.out]
  refine hH1'.out.mono ?_
  rintro e w2 ⟨b1, rfl, hb2, hp1⟩
  have hbw2 := hb1'.out.trans (hb2.mono hb1'.out.size)
  have bA2 := bA'.out.late hb2
  have bB2 := bB'.out.late hb2
  clear a0 a1
  cases b1 with
  | true =>
    have hbwz := hbw2
    have hb2' := Lib.hid hb2
    have hp1' := Lib.hid hp1
    have hbw2' := Lib.hid hbw2
    have bA2' := Lib.hid bA2
    have bB2' := Lib.hid bB2
    clear hb2 hp1 hbw2 bA2 bB2
    have hbwz' := Lib.hid hbwz
    clear hbwz
    go_wp2_with fail
    refine (awake_any _).mono ?_
    rintro e w9 ⟨rfl, hb9⟩
    have hbw9 := hbwz'.out.trans (hb9.mono hbwz'.out.size)
    have hb9' := Lib.hid hb9
    have hbw9' := Lib.hid hbw9
    clear hb9 hbw9
    go_wp2_with fail
    go_ret
    exact ⟨rfl, hbw9'.out⟩
  | false =>
  have hk1 := hp1 rfl
  clear hp1
  have g0 : w2.cell? ⟨w.heap.size + 1, 0, none⟩ = some (.int .i64 o2) := bB2.cell rfl
  have g1 : w2.cell? ⟨w.heap.size + 1, 1, none⟩ = some (.slice ua un uc) := bB2.cell rfl
  have hH2 := huge_any f o2 ua un uc us w2 (h2'.out.mono hbw2)
  have hb2' := Lib.hid hb2
  have hbw2' := Lib.hid hbw2
  have bA2' := Lib.hid bA2
  have bB2' := Lib.hid bB2
  have hk1' := Lib.hid hk1
  have hH2' := Lib.hid hH2
  clear hb2 hbw2 bA2 bB2 hk1 hH2
  go_wp2_with fail
  refine hH2'.out.mono ?_
  rintro e w3 ⟨b2, rfl, hb3, hp2⟩
  have hbw3 := hbw2'.out.trans (hb3.mono hbw2'.out.size)
  have bA3 := bA2'.out.late hb3
  have bB3 := bB2'.out.late hb3
  clear g0 g1
  cases b2 with
  | true =>
    have hbwz := hbw3
    have hb3' := Lib.hid hb3
    have hp2' := Lib.hid hp2
    have hbw3' := Lib.hid hbw3
    have bA3' := Lib.hid bA3
    have bB3' := Lib.hid bB3
    clear hb3 hp2 hbw3 bA3 bB3
    have hbwz' := Lib.hid hbwz
    clear hbwz
    go_wp2_with fail
    refine (awake_any _).mono ?_
    rintro e w9 ⟨rfl, hb9⟩
    have hbw9 := hbwz'.out.trans (hb9.mono hbwz'.out.size)
    have hb9' := Lib.hid hb9
    have hbw9' := Lib.hid hbw9
    clear hb9 hbw9
    go_wp2_with fail
    go_ret
    exact ⟨rfl, hbw9'.out⟩
  | false =>
  have hk2 := hp2 rfl
  clear hp2
  have hM := many_any a n c zs w3 (hz'.out.mono hbw3)
  have hb3' := Lib.hid hb3
  have hbw3' := Lib.hid hbw3
  have bA3' := Lib.hid bA3
  have bB3' := Lib.hid bB3
  have hk2' := Lib.hid hk2
  have hM' := Lib.hid hM
  clear hb3 hbw3 bA3 bB3 hk2 hM
  go_wp2_with fail
  refine hM'.out.mono ?_
  rintro e w4 ⟨b3, rfl, rfl⟩
  cases b3 with
  | true =>
    have hbwz := hbw3'.out
    have hbwz' := Lib.hid hbwz
    clear hbwz
    go_wp2_with fail
    refine (awake_any _).mono ?_
    rintro e w9 ⟨rfl, hb9⟩
    have hbw9 := hbwz'.out.trans (hb9.mono hbwz'.out.size)
    have hb9' := Lib.hid hb9
    have hbw9' := Lib.hid hbw9
    clear hb9 hbw9
    go_wp2_with fail
    go_ret
    exact ⟨rfl, hbw9'.out⟩
  | false =>
  have a0 : w3.cell? ⟨w.heap.size, 0, none⟩ = some (.int .i64 o) := bA3'.out.cell rfl
  have a1 : w3.cell? ⟨w.heap.size, 1, none⟩ = some (.slice sa sn sc) := bA3'.out.cell rfl
  obtain ⟨hv1, hl1, hn1⟩ := hk1'.out
  obtain ⟨hv2, hl2, hn2⟩ := hk2'.out
  have hr3 := h'.out.mono hbw3'.out
  have hsn : ds.length = sn := by obtain ⟨dvs, e1, e2, _⟩ := h'.out; rw [← e1]; exact e2.flen dvC_len (by decide)
  have hO := rtown_any f o sa sn sc ds w3 hr3 (fun d hd => (hv1 d hd).1) (fun d hd => (hv1 d hd).2.1) (by omega)
  have hO' := Lib.hid hO
  have hr3' := Lib.hid hr3
  have hsn' := Lib.hid hsn
  clear hO hr3 hsn
  go_wp2_with fail
  refine hO'.out.mono ?_
  rintro e w5 ⟨a5, c5, rfl, hdo, hb5⟩
  clear a0 a1
  have hal := (Below.refl w5.heap.size w5).alloc (Nat.le_refl _) (.cells #[.int .i64 o, .slice a5 sn c5] 24)
  have bG := Blk.new w5 24 #[.int .i64 o, .slice a5 sn c5]
  obtain ⟨gG, hgG⟩ : ∃ g, w5.heap.size = g := ⟨_, rfl⟩
  obtain ⟨W6, hW6⟩ : ∃ W6, w5.alloc (.cells #[.int .i64 o, .slice a5 sn c5] 24) = W6 := ⟨_, rfl⟩
  rw [hW6] at hal bG
  rw [hgG] at bG
  have h36 := hb5.trans (hal.mono hb5.size)
  have hbw6 := hbw3'.out.trans (h36.mono hbw3'.out.size)
  have bA6 := bA3'.out.late h36
  have bB6 := bB3'.out.late h36
  have hDo := hdo.rd.mono hal
  have hDt := h'.out.mono hbw6
  have hDu := h2'.out.mono hbw6
  have hZ := hz'.out.mono hbw6
  obtain ⟨Ty, ff, hne, hbel, hsurj⟩ := later_worlds W6
  have HS := Lib.hid (hsurj _ ((Below.refl _ _).drew))
  have q0 : ∀ s, (ff s).cell? ⟨w.heap.size, 0, none⟩ = some (.int .i64 o) := fun s => (bA6.late (hbel s)).cell rfl
  have q1 : ∀ s, (ff s).cell? ⟨w.heap.size, 1, none⟩ = some (.slice sa sn sc) := fun s => (bA6.late (hbel s)).cell rfl
  have q2 : ∀ s, (ff s).cell? ⟨w.heap.size + 1, 0, none⟩ = some (.int .i64 o2) := fun s => (bB6.late (hbel s)).cell rfl
  have q3 : ∀ s, (ff s).cell? ⟨w.heap.size + 1, 1, none⟩ = some (.slice ua un uc) := fun s => (bB6.late (hbel s)).cell rfl
  have q4 : ∀ s, (ff s).cell? ⟨gG, 0, none⟩ = some (.int .i64 o) := fun s => (bG.late (hbel s)).cell rfl
  have q5 : ∀ s, (ff s).cell? ⟨gG, 1, none⟩ = some (.slice a5 sn c5) := fun s => (bG.late (hbel s)).cell rfl
  obtain ⟨b, hb⟩ : ∃ b : Bool, b = true ↔ o = o2 ∧ ds = us := by
    by_cases hh : o = o2 ∧ ds = us
    · exact ⟨true, by simp [hh]⟩
    · exact ⟨false, by simp [hh]⟩
  have hsm1 := fun d hd => (hv1 d hd).1
  have hC1 := fun s => shapes_any a n c zs (ff s) (hZ.mono (hbel s))
  have hC2 := fun s => rshapes_any a n c zs (ff s) (hZ.mono (hbel s))
  have hC3 := fun s => pcheck_any f o a5 sn c5 ds a n c zs (ff s) (hDo.mono (hbel s)) (hZ.mono (hbel s)) hsm1 hby'.out (by omega) (by rw [← hsn'.out]; exact hl1)
  have hC4 := fun s => rcheck_any f o sa sn sc ds a n c zs (ff s) (hDt.mono (hbel s)) (hZ.mono (hbel s)) hsm1 (by omega) (by rw [← hsn'.out]; exact hl1)
  have hC5 := fun s => ptree_same f o o2 a5 sn c5 ua un uc ds us (ff s) (hDo.mono (hbel s)) (hDu.mono (hbel s)) hby'.out hby2'.out b hb
  have hC6 := fun s => tree_same f o o2 sa sn sc ua un uc ds us (ff s) (hDt.mono (hbel s)) (hDu.mono (hbel s)) b hb
  have hC7 := fun s => tree_same f o o a5 sn c5 sa sn sc ds ds (ff s) (hDo.mono (hbel s)) (hDt.mono (hbel s)) true (by simp)
  obtain ⟨sb, hsb⟩ : ∃ x, shapesB (shps zs) = x := ⟨_, rfl⟩
  obtain ⟨ck, hck⟩ : ∃ x, checkS f o ds (shps zs) = x := ⟨_, rfl⟩
  simp only [hsb] at hC1 hC2
  simp only [hck] at hC3 hC4
  have e1 : (sb == sb) = true := by simp
  have e2 : (ck == ck) = true := by simp
  have e3 : (b == b) = true := by simp
  have hal' := Lib.hid hal
  have bG' := Lib.hid bG
  have h36' := Lib.hid h36
  have hbw6' := Lib.hid hbw6
  have bA6' := Lib.hid bA6
  have bB6' := Lib.hid bB6
  have hDo' := Lib.hid hDo
  have hDt' := Lib.hid hDt
  have hDu' := Lib.hid hDu
  have hZ' := Lib.hid hZ
  have hbel' := Lib.hid hbel
  have hsurj' := Lib.hid hsurj
  have hb' := Lib.hid hb
  have hsm1' := Lib.hid hsm1
  have hC1' := Lib.hid hC1
  have hC2' := Lib.hid hC2
  have hC3' := Lib.hid hC3
  have hC4' := Lib.hid hC4
  have hC5' := Lib.hid hC5
  have hC6' := Lib.hid hC6
  have hC7' := Lib.hid hC7
  have hsb' := Lib.hid hsb
  have hck' := Lib.hid hck
  have hdo' := Lib.hid hdo
  have hb5' := Lib.hid hb5
  have hv1' := Lib.hid hv1
  have hv2' := Lib.hid hv2
  have hW6' := Lib.hid hW6
  have hgG' := Lib.hid hgG
  clear hal bG h36 hbw6 bA6 bB6 hDo hDt hDu hZ hbel hsurj hb hsm1 hC1 hC2 hC3 hC4 hC5 hC6 hC7 hsb hck hdo hb5 hv1 hv2 hW6 hgG
  go_wp2_with fail
  try rw [hW6'.out]
  try rw [hgG'.out]
  refine wp_quiet_in ff (by kernel_rfl) (by kernel_rfl) HS.out ?_
  iterate 26 (go_big_quiet_step (first | (go_at_call 18; refine (hC1'.out _).mono ?_; rintro e w8 ⟨rfl, hb8⟩; exact ⟨rfl, hsurj'.out _ ((hbel'.out _).trans (hb8.mono (hbel'.out _).size))⟩) | (go_at_call 19; refine (hC2'.out _).mono ?_; rintro e w8 ⟨rfl, hb8⟩; exact ⟨rfl, hsurj'.out _ ((hbel'.out _).trans (hb8.mono (hbel'.out _).size))⟩) | (go_at_call 17; refine (hC3'.out _).mono ?_; rintro e w8 ⟨rfl, hb8⟩; exact ⟨rfl, hsurj'.out _ ((hbel'.out _).trans (hb8.mono (hbel'.out _).size))⟩) | (go_at_call 20; refine (hC4'.out _).mono ?_; rintro e w8 ⟨rfl, hb8⟩; exact ⟨rfl, hsurj'.out _ ((hbel'.out _).trans (hb8.mono (hbel'.out _).size))⟩) | (go_at_call 21; refine (hC5'.out _).mono ?_; rintro e w8 ⟨rfl, hb8⟩; exact ⟨rfl, hsurj'.out _ ((hbel'.out _).trans (hb8.mono (hbel'.out _).size))⟩) | (go_at_call 16; refine (hC6'.out _).mono ?_; rintro e w8 ⟨rfl, hb8⟩; exact ⟨rfl, hsurj'.out _ ((hbel'.out _).trans (hb8.mono (hbel'.out _).size))⟩)))
  go_big_quiet_step ((go_at_call 16; refine (hC7'.out _).mono ?_; rintro e w8 ⟨rfl, hb8⟩; exact ⟨rfl, hsurj'.out _ ((hbel'.out _).trans (hb8.mono (hbel'.out _).size))⟩))
  iterate 5 (go_big_quiet_step ((go_at_call 11; refine (awake_any _).mono ?_; rintro e w8 ⟨rfl, hb8⟩; exact ⟨rfl, hsurj'.out _ ((hbel'.out _).trans (hb8.mono (hbel'.out _).size))⟩)))
  refine wpQuiet_nil ?_
  intro s
  have hbz := hbw6'.out.trans ((hbel'.out s).mono hbw6'.out.size)
  have hbz' := Lib.hid hbz
  clear hbz
  go_wp2_with fail
  go_ret
  exact ⟨rfl, hbz'.out⟩
theorem checks_law (o : Int) (sa : Option Addr) (sn sc F : Nat) (o2 : Int) (ua : Option Addr) (un uc G : Nat) (a : Option Addr) (n c : Nat) (zs : List Shz) (w : World)
    (h : ∀ g, F ≤ g → ∃ ds : List (DirT g), DirsR g w sa sn sc ds ∧ ∀ d ∈ ds, bytD g d) (h2 : ∀ g, G ≤ g → ∃ ds : List (DirT g), DirsR g w ua un uc ds ∧ ∀ d ∈ ds, bytD g d) (hz : ShR w a n c zs) :
    Calls Tryz.prog 5 #[.agg #[.int .i64 o, .slice sa sn sc], .agg #[.int .i64 o2, .slice ua un uc], .slice a n c] w fun e w' => e = .returned (.bool true) ∧ Below w.heap.size w w' := by
  obtain ⟨ds, h3, h4⟩ := h (max F G) (Nat.le_max_left ..)
  obtain ⟨us, h5, h6⟩ := h2 (max F G) (Nat.le_max_right ..)
  exact checks_any (max F G) o sa sn sc ds o2 ua un uc us a n c zs w h3 h4 h5 h6 hz
end Go.Proofs.YtilennmeiaehnaaGreat

namespace Tt
open Go Go.RowKit Go.ChangeShapes Go.WideShapes Go.ChangeAt
set_option linter.unusedVariables false

theorem cell_spot {w : World} {a : Addr} {v : Value} (h : w.cell? a = some v) : a = ⟨a.block, a.off, none⟩ ∧ a.block < w.heap.size := by
  refine ⟨?_, World.block_lt_of_cell? w a h⟩
  obtain ⟨b, o, s⟩ := a
  cases s with
  | none => rfl
  | some x => simp [World.cell?] at h; split at h <;> simp_all
theorem add_zero_addr (a : Addr) : a.add 0 = a := rfl
theorem mk_add (b o n : Nat) : (⟨b, o, none⟩ : Addr).add n = ⟨b, o + n, none⟩ := by
  unfold Addr.add
  split
  · next h => rw [h, Nat.add_zero]
  · rfl

/-- A row of cells behind an address reads as a slice. -/
theorem Sl.of_cells {w : World} {x : Addr} {n c : Nat} {vs : List Value} (hn : n ≤ c) (hc : c ≤ maxLen) (hl : vs.length = c) (h : ∀ i v, vs[i]? = some v → w.cell? (x.add i) = some v) : Sl w (some x) n c 1 (vs.take n) := by
  refine ⟨by rw [List.length_take]; omega, hn, hc, fun i hi => ?_, fun he => by cases he⟩
  have h0 := h 0 _ (List.getElem?_eq_getElem (show 0 < vs.length by omega))
  rw [add_zero_addr] at h0
  obtain ⟨e, hlt⟩ := cell_spot h0
  refine ⟨x.block, x.off, by rw [← e], hlt, fun j v hj => ?_⟩
  have hj' : vs[j]? = some v := by
    rw [List.getElem?_take] at hj
    split at hj
    · exact hj
    · cases hj
  have := h j v hj'
  rw [e, mk_add] at this
  exact this

theorem Sl.of_ints {w : World} {k : IntKind} {x : Addr} {n c : Nat} {zs : List Int} (hn : n ≤ c) (hc : c ≤ maxLen) (hl : zs.length = c) (h : ∀ i, i < zs.length → w.cell? (x.add i) = some (.int k (zs.getD i 0))) : Sl w (some x) n c 1 (ints k (zs.take n)) := by
  have := Sl.of_cells (vs := ints k zs) hn hc (by rw [ints_len, hl]) (fun i v hv => by
    have hi : i < zs.length := by
      have := (List.getElem?_eq_some_iff.1 hv).1
      rwa [ints_len] at this
    rw [ints_get hi] at hv
    rw [h i hi]; exact hv)
  rwa [show (ints k zs).take n = ints k (zs.take n) by simp [ints, List.map_take]] at this
theorem byt_wf {zs : List Int} (h : ∀ n ∈ zs, (Lit.int .u8 n).wf = true) : Byt zs := fun n hn => by
  have := h n hn
  simp [Lit.wf, IntKind.min, IntKind.max, IntKind.signed, IntKind.bits] at this
  omega
theorem wf_i64 {n : Int} (h : (Lit.int .i64 n).wf = true) : -9223372036854775808 ≤ n ∧ n ≤ 9223372036854775807 := by
  simp [Lit.wf, IntKind.min, IntKind.max, IntKind.signed, IntKind.bits] at h
  omega

/-- A slice of bytes that came in. -/
theorem open_bytes {H : Type} {enc : TypeId × Value → H} {P : Program} {W : World} {t e : TypeId} {base : Nat} {spare : Nat → Bool} {held : Bool} {a : Option Addr} {n c fuel : Nat} {x : DataW H × List MemPlace} (ht : P.underlying t = some (.slice e)) (he : P.underlying e = some (.int .u8)) (hc : P.cellsOf e = 1)
    (h : DataW.trod enc P W base spare held fuel t (Value.slice a n c).cells.toList = some x) (hs : spare = fun _ => true) : ∃ l, Sl W a n c 1 (ints .u8 l) ∧ Byt l := by
  subst hs
  rcases open_ints ht he hc h with ⟨hcs, _⟩ | ⟨y, l, c', zs, hcs, _, hl, hm, hz, _, hcell, hwz⟩
  · simp [Value.cells] at hcs
    obtain ⟨rfl, rfl, rfl⟩ := hcs
    exact ⟨[], Sl.nil _ _, fun x hx => by cases hx⟩
  · simp [Value.cells] at hcs
    obtain ⟨rfl, rfl, rfl⟩ := hcs
    exact ⟨_, Sl.of_ints hl hm (by simpa using hz) hcell, (byt_wf hwz).take _⟩

section
variable {H : Type} {enc : TypeId × Value → H}
/-- 'There is an input that fits', the world begun by the door's own run. -/
theorem witness_row_laid {C : Checked} {os : Os} {f : FuncId} {fn : Func} {s : OpenSpec} {conds : List PathCond} {apart : Bool} {laid : List (String × DataW Unit)} (modest : Bool) (steps : Nat) (args : Array Value)
    (hv : ((World.doorLaid C.prog steps os).forCall (fun _ _ => 0) ⟨#[], args, []⟩).variablesRefB C.prog = true)
    (hr : (((World.doorLaid C.prog steps os).forCall (fun _ _ => 0) ⟨#[], args, []⟩).heap.toList.drop C.prog.globals.size).take ((begin C.prog (fun _ _ => 0) default).world.heap.size - C.prog.globals.size) =
      (begin C.prog (fun _ _ => 0) default).world.heap.toList.drop C.prog.globals.size)
    (hok : Input.okWideB C.prog ((World.doorLaid C.prog steps os).forCall (fun _ _ => 0) ⟨#[], args, []⟩) f ⟨#[], args, []⟩ = true)
    (hrow : s.preRow enc C.prog fn conds apart laid ((World.doorLaid C.prog steps os).forCall (fun _ _ => 0) ⟨#[], args, []⟩).memory args) :
    ∃ (w : World) (tape : Tape) (i : Input), w.os = os ∧ (w.forCall tape i).Shaped C.prog ∧ i.vars = [] ∧ Input.okWide C.prog (w.forCall tape i) .any w.heap.size f i ∧
      s.preRow enc C.prog fn conds apart laid (w.forCall tape i).memory i.args ∧ ({ modest := modest } : Assume).holds C.prog (lone (Frame.enter C.prog f i.args .normal) [] (w.forCall tape i)) :=
  ⟨World.doorLaid C.prog steps os, fun _ _ => 0, ⟨#[], args, []⟩, rfl, World.shaped_of_RefB hv hr, (Input.okWide_of_okWideB (base := 0) hok).1, (Input.okWide_of_okWideB hok).2, hrow, by
    simp only [Assume.holds]
    exact ⟨by simp, by simp, fun _ => Modest.zero, by simp, by simp⟩⟩
end
end Tt

namespace Tt
open Go Go.RowKit Go.ChangeShapes Go.WideShapes Go.ChangeAt Go.Deep
set_option linter.unusedVariables false

section
variable {H : Type} {enc : TypeId × Value → H} {P : Program} {W : World} {base : Nat} {held : Bool}
theorem open_nums {k : IntKind} {t e : TypeId} {spare : Nat → Bool} {a : Option Addr} {n c fuel : Nat} {x : DataW H × List MemPlace} (ht : P.underlying t = some (.slice e)) (he : P.underlying e = some (.int k)) (hc : P.cellsOf e = 1)
    (h : DataW.trod enc P W base spare held fuel t (Value.slice a n c).cells.toList = some x) (hs : spare = fun _ => true) : ∃ l, Sl W a n c 1 (ints k l) ∧ ∀ x ∈ l, (Lit.int k x).wf = true := by
  subst hs
  rcases open_ints ht he hc h with ⟨hcs, _⟩ | ⟨y, l, c', zs, hcs, _, hl, hm, hz, _, hcell, hwz⟩
  · simp [Value.cells] at hcs
    obtain ⟨rfl, rfl, rfl⟩ := hcs
    exact ⟨[], Sl.nil _ _, fun x hx => by cases hx⟩
  · simp [Value.cells] at hcs
    obtain ⟨rfl, rfl, rfl⟩ := hcs
    exact ⟨_, Sl.of_ints hl hm (by simpa using hz) hcell, fun x hx => hwz x (List.mem_of_mem_take hx)⟩
/-- a struct of numbers, each in a cell of its own -/
theorem struct_nums {t T : TypeId} {fs : Array Field} {m fuel : Nat} {cs : List Value} {x : DataW H × List MemPlace} (ht : P.underlying t = some (.struct fs)) (hT : P.underlying T = some (.int .i64)) (hc : P.cellsOf T = 1) (hm : P.cellsOf t = m)
    (hf : ∀ i, i < m → ∃ f, fs[i]? = some f ∧ f.offset = i ∧ f.type = T) (h : DataW.trod enc P W base (fun _ => true) held fuel t cs = some x) :
    ∃ zs : List Int, zs.length = m ∧ cs = ints .i64 zs ∧ ∀ z ∈ zs, (Lit.int .i64 z).wf = true := by
  obtain ⟨xs, n, _, _, hl, hxl, hall⟩ := DataW.trod_struct ht h
  rw [hm] at hl
  have each : ∀ i, i < m → ∃ z : Int, cs[i]? = some (.int .i64 z) ∧ (Lit.int .i64 z).wf = true := fun i hi => by
    obtain ⟨f, h1, h2, h3⟩ := hf i hi
    have h4 := hall i f h1
    rw [h2, h3, hc] at h4
    have hil : i < xs.length := by
      rw [hxl]
      exact (Array.getElem?_eq_some_iff.1 h1).1
    rw [List.getElem?_eq_getElem hil] at h4
    obtain ⟨z, e0, _, hw⟩ := DataW.trod_int hT h4
    refine ⟨z, ?_, hw⟩
    have h5 : ((cs.drop i).take 1)[0]? = some (.int .i64 z) := by rw [e0]; rfl
    rw [List.getElem?_take, if_pos (by decide), List.getElem?_drop, Nat.add_zero] at h5
    exact h5
  have hex : ∀ i, ∃ z : Int, i < m → cs[i]? = some (.int .i64 z) ∧ (Lit.int .i64 z).wf = true := fun i => by
    by_cases hi : i < m
    · obtain ⟨z, hz⟩ := each i hi; exact ⟨z, fun _ => hz⟩
    · exact ⟨0, fun h0 => absurd h0 hi⟩
  obtain ⟨q, hq⟩ := Classical.axiomOfChoice hex
  refine ⟨(List.range m).map q, by simp, ?_, ?_⟩
  · apply List.ext_getElem?
    intro i
    by_cases hi : i < m
    · rw [(hq i hi).1]
      simp [ints, hi]
    · rw [List.getElem?_eq_none (by omega), List.getElem?_eq_none (by simp [ints]; omega)]
  · intro z hz
    obtain ⟨i, hi, rfl⟩ := List.mem_map.1 hz
    exact (hq i (by simpa using hi)).2
theorem flatm_len (m : Nat) (f : Nat → List Value) (n : Nat) (hf : ∀ i, i < n → (f i).length = m) : ((List.range n).flatMap f).length = n * m := by
  induction n with
  | zero => simp
  | succ n ih =>
    rw [List.range_succ, List.flatMap_append, List.length_append, ih (fun i hi => hf i (by omega))]
    simp [hf n (by omega), Nat.succ_mul]
theorem flatm_get (m : Nat) (f : Nat → List Value) (n : Nat) (hf : ∀ i, i < n → (f i).length = m) (i j : Nat) (hi : i < n) (hj : j < m) : ((List.range n).flatMap f)[i * m + j]? = (f i)[j]? := by
  induction n with
  | zero => omega
  | succ n ih =>
    have hl := flatm_len m f n (fun i hi => hf i (by omega))
    rw [List.range_succ, List.flatMap_append]
    by_cases h : i < n
    · have h1 : i * m + j < n * m := by
        have : (i + 1) * m ≤ n * m := Nat.mul_le_mul_right _ (by omega)
        rw [Nat.succ_mul] at this; omega
      rw [List.getElem?_append_left (by omega)]
      exact ih (fun i hi => hf i (by omega)) h
    · obtain rfl : i = n := by omega
      rw [List.getElem?_append_right (by omega), hl]
      simp
/-- a row of structs of numbers -/
theorem open_structs {ts t T : TypeId} {fs : Array Field} {m fuel : Nat} (hm0 : 0 < m) {a : Option Addr} {n c : Nat} {x : DataW H × List MemPlace} (hts : P.underlying ts = some (.slice t)) (ht : P.underlying t = some (.struct fs)) (hT : P.underlying T = some (.int .i64)) (hc : P.cellsOf T = 1) (hm : P.cellsOf t = m)
    (hf : ∀ i, i < m → ∃ f, fs[i]? = some f ∧ f.offset = i ∧ f.type = T) (h : DataW.trod enc P W base (fun _ => true) held fuel ts (Value.slice a n c).cells.toList = some x) :
    ∃ q : Nat → List Int, (∀ i, i < n → (q i).length = m ∧ ∀ z ∈ q i, (Lit.int .i64 z).wf = true) ∧ Sl W a n c m ((List.range n).flatMap fun i => ints .i64 (q i)) := by
  rcases DataW.trod_slice hts h with ⟨hcs, _⟩ | ⟨ad, len, cap, elems, rest, _, _, hcs, _, hb, hl, hmx, hlen, hel, _, _⟩
  · simp [Value.cells] at hcs
    obtain ⟨rfl, rfl, rfl⟩ := hcs
    exact ⟨fun _ => [], fun i hi => by omega, Sl.nil _ _⟩
  · simp [Value.cells] at hcs
    obtain ⟨rfl, rfl, rfl⟩ := hcs
    rw [hm] at hel
    have each : ∀ i, i < n → ∃ zs : List Int, zs.length = m ∧ (∀ j v, (ints .i64 zs)[j]? = some v → W.cell? (ad.add (i * m + j)) = some v) ∧ ∀ z ∈ zs, (Lit.int .i64 z).wf = true := fun i hi => by
      have h1 := hel i hi
      rw [List.getElem?_eq_getElem (by omega)] at h1
      obtain ⟨cs', hcc, htr⟩ := Option.bind_eq_some_iff.1 h1
      obtain ⟨zs, hzl, rfl, hw⟩ := struct_nums ht hT hc hm hf htr
      refine ⟨zs, hzl, fun j v hj => ?_, hw⟩
      obtain ⟨_, hcl, hget⟩ := World.cells?_some hcc
      have hjm : j < m := by
        have := (List.getElem?_eq_some_iff.1 hj).1
        rwa [ints_len, hzl] at this
      rw [← hj, ← hget j hjm, Addr.add_add]
    have hex : ∀ i, ∃ zs : List Int, i < n → zs.length = m ∧ (∀ j v, (ints .i64 zs)[j]? = some v → W.cell? (ad.add (i * m + j)) = some v) ∧ ∀ z ∈ zs, (Lit.int .i64 z).wf = true := fun i => by
      by_cases hi : i < n
      · obtain ⟨z, hz⟩ := each i hi; exact ⟨z, fun _ => hz⟩
      · exact ⟨[], fun h0 => absurd h0 hi⟩
    obtain ⟨q, hq⟩ := Classical.axiomOfChoice hex
    have hql : ∀ i, i < n → (ints .i64 (q i)).length = m := fun i hi => by rw [ints_len]; exact (hq i hi).1
    refine ⟨q, fun i hi => ⟨(hq i hi).1, (hq i hi).2.2⟩, flatm_len m _ n hql, hl, hmx, fun i hi => ?_, fun he => by cases he⟩
    have h00 := (hq 0 (by omega)).2.1 0 _ (List.getElem?_eq_getElem (by rw [hql 0 (by omega)]; exact hm0))
    rw [Nat.zero_mul, Nat.zero_add, add_zero_addr] at h00
    obtain ⟨e, hlt⟩ := cell_spot h00
    refine ⟨ad.block, ad.off, by rw [← e], hlt, fun j v hj => ?_⟩
    have hjn : j < n * m := by
      have := (List.getElem?_eq_some_iff.1 hj).1
      rwa [flatm_len m _ n hql] at this
    have hdm : j / m < n := by rw [Nat.div_lt_iff_lt_mul hm0]; exact hjn
    have hmod : j % m < m := Nat.mod_lt _ hm0
    have hj2 := flatm_get m (fun i => ints .i64 (q i)) n hql (j / m) (j % m) hdm hmod
    have hdiv : j / m * m + j % m = j := Nat.div_add_mod' j m
    rw [hdiv] at hj2
    have h1 := (hq (j / m) hdm).2.1 (j % m) v (hj2.symm.trans hj)
    rw [hdiv, e, mk_add] at h1
    exact h1
end
end Tt
