/- Chapter 21: has a directory a shape: the program. | A range over a function, walked with its iterator in one: of whatever program. -/
import Derived.Test.YtceclmpmpldmlaaGreatCs13
import Derived.RangeFuncNested
import Derived.RangeFuncBound
import Derived.RangeFuncCalls
import Derived.RangeFuncLeaves
import Derived.RangeFuncBox
import Derived.Shelf.Abstract
import Derived.Shelf.RegionOpen
import Derived.OwnWalkIn
import Derived.TacticsInMore
import Derived.LoopNIn
import Derived.LoopIn
import Derived.Test.YtceclmpmpldmlaaGreatCs00
namespace Go.Proofs.YtceclmpmpldmlaaGreat
open Go.RowKit Tt
set_option linter.unusedVariables false
set_option linter.unusedSimpArgs false

theorem getD_map_tagz {zs : List Tz} {k : Nat} : (zs.map tagz).getD k tg0 = tagz (zs.getD k tz0) := map_getD tagz zs tz0 k
set_option maxRecDepth 20000 in
set_option maxHeartbeats 8000000 in
theorem jtags_any (qa : Option Addr) (qn qc : Nat) (ta : Option Addr) (tn tc : Nat) (sa : Option Addr) (sn sc : Nat) (ba : Option Addr) (bn bc : Nat) (zs : List Tz) (la : Option Addr) (ln lc : Nat) (lks : List Lk) (sat slong snx : Int) (w : World)
    (ht : Tgr w ta tn tc zs) (hbt : ∀ z ∈ zs, Byt z.2) (hl : Sl w la ln lc 2 (fl lkc lks)) (hown : ∀ t, ((decide (0 < sat) && (t == sat || t == slong)) || lks.any fun y => y.1 == t) = ownP (lks, sat, slong, snx) t) :
    Calls Tryz.prog 107 #[.agg #[.slice qa qn qc], .agg #[.slice ta tn tc, .slice sa sn sc, .slice ba bn bc], .agg #[.slice la ln lc, .int .i64 sat, .int .i64 slong, .int .i64 snx]] w fun e w' => e = .returned (.bool (ownB (lks, sat, slong, snx) (zs.map tagz))) ∧ Below w.heap.size w w' := by
  have hzl := ht.len; have hmx := ht.row.max; have hle := ht.row.le; obtain ⟨ts, hts⟩ : ∃ ts, zs.map tagz = ts := ⟨_, rfl⟩; have hgt : ∀ k, ts.getD k tg0 = tagz (zs.getD k tz0) := fun k => hts ▸ getD_map_tagz; rw [hts]; have hlen : ts.length = tn := by rw [← hts, List.length_map]; exact hzl
  obtain ⟨R, hR⟩ : ∃ R, ownB (lks, sat, slong, snx) ts = R := ⟨_, rfl⟩; rw [hR]; obtain ⟨WC, hWC, bA, bB, bC, hbC, sC⟩ := three_boxes w 104 #[.slice qa qn qc] 26 #[.slice ta tn tc, .slice sa sn sc, .slice ba bn bc] 35 #[.slice la ln lc, .int .i64 sat, .int .i64 slong, .int .i64 snx]; have c0 := bB.cell (i := 0) rfl; rw [← hWC] at c0; have ht' := Lib.hid ht; have hbt' := Lib.hid hbt; have hl' := Lib.hid hl; have hown' := Lib.hid hown; have hzl' := Lib.hid hzl; have hts' := Lib.hid hts; have hgt' := Lib.hid hgt; have hlen' := Lib.hid hlen; have hR' := Lib.hid hR; have bA' := Lib.hid bA; have bB' := Lib.hid bB; have bC' := Lib.hid bC; have hbC' := Lib.hid hbC; have sC' := Lib.hid sC; have hWC' := Lib.hid hWC; clear ht hbt hl hown hzl hts hgt hlen hR bA bB bC hbC sC hWC
  go_enter Tryz.func107, Tryz.ntmps107
  go_wp2_with fail
  rw [hWC'.out]; clear hWC' c0
  go_loopw [12] (fun iv wr => ∃ i : Nat, i ≤ tn ∧ iv = .int .i64 i ∧ Hid (∀ j, j < i → tgB (lks, sat, slong, snx) ts j = true) ∧ Hid (Below WC.heap.size WC wr)) (fun iv _ => tn - (intOf iv).toNat)
  case atStart => exact ⟨0, by omega, rfl, Lib.hid (fun j hj => by omega), Lib.hid (Below.refl _ _)⟩
  case round =>
    obtain ⟨i, hi, rfl, hall, hb⟩ := hrel
    by_cases hlt : i < tn
    · have hbw := hbC'.out.trans (hb.out.mono hbC'.out.size)
      have htw := ht'.out.mono hbw; obtain ⟨b, o, rfl, hblt, f0, f1, f2, f3, hrd⟩ := htw.at hlt; have hgi := hgt'.out i; have hbd : Byt (zs.getD i tz0).2 := by rw [getD_el (by rw [hzl'.out]; exact hlt)]; exact hbt'.out _ (List.getElem_mem _)
      have hgp := hgt'.out (i - 1); obtain ⟨⟨⟨y, t, k, xa, xn, xc⟩, d⟩, hzi⟩ : ∃ z, zs.getD i tz0 = z := ⟨_, rfl⟩; rw [hzi] at f0 f1 f2 f3 hrd hgi hbd; simp only [tagz] at f0 f1 f2 f3 hrd hgi hbd; have hRno : tgB (lks, sat, slong, snx) ts i = false → R = false := fun hh => hR'.out ▸ rng_no (by rw [hlen'.out]; exact hlt) hh
      have hall2 : tgB (lks, sat, slong, snx) ts i = true → ∀ j, j < i + 1 → tgB (lks, sat, slong, snx) ts j = true := fun hv j hj => by
        by_cases hjk : j = i
        · subst hjk; exact hv
        · exact hall.out j (by omega)
      have htB : tgB (lks, sat, slong, snx) ts i = (tagB y && (decide (i = 0) || decide ((ts.getD (i - 1) tg0).1 < y)) && !ownP (lks, sat, slong, snx) y && mayS t k d) := by
        unfold tgB; rw [hgi]; rfl
      have hTG := fun W => tag_any y W
      generalize tagB y = tb at *
      have hin : (i : Int) < (tn : Int) := by omega
      have b4 := Blk.new wr 74 #[.int .i64 y, .int .i64 t, .int .i64 k, .slice xa xn xc]; have hb4 := (Below.refl wr.heap.size wr).alloc (Nat.le_refl _) (.cells #[.int .i64 y, .int .i64 t, .int .i64 k, .slice xa xn xc] 74); have hb14 := hb.out.trans (hb4.mono hb.out.size); have hbw4 := hbC'.out.trans (hb14.mono hbC'.out.size); have bB4 := bB'.out.late hb14; have bC4 := bC'.out.late hb14; have htw4 := ht'.out.mono hbw4; have hrd4 := hrd.mono hb4; have hl4 := hl'.out.mono hbw4; have hbw' := Lib.hid hbw; have htw' := Lib.hid htw; have hgi' := Lib.hid hgi; have hbd' := Lib.hid hbd; have hgp' := Lib.hid hgp; have hzi' := Lib.hid hzi; have hRno' := Lib.hid hRno; have hall2' := Lib.hid hall2; have htB' := Lib.hid htB; have hTG' := Lib.hid hTG; have b4' := Lib.hid b4; have hb4' := Lib.hid hb4; have hb14' := Lib.hid hb14; have hbw4' := Lib.hid hbw4; have bB4' := Lib.hid bB4; have bC4' := Lib.hid bC4; have htw4' := Lib.hid htw4; have hrd' := Lib.hid hrd; have hrd4' := Lib.hid hrd4; have hl4' := Lib.hid hl4; clear hbw htw hgi hbd hgp hzi hRno hall2 htB hTG b4 hb4 hb14 hbw4 bB4 bC4 htw4 hrd hrd4 hl4
      go_wp2_with fail
      clear f0 f1 f2 f3; obtain ⟨w4, hw4⟩ : ∃ w4, wr.alloc (.cells #[.int .i64 y, .int .i64 t, .int .i64 k, .slice xa xn xc] 74) = w4 := ⟨_, rfl⟩; rw [hw4] at b4' hb4' hb14' hbw4' bB4' bC4' htw4' hrd4' hl4' ⊢
      generalize wr.heap.size = g4 at *
      clear hw4; have hnz := fun (hz : i ≠ 0) => htw4'.out.at (k := i - 1) (by omega); obtain ⟨Ty, ff, hne, hbel, hsurj⟩ := later_worlds w4; have HS := Lib.hid (hsurj _ ((Below.refl _ _).drew)); have q0 : ∀ s, (ff s).cell? ⟨g4, 0, none⟩ = some (.int .i64 y) := fun s => (b4'.out.late (hbel s)).cell rfl; have q1 : ∀ s, (ff s).cell? ⟨g4, 1, none⟩ = some (.int .i64 t) := fun s => (b4'.out.late (hbel s)).cell rfl; have q2 : ∀ s, (ff s).cell? ⟨g4, 2, none⟩ = some (.int .i64 k) := fun s => (b4'.out.late (hbel s)).cell rfl; have q3 : ∀ s, (ff s).cell? ⟨g4, 3, none⟩ = some (.slice xa xn xc) := fun s => (b4'.out.late (hbel s)).cell rfl; have q4 : ∀ s, (ff s).cell? ⟨w.heap.size + 1, 0, none⟩ = some (.slice (some ⟨b, o, none⟩) tn tc) := fun s => (bB4'.out.late (hbel s)).cell rfl; have q5 : ∀ s, (ff s).cell? ⟨w.heap.size + 2, 0, none⟩ = some (.slice la ln lc) := fun s => (bC4'.out.late (hbel s)).cell rfl; have q6 : ∀ s, (ff s).cell? ⟨w.heap.size + 2, 1, none⟩ = some (.int .i64 sat) := fun s => (bC4'.out.late (hbel s)).cell rfl; have q7 : ∀ s, (ff s).cell? ⟨w.heap.size + 2, 2, none⟩ = some (.int .i64 slong) := fun s => (bC4'.out.late (hbel s)).cell rfl; have q8 : ∀ s, (ff s).cell? ⟨w.heap.size + 2, 3, none⟩ = some (.int .i64 snx) := fun s => (bC4'.out.late (hbel s)).cell rfl; have hMY := fun s => may_any t k xa xn xc d (ff s) (hrd4'.out.mono (hbel s)) hbd'.out; have hTK := fun s => taken_any la ln lc lks sat slong snx y (ff s) (hl4'.out.mono (hbel s)); rw [hown'.out] at hTK
      generalize ownP (lks, sat, slong, snx) y = kb at *
      generalize mayS t k d = mb at *
      have hbel' := Lib.hid hbel; have hsurj' := Lib.hid hsurj; have hMY' := Lib.hid hMY; have hTK' := Lib.hid hTK; clear hbel hsurj hMY hTK
      cases tb
      case false =>
        have hv : tgB (lks, sat, slong, snx) ts i = false := by rw [htB'.out]; simp
        clear hnz; refine wp_quiet_in ff (by kernel_rfl) (by kernel_rfl) HS.out ?_
        iterate 32 (go_big_quiet_step (first
          | (go_at_call 105; refine (hTG'.out _).mono ?_; rintro e w3 ⟨rfl, hb3⟩; exact ⟨rfl, hsurj'.out _ ((hbel'.out _).trans (hb3.mono (hbel'.out _).size))⟩)
          | (go_at_call 162; refine (hTK'.out _).mono ?_; rintro e w3 ⟨rfl, hb3⟩; exact ⟨rfl, hsurj'.out _ ((hbel'.out _).trans (hb3.mono (hbel'.out _).size))⟩)
          | (go_at_call 102; refine (hMY'.out _).mono ?_; rintro e w3 ⟨rfl, hb3⟩; exact ⟨rfl, hsurj'.out _ ((hbel'.out _).trans (hb3.mono (hbel'.out _).size))⟩)))
        refine wpQuiet_nil ?_; intro s; have hbs := hbel'.out s; have hbw := hbw4'.out.trans (hbs.mono hbw4'.out.size); obtain rfl := hRno'.out hv; clear hv; have hbw' := Lib.hid hbw; have hbs' := Lib.hid hbs; clear hbw hbs
        go_wp2_with fail
        go_ret
        exact ⟨rfl, hbw'.out⟩
      case true =>
        by_cases hk0 : i = 0
        · have p1 : decide ((0 : Int) < (i : Int)) = false := by simp; omega
          have p2 : decide (0 < i) = false := by simp; omega
          replace htB' := Lib.hid (htB'.out.trans (by rw [decide_eq_true hk0]; rfl : _ = (true && true && !kb && mb)))
          clear hk0 hnz
          cases kb
          case true =>
            have hv : tgB (lks, sat, slong, snx) ts i = false := by rw [htB'.out]; simp
            refine wp_quiet_in ff (by kernel_rfl) (by kernel_rfl) HS.out ?_
            iterate 32 (go_big_quiet_step (first
              | (go_at_call 105; refine (hTG'.out _).mono ?_; rintro e w3 ⟨rfl, hb3⟩; exact ⟨rfl, hsurj'.out _ ((hbel'.out _).trans (hb3.mono (hbel'.out _).size))⟩)
              | (go_at_call 162; refine (hTK'.out _).mono ?_; rintro e w3 ⟨rfl, hb3⟩; exact ⟨rfl, hsurj'.out _ ((hbel'.out _).trans (hb3.mono (hbel'.out _).size))⟩)
              | (go_at_call 102; refine (hMY'.out _).mono ?_; rintro e w3 ⟨rfl, hb3⟩; exact ⟨rfl, hsurj'.out _ ((hbel'.out _).trans (hb3.mono (hbel'.out _).size))⟩)))
            refine wpQuiet_nil ?_; intro s; have hbs := hbel'.out s; have hbw := hbw4'.out.trans (hbs.mono hbw4'.out.size); obtain rfl := hRno'.out hv; clear hv; have hbw' := Lib.hid hbw; have hbs' := Lib.hid hbs; clear hbw hbs
            go_wp2_with fail
            go_ret
            exact ⟨rfl, hbw'.out⟩
          case false =>
            cases mb
            case false =>
              have hv : tgB (lks, sat, slong, snx) ts i = false := by rw [htB'.out]; simp
              refine wp_quiet_in ff (by kernel_rfl) (by kernel_rfl) HS.out ?_
              iterate 32 (go_big_quiet_step (first
                | (go_at_call 105; refine (hTG'.out _).mono ?_; rintro e w3 ⟨rfl, hb3⟩; exact ⟨rfl, hsurj'.out _ ((hbel'.out _).trans (hb3.mono (hbel'.out _).size))⟩)
                | (go_at_call 162; refine (hTK'.out _).mono ?_; rintro e w3 ⟨rfl, hb3⟩; exact ⟨rfl, hsurj'.out _ ((hbel'.out _).trans (hb3.mono (hbel'.out _).size))⟩)
                | (go_at_call 102; refine (hMY'.out _).mono ?_; rintro e w3 ⟨rfl, hb3⟩; exact ⟨rfl, hsurj'.out _ ((hbel'.out _).trans (hb3.mono (hbel'.out _).size))⟩)))
              refine wpQuiet_nil ?_; intro s; have hbs := hbel'.out s; have hbw := hbw4'.out.trans (hbs.mono hbw4'.out.size); obtain rfl := hRno'.out hv; clear hv; have hbw' := Lib.hid hbw; have hbs' := Lib.hid hbs; clear hbw hbs
              go_wp2_with fail
              go_ret
              exact ⟨rfl, hbw'.out⟩
            case true =>
              have hv : tgB (lks, sat, slong, snx) ts i = true := by rw [htB'.out]; simp
              refine wp_quiet_in ff (by kernel_rfl) (by kernel_rfl) HS.out ?_
              iterate 32 (go_big_quiet_step (first
                | (go_at_call 105; refine (hTG'.out _).mono ?_; rintro e w3 ⟨rfl, hb3⟩; exact ⟨rfl, hsurj'.out _ ((hbel'.out _).trans (hb3.mono (hbel'.out _).size))⟩)
                | (go_at_call 162; refine (hTK'.out _).mono ?_; rintro e w3 ⟨rfl, hb3⟩; exact ⟨rfl, hsurj'.out _ ((hbel'.out _).trans (hb3.mono (hbel'.out _).size))⟩)
                | (go_at_call 102; refine (hMY'.out _).mono ?_; rintro e w3 ⟨rfl, hb3⟩; exact ⟨rfl, hsurj'.out _ ((hbel'.out _).trans (hb3.mono (hbel'.out _).size))⟩)))
              refine wpQuiet_nil ?_; intro s; have hbs := hbel'.out s; have hbw := hb14'.out.trans (hbs.mono hb14'.out.size); have hbs' := Lib.hid hbs; have hbw' := Lib.hid hbw; have hv' := Lib.hid hv; clear hbs hbw hv
              go_wp2_with fail
              go_roundw
              case rel => exact ⟨i + 1, by omega, by go_num, Lib.hid (hall2'.out hv'.out), hbw'⟩
              case measure => simp [intOf]; omega
        · obtain ⟨b3, o3, he3, hblt3, g0, _⟩ := hnz hk0
          obtain ⟨rfl, rfl⟩ : b = b3 ∧ o = o3 := by simpa using he3
          clear he3 hnz; obtain ⟨k', hk'⟩ : ∃ k', k' + 1 = i := ⟨i - 1, by omega⟩; have p1 : decide ((0 : Int) < (i : Int)) = true := by simp; omega
          have p2 : decide (0 < i) = true := by simp; omega
          have wk : IntKind.i64.wrap ((i : Int) - 1) = (k' : Int) := by rw [IntKind.wrap_i64]; omega
          have hgp2 := hgp'.out; rw [show i - 1 = k' by omega] at g0 hgp2; have hpe : (ts.getD (i - 1) tg0).1 = (zs.getD k' tz0).1.1 := by rw [show i - 1 = k' by omega, hgp2]; rfl
          replace htB' := Lib.hid (htB'.out.trans (by rw [hpe] : _ = (true && (decide (i = 0) || decide ((zs.getD k' tz0).1.1 < y)) && !kb && mb)))
          clear hpe hgp2
          generalize (zs.getD k' tz0).1.1 = pv at *
          have q9 : ∀ s, (ff s).cell? ⟨b, o + k' * 4, none⟩ = some (.int .i64 pv) := fun s => late (hbel'.out s) hblt3 g0; have hkn2 : (k' : Int) < tn := by omega
          have hkn3 : k' < tn := by omega
          have hkn4 : (0 : Int) ≤ (k' : Int) := by omega
          clear g0
          by_cases hpt : y ≤ pv
          · have p3 : decide (y ≤ pv) = true := by simp; omega
            have hv : tgB (lks, sat, slong, snx) ts i = false := by rw [htB'.out, decide_eq_false hk0, decide_eq_false (show ¬ pv < y by omega)]; simp
            clear hk0 hk'; refine wp_quiet_in ff (by kernel_rfl) (by kernel_rfl) HS.out ?_
            iterate 32 (go_big_quiet_step (first
              | (go_at_call 105; refine (hTG'.out _).mono ?_; rintro e w3 ⟨rfl, hb3⟩; exact ⟨rfl, hsurj'.out _ ((hbel'.out _).trans (hb3.mono (hbel'.out _).size))⟩)
              | (go_at_call 162; refine (hTK'.out _).mono ?_; rintro e w3 ⟨rfl, hb3⟩; exact ⟨rfl, hsurj'.out _ ((hbel'.out _).trans (hb3.mono (hbel'.out _).size))⟩)
              | (go_at_call 102; refine (hMY'.out _).mono ?_; rintro e w3 ⟨rfl, hb3⟩; exact ⟨rfl, hsurj'.out _ ((hbel'.out _).trans (hb3.mono (hbel'.out _).size))⟩)))
            refine wpQuiet_nil ?_; intro s; have hbs := hbel'.out s; have hbw := hbw4'.out.trans (hbs.mono hbw4'.out.size); obtain rfl := hRno'.out hv; clear hv; have hbw' := Lib.hid hbw; have hbs' := Lib.hid hbs; clear hbw hbs
            go_wp2_with fail
            go_ret
            exact ⟨rfl, hbw'.out⟩
          · have p3 : decide (y ≤ pv) = false := by simp; omega
            replace htB' := Lib.hid (htB'.out.trans (by rw [decide_eq_true (show pv < y by omega), Bool.or_true] : _ = (true && true && !kb && mb)))
            clear hk0 hk'
            cases kb
            case true =>
              have hv : tgB (lks, sat, slong, snx) ts i = false := by rw [htB'.out]; simp
              refine wp_quiet_in ff (by kernel_rfl) (by kernel_rfl) HS.out ?_
              iterate 32 (go_big_quiet_step (first
                | (go_at_call 105; refine (hTG'.out _).mono ?_; rintro e w3 ⟨rfl, hb3⟩; exact ⟨rfl, hsurj'.out _ ((hbel'.out _).trans (hb3.mono (hbel'.out _).size))⟩)
                | (go_at_call 162; refine (hTK'.out _).mono ?_; rintro e w3 ⟨rfl, hb3⟩; exact ⟨rfl, hsurj'.out _ ((hbel'.out _).trans (hb3.mono (hbel'.out _).size))⟩)
                | (go_at_call 102; refine (hMY'.out _).mono ?_; rintro e w3 ⟨rfl, hb3⟩; exact ⟨rfl, hsurj'.out _ ((hbel'.out _).trans (hb3.mono (hbel'.out _).size))⟩)))
              refine wpQuiet_nil ?_; intro s; have hbs := hbel'.out s; have hbw := hbw4'.out.trans (hbs.mono hbw4'.out.size); obtain rfl := hRno'.out hv; clear hv; have hbw' := Lib.hid hbw; have hbs' := Lib.hid hbs; clear hbw hbs
              go_wp2_with fail
              go_ret
              exact ⟨rfl, hbw'.out⟩
            case false =>
              cases mb
              case false =>
                have hv : tgB (lks, sat, slong, snx) ts i = false := by rw [htB'.out]; simp
                refine wp_quiet_in ff (by kernel_rfl) (by kernel_rfl) HS.out ?_
                iterate 32 (go_big_quiet_step (first
                  | (go_at_call 105; refine (hTG'.out _).mono ?_; rintro e w3 ⟨rfl, hb3⟩; exact ⟨rfl, hsurj'.out _ ((hbel'.out _).trans (hb3.mono (hbel'.out _).size))⟩)
                  | (go_at_call 162; refine (hTK'.out _).mono ?_; rintro e w3 ⟨rfl, hb3⟩; exact ⟨rfl, hsurj'.out _ ((hbel'.out _).trans (hb3.mono (hbel'.out _).size))⟩)
                  | (go_at_call 102; refine (hMY'.out _).mono ?_; rintro e w3 ⟨rfl, hb3⟩; exact ⟨rfl, hsurj'.out _ ((hbel'.out _).trans (hb3.mono (hbel'.out _).size))⟩)))
                refine wpQuiet_nil ?_; intro s; have hbs := hbel'.out s; have hbw := hbw4'.out.trans (hbs.mono hbw4'.out.size); obtain rfl := hRno'.out hv; clear hv; have hbw' := Lib.hid hbw; have hbs' := Lib.hid hbs; clear hbw hbs
                go_wp2_with fail
                go_ret
                exact ⟨rfl, hbw'.out⟩
              case true =>
                have hv : tgB (lks, sat, slong, snx) ts i = true := by rw [htB'.out]; simp
                refine wp_quiet_in ff (by kernel_rfl) (by kernel_rfl) HS.out ?_
                iterate 32 (go_big_quiet_step (first
                  | (go_at_call 105; refine (hTG'.out _).mono ?_; rintro e w3 ⟨rfl, hb3⟩; exact ⟨rfl, hsurj'.out _ ((hbel'.out _).trans (hb3.mono (hbel'.out _).size))⟩)
                  | (go_at_call 162; refine (hTK'.out _).mono ?_; rintro e w3 ⟨rfl, hb3⟩; exact ⟨rfl, hsurj'.out _ ((hbel'.out _).trans (hb3.mono (hbel'.out _).size))⟩)
                  | (go_at_call 102; refine (hMY'.out _).mono ?_; rintro e w3 ⟨rfl, hb3⟩; exact ⟨rfl, hsurj'.out _ ((hbel'.out _).trans (hb3.mono (hbel'.out _).size))⟩)))
                refine wpQuiet_nil ?_; intro s; have hbs := hbel'.out s; have hbw := hb14'.out.trans (hbs.mono hb14'.out.size); have hbs' := Lib.hid hbs; have hbw' := Lib.hid hbw; have hv' := Lib.hid hv; clear hbs hbw hv
                go_wp2_with fail
                go_roundw
                case rel => exact ⟨i + 1, by omega, by go_num, Lib.hid (hall2'.out hv'.out), hbw'⟩
                case measure => simp [intOf]; omega
    · obtain rfl : i = tn := by omega
      obtain rfl : R = true := by rw [← hR'.out]; exact rng_yes (fun j hj => hall.out j (by rw [hlen'.out] at hj; exact hj))
      have hbw := hbC'.out.trans (hb.out.mono hbC'.out.size); have hbw' := Lib.hid hbw; clear hbw
      go_wp2_with fail
      go_ret
      exact ⟨rfl, hbw'.out⟩
theorem has1_any (g : Nat) (tag : Int) (u v : Int) (w : World) (h : w.cell? ⟨g, 0, none⟩ = some (.int .i64 tag)) (hg : g < w.heap.size) :
    Calls Tryz.prog 108 #[.agg #[.int .i64 u, .int .i64 v], .pointer (some ⟨g, 0, none⟩)] w fun e w' => e = .returned (.bool (u == tag)) ∧ Below w.heap.size w w' := by
  have hb := (Below.refl w.heap.size w).alloc (Nat.le_refl _) (.cells #[.int .i64 u, .int .i64 v] 32); have hb' := Lib.hid hb; clear hb
  go_enter Tryz.func108, Tryz.ntmps108
  go_wp2_with fail
  go_ret
  exact ⟨rfl, hb'.out⟩
end Go.Proofs.YtceclmpmpldmlaaGreat

namespace Tt
open Go Go.RowKit
variable {F : Fence} {n : Nat} {P : Program}

/-- The record of a loop, in a state, with a pending jump. -/
def recOf (fn : FuncId) (tmps : Array Value) (ps : Array Tmp) (assign body : Code) (D : Nat) (st : LoopState) (pe : Option Code) : Loop :=
  { state := st, pending := pe, fn, tmps, params := ps, assign, body, defers := D }

/-- Behind the iterator. -/
def rfDone (F : Fence) (n : Nat) (P : Program) (Q : Exit → Act → World → Prop) (a : Act) (w : World) (rec : LoopState → Option Code → Loop) (e : Ending) (W2 : World) : Prop :=
  (∃ v, e = .returned v) ∧ ∃ st c, st ≠ .busy ∧ W2.heap[w.heap.size + 1]? = some (.loop (rec st c)) ∧
    (match c with
     | none => Q .normal { a with defers := { target := .collected w.heap.size, args := #[] } :: a.defers } (W2.putObj (w.heap.size + 1) (.loop (rec .exhausted c)))
     | some j => j.wpIn F n P Q { a with defers := { target := .collected w.heap.size, args := #[] } :: a.defers } (W2.putObj (w.heap.size + 1) (.loop (rec .exhausted c))))

theorem rf_law {g : Operand} {ps : Array Tmp} {assign body : Code} {Q : Exit → Act → World → Prop} {a : Act} {w : World}
    (hro : F.round = none) (h1 : 1 ≤ n) {gf : Nat} {lb : Array Value} (hg : a.eval g = .func (.func gf) #[] lb) (hFg : F.fn gf) (eg : ∀ args w, (callFunc gf args).run P w = .ok (.enter gf args) w)
    (h : ∀ fn, F.fn fn → CallsIn F (n - 1) P gf (#[.func (.yield (w.heap.size + 1)) #[] #[]] ++ lb)
      ((w.alloc (.deferred (some []))).alloc (.loop (recOf fn a.tmps ps assign body w.heap.size .ready none)))
      (rfDone F n P Q a w (recOf fn a.tmps ps assign body w.heap.size))) :
    (Code.rangeFunc g ps assign body).wpIn F n P Q a w := by
  refine wpIn_rangeFunc ?_; intro fn hfn; rw [hro]; have hh := h fn hfn; have hen := run_enterLoop_outer (P := P) (w := w) fn a.tmps ps assign body; have hrec : ({ state := .ready, pending := none, fn, tmps := a.tmps, params := ps, assign, body, defers := w.heap.size } : Loop) = recOf fn a.tmps ps assign body w.heap.size .ready none := rfl
  have hE : ∀ (W2 : World) (st : LoopState) (c : Option Code), st ≠ .busy → W2.heap[w.heap.size + 1]? = some (.loop (recOf fn a.tmps ps assign body w.heap.size st c)) →
      (Instr.endLoop (w.heap.size + 1)).run P W2 = .ok c (W2.putObj (w.heap.size + 1) (.loop (recOf fn a.tmps ps assign body w.heap.size .exhausted c))) := fun W2 st c hs hl => run_endLoop hl hs
  rw [hrec] at hen; clear hrec h
  generalize recOf fn a.tmps ps assign body w.heap.size = rec at *
  generalize (w.alloc (.deferred (some []))).alloc (.loop (rec .ready none)) = W1 at *
  refine ⟨w.heap.size + 1, [{ target := .collected w.heap.size, args := #[] }], W1, { target := .fn (.func gf) lb, args := #[.func (.yield (w.heap.size + 1)) #[] #[]] }, W1, gf, #[.func (.yield (w.heap.size + 1)) #[] #[]] ++ lb, W1, hen, ?_, ?_, ?_, fun _ => h1, ?_⟩
  · simp only [resolve, hg]
    simp [go_sem]
  · intro f' hf'; simp [Target.leads] at hf'; subst hf'; exact hFg
  · simp [invoke, go_sem, eg]
  · refine CallsIn.mono hh ?_
    rintro e W2 ⟨⟨v, rfl⟩, st, c, hs, hl, hq⟩; have hend := hE W2 st c hs hl; exact ⟨c, _, hend, hq⟩

/-- How a round may be left. -/
def rfPost (l : Nat) (rec : LoopState → Option Code → Loop) (R : Ending → World → Prop) : Exit → Act → World → Prop
  | .normal, _, W3 => W3.heap[l]? = some (.loop (rec .busy none)) ∧ R (.returned (.bool true)) (W3.putObj l (.loop (rec .ready none)))
  | .ret, _, W3 => W3.heap[l]? = some (.loop (rec .busy none)) ∧ R (.returned (.bool false)) (W3.putObj l (.loop (rec .done (some .ret))))
  | .exit id, _, W3 => W3.heap[l]? = some (.loop (rec .busy none)) ∧ R (.returned (.bool false)) (W3.putObj l (.loop (rec .done (some (.exit id)))))
  | _, _, _ => False

theorem rf_round {m : Nat} {l : Nat} {fn : FuncId} {tmps : Array Value} {ps : Array Tmp} {assign body : Code} {D : Nat} {W : World} {args : Array Value} {R : Ending → World → Prop}
    (hfn : F.fn fn) (hl : W.heap[l]? = some (.loop (recOf fn tmps ps assign body D .ready none))) (hps : args.size = ps.size)
    (h : assign.wpIn (F.inRound l) m P (Exit.then (fun a₁ w₁ => w₁.heap[l]? = some (.loop (recOf fn tmps ps assign body D .ready none)) ∧
        body.wpIn (F.inRound l) m P (rfPost l (recOf fn tmps ps assign body D) R) a₁ (w₁.putObj l (.loop (recOf fn tmps ps assign body D .busy none)))) (fun _ _ _ => False))
      { tmps := (ps.zip args).foldl (fun t (p, v) => t.setIfInBounds p v) tmps, defers := [] } W) : YieldAt F m P l args W R := by
  refine ⟨fn, _, assign, body, run_yield hl hps, roundIn_of_wpIn hfn (wpIn_mono h ?_)⟩; intro e a1 w1 hq
  cases e with
  | normal =>
    obtain ⟨h1, h2⟩ := hq; refine ⟨_, run_beginRound h1 rfl, wpIn_mono h2 ?_⟩; intro e a3 W3 hp
    cases e with
    | normal => obtain ⟨h3, h4⟩ := hp; exact ⟨_, _, run_endRound none h3, h4⟩
    | ret => obtain ⟨h3, h4⟩ := hp; exact ⟨_, _, run_endRound (some .ret) h3, h4⟩
    | exit id => obtain ⟨h3, h4⟩ := hp; exact ⟨_, _, run_endRound (some (.exit id)) h3, h4⟩
    | goto t => exact hp.elim
    | panic c => exact hp.elim
    | outgrown => exact hp.elim
  | ret => exact hq.elim
  | exit id => exact hq.elim
  | goto t => exact hq.elim
  | panic c => exact hq.elim
  | outgrown => exact hq.elim

theorem rf_law' {g : Operand} {ps : Array Tmp} {assign body : Code} {Q : Exit → Act → World → Prop} {a : Act} {w : World}
    (hro : F.round = none) (h1 : 1 ≤ n) {gf : Nat} {lb : Array Value} (hg : a.eval g = .func (.func gf) #[] lb) (hFg : F.fn gf) (eg : ∀ args w, (callFunc gf args).run P w = .ok (.enter gf args) w)
    (h : ∀ fn rec, F.fn fn → Hid (rec = recOf fn a.tmps ps assign body w.heap.size) → CallsIn F (n - 1) P gf (#[.func (.yield (w.heap.size + 1)) #[] #[]] ++ lb)
      ((w.alloc (.deferred (some []))).alloc (.loop (rec .ready none)))
      (rfDone F n P Q a w rec)) :
    (Code.rangeFunc g ps assign body).wpIn F n P Q a w :=
  rf_law hro h1 hg hFg eg fun fn hfn => h fn _ hfn rfl

theorem rf_round' {m : Nat} {l : Nat} {fn : FuncId} {tmps : Array Value} {ps : Array Tmp} {assign body : Code} {D : Nat} {W : World} {args : Array Value} {R : Ending → World → Prop} {rec : LoopState → Option Code → Loop}
    (hfn : F.fn fn) (hrec : Hid (rec = recOf fn tmps ps assign body D)) (hl : W.heap[l]? = some (.loop (rec .ready none))) (hps : args.size = ps.size)
    (h : assign.wpIn (F.inRound l) m P (Exit.then (fun a₁ w₁ => w₁.heap[l]? = some (.loop (rec .ready none)) ∧
        body.wpIn (F.inRound l) m P (rfPost l rec R) a₁ (w₁.putObj l (.loop (rec .busy none)))) (fun _ _ _ => False))
      { tmps := (ps.zip args).foldl (fun t (p, v) => t.setIfInBounds p v) tmps, defers := [] } W) : YieldAt F m P l args W R := by
  have hr := hrec.out; subst hr; exact rf_round hfn hl hps h

end Tt
