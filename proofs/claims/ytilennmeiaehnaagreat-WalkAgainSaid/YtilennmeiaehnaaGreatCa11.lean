/- Chapter 21: is a tag one of a shape's own: the program. | Chapter 20: Of: the program, may being given. | Chapter 20: Long: the program, may being given. | Bytes of one's own (chapter 1); a tag among a shape's links, one of its own (chapter 21): the document. | Chapter 21: has a directory a shape; the chain of shapes; check: plain. | copy, append of zeros, overlaps: of elements of more cells. | Boxes: a few blocks laid one behind the other: of whatever program. -/
import Derived.Test.YtilennmeiaehnaaGreatCa10
import Derived.Lib.SliceRun
import Derived.Test.YtilennmeiaehnaaGreatCa01
import Derived.Test.YtilennmeiaehnaaGreatCa02
import Derived.Test.YtilennmeiaehnaaGreatCa00
import Derived.Test.YtilennmeiaehnaaGreatCa03
import Derived.Test.YtilennmeiaehnaaGreatCa06
import Derived.Test.YtilennmeiaehnaaGreatCa07
import Derived.Laws.CopyOwn
import Derived.Lib.AppendZeros
import Derived.Lib.AppendZerosOnto
import Derived.Lib.Overlaps
import Derived.Deep.RegionLaw
namespace Go.Proofs.YtilennmeiaehnaaGreat
open Go.RowKit Tt
set_option linter.unusedVariables false
set_option linter.unusedSimpArgs false

set_option maxHeartbeats 1000000 in
theorem lidxt_any (fid : Nat) (hf : fid = 179 ∨ fid = 96) (cap : Value) (a : Option Addr) (n c : Nat) (ls : List Lk) (p : Lk → Bool) (w : World) (hs : Sl w a n c 2 (fl lkc ls))
    (hc : ∀ W (x : Lk), Below w.heap.size w W → Calls Tryz.prog fid #[.agg #[.int .i64 x.1, .int .i64 x.2], cap] W fun e W' => e = .returned (.bool (p x)) ∧ Below W.heap.size W W') :
    Calls Tryz.prog 79 #[.slice a n c, .func (.func fid) #[] #[cap]] w fun e w' => e = .returned (.int .i64 (fst p ls)) ∧ Below w.heap.size w w' := by
  have hl := hs.flen lkc_len (by decide); have hm := hs.max; have hle := hs.le; have hs' := Lib.hid hs; have hc' := Lib.hid hc; have hl' := Lib.hid hl; clear hs hc hl
  rcases hf with rfl | rfl
  all_goals
    go_enter Tryz.func79, Tryz.ntmps79
    go_wp2
    go_loopw [8] (fun iv wr => ∃ k : Nat, k ≤ n ∧ iv = .int .i64 k ∧ Hid (∀ i (hi : i < ls.length), i < k → p ls[i] = false) ∧ Hid (Below w.heap.size w wr)) (fun iv _ => n - (intOf iv).toNat)
    case atStart => exact ⟨0, by omega, rfl, Lib.hid (fun j _ hj => by omega), Lib.hid (Below.refl _ _)⟩
    case round =>
      obtain ⟨k, hk, rfl, hall, hb⟩ := hrel
      by_cases hlt : k < n
      · have hww : IntKind.i64.wrap ((k : Int) + 1) = k + 1 := by rw [IntKind.wrap_i64]; omega
        have hkl : k < ls.length := by rw [hl'.out]; exact hlt
        obtain ⟨b, o, rfl, hbb, f⟩ := (hs'.out.mono hb.out).elem lkc_len (by decide) (0, 0) hlt; rw [getD_el hkl] at f; have f0 := f 0 _ rfl; have f1 := f 1 _ rfl; clear f; rw [Nat.add_zero] at f0; obtain ⟨r, hr⟩ : ∃ r, p (ls[k]'hkl) = r := ⟨_, rfl⟩; have HC := hc'.out wr (ls[k]'hkl) hb.out; rw [hr] at HC
        generalize (ls[k]'hkl).1 = x1 at *
        generalize (ls[k]'hkl).2 = x2 at *
        have HC' := Lib.hid HC; have hr' := Lib.hid hr; clear HC hr
        go_wp2_with fail
        refine HC'.out.mono ?_; rintro e w2 ⟨rfl, hb2⟩; have hbw := hb.out.trans (hb2.mono hb.out.size); clear hb2
        cases r with
        | true =>
          have hbw' := Lib.hid hbw; clear hbw
          go_wp2
          go_ret
          exact ⟨by rw [fst_at hkl hr'.out (fun i hi => hall.out i (by omega) hi)]; rfl, hbw'.out⟩
        | false =>
          have hall2 : ∀ i (hi : i < ls.length), i < k + 1 → p ls[i] = false := fun i hi h => by
            rcases Nat.lt_or_ge i k with h1 | h1
            · exact hall.out i hi h1
            · obtain rfl : i = k := by omega
              exact hr'.out
          have hbw' := Lib.hid hbw; have hall2' := Lib.hid hall2; clear hbw hall2
          go_wp2
          go_roundw
          case rel => exact ⟨k + 1, by omega, by go_num, hall2', hbw'⟩
          case measure => simp [intOf]; omega
      · obtain rfl : k = n := by omega
        go_wp2
        go_ret
        exact ⟨by rw [fst_no (fun i hi => hall.out i hi (by rw [hl'.out] at hi; exact hi))]; rfl, hb.out⟩
set_option maxHeartbeats 1000000 in
theorem lhast_any (fid : Nat) (hf : fid = 179 ∨ fid = 96) (cap : Value) (a : Option Addr) (n c : Nat) (ls : List Lk) (p : Lk → Bool) (w : World) (hs : Sl w a n c 2 (fl lkc ls))
    (hc : ∀ W (x : Lk), Below w.heap.size w W → Calls Tryz.prog fid #[.agg #[.int .i64 x.1, .int .i64 x.2], cap] W fun e W' => e = .returned (.bool (p x)) ∧ Below W.heap.size W W') :
    Calls Tryz.prog 178 #[.slice a n c, .func (.func fid) #[] #[cap]] w fun e w' => e = .returned (.bool (ls.any p)) ∧ Below w.heap.size w w' := by
  have HX := lidxt_any fid hf cap a n c ls p w hs hc; obtain ⟨r, hr⟩ : ∃ r, fst p ls = r := ⟨_, rfl⟩; have ha := fst_any (p := p) (l := ls); rw [hr] at HX ha; obtain ⟨q, hq⟩ : ∃ q, ls.any p = q := ⟨_, rfl⟩; rw [hq] at ha ⊢; clear hs hc; have HX' := Lib.hid HX; have hr' := Lib.hid hr; have hq' := Lib.hid hq; clear HX hr hq
  rcases hf with rfl | rfl
  all_goals
    go_enter Tryz.func178, Tryz.ntmps178
    go_wp2_with fail
    refine HX'.out.mono ?_; rintro e w2 ⟨rfl, hb2⟩; have hb2' := Lib.hid hb2; clear hb2
    go_wp2
    go_ret
    exact ⟨rfl, hb2'.out⟩
theorem taken1_any (g : Nat) (tag u v : Int) (w : World) (h : w.cell? ⟨g, 0, none⟩ = some (.int .i64 tag)) (hg : g < w.heap.size) :
    Calls Tryz.prog 179 #[.agg #[.int .i64 u, .int .i64 v], .pointer (some ⟨g, 0, none⟩)] w fun e w' => e = .returned (.bool (u == tag)) ∧ Below w.heap.size w w' := by
  have hb := (Below.refl w.heap.size w).alloc (Nat.le_refl _) (.cells #[.int .i64 u, .int .i64 v] 47); have hb' := Lib.hid hb; clear hb
  go_enter Tryz.func179, Tryz.ntmps179
  go_wp2_with fail
  go_ret
  exact ⟨rfl, hb'.out⟩
set_option maxHeartbeats 1000000 in
theorem taken_any (la : Option Addr) (ln lc : Nat) (lks : List Lk) (sat slong snx tag : Int) (w : World) (hl : Sl w la ln lc 2 (fl lkc lks)) :
    Calls Tryz.prog 142 #[.agg #[.slice la ln lc, .int .i64 sat, .int .i64 slong, .int .i64 snx], .int .i64 tag] w fun e w' => e = .returned (.bool ((decide (0 < sat) && (tag == sat || tag == slong)) || lks.any fun y => y.1 == tag)) ∧ Below w.heap.size w w' := by
  have hb1 := ((Below.refl w.heap.size w).alloc (Nat.le_refl _) (.cells #[.slice la ln lc, .int .i64 sat, .int .i64 slong, .int .i64 snx] 50)).alloc (by simp) (.cells #[.int .i64 tag] 3); obtain ⟨W1, hW1⟩ : ∃ W1, (w.alloc (.cells #[.slice la ln lc, .int .i64 sat, .int .i64 slong, .int .i64 snx] 50)).alloc (.cells #[.int .i64 tag] 3) = W1 := ⟨_, rfl⟩; have hcl : W1.cell? ⟨w.heap.size + 1, 0, none⟩ = some (.int .i64 tag) := by rw [← hW1]; simp
  have hsz : w.heap.size + 1 < W1.heap.size := by rw [← hW1]; simp
  rw [hW1] at hb1; have hH := lhast_any 179 (.inl rfl) (.pointer (some ⟨w.heap.size + 1, 0, none⟩)) la ln lc lks (fun y => y.1 == tag) W1 (hl.mono hb1) (fun W x hb => taken1_any _ tag x.1 x.2 W (late hb hsz hcl) (Nat.lt_of_lt_of_le hsz hb.size)); rw [← hW1] at hH hb1; clear hcl hsz hW1
  generalize (lks.any fun y => y.1 == tag) = r at *
  have hl' := Lib.hid hl; have hb1' := Lib.hid hb1; have hH' := Lib.hid hH; clear hl hb1 hH; obtain ⟨p, hp⟩ : ∃ p, decide (0 < sat) = p := ⟨_, rfl⟩; obtain ⟨q, hq⟩ : ∃ q, (tag == sat) = q := ⟨_, rfl⟩; obtain ⟨s, hs⟩ : ∃ s, (tag == slong) = s := ⟨_, rfl⟩; rw [hp, hq, hs]
  cases p with
  | false =>
    go_enter Tryz.func142, Tryz.ntmps142
    go_wp2_with fail
    refine hH'.out.mono ?_; rintro e w2 ⟨rfl, hb2⟩; have hb := hb1'.out.trans (hb2.mono hb1'.out.size); have hb' := Lib.hid hb; have hb2' := Lib.hid hb2; clear hb hb2
    go_wp2_with fail
    go_ret
    exact ⟨rfl, hb'.out⟩
  | true =>
    cases q with
    | true =>
      go_enter Tryz.func142, Tryz.ntmps142
      go_wp2_with fail
      go_ret
      exact ⟨rfl, hb1'.out⟩
    | false =>
      cases s with
      | true =>
        go_enter Tryz.func142, Tryz.ntmps142
        go_wp2_with fail
        go_ret
        exact ⟨rfl, hb1'.out⟩
      | false =>
        go_enter Tryz.func142, Tryz.ntmps142
        go_wp2_with fail
        refine hH'.out.mono ?_; rintro e w2 ⟨rfl, hb2⟩; have hb := hb1'.out.trans (hb2.mono hb1'.out.size); have hb' := Lib.hid hb; have hb2' := Lib.hid hb2; clear hb hb2
        go_wp2_with fail
        go_ret
        exact ⟨rfl, hb'.out⟩
end Go.Proofs.YtilennmeiaehnaaGreat

namespace Go.Proofs.YtilennmeiaehnaaGreat
open Go.RowKit Tt
set_option linter.unusedVariables false
set_option linter.unusedSimpArgs false

set_option maxRecDepth 20000 in
set_option maxHeartbeats 4000000 in
theorem plof_may (f : Nat) (o : Int) (sa : Option Addr) (sn sc : Nat) (ds : List (DirT f)) (w : World) (h : DirsR f w sa sn sc ds) (hs : ∀ d ∈ ds, smallD f d) (hN : (flatT f ds).length < 1000)
    (hmay : ∀ W, Below w.heap.size w W → Calls Tryz.prog 57 #[.agg #[.int .i64 o, .slice sa sn sc]] W fun e W' => e = .returned (.bool (okAll f ds)) ∧ Below W.heap.size W W') :
    Calls Tryz.prog 23 #[.agg #[.int .i64 o, .slice sa sn sc]] w fun e w' => ((fitT f ds = true ∧ ∃ v, e = .returned (.tuple #[v, .bool true]) ∧ Spr w.heap.size w' v (layT f ds)) ∨ (fitT f ds = false ∧ e = .returned (.tuple #[.slice none 0 0, .bool false]))) ∧ Below w.heap.size w w' := by
  have hb1 := (Below.refl w.heap.size w).alloc (Nat.le_refl _) (.cells #[.int .i64 o, .slice sa sn sc] 24); have bk := Blk.new w 24 #[.int .i64 o, .slice sa sn sc]; obtain ⟨W1, hW1⟩ : ∃ W1, w.alloc (.cells #[.int .i64 o, .slice sa sn sc] 24) = W1 := ⟨_, rfl⟩; rw [hW1] at hb1 bk; have hM := hmay W1 hb1; have d0 : W1.cell? ⟨w.heap.size, 0, none⟩ = some (.int .i64 o) := bk.cell rfl; have d1 : W1.cell? ⟨w.heap.size, 1, none⟩ = some (.slice sa sn sc) := bk.cell rfl
  have hdn : ds.length = sn := by
    obtain ⟨dvs, hdl, hsl, _⟩ := h; rw [← hdl]; exact hsl.flen dvC_len (by decide)
  have hpl : (prs f ds).length = sn := by unfold prs; rw [List.length_map]; exact hdn
  have hsml : ∀ x ∈ prs f ds, smallD f x.2 := fun x hx => by
    obtain ⟨d, hd, rfl⟩ := List.mem_map.1 hx; exact hs d hd
  have hfl0 : flats f (prs f ds) = flatT f ds := flats_prs f ds; obtain ⟨q, hq⟩ : ∃ q, okAll f ds = q := ⟨_, rfl⟩; rw [hq] at hM; have hfit : fitT f ds = (q && decide (endS (layT f ds) ≤ 4294967295)) := by unfold fitT; rw [hq]
  clear hmay hq; have h' := Lib.hid h; have hb1' := Lib.hid hb1; have bk' := Lib.hid bk; have hM' := Lib.hid hM; have hs' := Lib.hid hs; have hfit' := Lib.hid hfit; have hdn' := Lib.hid hdn; have hpl' := Lib.hid hpl; have hsml' := Lib.hid hsml; have hfl0' := Lib.hid hfl0; clear h hb1 bk hM hs hfit hdn hpl hsml hfl0
  go_enter Tryz.func23, Tryz.ntmps23
  go_wp2_with fail
  refine hM'.out.mono ?_; rintro e w2 ⟨rfl, hb2⟩; have bk2 := bk'.out.late hb2; have hbw2 := hb1'.out.trans (hb2.mono hb1'.out.size); have hlt2 := bk2.lt; clear d0 d1
  cases q with
  | false =>
    have hb2' := Lib.hid hb2; have bk2' := Lib.hid bk2; have hbw2' := Lib.hid hbw2; clear hb2 bk2 hbw2
    go_wp2_with fail
    refine bodyPost_ret (results_tmp2 rfl _ _ _) rfl ?_; exact ⟨.inr ⟨hfit'.out, rfl⟩, hbw2'.out⟩
  | true =>
    have hal := (Below.refl w2.heap.size w2).alloc (Nat.le_refl _) (.cells #[.int .i64 0, .int .i64 0, .slice none 0 0] 106); have hpn : Pln w2.heap.size (w2.alloc (.cells #[.int .i64 0, .int .i64 0, .slice none 0 0] 106)) 0 (.slice none 0 0) [] := ⟨Blk.new w2 106 #[.int .i64 0, .int .i64 0, .slice none 0 0], own_nil _ _ _ _⟩; have hP := pput_any w2.heap.size 0 (.slice none 0 0) [] 1 (-1) 0 8 _ hpn (by decide) (by decide) (by decide) (by decide) (by decide); have hb2' := Lib.hid hb2; have bk2' := Lib.hid bk2; have hbw2' := Lib.hid hbw2; have hal' := Lib.hid hal; have hpn' := Lib.hid hpn; have hP' := Lib.hid hP; clear hb2 bk2 hbw2 hal hpn hP
    go_wp2_with fail
    refine hP'.out.mono ?_; rintro e w3 ⟨v3, rfl, hp3, hm3⟩; have bk3 := (bk2'.out.late hal'.out).mv hm3 (by omega) (by omega) (by intro h; cases h); have d1 : w3.cell? ⟨w.heap.size, 1, none⟩ = some (.slice sa sn sc) := bk3.cell rfl; have hp3' := Lib.hid hp3; have hm3' := Lib.hid hm3; have bk3' := Lib.hid bk3; clear hp3 hm3 bk3
    go_wp2_with fail
    obtain ⟨g, hg⟩ : ∃ g, g = w2.heap.size := ⟨_, rfl⟩; rw [← hg] at hp3' hm3' ⊢; have hmm : Hid (Mv g g (.slice none 0 0) v3 w2 w3) := Lib.hid ((Mv.of_below hal'.out).trans hm3'.out); have hwg : w.heap.size ≤ g := by rw [hg]; exact hbw2'.out.size
    have hgw : w2.heap.size ≤ g := by omega
    clear hm3' bk3' hP' hpn' hg
    go_loopw [17] (fun iv wx => ∃ (i : Nat) (v' : Value), i ≤ sn ∧ iv = .int .i64 i ∧ Hid (Pln g wx (laySubs f ((prs f ds).take i) (addS [] 1 (-1) 0 8, 0)).2 v' (laySubs f ((prs f ds).take i) (addS [] 1 (-1) 0 8, 0)).1) ∧ Hid (Mv g g (.slice none 0 0) v' w2 wx)) (fun iv _ => sn - (intOf iv).toNat)
    case atStart => exact ⟨0, v3, by omega, rfl, Lib.hid (by simpa [laySubs] using hp3'.out), hmm⟩
    clear hp3' hmm
    case round =>
      obtain ⟨i, v', hin, rfl, hpr, hmr⟩ := hrel; have hbo := hmr.out.below hgw hgw (fun k e => by cases e) (Nat.le_refl _); have hbw0 := hbw2'.out.trans (hbo.mono hbw2'.out.size); have he8 : endS (addS [] 1 (-1) 0 8) = 8 := rfl; have hbd := laySubs_le f (layS_le f) ((prs f ds).take i) (addS [] 1 (-1) 0 8, 0) (fun x hx => hsml'.out x (List.mem_of_mem_take hx)) (by decide); have hftl := flats_take_le f (prs f ds) i; have hal1 : (addS [] 1 (-1) 0 8).length = 1 := rfl; simp only [he8, hal1] at hbd
      by_cases hi : i < sn
      · have hil : (i : Int) < (sn : Int) := by omega
        obtain ⟨dvs, hdl, hsl, hsub⟩ := h'.out; have hmx := hsl.max; have hml := hsl.le; have hw5 : IntKind.i64.wrap ((i : Int) + 1) = i + 1 := by rw [IntKind.wrap_i64]; omega
        have hid : i < ds.length := by rw [hdn'.out]; exact hi
        have hids : i < dvs.length := by omega
        have hip : i < (prs f ds).length := by rw [hpl'.out]; exact hi
        have hpi := prs_get f ds hip hid; obtain ⟨b, o', rfl, hblt, fe⟩ := hsl.elem dvC_len (by decide) dzz hi; rw [getD_el hids] at fe; have hq2 := hsub i hids hid; obtain ⟨ua, un, uc, pa, pn, pc, ra, rn, rc, hv⟩ := hq2.v; have k0 := fe 0 _ rfl; have k1 := fe 1 _ rfl; have k2 := fe 2 _ rfl; clear fe; rw [hv] at hq2 k0 k1 k2; simp only [Nat.add_zero] at k0 k1 k2; have g0 := late hbw0 hblt k0; have g1 := late hbw0 hblt k1; have g2 := late hbw0 hblt k2; have hst := laySubs_step f (prs f ds) (addS [] 1 (-1) 0 8, 0) hip; have hft := flats_step f (prs f ds) hip; have hftl2 := flats_take_le f (prs f ds) (i + 1); rw [hpi] at hst hft; have hsm : smallD f ds[i] := hs'.out _ (List.getElem_mem hid); rw [hfl0'.out] at hftl hftl2
        generalize ds[i] = dd at hst hft hsm hq2
        generalize laySubs f ((prs f ds).take i) (addS [] 1 (-1) 0 8, 0) = R at hst hbd hpr
        obtain ⟨Ls, ns⟩ := R; simp only at hbd hpr hst; have hal2 := (Below.refl wr.heap.size wr).alloc (Nat.le_refl _) (.cells #[.slice ua un uc, .slice pa pn pc, .slice ra rn rc] 42); have hI := pdir_any f g ns v' Ls w _ dd _ hq2 (hbw0.trans (hal2.mono hbw0.size)) hwg (hpr.out.later hal2) hsm (by omega) (by omega) hbd.1 (by omega) (by omega); simp only at hI; clear hsl hsub hv hdl k0 k1 k2; have hbo' := Lib.hid hbo; have hbw0' := Lib.hid hbw0; have he8' := Lib.hid he8; have hbd' := Lib.hid hbd; have hal1' := Lib.hid hal1; have hpi' := Lib.hid hpi; have hq2' := Lib.hid hq2; have hst' := Lib.hid hst; have hft' := Lib.hid hft; have hsm' := Lib.hid hsm; have hI' := Lib.hid hI; have hal2' := Lib.hid hal2; clear hbo hbw0 he8 hbd hal1 hpi hq2 hst hft hsm hI hal2
        go_wp2_with fail
        refine hI'.out.mono ?_; rintro e w7 ⟨v7, rfl, hp7, hm7⟩; have hm7 := (hmr.out.later hal2'.out).trans hm7; clear g0 g1 g2; have hp7' := Lib.hid hp7; have hm7' := Lib.hid hm7; clear hp7 hm7
        go_wp2_with fail
        go_roundw
        case rel => exact ⟨i + 1, v7, by omega, by go_num, by rw [hst'.out]; exact hp7', hm7'⟩
        case measure => simp [intOf]; omega
      · obtain rfl : i = sn := by omega
        have hfull : (prs f ds).take i = prs f ds := List.take_of_length_le (by rw [hpl'.out]; omega); rw [hfull] at hpr; have hLe : (laySubs f (prs f ds) (addS [] 1 (-1) 0 8, 0)).1 = layT f ds := rfl; rw [hLe] at hpr; have q0 := hpr.out.blk.cell (i := 0) rfl; have q2 := hpr.out.blk.cell (i := 2) rfl; have hspr : Spr w.heap.size wr v' (layT f ds) := own_mono hpr.out.spots (by omega); have hbw0' := Lib.hid hbw0; have hbo' := Lib.hid hbo; have hspr' := Lib.hid hspr; have hbd' := Lib.hid hbd; clear hbw0 hbo hspr hbd
        by_cases hfi : endS (layT f ds) ≤ 4294967295
        · have hdc : decide ((4294967295 : Int) < endS (layT f ds)) = false := by simp; omega
          rw [decide_eq_true hfi] at hfit'
          go_wp2_with fail
          refine bodyPost_ret (results_tmp2 rfl _ _ _) rfl ?_; exact ⟨.inl ⟨hfit'.out, v', rfl, hspr'.out⟩, hbw0'.out⟩
        · have hdc : decide ((4294967295 : Int) < endS (layT f ds)) = true := by simp; omega
          rw [decide_eq_false hfi] at hfit'
          go_wp2_with fail
          refine bodyPost_ret (results_tmp2 rfl _ _ _) rfl ?_; exact ⟨.inr ⟨hfit'.out, rfl⟩, hbw0'.out⟩
end Go.Proofs.YtilennmeiaehnaaGreat

namespace Go.Proofs.YtilennmeiaehnaaGreat
open Go.RowKit Tt
set_option linter.unusedVariables false
set_option linter.unusedSimpArgs false

theorem valsS_ge (no : Int) : ∀ (ts : List Tgs) (l : List Spt), l.length ≤ (valsS no ts l).length
  | [], l => Nat.le_refl _
  | x :: ts, l => by
    have e : valsS no (x :: ts) l = valsS no ts (if 0 < outS x.2.1 x.2.2.1 then addS l 3 no x.1 (outS x.2.1 x.2.2.1) else l) := rfl; rw [e]; refine Nat.le_trans ?_ (valsS_ge no ts _)
    split
    · rw [addS_len]; omega
    · exact Nat.le_refl _
theorem laySubs_ge (f : Nat) (ih : ∀ (d : DirT f) (no : Int) (l : List Spt), l.length ≤ (layS f d no l).length) : ∀ (ss : List (Int × DirT f)) (r : List Spt × Int), r.1.length ≤ (laySubs f ss r).1.length
  | [], r => Nat.le_refl _
  | s :: ss, r => by
    rw [laySubs_cons]; exact Nat.le_trans (ih s.2 r.2 r.1) (laySubs_ge f ih ss (layS f s.2 r.2 r.1, r.2 + (flatS f s.2).length))
theorem layS_ge : ∀ (f : Nat) (d : DirT f) (no : Int) (l : List Spt), l.length ≤ (layS f d no l).length := by
  intro f
  induction f with
  | zero => intro d no l; exact Nat.le_refl _
  | succ f ih =>
    intro d no l; have h1 := valsS_ge no d.1 (addS l 2 no 0 (6 + 12 * (entN d.1.length d.2.1.length d.2.2.length : Nat))); have h2 := laySubs_ge f ih d.2.1 (valsS no d.1 (addS l 2 no 0 (6 + 12 * (entN d.1.length d.2.1.length d.2.2.length : Nat))), no + 1); rw [addS_len] at h1; simp only at h2; rw [layS_succ]
    split
    · rw [addS_len]; omega
    · omega
theorem layT_pos (f : Nat) (ds : List (DirT f)) (hs : ∀ d ∈ ds, smallD f d) (hN : (flatT f ds).length < 1000) : ∃ n, (layT f ds).length = n + 1 := by
  have h := laySubs_ge f (layS_ge f) (prs f ds) (addS [] 1 (-1) 0 8, 0); have hal1 : (addS [] 1 (-1) 0 8).length = 1 := rfl; simp only [hal1] at h; exact ⟨(layT f ds).length - 1, by unfold layT; omega⟩
set_option maxHeartbeats 1000000 in
theorem plng_may (f : Nat) (o : Int) (sa : Option Addr) (sn sc : Nat) (ds : List (DirT f)) (w : World) (h : DirsR f w sa sn sc ds) (hs : ∀ d ∈ ds, smallD f d) (hN : (flatT f ds).length < 1000)
    (hmay : ∀ W, Below w.heap.size w W → Calls Tryz.prog 57 #[.agg #[.int .i64 o, .slice sa sn sc]] W fun e W' => e = .returned (.bool (okAll f ds)) ∧ Below W.heap.size W W') :
    Calls Tryz.prog 24 #[.agg #[.int .i64 o, .slice sa sn sc]] w fun e w' => e = .returned (.int .i64 (longT f ds)) ∧ Below w.heap.size w w' := by
  have hbd := layT_bounds f ds hs hN; obtain ⟨n, hn⟩ := layT_pos f ds hs hN; have hla := endS_last hn; have hb1 := (Below.refl w.heap.size w).alloc (Nat.le_refl _) (.cells #[.int .i64 o, .slice sa sn sc] 24); have hO := plof_may f o sa sn sc ds _ (h.mono hb1) hs hN (fun W hW => hmay W (hb1.trans (hW.mono hb1.size))); have hx1 : fitT f ds = true → longT f ds = endS (layT f ds) := fun e => by unfold longT; rw [if_pos e]
  have hx2 : fitT f ds = false → longT f ds = 0 := fun e => by unfold longT; rw [if_neg (by rw [e]; decide)]
  generalize longT f ds = x at *
  have hb1' := Lib.hid hb1; have hO' := Lib.hid hO; have hs' := Lib.hid hs; have h' := Lib.hid h; have hx1' := Lib.hid hx1; have hx2' := Lib.hid hx2; have hmay' := Lib.hid hmay; clear hb1 hO hs h hx1 hx2 hmay
  go_enter Tryz.func24, Tryz.ntmps24
  go_wp2_with fail
  refine hO'.out.mono ?_; rintro e w2 ⟨hc, hb2⟩; have hbw := hb1'.out.trans (hb2.mono hb1'.out.size)
  rcases hc with ⟨hf, v, rfl, hsp⟩ | ⟨hf, rfl⟩
  · obtain ⟨xa, xc, rfl⟩ := row_slice hsp
    obtain rfl := hx1'.out hf; clear hx1' hx2'; have hsl := (Sl.of_own hsp).1; have hm := hsl.max; have hle := hsl.le; rw [hn] at hsl hle; obtain ⟨b, o', rfl, hb, fe⟩ := hsl.elem spC_len (by decide) (0, 0, 0, 0, 0) (show n < n + 1 by omega); have f0 := fe 0 _ rfl; have f1 := fe 1 _ rfl; have f2 := fe 2 _ rfl; have f3 := fe 3 _ rfl; have f4 := fe 4 _ rfl; simp only [Nat.add_zero] at f0 f1 f2 f3 f4; clear fe hsl hsp; obtain ⟨r, hr⟩ : ∃ r, endS (layT f ds) = r := ⟨_, rfl⟩; rw [hr] at hla hbd
    generalize (layT f ds).getD n (0, 0, 0, 0, 0) = z at *
    obtain ⟨z0, z1, z2, z3, z4⟩ := z; simp only at f0 f1 f2 f3 f4 hla; have hw : IntKind.i64.wrap (z3 + z4) = r := by rw [IntKind.wrap_i64]; omega
    have hw1 : IntKind.i64.wrap (((n + 1 : Nat) : Int) - 1) = n := by rw [IntKind.wrap_i64]; omega
    have d1 : (0 : Int) ≤ (n : Int) := by omega
    have d2 : (n : Int) < ((n + 1 : Nat) : Int) := by omega
    have hbz := hbw.alloc hbw.size (.cells #[.int .i64 z0, .int .i64 z1, .int .i64 z2, .int .i64 z3, .int .i64 z4] 57); rw [hn]; have hbw' := Lib.hid hbw; have hb2' := Lib.hid hb2; have hla' := Lib.hid hla; have hbz' := Lib.hid hbz; have hn' := Lib.hid hn; have hr' := Lib.hid hr; clear hbw hb2 hla hbz hn hr
    go_wp2_with fail
    go_ret
    exact ⟨ret_int hr'.out.symm, hbz'.out⟩
  · obtain rfl := hx2'.out hf
    clear hx1' hx2'; have hbw' := Lib.hid hbw; have hb2' := Lib.hid hb2; clear hbw hb2
    go_wp2_with fail
    go_ret
    exact ⟨rfl, hbw'.out⟩
end Go.Proofs.YtilennmeiaehnaaGreat

namespace Go.Proofs.YtilennmeiaehnaaGreat
open Go.RowKit Tt
set_option linter.unusedVariables false
set_option linter.unusedSimpArgs false
theorem infoB : (Tryz.prog.info? 5).map (fun i => (i.zero, i.size, i.bytes)) = some (some (.int .u8 0), 1, 1) := by kernel_rfl
set_option maxHeartbeats 400000 in
theorem own01_any (a : Option Addr) (n c : Nat) (x : List Int) (w : World) (hx : Sl w a n c 1 (ints .u8 x)) (hn : n ≤ 140737488355328) :
    Calls Tryz.prog 35 #[.slice a n c] w fun e w' => ∃ a' c', e = .returned (.slice a' n c') ∧ w'.ownsRow w.heap.size 5 1 (.slice a' n c') n (ints .u8 x) ∧ Below w.heap.size w w' := by
  obtain ⟨i0, hi, hz0, hz1, hz2⟩ := info_parts infoB
  go_enter Tryz.func35, Tryz.ntmps35
  go_wp2_with (at_builtin; refine wpList_app rfl _ _ 30 rfl w.heap.size 5 i0 _ 1 1 Tryz.underlying30 hi hz0 hz1 hz2 rfl (by decide) _ 0 [] rfl (own_new w w.heap.size 5 1 0 #[] (Nat.le_refl _) (by unfold maxLen; omega) rfl) a n c _ rfl (sl_alloc hx _) ints_one (by omega) (by decide) (by simp) ?_; intro a' c' w1 hown hbel hgrow)
  rw [Nat.zero_add, List.nil_append] at hown; clear hgrow
  go_wp2
  go_ret
  exact ⟨a', c', ret_eq rfl, hown, ((Below.refl _ _).alloc (Nat.le_refl _) _).trans hbel⟩
end Go.Proofs.YtilennmeiaehnaaGreat

namespace Go.Proofs.YtilennmeiaehnaaGreat
open Go.RowKit Tt
set_option linter.unusedVariables false
set_option linter.unusedSimpArgs false

theorem rng_no {n k : Nat} {p : Nat → Bool} (hk : k < n) (h : p k = false) : (List.range n).all p = false := by
  cases hh : (List.range n).all p with
  | false => rfl
  | true => rw [List.all_eq_true.1 hh k (List.mem_range.2 hk)] at h; exact absurd h (by decide)
theorem rng_yes {n : Nat} {p : Nat → Bool} (h : ∀ k, k < n → p k = true) : (List.range n).all p = true := List.all_eq_true.2 fun k hk => h k (List.mem_range.1 hk)
def tg0 : Tgs := (0, 0, 0, [])
def dirZ : (f : Nat) → DirT f
  | 0 => ()
  | _ + 1 => ([], [], [])
def tgB (s : Shp) (ts : List Tgs) (k : Nat) : Bool :=
  tagB (ts.getD k tg0).1 && (decide (k = 0) || decide ((ts.getD (k - 1) tg0).1 < (ts.getD k tg0).1)) && !ownP s (ts.getD k tg0).1 && okT (ts.getD k tg0)
/-- the shape that a link of a shape leads to -/
def subI (s : Shp) (t : Int) : Int := (s.1.getD (fst (fun y => y.1 == t) s.1).toNat (0, 0)).2
def sbB {f : Nat} (has : DirT f → Int → Bool) (s : Shp) (ss : List (Int × DirT f)) (k : Nat) : Bool :=
  linkP s (ss.getD k (0, dirZ f)).1 && (decide (k = 0) || decide ((ss.getD (k - 1) (0, dirZ f)).1 < (ss.getD k (0, dirZ f)).1)) && has (ss.getD k (0, dirZ f)).2 (subI s (ss.getD k (0, dirZ f)).1)
def ownB (s : Shp) (d : List Tgs) : Bool := (List.range d.length).all (tgB s d)
def hasH (s : Shp) (e b : Nat) : Bool := decide (1 ≤ e) && decide (e ≤ 65535) && (decide (b = 0) || !decide (s.2.1 = 0))
def hasS (L : List Shp) : (f : Nat) → DirT f → Int → Bool
  | 0, _, _ => false
  | f + 1, d, i => hasH (L.getD i.toNat shp0) (entN d.1.length d.2.1.length d.2.2.length) d.2.2.length && ownB (L.getD i.toNat shp0) d.1 &&
      (List.range d.2.1.length).all (sbB (hasS L f) (L.getD i.toNat shp0) d.2.1)
theorem hasS_succ (L : List Shp) (f : Nat) (d : DirT (f + 1)) (i : Int) : hasS L (f + 1) d i =
    (hasH (L.getD i.toNat shp0) (entN d.1.length d.2.1.length d.2.2.length) d.2.2.length && ownB (L.getD i.toNat shp0) d.1 && (List.range d.2.1.length).all (sbB (hasS L f) (L.getD i.toNat shp0) d.2.1)) := rfl
/-- the shapes of the chain -/
def nxtS (L : List Shp) : Nat → Int
  | 0 => 0
  | k + 1 => (L.getD (nxtS L k).toNat shp0).2.2.2
def chainB (L : List Shp) (n : Nat) : Bool := (List.range n).all fun k => decide (0 ≤ nxtS L k)
def hasAll (L : List Shp) (f : Nat) (ds : List (DirT f)) : Bool := (List.range ds.length).all fun k => hasS L f (ds.getD k (dirZ f)) (nxtS L k)
def checkS (f : Nat) (o : Int) (ds : List (DirT f)) (L : List Shp) : Int :=
  if (shapesB L && (decide (o = 1) || decide (o = 2)) && !decide (ds.length = 0)) = true then
    if chainB L ds.length = true then
      if hasAll L f ds = true then (if longT f ds = 0 then 7 else 0) else 6
    else 1
  else 1
theorem shapesB_get {L : List Shp} (h : shapesB L = true) {i : Nat} (hi : i < L.length) : shapeB L.length i (L.getD i shp0) = true := by
  unfold shapesB at h; simp only [Bool.and_eq_true] at h; exact List.all_eq_true.1 h.2 i (List.mem_range.2 hi)
theorem shapesB_len {L : List Shp} (h : shapesB L = true) : 1 ≤ L.length ∧ L.length ≤ 16 := by
  unfold shapesB at h; simp only [Bool.and_eq_true, decide_eq_true_eq] at h; exact h.1
theorem shapeB_next {n i : Nat} {s : Shp} (h : shapeB n i s = true) : s.2.2.2 = -1 ∨ ((i : Int) < s.2.2.2 ∧ s.2.2.2 < n) := by
  unfold shapeB nextB lateB at h; simp only [Bool.and_eq_true, Bool.or_eq_true, decide_eq_true_eq] at h; exact h.1.2
theorem shapeB_lk {n i k : Nat} {s : Shp} (h : shapeB n i s = true) (hk : k < s.1.length) : linkB n i s k = true := by
  unfold shapeB at h; simp only [Bool.and_eq_true] at h; exact List.all_eq_true.1 h.1.1 k (List.mem_range.2 hk)
theorem linkB_late {n i k : Nat} {s : Shp} (h : linkB n i s k = true) : (i : Int) < (s.1.getD k (0, 0)).2 ∧ (s.1.getD k (0, 0)).2 < n := by
  unfold linkB lateB at h; simp only [Bool.and_eq_true, decide_eq_true_eq] at h; exact h.1.2
theorem shapeB_pair {n i : Nat} {s : Shp} (h : shapeB n i s = true) : (s.2.1 = 0 ∧ s.2.2.1 = 0) ∨ (1 ≤ s.2.1 ∧ s.2.1 < s.2.2.1 ∧ s.2.2.1 < 65536) := by
  unfold shapeB blobB tagB at h; simp only [Bool.and_eq_true, Bool.or_eq_true, decide_eq_true_eq] at h
  omega
theorem nxt_lt {L : List Shp} (h : shapesB L = true) : ∀ k, nxtS L k < L.length ∧ -1 ≤ nxtS L k := by
  have hl := shapesB_len h; intro k
  induction k with
  | zero => unfold nxtS; omega
  | succ k ih =>
    unfold nxtS; have := shapeB_next (shapesB_get h (i := (nxtS L k).toNat) (by omega))
    omega
theorem chainB_step {L : List Shp} {n : Nat} : chainB L (n + 1) = (chainB L n && decide (0 ≤ nxtS L n)) := by
  unfold chainB; rw [List.range_succ, List.all_append]
  simp
theorem chainB_no {L : List Shp} {n k : Nat} (hk : k < n) (h : nxtS L k < 0) : chainB L n = false := rng_no hk (by simp; omega)
theorem fst_bounds {α : Type} {p : α → Bool} {l : List α} : -1 ≤ fst p l ∧ fst p l < l.length := by
  unfold fst
  cases h : l.findIdx? p with
  | none => simp; omega
  | some i =>
    simp only; have := List.findIdx?_eq_some_iff_getElem.1 h; obtain ⟨h1, _⟩ := this
    omega
theorem subI_ok {L : List Shp} {i : Nat} {t : Int} (h : shapesB L = true) (hi : i < L.length) (hl : linkP (L.getD i shp0) t = true) : (i : Int) < subI (L.getD i shp0) t ∧ subI (L.getD i shp0) t < L.length := by
  have hs := shapesB_get h hi; have hb := fst_bounds (p := fun (y : Lk) => y.1 == t) (l := (L.getD i shp0).1); have ha := fst_any (p := fun (y : Lk) => y.1 == t) (l := (L.getD i shp0).1); unfold linkP at hl; rw [hl, decide_eq_true_eq] at ha; have := linkB_late (shapeB_lk hs (k := (fst (fun (y : Lk) => y.1 == t) (L.getD i shp0).1).toNat) (by omega)); exact this
theorem ownP_prog {n i : Nat} {s : Shp} (h : shapeB n i s = true) (t : Int) : ((decide (0 < s.2.1) && (t == s.2.1 || t == s.2.2.1)) || s.1.any fun y => y.1 == t) = ownP s t := by
  unfold ownP linkP pairP; rw [Bool.or_comm]
  congr 1
end Go.Proofs.YtilennmeiaehnaaGreat

namespace Tt
open Go Go.RowKit
set_option linter.unusedVariables false
set_option linter.unusedSimpArgs false

section
variable {P : Program}
theorem run_copy_sz (w : World) (dT sT ty elem : TypeId) (sz g o dLen dCap : Nat) (a : Addr) (sLen sCap : Nat) (cur : Array Value) (t : TypeId) (cs : List Value)
    (hu : P.underlying dT = some (.slice elem)) (hs : (P.info? elem).map (·.size) = some sz)
    (hg : w.heap[g]? = some (.cells cur t (0, 0))) (hn : cs.length = Nat.min sLen dLen * sz)
    (hsrc : ∀ j v, cs[j]? = some v → w.cell? (a.add j) = some v) (hfit : o + cs.length ≤ cur.size) (h1 : ∀ v ∈ cs, v.oneCell' = true) :
    (Builtin.copy_ #[dT, sT] ty #[.slice (some ⟨g, o, none⟩) dLen dCap, .slice (some a) sLen sCap]).run P w =
      .ok (goInt (Nat.min sLen dLen : Nat)) (w.setRow g (splice cur.toList o cs).toArray) := by
  have hl := run_loadCells_list (P := P) w a cs hsrc; have hst := run_storeCells_at P g o t cs 0 cur w hg (by simpa using hfit) h1; rw [hn] at hl
  cases hq : P.info? elem with
  | none => simp [hq] at hs
  | some i =>
    have hi : i.size = sz := by simpa [hq] using hs
    simp only [Nat.min_def] at hl hn ⊢
    simp [Builtin.copy_, run_underlying hu, Builtin.lenOf, Builtin.firstCells, Go.sizeOf, typeInfo, hq, hi, hl, hst, Nat.min_def, splice]
theorem wp_copy_run (w : World) {o : Oper} {a : Act} {K : Act → World → Prop} {Q : Exit → Act → World → Prop} (d s : Operand) (t t' : TypeId)
    (ho : o.op = .call { callee := .builtin .copy, args := #[d, s], argTypes := #[t, t'] }) (v u : Value) (hd : a.eval d = v) (hs : a.eval s = u) {v' : Value} {w' : World}
    (hr : (Builtin.copy_ #[t, t'] o.type #[v, u]).run P w = .ok v' w') (h : K (a.put o.dst v') w') : o.wp P a w K Q := by
  unfold Oper.wp execOp; simp only [ho, resolve, invoke, builtin, Sem.run_bind, Sem.run_pure, Result.andThen_ok, List.map_toArray, List.map_cons, List.map_nil, hd, hs, hr]; exact h
theorem wpList_copy_run (w : World) {ops : Array Oper} {rest : List Oper} {o : Oper} {a : Act} {Q : Exit → Act → World → Prop} (hgd : o.guard = none) (d s : Operand) (t t' : TypeId)
    (ho : o.op = .call { callee := .builtin .copy, args := #[d, s], argTypes := #[t, t'] }) (v u : Value) (hd : a.eval d = v) (hs : a.eval s = u) {v' : Value} {w' : World}
    (hr : (Builtin.copy_ #[t, t'] o.type #[v, u]).run P w = .ok v' w') (h : wpList P ops Q rest (a.put o.dst v') w') : wpList P ops Q (o :: rest) a w :=
  wpList_plain hgd fun _ hK => wp_copy_run w d s t t' ho v u hd hs hr (hK _ _ h)
end
theorem own_of_block {w : World} {B g : Nat} {E : TypeId} {sz n c : Nat} {cur : Array Value} {xs : List Value} (hb : Blk w g E cur) (hB : B ≤ g) (hn : n ≤ c) (hc : c ≤ maxLen) (hs : cur.size = c * sz) (ht : cur.toList.take (n * sz) = xs) : w.ownsRow B E sz (.slice (some ⟨g, 0, none⟩) n c) n xs := by
  refine ⟨?_, .inr ⟨g, c, cur, rfl, hB, hb, hn, hc, hs, ht⟩⟩; rw [← ht, List.length_take, Array.length_toList, hs]; have := Nat.mul_le_mul_right sz hn
  omega
section
variable {P : Program} {T E : TypeId} {sz : Nat} (ht : P.underlying T = some (.slice E)) (hE : ∀ w, (Go.sizeOf E).run P w = .ok sz w)
include ht hE
end
end Tt

namespace Tt
open Go Go.RowKit
theorem three_boxes (w : World) (T : TypeId) (a : Array Value) (U : TypeId) (b : Array Value) (V : TypeId) (c : Array Value) : ∃ WC, ((w.alloc (.cells a T)).alloc (.cells b U)).alloc (.cells c V) = WC ∧ Blk WC w.heap.size T a ∧ Blk WC (w.heap.size + 1) U b ∧ Blk WC (w.heap.size + 2) V c ∧ Below w.heap.size w WC ∧ WC.heap.size = w.heap.size + 3 := by
  have hA := Blk.new w T a; have hB := Blk.new (w.alloc (.cells a T)) U b; have hC := Blk.new ((w.alloc (.cells a T)).alloc (.cells b U)) V c; rw [show (w.alloc (.cells a T)).heap.size = w.heap.size + 1 by simp] at hB; rw [show ((w.alloc (.cells a T)).alloc (.cells b U)).heap.size = w.heap.size + 2 by simp] at hC; exact ⟨_, rfl, (hA.alloc _).alloc _, hB.alloc _, hC, (((Below.refl w.heap.size w).alloc (Nat.le_refl _) _).alloc (by simp) _).alloc (by simp <;> omega) _, by simp⟩
theorem two_boxes (w : World) (T : TypeId) (a : Array Value) (U : TypeId) (b : Array Value) : ∃ WC, (w.alloc (.cells a T)).alloc (.cells b U) = WC ∧ Blk WC w.heap.size T a ∧ Blk WC (w.heap.size + 1) U b ∧ Below w.heap.size w WC ∧ WC.heap.size = w.heap.size + 2 := by
  have hA := Blk.new w T a; have hB := Blk.new (w.alloc (.cells a T)) U b; rw [show (w.alloc (.cells a T)).heap.size = w.heap.size + 1 by simp] at hB; exact ⟨_, rfl, hA.alloc _, hB, ((Below.refl w.heap.size w).alloc (Nat.le_refl _) _).alloc (by simp) _, by simp⟩
/-- worlds in which no old block but one has turned -/
theorem but_worlds (b : Nat) (w : World) : ∃ (S : Type) (f : S → World), Nonempty S ∧ (∀ s, But b w (f s)) ∧ ∀ W, But b w W → ∃ s, W = f s :=
  ⟨{W : World // But b w W}, Subtype.val, ⟨⟨w, But.refl b w⟩⟩, fun s => s.2, fun W h => ⟨⟨W, h⟩, rfl⟩⟩
theorem Blk.but_ {w w' : World} {b k : Nat} {T : TypeId} {cs : Array Value} (h : But b w w') (hb : Blk w k T cs) (hk : k ≠ b) : Blk w' k T cs := (h.block k hb.lt hk).trans hb
end Tt
