/- Chapter 11: the next symbol: the program. -/
import Derived.Test.YtpjopeojeglogaaCs19
namespace Go.Proofs.Ytpjopeojeglogaa
open Go.RowKit Tt
set_option linter.unusedVariables false
set_option linter.unusedSimpArgs false

theorem symV_bad {x : Cod} {ac most : Int} (h : ¬ (x.1 = ac ∧ 0 ≤ x.2.1 ∧ x.2.1 ≤ 255 ∧ x.2.1 % 16 ≤ most ∧ x.2.2.2 = x.2.1 % 16)) : symV x ac most = none := by unfold symV; rw [if_neg h]
theorem symV_val {x : Cod} {ac most : Int} (h : valueS x.2.2.1 x.2.2.2 = none) : symV x ac most = none := by unfold symV; split <;> first | exact h | rfl
theorem symV_good {x : Cod} {ac most : Int} (h : x.1 = ac ∧ 0 ≤ x.2.1 ∧ x.2.1 ≤ 255 ∧ x.2.1 % 16 ≤ most ∧ x.2.2.2 = x.2.1 % 16) : symV x ac most = valueS x.2.2.1 x.2.2.2 := by unfold symV; rw [if_pos h]
theorem and_low4 {x : Int} (h0 : 0 ≤ x) (h1 : x ≤ 255) : bits .and .i64 x 15 = x % 16 := by
  obtain ⟨i, rfl⟩ : ∃ i : Nat, x = i := ⟨x.toNat, by omega⟩; rw [show (15 : Int) = ((15 : Nat) : Int) from rfl, and_i64 i 15 (by omega) (by decide), show (15 : Nat) = 2 ^ 4 - 1 from rfl, Nat.and_two_pow_sub_one_eq_mod]
  rfl
theorem infoCod4 : (Try.prog.info? 133).map (·.size) = some 4 := by kernel_rfl
set_option maxRecDepth 20000 in
set_option maxHeartbeats 2000000 in
theorem cnext_any (rr : Nat) (a : Option Addr) (n c : Nat) (l : List Cod) (u : Nat) (ac most : Int) (w : World) (h : Blk w rr 250 #[.slice a n c, .int .i64 u]) (hs : Sl w a n c 4 (codC l)) (hl : l.length = n) (hne : ∀ x, a = some x → x.block ≠ rr) (hwf : ∀ x ∈ l, ∀ y ∈ cdL x, (Lit.int .i64 y).wf = true) (hu : u ≤ n) (hn : n ≤ 1000000) :
    Calls Try.prog 184 #[.pointer (some ⟨rr, 0, none⟩), .int .i64 ac, .int .i64 most] w fun e w' =>
      ∃ r v er, nextC l u ac most = (r, v, er) ∧ e = .returned (.tuple #[.int .i64 r, .int .i64 v, .int .i64 er]) ∧ (er = 0 → Blk w' rr 250 #[.slice a n c, .int .i64 ((u : Int) + 1)]) ∧ But rr w w' := by
  by_cases hun : u = n
  · have hx := nextC_end (l := l) (u := u) (ac := ac) (most := most) (by omega)
    have k0 : w.cell? ⟨rr, 0, none⟩ = some (.slice a n c) := h.cell rfl; have k1 : w.cell? ⟨rr, 1, none⟩ = some (.int .i64 (n : Int)) := by rw [← hun]; exact h.cell rfl
    have hb := (But.refl rr w); clear hun; have h' := Lib.hid h; have hs' := Lib.hid hs; have hl' := Lib.hid hl; have hne' := Lib.hid hne; have hwf' := Lib.hid hwf; have hx' := Lib.hid hx; clear h hs hl hne hwf hx
    go_enter Try.func184, Try.ntmps184
    go_wp2
    go_quiet (fail)
    go_wp2
    go_ret3
    exact ⟨0, 0, 3, hx'.out, rfl, (fun h => by cases h), (But.refl rr w).qt ⟨_, rfl⟩⟩
  · obtain ⟨x, hx⟩ : ∃ x, l[u]? = some x := ⟨_, List.getElem?_eq_getElem (by omega)⟩
    obtain ⟨gl, ol, rfl, hgl, _, hc⟩ := hs.elem (i := u) (by omega); unfold codC at hc; rw [flat_elem (fun x : Cod => ints .i64 (cdL x)) 4 l (fun q hq => rfl) u x hx] at hc; have hxw := hwf x (List.mem_of_getElem? hx); have hne := hne _ rfl; obtain ⟨x0, x1, x2, x3⟩ := x; have f0 : w.cell? ⟨gl, ol + u * 4, none⟩ = some (.int .i64 x0) := hc 0 _ rfl; have f1 : w.cell? ⟨gl, ol + u * 4 + 1, none⟩ = some (.int .i64 x1) := hc 1 _ rfl; have f2 : w.cell? ⟨gl, ol + u * 4 + 2, none⟩ = some (.int .i64 x2) := hc 2 _ rfl; have f3 : w.cell? ⟨gl, ol + u * 4 + 3, none⟩ = some (.int .i64 x3) := hc 3 _ rfl; have k0 : w.cell? ⟨rr, 0, none⟩ = some (.slice (some ⟨gl, ol, none⟩) n c) := h.cell rfl; have k1 : w.cell? ⟨rr, 1, none⟩ = some (.int .i64 (u : Int)) := h.cell rfl; have hrr := h.lt; have hult : u < n := by omega
    have hne2 : ((u : Int) == n) = false := by simp; omega
    clear hc hwf hs; have h' := Lib.hid h; have hne' := Lib.hid hne; have hxw' := Lib.hid hxw; have hx' := Lib.hid hx; have hgl' := Lib.hid hgl; have hrr' := Lib.hid hrr; have hun' := Lib.hid hun; clear h hne hxw hx hgl hrr hun
    go_enter Try.func184, Try.ntmps184
    go_wp2
    go_quiet (fail)
    go_wp2_with fail
    obtain ⟨W1, hW1⟩ : ∃ W, w.drewN nq = W := ⟨_, rfl⟩; have hb1 : Below w.heap.size w W1 := by rw [← hW1]; exact Qt.below ⟨nq, rfl⟩ _
    rw [hW1]; have hD1 := (Below.refl W1.heap.size W1).drew; obtain ⟨wD, hwD⟩ : ∃ W, W1.drew = W := ⟨_, rfl⟩; rw [hwD] at hD1; have hD := hb1.trans (hD1.mono hb1.size); obtain ⟨Ty, ff, hnn, hbel, hsurj⟩ := later_worlds W1; have HS := Lib.hid (hsurj wD hD1); have hlt : ∀ s, Below w.heap.size w (ff s) := fun s => hb1.trans ((hbel s).mono hb1.size); have y0 : ∀ s, (ff s).cell? ⟨gl, ol + u * 4, none⟩ = some (.int .i64 x0) := fun s => ((hlt s).cell (p := ⟨gl, ol + u * 4, none⟩) hgl'.out).trans f0; have y1 : ∀ s, (ff s).cell? ⟨gl, ol + u * 4 + 1, none⟩ = some (.int .i64 x1) := fun s => ((hlt s).cell (p := ⟨gl, ol + u * 4 + 1, none⟩) hgl'.out).trans f1; have y2 : ∀ s, (ff s).cell? ⟨gl, ol + u * 4 + 2, none⟩ = some (.int .i64 x2) := fun s => ((hlt s).cell (p := ⟨gl, ol + u * 4 + 2, none⟩) hgl'.out).trans f2; have y3 : ∀ s, (ff s).cell? ⟨gl, ol + u * 4 + 3, none⟩ = some (.int .i64 x3) := fun s => ((hlt s).cell (p := ⟨gl, ol + u * 4 + 3, none⟩) hgl'.out).trans f3; have y4 : ∀ s, (ff s).cell? ⟨rr, 0, none⟩ = some (.slice (some ⟨gl, ol, none⟩) n c) := fun s => (h'.out.late (hlt s)).cell rfl; have y5 : ∀ s, (ff s).cell? ⟨rr, 1, none⟩ = some (.int .i64 (u : Int)) := fun s => (h'.out.late (hlt s)).cell rfl; clear f0 f1 f2 f3 k0 k1; have hW1' := Lib.hid hW1; have hb1' := Lib.hid hb1; have hD1' := Lib.hid hD1; have hwD' := Lib.hid hwD; have hD' := Lib.hid hD; have hbel' := Lib.hid hbel; have hsurj' := Lib.hid hsurj; have hlt' := Lib.hid hlt; clear hW1 hb1 hD1 hwD hD hbel hsurj hlt; refine held_begin (S := fun W => ∃ s, W = ff s) (by kernel_rfl) 12 rfl ?_; rw [hwD'.out]; refine held_take [0, 1, 2, 3, 4, 5, 6, 7, 8, 9] 2 (by kernel_rfl) (fun d _ _ _ _ h => by cases d <;> exact h) (by kernel_rfl) (by kernel_rfl) (by kernel_rfl) HS.out ?_; simp only [pickL, List.map_cons, List.map_nil, List.getD_cons_succ, List.getD_cons_zero]
    iterate 10 (go_big_quiet_step (fail))
    refine wpQuiet_nil ?_; clear y0 y1 y2 y3 y4 y5; refine held_one 10 1 (by kernel_rfl) (by kernel_rfl) ?_; simp only [pickL, List.map_cons, List.map_nil, List.getD_cons_succ, List.getD_cons_zero]
    go_wp2_with fail
    refine Mid.mk ⟨hsurj'.out _ (hD1'.out.trans (((Below.refl wD.heap.size wD).alloc (Nat.le_refl _) _).mono hD1'.out.size)), ?_⟩; refine held_one 11 0 (by kernel_rfl) (by kernel_rfl) ?_; simp only [pickL, List.map_cons, List.map_nil, List.getD_cons_succ, List.getD_cons_zero]
    go_wp2_with (refine wpList_store_row rfl 133 (.tmp 9) (.tmp 30) rfl wD.heap.size #[.int .i64 x0, .int .i64 x1, .int .i64 x2, .int .i64 x3] rfl rfl 133 _ (heap_new _ _) infoCod4 rfl (by kernel_rfl) ?_)
    rw [setRow_alloc]; refine Mid.mk ⟨hsurj'.out _ (hD1'.out.trans (((Below.refl wD.heap.size wD).alloc (Nat.le_refl _) _).mono hD1'.out.size)), ?_⟩; refine held_last (by kernel_rfl) ?_; clear HS hbel' hsurj'; have hal := (Below.refl wD.heap.size wD).alloc (Nat.le_refl _) (.cells #[.int .i64 x0, .int .i64 x1, .int .i64 x2, .int .i64 x3] 133); have bx := Blk.new wD 133 #[.int .i64 x0, .int .i64 x1, .int .i64 x2, .int .i64 x3]; obtain ⟨g, hg⟩ : ∃ g, wD.heap.size = g := ⟨_, rfl⟩; obtain ⟨w3, hw3⟩ : ∃ W, wD.alloc (.cells #[.int .i64 x0, .int .i64 x1, .int .i64 x2, .int .i64 x3] 133) = W := ⟨_, rfl⟩; rw [hw3, hg] at bx; rw [hw3] at hal; have hb3 := hD'.out.trans (hal.mono hD'.out.size); have hgr : rr < g := by rw [← hg]; exact Nat.lt_of_lt_of_le hrr'.out hD'.out.size
    rw [hw3, hg]; have c2 : w3.cell? ⟨g, 2, none⟩ = some (.int .i64 x2) := bx.cell rfl; have c3 : w3.cell? ⟨g, 3, none⟩ = some (.int .i64 x3) := bx.cell rfl; have w2 : (Lit.int .i64 x2).wf = true := hxw'.out x2 (by simp [cdL]); have w3f : (Lit.int .i64 x3).wf = true := hxw'.out x3 (by simp [cdL]); have HV := cvalue_any x2 x3 w3 w2 w3f; clear hal hW1' hb1' hD1' hwD' hD' hlt' hw3 hg w2 w3f; have bx' := Lib.hid bx; have hb3' := Lib.hid hb3; have hgr' := Lib.hid hgr; have HV' := Lib.hid HV; clear bx hb3 hgr HV
    go_wp2_with fail
    refine HV'.out.mono ?_; rintro e w4 ⟨rfl, hb4⟩; unfold valR; have hb5 := hb3'.out.trans (hb4.mono hb3'.out.size); have bx4 := bx'.out.late hb4; have hr4 := h'.out.late hb5; have k0 : w4.cell? ⟨g, 0, none⟩ = some (.int .i64 x0) := bx4.cell rfl; have k1 : w4.cell? ⟨g, 1, none⟩ = some (.int .i64 x1) := bx4.cell rfl; have k3 : w4.cell? ⟨g, 3, none⟩ = some (.int .i64 x3) := bx4.cell rfl; have hbt6 : But rr w w4 := But.of_below hb5; clear c2 c3 hb4 bx4; obtain ⟨q, hq⟩ : ∃ q, valueS x2 x3 = q := ⟨_, rfl⟩; rw [hq]
    cases q with
    | none =>
      have hsy : symV (x0, x1, x2, x3) ac most = none := symV_val hq; clear hq; have b6 := hr4; clear hb5; simp only [Option.getD_none, Option.isSome_none]; have hr4' := Lib.hid hr4; clear hr4; have hn := nextC_no hx'.out hsy; clear hsy; have hn' := Lib.hid hn; have hbt6' := Lib.hid hbt6; have b6' := Lib.hid b6; clear hn hbt6 b6
      go_wp2
      go_ret3
      exact ⟨0, 0, 2, hn'.out, rfl, (fun h => by cases h), hbt6'.out⟩
    | some v =>
      simp only [Option.getD_some, Option.isSome_some]; have hb6 := hb5; clear hb5; have hxi := hx'.out
      by_cases c1 : x0 = ac
      · subst c1
        have c1 : (x0 != x0) = false := by simp
        by_cases c2 : x1 < 0
        · have hsy : symV (x0, x1, x2, x3) x0 most = none := symV_bad fun h => by have : 0 ≤ x1 := h.2.1; omega
          have b6 := hr4; clear hq; have hr4' := Lib.hid hr4; have hxi' := Lib.hid hxi; clear hr4 hxi; have hn := nextC_no hx'.out hsy; clear hsy; have hn' := Lib.hid hn; have hbt6' := Lib.hid hbt6; have b6' := Lib.hid b6; clear hn hbt6 b6
          go_wp2
          go_ret3
          exact ⟨0, 0, 2, hn'.out, rfl, (fun h => by cases h), hbt6'.out⟩
        · by_cases c3 : 255 < x1
          · have hsy : symV (x0, x1, x2, x3) x0 most = none := symV_bad fun h => by have : x1 ≤ 255 := h.2.2.1; omega
            have b6 := hr4; clear hq; have hr4' := Lib.hid hr4; have hxi' := Lib.hid hxi; clear hr4 hxi; have hn := nextC_no hx'.out hsy; clear hsy; have hn' := Lib.hid hn; have hbt6' := Lib.hid hbt6; have b6' := Lib.hid b6; clear hn hbt6 b6
            go_wp2
            go_ret3
            exact ⟨0, 0, 2, hn'.out, rfl, (fun h => by cases h), hbt6'.out⟩
          · have ha := and_low4 (x := x1) (by omega) (by omega)
            have hm0 := Int.emod_nonneg x1 (show (16 : Int) ≠ 0 by decide); have hm1 := Int.emod_lt_of_pos x1 (show (0 : Int) < 16 by decide); obtain ⟨z, hz⟩ : ∃ z, x1 % 16 = z := ⟨_, rfl⟩; rw [hz] at ha hm0 hm1
            by_cases c4 : most < z
            · have hsy : symV (x0, x1, x2, x3) x0 most = none := symV_bad fun h => by have : x1 % 16 ≤ most := h.2.2.2.1; omega
              have b6 := hr4; clear hq; have hr4' := Lib.hid hr4; have hz' := Lib.hid hz; have hxi' := Lib.hid hxi; clear hr4 hz hxi; have hn := nextC_no hx'.out hsy; clear hsy; have hn' := Lib.hid hn; have hbt6' := Lib.hid hbt6; have b6' := Lib.hid b6; clear hn hbt6 b6
              go_wp2
              go_ret3
              exact ⟨0, 0, 2, hn'.out, rfl, (fun h => by cases h), hbt6'.out⟩
            · by_cases c5 : x3 = z
              · have hsy : symV (x0, x1, x2, x3) x0 most = some v := (symV_good (x := (x0, x1, x2, x3)) ⟨rfl, by show 0 ≤ x1; omega, by show x1 ≤ 255; omega, by show x1 % 16 ≤ most; omega, by show x3 = x1 % 16; omega⟩).trans hq
                have hnx := nextC_ok hxi hsy; subst c5; have c5 : (x3 != x3) = false := by simp
                have r1 : w4.cell? ⟨rr, 1, none⟩ = some (.int .i64 (u : Int)) := hr4.cell rfl; have r2 := hr4.frozen 1; have hgne : rr ≠ g := by have := hgr'.out; omega
                have hs16 : IntKind.i64.wrap (x1 / 16) = x1 / 16 := by rw [IntKind.wrap_i64]; omega
                have hbt7 := hbt6.set 1 (.int .i64 ((u : Int) + 1)); have b7 := hr4.set 1 (.int .i64 ((u : Int) + 1)); have hu1 : wrap64 ((u : Int) + 1) = ((u : Int) + 1) := by unfold wrap64; omega
                clear hq hz hsy hr4 hbt6; have hlt4 := World.block_lt_of_cell? w4 _ k1; have hb47 := (But.refl rr w4).set 1 (.int .i64 ((u : Int) + 1)); have hnx' := Lib.hid hnx; have hbt7' := Lib.hid hbt7; have b7' := Lib.hid b7; have hgne' := Lib.hid hgne; have hxi' := Lib.hid hxi; have hs16' := Lib.hid hs16; clear hnx hbt7 b7 hgne hxi hs16
                go_upto_region 8 with fail
                have q0 := (hb47.cell (p := ⟨g, 1, none⟩) hlt4 (Ne.symm hgne'.out)).trans k1; obtain ⟨w7, hw7⟩ : ∃ W, w4.setCell ⟨rr, 1, none⟩ (.int .i64 ((u : Int) + 1)) = W := ⟨_, rfl⟩; rw [hw7] at q0 hbt7' b7' ⊢; have hs16 := hs16'.out; clear k0 k1 k3 r1 r2 hw7 hb47 hlt4 hu1 ha hm0 hm1 c1 c2 c3 c4 c5 hs16'
                go_wp2
                go_ret3
                exact ⟨x1 / 16, v, 0, hnx'.out, rfl, fun _ => b7'.out, hbt7'.out⟩
              · have hsy : symV (x0, x1, x2, x3) x0 most = none := symV_bad fun h => by have : x3 = x1 % 16 := h.2.2.2.2; omega
                have c5 : (x3 != z) = true := by simpa using c5
                have b6 := hr4; clear hq; have hr4' := Lib.hid hr4; have hz' := Lib.hid hz; have hxi' := Lib.hid hxi; clear hr4 hz hxi; have hn := nextC_no hx'.out hsy; clear hsy; have hn' := Lib.hid hn; have hbt6' := Lib.hid hbt6; have b6' := Lib.hid b6; clear hn hbt6 b6
                go_wp2
                go_ret3
                exact ⟨0, 0, 2, hn'.out, rfl, (fun h => by cases h), hbt6'.out⟩
      · have hsy : symV (x0, x1, x2, x3) ac most = none := symV_bad fun h => c1 h.1
        have c1 : (x0 != ac) = true := by simpa using c1
        have b6 := hr4; clear hq; have hr4' := Lib.hid hr4; have hxi' := Lib.hid hxi; clear hr4 hxi; have hn := nextC_no hx'.out hsy; clear hsy; have hn' := Lib.hid hn; have hbt6' := Lib.hid hbt6; have b6' := Lib.hid b6; clear hn hbt6 b6
        go_wp2
        go_ret3
        exact ⟨0, 0, 2, hn'.out, rfl, (fun h => by cases h), hbt6'.out⟩
end Go.Proofs.Ytpjopeojeglogaa
