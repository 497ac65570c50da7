/- Chapter 12: Count's closures: what they keep in memory. | Chapter 12: Count's closures: the walk. | Chapter 12: what tell asks of Count's closures. | Chapter 12: Count: both tables while they are made. -/
import Derived.Test.YtpjopeojeglogaaCs38
import Derived.Test.YtpjopeojeglogaaCs39
import Derived.Test.YtpjopeojeglogaaCs29
import Derived.Test.YtpjopeojeglogaaCs23
namespace Go.Proofs.Ytpjopeojeglogaa
open Go.RowKit Tt
set_option linter.unusedVariables false
set_option linter.unusedSimpArgs false

/-- how often each symbol of a class was told of a plane -/
def cntL (t : TrC) (i : Nat) (ac : Int) : List Int := (List.range 256).map fun (sym : Nat) => ((cntC t (i : Int) ac (sym : Int) : Nat) : Int)
theorem cntL_len (t : TrC) (i : Nat) (ac : Int) : (cntL t i ac).length = 256 := by simp [cntL]
theorem cntL_get {t : TrC} {i : Nat} {ac : Int} {sym : Nat} (h : sym < 256) : (cntL t i ac)[sym]? = some ((cntC t (i : Int) ac (sym : Int) : Nat) : Int) := by
  unfold cntL; rw [List.getElem?_map, List.getElem?_range h]
  rfl
theorem cntL_nil (i : Nat) (ac : Int) : cntL [] i ac = List.replicate 256 0 := by
  refine List.ext_getElem? fun k => ?_; unfold cntL; rw [List.getElem?_map, List.getElem?_replicate]
  by_cases h : k < 256
  · rw [List.getElem?_range h, if_pos h]; rfl
  · rw [List.getElem?_eq_none (by simp; omega), if_neg h]; rfl
theorem cntC_le (t : TrC) (i ac sym : Int) : cntC t i ac sym ≤ t.length := by unfold cntC; exact List.length_filter_le _ _
theorem cntL_same {t : TrC} {q : Nat × Cod} {i : Nat} {ac : Int} (h : ¬ (q.1 = i ∧ q.2.1 = ac)) : cntL (t ++ [q]) i ac = cntL t i ac := by
  unfold cntL; refine List.map_congr_left fun sym _ => ?_; rw [cntC_snoc, if_neg]
  · rfl
  · intro h2
    simp only [Bool.and_eq_true, beq_iff_eq] at h2; exact h ⟨by omega, h2.1.2⟩
theorem cntL_put {t : TrC} {part : Nat} {x : Cod} {sym : Nat} (hx : x.2.1 = sym) (h : sym < 256) : cntL (t ++ [(part, x)]) part x.1 = (cntL t part x.1).set sym (((cntC t (part : Int) x.1 (sym : Int) : Nat) : Int) + 1) := by
  refine List.ext_getElem? fun k => ?_
  by_cases hk : k < 256
  · rw [cntL_get hk, cntC_snoc]
    by_cases he : sym = k
    · subst he
      rw [List.getElem?_set_self (by rw [cntL_len]; exact h), if_pos (by simp [hx])]
      rfl
    · rw [List.getElem?_set_ne he, cntL_get hk, if_neg (by simp [hx]; omega)]
      rfl
  · rw [List.getElem?_eq_none (by rw [cntL_len]; omega), List.getElem?_eq_none (by rw [List.length_set, cntL_len]; omega)]
theorem OutI.but {B g : Nat} {w w' : World} {a : Option Addr} {n c : Nat} {L : List (Nat × List Int)} (h : OutI B w a n c L) (hb : But g w w') (h1 : (Value.slice a n c).ownBlock ≠ some g) (h2 : ∀ (i : Nat) x, L[i]? = some x → x.1 ≠ g) : OutI B w' a n c L :=
  ⟨own_but h.own hb h1, fun i x hx => ⟨(h.blk i x hx).1, (h.blk i x hx).2.but hb (h2 i x hx)⟩, h.inj⟩
/-- both tables of counts -/
structure CJ (B g7 pn E : Nat) (S : Nat → Prop) (t : TrC) (w : World) : Prop where
  bd : ∀ k, S k → B ≤ k ∧ k < w.heap.size ∧ k ≠ g7
  lt7 : g7 < E
  ex : ∃ da dc aa ac LD LA, Blk w g7 163 #[.slice da pn dc, .slice aa pn ac] ∧ OutI B w da pn dc LD ∧ OutI B w aa pn ac LA ∧
    (∀ (i : Nat) x, LD[i]? = some x → S x.1 ∧ x.2 = cntL t i 0) ∧ (∀ (i : Nat) x, LA[i]? = some x → S x.1 ∧ x.2 = cntL t i 1) ∧ (∀ (i j : Nat) x y, LD[i]? = some x → LA[j]? = some y → x.1 ≠ y.1) ∧
    (∀ k, (Value.slice da pn dc).ownBlock = some k → k < E ∧ ¬ S k) ∧ (∀ k, (Value.slice aa pn ac).ownBlock = some k → k < E ∧ ¬ S k)
section
variable {B g7 pn E : Nat} {S : Nat → Prop} {t : TrC} {w w' : World}
theorem CJ.late (h : CJ B g7 pn E S t w) (hb : Below w.heap.size w w') : CJ B g7 pn E S t w' := by
  obtain ⟨da, dc, aa, ac, LD, LA, h1, h2, h3, h4, h5, h6, h7, h8⟩ := h.ex; exact ⟨fun k hk => by have := h.bd k hk; have := hb.size; omega, h.lt7, da, dc, aa, ac, LD, LA, h1.late hb, h2.late hb, h3.late hb, h4, h5, h6, h7, h8⟩
theorem CJ.but {g : Nat} (h : CJ B g7 pn E S t w) (hb : But g w w') (hE : E ≤ g) (hg : ¬ S g) : CJ B g7 pn E S t w' := by
  obtain ⟨da, dc, aa, ac, LD, LA, h1, h2, h3, h4, h5, h6, h7, h8⟩ := h.ex; have h0 := h.lt7; exact ⟨fun k hk => by have := h.bd k hk; have := hb.size; omega, h.lt7, da, dc, aa, ac, LD, LA, h1.but hb (by omega), h2.but hb (fun e => by have := (h7 g e).1; omega) (fun i x hx e => hg (e ▸ (h4 i x hx).1)), h3.but hb (fun e => by have := (h8 g e).1; omega) (fun i x hx e => hg (e ▸ (h5 i x hx).1)), h4, h5, h6, h7, h8⟩
theorem CJ.more {S' : Nat → Prop} (h : CJ B g7 pn E S t w) (hS : ∀ k, S k → S' k) (hb : ∀ k, S' k → B ≤ k ∧ k < w.heap.size ∧ k ≠ g7) (hE : ∀ k, S' k → k < E → S k) : CJ B g7 pn E S' t w := by
  obtain ⟨da, dc, aa, ac, LD, LA, h1, h2, h3, h4, h5, h6, h7, h8⟩ := h.ex; exact ⟨hb, h.lt7, da, dc, aa, ac, LD, LA, h1, h2, h3, fun i x hx => ⟨hS _ (h4 i x hx).1, (h4 i x hx).2⟩, fun i x hx => ⟨hS _ (h5 i x hx).1, (h5 i x hx).2⟩, h6, fun k hk => ⟨(h7 k hk).1, fun hs => (h7 k hk).2 (hE k hs (h7 k hk).1)⟩, fun k hk => ⟨(h8 k hk).1, fun hs => (h8 k hk).2 (hE k hs (h8 k hk).1)⟩⟩
end
end Go.Proofs.Ytpjopeojeglogaa

namespace Go.Proofs.Ytpjopeojeglogaa
open Go.RowKit Tt
set_option linter.unusedVariables false
set_option linter.unusedSimpArgs false

/-- a count that goes up -/
def Cn1 (w : World) (y1 sym : Nat) (cnt : Nat) (e : Ending) (w' : World) : Prop := e = .returned (.int .i64 0) ∧ ∃ wD, Below w.heap.size w wD ∧ w' = wD.setCell ⟨y1, sym, none⟩ (.int .i64 ((cnt : Int) + 1))
set_option maxRecDepth 100000 in
set_option maxHeartbeats 4000000 in
theorem count1_any (g7 xc rg rc pn part y1 sym cnt : Nat) (V N : Int) (w : World) (A : Array Value) (hA : (ints .i64 [(xc : Int), (sym : Int), V, N]).toArray = A) (hxc : xc ≤ 1) (hp : part < pn) (hs : sym < 256) (hcn : cnt ≤ 4000000)
    (c7 : w.cell? ⟨g7, xc, none⟩ = some (.slice (some ⟨rg, 0, none⟩) pn rc)) (h7 : g7 < w.heap.size) (cr : w.cell? ⟨rg, part, none⟩ = some (.slice (some ⟨y1, 0, none⟩) 256 256)) (hr : rg < w.heap.size) (Lc : List Int) (hbk : Blk w y1 3 (ints .i64 Lc).toArray) (hLc : Lc[sym]? = some (cnt : Int)) :
    Calls Try.prog 109 #[.int .i64 part, .agg A, .pointer (some ⟨g7, 0, none⟩)] w (Cn1 w y1 sym cnt) := by
  subst hA; have hcl : (ints .i64 Lc).toArray[sym]? = some (.int .i64 (cnt : Int)) := by rw [List.getElem?_toArray]; unfold ints; rw [List.getElem?_map, hLc]; rfl
  have hal := (Below.refl w.heap.size w).alloc (Nat.le_refl _) (.cells (ints .i64 [(xc : Int), (sym : Int), V, N]).toArray 133); have b4 := Blk.new w 133 (ints .i64 [(xc : Int), (sym : Int), V, N]).toArray; obtain ⟨W1, hW1⟩ : ∃ W, w.alloc (.cells (ints .i64 [(xc : Int), (sym : Int), V, N]).toArray 133) = W := ⟨_, rfl⟩; rw [hW1] at hal b4; obtain ⟨Ty, ff, hne, hbel, hsurj⟩ := later_worlds W1; have hD := (Below.refl W1.heap.size W1).drew; obtain ⟨wD, hwD⟩ : ∃ W, W1.drew = W := ⟨_, rfl⟩; rw [hwD] at hD; have HS := Lib.hid (hsurj wD hD); have hall := fun s => hal.trans ((hbel s).mono hal.size); have y4 : ∀ s, (ff s).cell? ⟨w.heap.size, 0, none⟩ = some (.int .i64 (xc : Int)) := fun s => (b4.late (hbel s)).cell rfl; have y5 : ∀ s, (ff s).cell? ⟨w.heap.size, 1, none⟩ = some (.int .i64 (sym : Int)) := fun s => (b4.late (hbel s)).cell rfl; have y7 : ∀ s, (ff s).cell? ⟨g7, xc, none⟩ = some (.slice (some ⟨rg, 0, none⟩) pn rc) := fun s => ((hall s).cell (p := ⟨g7, _, none⟩) h7).trans c7; have yr : ∀ s, (ff s).cell? ⟨rg, part, none⟩ = some (.slice (some ⟨y1, 0, none⟩) 256 256) := fun s => ((hall s).cell (p := ⟨rg, _, none⟩) hr).trans cr; have yc : ∀ s, (ff s).cell? ⟨y1, sym, none⟩ = some (.int .i64 (cnt : Int)) := fun s => (hbk.late (hall s)).cell hcl; have hbD := hal.trans (hD.mono hal.size); have zc : wD.cell? ⟨y1, sym, none⟩ = some (.int .i64 (cnt : Int)) := (hbk.late hbD).cell hcl; have zf := (hbk.late hbD).frozen sym; clear c7 cr hal hcl hLc; have hW1' := Lib.hid hW1; have b4' := Lib.hid b4; have hbel' := Lib.hid hbel; have hsurj' := Lib.hid hsurj; have hwD' := Lib.hid hwD; have hD' := Lib.hid hD; have hall' := Lib.hid hall; have hbD' := Lib.hid hbD; have h7' := Lib.hid h7; have hr' := Lib.hid hr; have hbk' := Lib.hid hbk; clear hW1 b4 hbel hsurj hwD hD hall hbD h7 hr hbk
  go_enter Try.func109, Try.ntmps109
  go_upto_region 1 with fail
  rw [hW1'.out]; refine wp_noP ?_; refine till_begin (t := 13) (C := fun W => ∃ s, W = ff s) (by kernel_rfl) 14 rfl ?_; rw [hwD'.out]; refine till_take [0, 1, 2, 3, 4, 5, 6, 7, 8, 9, 10, 11, 12] 1 (by kernel_rfl) noP_put (by kernel_rfl) (by kernel_rfl) (by kernel_rfl) HS.out ?_; simp only [pickL, List.map_cons, List.map_nil, List.getD_cons_succ, List.getD_cons_zero]
  iterate 13 (go_big_quiet_step (fail))
  refine wpQuiet_nil ?_; clear y4 y5 y7 yr yc; refine till_one 13 0 (by kernel_rfl) (by kernel_rfl) ?_; simp only [pickL, List.map_cons, List.map_nil, List.getD_cons_succ, List.getD_cons_zero]
  go_wp2_with fail
  refine ⟨fun h => Bool.noConfusion (show true = false from h), ⟨by kernel_rfl, noP_normal ?_⟩⟩
  go_wp2
  go_ret
  exact ⟨rfl, wD, hbD'.out, rfl⟩
end Go.Proofs.Ytpjopeojeglogaa

namespace Go.Proofs.Ytpjopeojeglogaa
open Go.RowKit Tt
set_option linter.unusedVariables false
set_option linter.unusedSimpArgs false

set_option maxRecDepth 20000 in
theorem count2_any (n : Nat) (w : World) : Calls Try.prog 110 #[.int .i64 n] w fun e w' => e = .returned (.tuple #[]) ∧ w' = w := by
  go_enter Try.func110, Try.ntmps110
  go_wp2
  exact ⟨rfl, .tuple #[], by first | rfl | simp [results], rfl, rfl⟩
/-- one table has turned -/
theorem cj_set {L : List (Nat × List Int)} {part y1 : Nat} {ys ys' : List Int} (hy : L[part]? = some (y1, ys)) {t : TrC} {x : Cod} {ac : Int} (hxa : x.1 = ac) (hL : ∀ (i : Nat) z, L[i]? = some z → z.2 = cntL t i ac) (hn : ys' = cntL (t ++ [(part, x)]) part ac) :
    ∀ (i : Nat) z, (L.set part (y1, ys'))[i]? = some z → (∃ z0, L[i]? = some z0 ∧ z0.1 = z.1) ∧ z.2 = cntL (t ++ [(part, x)]) i ac := fun i z hz => by
  by_cases hi : part = i
  · subst hi
    rw [List.getElem?_set_self (List.getElem?_eq_some_iff.1 hy).1] at hz; injection hz with hz; rw [← hz]; exact ⟨⟨_, hy, rfl⟩, hn⟩
  · rw [List.getElem?_set_ne hi] at hz
    exact ⟨⟨z, hz, rfl⟩, by rw [hL i z hz, cntL_same (fun h => hi h.1)]⟩
theorem countJ (B g7 pn E : Nat) (iv : Int) (hBE : B ≤ E) : TellK (CJ B g7 pn E) E B 4000000 List.length pn iv 109 110 (.pointer (some ⟨g7, 0, none⟩)) putC againC where
  low S t w h k hk := (h.bd k hk).1
  high S t w h k hk := (h.bd k hk).2.1
  late S t w w' h hb := h.late hb
  but S t w w' g h hb hE hg := h.but hb hE hg
  grow t t' part x hx h := by
    unfold putC at h; injection h with h; rw [← h, List.length_append]
    simp
  less t n := by unfold againC; omega
  put S t w part x A hA h hp hz hx := by
    obtain ⟨da, dc, aa, ac, LD, LA, h1, h2, h3, h4, h5, h6, h7, h8⟩ := h.ex; obtain ⟨xc, xsym, V, N⟩ := x; obtain ⟨o1, o2, o3, _⟩ := hx; simp only at o1 o2 o3; obtain ⟨sym, rfl⟩ : ∃ k : Nat, xsym = k := ⟨xsym.toNat, by omega⟩; have hsym : sym < 256 := by omega
    have h7w := h1.lt
    rcases o1 with rfl | rfl
    · obtain ⟨⟨y1, ys⟩, hy⟩ : ∃ y, LD[part]? = some y := ⟨_, List.getElem?_eq_getElem (by rw [h2.len]; exact hp)⟩
      obtain ⟨hyS, hyc⟩ := h4 part _ hy; simp only at hyS hyc; obtain ⟨rg, rfl, hrg, hrc⟩ := h2.cell hy; obtain ⟨hyB, hyb⟩ := h2.blk part _ hy; simp only at hyB hyb
      have hrc2 : w.cell? ⟨rg, part, none⟩ = some (.slice (some ⟨y1, 0, none⟩) 256 256) := by
        rw [hrc]; unfold oiV; simp only; rw [hyc, cntL_len]
      have hcn := cntC_le t (part : Int) 0 (sym : Int); refine (count1_any g7 0 rg dc pn part y1 sym (cntC t (part : Int) 0 (sym : Int)) V N w A hA (by omega) hp hsym (by omega) (h1.cell rfl) h7w hrc2 hrg ys hyb (by rw [hyc]; exact cntL_get hsym)).mono ?_; rintro e w' ⟨rfl, wD, hbD, rfl⟩; have hbt : But y1 wD (wD.setCell ⟨y1, sym, none⟩ (.int .i64 ((cntC t (part : Int) 0 (sym : Int) : Int) + 1))) := (But.refl y1 wD).set sym _; have hsz := hbt.size; have hnS : ∀ k, k < w.heap.size → Sx S w (wD.setCell ⟨y1, sym, none⟩ (.int .i64 ((cntC t (part : Int) 0 (sym : Int) : Int) + 1))) k → S k := fun k hk hs => hs.old hk; have h2n := (h2.late hbD).put hy sym ((cntC t (part : Int) 0 (sym : Int) : Int) + 1); have h3n := (h3.late hbD).but hbt (fun e => (h8 _ e).2 hyS) (fun i z hz => (h6 part i _ z hy hz).symm); have hset := cj_set hy (x := ((0 : Int), (sym : Int), V, N)) (ac := 0) rfl (fun i z hz => (h4 i z hz).2) (ys' := ys.set sym ((cntC t (part : Int) 0 (sym : Int) : Int) + 1)) (by rw [hyc]; exact (cntL_put (x := ((0 : Int), (sym : Int), V, N)) rfl hsym).symm); refine ⟨.inl ⟨_, rfl, rfl, ?_⟩, (Mo.of_below hbD).set (.inl hyS) sym _⟩; have hDs := hbD.size; refine ⟨fun k hk => ?_, h.lt7, _, dc, aa, ac, _, LA, (h1.late hbD).but hbt (h.bd y1 hyS).2.2.symm, h2n, h3n, fun i z hz => ?_, fun i z hz => ?_, fun i j z z2 hz hz2 => ?_, fun k hk => ?_, fun k hk => ?_⟩
      · rcases hk with hk | hk
        · have := h.bd k hk; omega
        · have := h.bd y1 hyS; omega
      · obtain ⟨⟨z0, hz0, e⟩, hc⟩ := hset i z hz
        exact ⟨.inl (e ▸ (h4 i z0 hz0).1), hc⟩
      · refine ⟨.inl (h5 i z hz).1, ?_⟩
        rw [(h5 i z hz).2, cntL_same (fun hh => by cases hh.2)]
      · obtain ⟨⟨z0, hz0, e⟩, _⟩ := hset i z hz
        rw [← e]; exact h6 i j z0 z2 hz0 hz2
      · have hlk := (h2.own.lt k hk).2
        exact ⟨(h7 k hk).1, fun hs => (h7 k hk).2 (hnS k hlk hs)⟩
      · have hlk := (h3.own.lt k hk).2
        exact ⟨(h8 k hk).1, fun hs => (h8 k hk).2 (hnS k hlk hs)⟩
    · obtain ⟨⟨y1, ys⟩, hy⟩ : ∃ y, LA[part]? = some y := ⟨_, List.getElem?_eq_getElem (by rw [h3.len]; exact hp)⟩
      obtain ⟨hyS, hyc⟩ := h5 part _ hy; simp only at hyS hyc; obtain ⟨rg, rfl, hrg, hrc⟩ := h3.cell hy; obtain ⟨hyB, hyb⟩ := h3.blk part _ hy; simp only at hyB hyb
      have hrc2 : w.cell? ⟨rg, part, none⟩ = some (.slice (some ⟨y1, 0, none⟩) 256 256) := by
        rw [hrc]; unfold oiV; simp only; rw [hyc, cntL_len]
      have hcn := cntC_le t (part : Int) 1 (sym : Int); refine (count1_any g7 1 rg ac pn part y1 sym (cntC t (part : Int) 1 (sym : Int)) V N w A hA (by omega) hp hsym (by omega) (h1.cell rfl) h7w hrc2 hrg ys hyb (by rw [hyc]; exact cntL_get hsym)).mono ?_; rintro e w' ⟨rfl, wD, hbD, rfl⟩; have hbt : But y1 wD (wD.setCell ⟨y1, sym, none⟩ (.int .i64 ((cntC t (part : Int) 1 (sym : Int) : Int) + 1))) := (But.refl y1 wD).set sym _; have hsz := hbt.size; have hnS : ∀ k, k < w.heap.size → Sx S w (wD.setCell ⟨y1, sym, none⟩ (.int .i64 ((cntC t (part : Int) 1 (sym : Int) : Int) + 1))) k → S k := fun k hk hs => hs.old hk; have h3n := (h3.late hbD).put hy sym ((cntC t (part : Int) 1 (sym : Int) : Int) + 1); have h2n := (h2.late hbD).but hbt (fun e => (h7 _ e).2 hyS) (fun i z hz => h6 i part z _ hz hy); have hset := cj_set hy (x := ((1 : Int), (sym : Int), V, N)) (ac := 1) rfl (fun i z hz => (h5 i z hz).2) (ys' := ys.set sym ((cntC t (part : Int) 1 (sym : Int) : Int) + 1)) (by rw [hyc]; exact (cntL_put (x := ((1 : Int), (sym : Int), V, N)) rfl hsym).symm); refine ⟨.inl ⟨_, rfl, rfl, ?_⟩, (Mo.of_below hbD).set (.inl hyS) sym _⟩; have hDs := hbD.size; refine ⟨fun k hk => ?_, h.lt7, da, dc, _, ac, LD, _, (h1.late hbD).but hbt (h.bd y1 hyS).2.2.symm, h2n, h3n, fun i z hz => ?_, fun i z hz => ?_, fun i j z z2 hz hz2 => ?_, fun k hk => ?_, fun k hk => ?_⟩
      · rcases hk with hk | hk
        · have := h.bd k hk; omega
        · have := h.bd y1 hyS; omega
      · refine ⟨.inl (h4 i z hz).1, ?_⟩
        rw [(h4 i z hz).2, cntL_same (fun hh => by cases hh.2)]
      · obtain ⟨⟨z0, hz0, e⟩, hc⟩ := hset i z hz
        exact ⟨.inl (e ▸ (h5 i z0 hz0).1), hc⟩
      · obtain ⟨⟨z0, hz0, e⟩, _⟩ := hset j z2 hz2
        rw [← e]; exact h6 i j z z0 hz hz0
      · have hlk := (h2.own.lt k hk).2
        exact ⟨(h7 k hk).1, fun hs => (h7 k hk).2 (hnS k hlk hs)⟩
      · have hlk := (h3.own.lt k hk).2
        exact ⟨(h8 k hk).1, fun hs => (h8 k hk).2 (hnS k hlk hs)⟩
  again S t w n h hr hn hz := by
    refine (count2_any n w).mono ?_; rintro e w' ⟨rfl, rfl⟩; have hS : ∀ k, Sx S w' w' k → S k := fun k hk => hk.elim id (fun h => by omega); exact ⟨rfl, h.more (fun k hk => .inl hk) (fun k hk => h.bd k (hS k hk)) (fun k hk _ => hS k hk), Mo.refl S w'⟩
end Go.Proofs.Ytpjopeojeglogaa

namespace Go.Proofs.Ytpjopeojeglogaa
open Go.RowKit Tt
set_option linter.unusedVariables false
set_option linter.unusedSimpArgs false

def z256 : List Int := List.replicate 256 0
theorem OutI.mo {S : Nat → Prop} {B : Nat} {w w' : World} {a : Option Addr} {n c : Nat} {L : List (Nat × List Int)} (h : OutI B w a n c L) (m : Mo S w w') (h1 : ∀ k, (Value.slice a n c).ownBlock = some k → ¬ S k) (h2 : ∀ (i : Nat) x, L[i]? = some x → ¬ S x.1) : OutI B w' a n c L :=
  ⟨own_mo h.own m h1, fun i x hx => ⟨(h.blk i x hx).1, (h.blk i x hx).2.mo m (h2 i x hx)⟩, h.inj⟩
theorem OutI.base {B B' : Nat} {w : World} {a : Option Addr} {n c : Nat} {L : List (Nat × List Int)} (h : OutI B w a n c L) (hB : B' ≤ B) : OutI B' w a n c L := ⟨own_mono h.own hB, fun i x hx => ⟨Nat.le_trans hB (h.blk i x hx).1, (h.blk i x hx).2⟩, h.inj⟩
structure Cq (B g7 : Nat) (v0 v1 : Value) (w0 : World) (da : Option Addr) (nd dc : Nat) (aa : Option Addr) (na ac : Nat) (LD LA : List (Nat × List Int)) (w : World) : Prop where
  b7 : Blk w g7 163 #[v0, v1]
  d : OutI B w da nd dc LD
  a : OutI B w aa na ac LA
  dis : ∀ (i j : Nat) x y, LD[i]? = some x → LA[j]? = some y → x.1 ≠ y.1
  ne : ∀ j, (Value.slice da nd dc).ownBlock = some j → ¬ (Value.slice aa na ac).ownBlock = some j
  zd : ∀ (i : Nat) x, LD[i]? = some x → x.2 = z256
  za : ∀ (i : Nat) x, LA[i]? = some x → x.2 = z256
  bel : Below w0.heap.size w0 w
section
variable {B g7 : Nat} {v0 v1 : Value} {w0 : World} {da : Option Addr} {nd dc : Nat} {aa : Option Addr} {na ac : Nat} {LD LA : List (Nat × List Int)} {w w' : World}
theorem Cq.late (h : Cq B g7 v0 v1 w0 da nd dc aa na ac LD LA w) (hb : Below w.heap.size w w') : Cq B g7 v0 v1 w0 da nd dc aa na ac LD LA w' :=
  ⟨h.b7.late hb, h.d.late hb, h.a.late hb, h.dis, h.ne, h.zd, h.za, h.bel.trans (hb.mono h.bel.size)⟩
theorem Cq.appD (h : Cq B g7 v0 v1 w0 da nd dc aa na ac LD LA w) (hw0 : B = w0.heap.size) {g : Nat} (hB : B ≤ g) (hg : Blk w g 3 (ints .i64 z256).toArray) (f1 : ∀ (i : Nat) x, LD[i]? = some x → x.1 ≠ g) (f2 : ∀ (i : Nat) x, LA[i]? = some x → g ≠ x.1)
    {a' : Option Addr} {c' : Nat} (ho : w'.ownsRow B 35 1 (.slice a' (nd + 1) c') (nd + 1) (LD.map oiV ++ [oiV (g, z256)])) (hgr : w.grownBy w' (Value.slice da nd dc).ownBlock) (hk : ∀ k, (Value.slice a' (nd + 1) c').ownBlock = some k → (Value.slice da nd dc).ownBlock = some k ∨ w.heap.size ≤ k) :
    Cq B g7 v0 v1 w0 a' (nd + 1) c' aa na ac (LD ++ [(g, z256)]) LA w' := by
  have hm := Mo.of_grown (S := fun j => (Value.slice da nd dc).ownBlock = some j) hgr fun j hj => hj
  have key : ∀ (i : Nat) x, (LD ++ [(g, z256)])[i]? = some x → LD[i]? = some x ∨ x = (g, z256) := fun i x hx => by
    rcases Nat.lt_or_ge i LD.length with hi | hi
    · rw [List.getElem?_append_left hi] at hx; exact .inl hx
    · have hi2 := (List.getElem?_eq_some_iff.1 hx).1
      rw [List.length_append, List.length_singleton] at hi2; obtain rfl : i = LD.length := by omega
      rw [List.getElem?_concat_length] at hx; injection hx with hx; exact .inr hx.symm
  refine ⟨h.b7.mo hm (own_neB h.d.own h.b7 (by decide)), h.d.snoc hB hg f1 ho hgr, h.a.mo hm (fun k hk1 hk2 => h.ne k hk2 hk1) (fun i x hx hs => own_neB h.d.own (h.a.blk i x hx).2 (by decide) hs), fun i j x y hx hy => ?_, fun j hj hj2 => ?_, fun i x hx => ?_, h.za, h.bel.trans (hm.below (by have := h.bel.size; omega) fun j hj hs => by have := (h.d.own.lt j hs).1; omega)⟩
  · rcases key i x hx with hx | rfl
    · exact h.dis i j x y hx hy
    · exact f2 j y hy
  · rcases hk j hj with h1 | h1
    · exact h.ne j h1 hj2
    · have := (h.a.own.lt j hj2).2; omega
  · rcases key i x hx with hx | rfl
    · exact h.zd i x hx
    · rfl
theorem Cq.fresh (h : Cq w0.heap.size g7 v0 v1 w0 da nd dc aa na ac LD LA w) : w0.heap.size ≤ w.heap.size ∧ (∀ (i : Nat) x, LD[i]? = some x → x.1 ≠ w.heap.size) ∧ (∀ (i : Nat) x, LA[i]? = some x → w.heap.size ≠ x.1) :=
  ⟨h.bel.size, fun i x hx e => by have := (h.d.blk i x hx).2.lt; omega, fun i x hx e => by have := (h.a.blk i x hx).2.lt; omega⟩
theorem fresh_snoc {L : List (Nat × List Int)} {g g' : Nat} {l : List Int} (h : ∀ (i : Nat) x, L[i]? = some x → x.1 ≠ g) (hg : g' ≠ g) : ∀ (i : Nat) x, (L ++ [(g', l)])[i]? = some x → g ≠ x.1 := fun i x hx => by
  rcases List.mem_append.1 (List.mem_of_getElem? hx) with hx | hx
  · obtain ⟨j, hj, e⟩ := List.mem_iff_getElem.1 hx
    exact (h j x (by rw [List.getElem?_eq_getElem hj, e])).symm
  · rw [List.mem_singleton.1 hx]; exact hg.symm
theorem Cq.turn (h : Cq B g7 v0 v1 w0 da nd dc aa na ac LD LA w) : Cq B g7 v0 v1 w0 aa na ac da nd dc LA LD w := ⟨h.b7, h.a, h.d, fun i j x y hx hy e => h.dis j i y x hy hx e.symm, fun j h1 h2 => h.ne j h2 h1, h.za, h.zd, h.bel⟩
theorem Cq.put2 (h : Cq B g7 v0 v1 w0 da nd dc aa na ac LD LA w) (hg : w0.heap.size ≤ g7) (u0 u1 : Value) : Cq B g7 u0 u1 w0 da nd dc aa na ac LD LA ((w.setCell ⟨g7, 0, none⟩ u0).setCell ⟨g7, 1, none⟩ u1) := by
  have hbt : But g7 w ((w.setCell ⟨g7, 0, none⟩ u0).setCell ⟨g7, 1, none⟩ u1) := ((But.refl g7 w).set 0 u0).set 1 u1; exact ⟨(h.b7.set 0 u0).set 1 u1, h.d.but hbt (own_neB h.d.own h.b7 (by decide)) (fun i x hx => blk_neT (h.d.blk i x hx).2 h.b7 (by decide)), h.a.but hbt (own_neB h.a.own h.b7 (by decide)) (fun i x hx => blk_neT (h.a.blk i x hx).2 h.b7 (by decide)), h.dis, h.ne, h.zd, h.za, h.bel.trans (hbt.below hg h.bel.size)⟩
/-- the planes' blocks -/
def plB (LD LA : List (Nat × List Int)) (j : Nat) : Prop := (∃ (i : Nat) (x : Nat × List Int), LD[i]? = some x ∧ x.1 = j) ∨ ∃ (i : Nat) (x : Nat × List Int), LA[i]? = some x ∧ x.1 = j
theorem Cq.start {pn : Nat} (h : Cq w0.heap.size g7 (.slice da pn dc) (.slice aa pn ac) w0 da pn dc aa pn ac LD LA w) : CJ w0.heap.size g7 pn w.heap.size (plB LD LA) [] w := by
  refine ⟨fun k hk => ?_, h.b7.lt, da, dc, aa, ac, LD, LA, h.b7, h.d, h.a, fun i x hx => ⟨Or.inl ⟨i, x, hx, rfl⟩, by rw [h.zd i x hx, cntL_nil]; rfl⟩, fun i x hx => ⟨Or.inr ⟨i, x, hx, rfl⟩, by rw [h.za i x hx, cntL_nil]; rfl⟩, h.dis, fun k hk => ⟨(h.d.own.lt k hk).2, fun hs => ?_⟩, fun k hk => ⟨(h.a.own.lt k hk).2, fun hs => ?_⟩⟩
  · rcases hk with ⟨i, x, hx, rfl⟩ | ⟨i, x, hx, rfl⟩
    · exact ⟨(h.d.blk i x hx).1, (h.d.blk i x hx).2.lt, blk_neT (h.d.blk i x hx).2 h.b7 (by decide)⟩
    · exact ⟨(h.a.blk i x hx).1, (h.a.blk i x hx).2.lt, blk_neT (h.a.blk i x hx).2 h.b7 (by decide)⟩
  · rcases hs with ⟨i, x, hx, rfl⟩ | ⟨i, x, hx, rfl⟩
    · exact own_neB h.d.own (h.d.blk i x hx).2 (by decide) hk
    · exact own_neB h.d.own (h.a.blk i x hx).2 (by decide) hk
  · rcases hs with ⟨i, x, hx, rfl⟩ | ⟨i, x, hx, rfl⟩
    · exact own_neB h.a.own (h.d.blk i x hx).2 (by decide) hk
    · exact own_neB h.a.own (h.a.blk i x hx).2 (by decide) hk
end
end Go.Proofs.Ytpjopeojeglogaa
