/- Chapter 4: a table made ready: the program's New. | Chapter 4: a table asked for codes, and put: the program. | Chapter 4: a symbol put: the program. -/
import Derived.DeepKeys4
import Derived.Test.YtpjopeojeglogaaCs10
namespace Go.Proofs.Ytpjopeojeglogaa
open Go.RowKit Tt
set_option linter.unusedVariables false
set_option linter.unusedSimpArgs false

def bitA (x : Int × Nat) : Value := .agg #[.int .i64 x.1, .int .i64 x.2]
theorem cell_ltH {w : World} {a : Addr} {v : Value} (h : w.cell? a = some v) : a.block < w.heap.size := by
  unfold World.cell? at h
  rcases Nat.lt_or_ge a.block w.heap.size with h1 | h1
  · exact h1
  · rw [Array.getElem?_eq_none h1] at h
    simp at h
theorem bitA_inj {x y : Int × Nat} (h : bitA x = bitA y) : x = y := by
  unfold bitA at h; injection h with h
  simp at h
  exact Prod.ext h.1 (by have := h.2; omega)
theorem laidOutH : laidOutB Try.prog = true := by kernel_rfl
theorem bitsPos : 102 < Try.prog.types.size := of_decide_eq_true (by kernel_rfl)
theorem bitK : Maps.Keyed Try.prog 102 := Maps.Keyed.of_law (deep_law_laid laidOutH (m := 2) (by omega) bitsPos (by kernel_rfl) (by rw [Try.underlying102]))
theorem key_bit {x : Int × Nat} (h1 : (Lit.int .i64 x.1).wf = true) (h2 : (Lit.int .i64 x.2).wf = true) : ∃ l, keyOf Try.prog 102 (bitA x) = some l := by
  have k1 : Try.prog.keyType 102 = true := by kernel_rfl
  have k2 : Try.prog.cellsOf 102 = 2 := by kernel_rfl
  have k3 : Try.prog.cellsOf 3 = 1 := by kernel_rfl
  have k4 : ∀ (n : Nat) (x : Int), (Lit.int .i64 x).wf = true → Try.prog.keyLits (n + 1) 3 [.int .i64 x] = some [.int .i64 x] := by
    intro n x hx; unfold Program.keyLits; rw [Try.underlying3]
    simp [hx]
  unfold keyOf bitA; rw [Try.underlying102]; simp only [k1, Bool.true_and]; rw [if_pos (by unfold Value.formed; rw [Try.underlying102, k2]; rfl)]; unfold Program.keyLits; rw [Try.underlying102]
  simp [Value.cells, k2, k3, k4 _ _ h1, k4 _ _ h2]
theorem code_wf {x : Int × Nat} (h : CodeOk x) : (Lit.int .i64 x.1).wf = true ∧ (Lit.int .i64 x.2).wf = true := by
  obtain ⟨h1, h2, h3, h4⟩ := h; have hp : (2 : Int) ^ x.2 ≤ 2 ^ 16 := by exact_mod_cast Nat.pow_le_pow_right (by decide : 0 < 2) h2
  exact ⟨wf_of (by omega) (by omega), wf_of (by omega) (by omega)⟩
/-- the entries of both maps -/
def entC (c s : List Int) (k : Nat) : List (Value × Value) := (List.range k).map fun i => (.int .i64 (s.getD i 0), bitA ((codesS c).getD i (0, 0)))
def entS (c s : List Int) (k : Nat) : List (Value × Value) := (List.range k).map fun i => (bitA ((codesS c).getD i (0, 0)), .int .i64 (s.getD i 0))
theorem entC_succ (c s : List Int) (k : Nat) : entC c s (k + 1) = entC c s k ++ [(.int .i64 (s.getD k 0), bitA ((codesS c).getD k (0, 0)))] := by
  unfold entC; rw [List.range_succ, List.map_append]; rfl
theorem entS_succ (c s : List Int) (k : Nat) : entS c s (k + 1) = entS c s k ++ [(bitA ((codesS c).getD k (0, 0)), .int .i64 (s.getD k 0))] := by
  unfold entS; rw [List.range_succ, List.map_append]; rfl
theorem entC_new {c s : List Int} (h : hMay c s = true) {k : Nat} (hk : k < s.length) : ∀ y ∈ entC c s k, y.1 ≠ .int .i64 (s.getD k 0) := fun y hy he => by
  obtain ⟨i, hi, rfl⟩ := List.mem_map.1 hy; have hi := List.mem_range.1 hi; injection he with _ he; exact (symOk_iff.1 ((CntOk.of h).2.2.2.2 k hk)).2 i hi (by omega) he
theorem entS_new {c s : List Int} (h : hMay c s = true) {k : Nat} (hk : k < s.length) : ∀ y ∈ entS c s k, y.1 ≠ bitA ((codesS c).getD k (0, 0)) := fun y hy he => by
  obtain ⟨i, hi, rfl⟩ := List.mem_map.1 hy; have hi := List.mem_range.1 hi; have e := bitA_inj he; have hlen := codes_len h; have ha := ahead_ne (CntOk.of h).1 hi (by omega : k < (codesS c).length); rw [e] at ha; have := ha.2; rw [Nat.sub_self, Int.pow_zero, Int.mul_one] at this
  omega
theorem set_last {l : List (Value × Value)} {x z v : Value} (h : l.length < (l ++ [(x, z)]).length) : (l ++ [(x, z)]).set l.length ((l ++ [(x, z)])[l.length].1, v) = l ++ [(x, v)] := by
  rw [List.getElem_append_right (Nat.le_refl _)]
  simp
/-- what stands behind a table's pointer -/
structure TbM (w : World) (tb : Nat) (c s : List Int) : Prop where
  ex : ∃ b1 b2, Blk w tb 199 #[.map (some b1), .map (some b2)] ∧ AM Try.prog 3 w b1 (entC c s s.length) ∧ AM Try.prog 102 w b2 (entS c s s.length)
  may : hMay c s = true
  wf : ∀ x ∈ s, (Lit.int .i64 x).wf = true
theorem TbM.below {B : Nat} {w w' : World} {tb : Nat} {c s : List Int} (h : TbM w tb c s) (hb : Below w.heap.size w w') : TbM w' tb c s := by
  obtain ⟨b1, b2, h1, h2, h3⟩ := h.ex; exact ⟨⟨b1, b2, h1.late hb, h2.late hb, h3.late hb⟩, h.may, h.wf⟩
set_option maxRecDepth 20000 in
set_option maxHeartbeats 2000000 in
theorem new_any (c s : List Int) (a : Option Addr) (n cp : Nat) (w : World) (hc : c.length = 16) (hs : Sl w a n cp 1 (ints .i64 s)) (hw : ∀ x ∈ s, (Lit.int .i64 x).wf = true) (hn : n ≤ 100000) :
    Calls Try.prog 73 #[hV c a n cp] w fun e w' => ((hMay c s = false ∧ e = .returned (.tuple #[.pointer none, .int .i64 2])) ∨ ∃ tb, e = .returned (.tuple #[.pointer (some ⟨tb, 0, none⟩), .int .i64 0]) ∧ TbM w' tb c s) ∧ Below w.heap.size w w' := by
  have hmm := @run_makeMap Try.prog; have hl := hs.ilen; have hMy := fun W (hb : Below w.heap.size w W) => pmay04_any c s a n cp W hc (hs.mono hb) hw hn; have hCo := fun W (hok : CntOk c) => codes_any c a n cp W hc hok; unfold hV at hMy hCo ⊢; have hcl : (ints .i64 c ++ [Value.slice a n cp]).length = 17 := by rw [List.length_append, ints_len, hc]; rfl
  obtain ⟨B, hB⟩ : ∃ B, (ints .i64 c ++ [Value.slice a n cp]).toArray = B := ⟨_, rfl⟩; have b1 := Blk.new w 45 B; have hb1 := (Below.refl w.heap.size w).alloc (Nat.le_refl _) (.cells B 45); obtain ⟨W1, hW1⟩ : ∃ W1, w.alloc (.cells B 45) = W1 := ⟨_, rfl⟩; rw [hW1] at b1 hb1; rw [hB] at hMy hCo ⊢
  have HC : ∀ W, Blk W w.heap.size 45 B → ∀ j v, (ints .i64 c ++ [Value.slice a n cp])[j]? = some v → W.cell? ⟨w.heap.size, 0 + j, none⟩ = some v := fun W hb j v h => by
    refine hb.cell ?_; rw [← hB, Nat.zero_add, List.getElem?_toArray]; exact h
  have H16 : ∀ W, Blk W w.heap.size 45 B → W.cell? ⟨w.heap.size, 16, none⟩ = some (.slice a n cp) := fun W hb => HC W hb 16 _ (by rw [List.getElem?_append_right (by rw [ints_len]; omega), ints_len, hc]; rfl); obtain ⟨mb, hmb⟩ : ∃ m, hMay c s = m := ⟨_, rfl⟩; have hM1 := hMy W1 hb1; have hC1 := HC W1 b1; rw [hmb] at hM1; rw [hmb]; have hb1' := Lib.hid hb1; have b1' := Lib.hid b1; have HC' := Lib.hid HC; have H16' := Lib.hid H16; have hcl' := Lib.hid hcl; have hc' := Lib.hid hc; have hW1' := Lib.hid hW1; have hMy' := Lib.hid hMy; have hCo' := Lib.hid hCo; have hmb' := Lib.hid hmb; have hM1' := Lib.hid hM1; have hs' := Lib.hid hs; have hw' := Lib.hid hw; have hl' := Lib.hid hl; have hB' := Lib.hid hB; clear hb1 b1 HC H16 hcl hc hW1 hMy hCo hmb hM1 hs hw hl hB
  go_enter Try.func73, Try.ntmps73
  go_upto_region 1 with fail
  rw [hW1'.out]
  go_wp2_with (refine wpList_load_at rfl 45 (.tmp 1) rfl w.heap.size 0 rfl (ints .i64 c ++ [Value.slice a n cp]) B hB'.out _ hC1 Try.underlying45 rfl 17 infoH17 hcl'.out ?_)
  refine hM1'.out.mono ?_; rintro e w1 ⟨rfl, hb2⟩; have hbw1 := hb1'.out.trans (hb2.mono hb1'.out.size); have bk1 := b1'.out.late hb2
  cases mb with
  | false =>
    have hb2' := Lib.hid hb2; have hbw1' := Lib.hid hbw1; have bk1' := Lib.hid bk1; clear hb2 hbw1 bk1; clear hC1
    go_wp2
    go_ret2
    first
      | exact ⟨.inl ⟨rfl, rfl⟩, hbw1'.out⟩
      | exact ⟨.inl rfl, hbw1'.out⟩
  | true =>
    clear hC1; have hb2' := Lib.hid hb2; have hbw1' := Lib.hid hbw1; have bk1' := Lib.hid bk1; clear hb2 hbw1 bk1; have a1 := AM.made Try.prog 3 w1; have l1 := (Below.refl w1.heap.size w1).alloc (Nat.le_refl _) (.map #[] 0); have a2 := AM.made Try.prog 102 (w1.alloc (.map #[] 0)); have e1 : (w1.alloc (.map #[] 0)).heap.size = w1.heap.size + 1 := by simp
    have l2 := (Below.refl (w1.alloc (.map #[] 0)).heap.size (w1.alloc (.map #[] 0))).alloc (Nat.le_refl _) (.map #[] 0); have a3 := a1.late l2; have l3 := l1.trans (l2.mono l1.size); have e2 : ((w1.alloc (.map #[] 0)).alloc (.map #[] 0)).heap.size = w1.heap.size + 1 + 1 := by simp
    rw [e1] at a2; have a4 := Blk.new ((w1.alloc (.map #[] 0)).alloc (.map #[] 0)) 199 #[.map (some w1.heap.size), .map (some (w1.heap.size + 1))]; rw [e2] at a4; have l4 := (Below.refl ((w1.alloc (.map #[] 0)).alloc (.map #[] 0)).heap.size ((w1.alloc (.map #[] 0)).alloc (.map #[] 0))).alloc (Nat.le_refl _) (.cells #[.map (some w1.heap.size), .map (some (w1.heap.size + 1))] 199); have a5 := a3.late l4; have a6 := a2.late l4; have l5 := l3.trans (l4.mono l3.size); obtain ⟨g, hg⟩ : ∃ g, w1.heap.size = g := ⟨_, rfl⟩; obtain ⟨W2, hW2⟩ : ∃ W, ((w1.alloc (.map #[] 0)).alloc (.map #[] 0)).alloc (.cells #[.map (some w1.heap.size), .map (some (w1.heap.size + 1))] 199) = W := ⟨_, rfl⟩; rw [hW2] at a4 a5 a6 l5; rw [hg] at a4 a5 a6; have bk2 := bk1'.out.late l5; have hbw2 := hbw1'.out.trans (l5.mono hbw1'.out.size); have hok := (CntOk.of hmb'.out).1; have hlen := codes_len hmb'.out; have hC2 := hCo'.out W2 hok; have hC3 := HC'.out W2 bk2; have hsn : s.length = n := hl'.out; rw [hlen, hsn] at hC2; have hgW : w.heap.size < g := by have := bk1'.out.lt; omega
    clear a1 a2 a3 e1 e2 l1 l2 l3 l4 bk1'; have a4' := Lib.hid a4; have a5' := Lib.hid a5; have a6' := Lib.hid a6; have l5' := Lib.hid l5; have hg' := Lib.hid hg; have hW2' := Lib.hid hW2; have bk2' := Lib.hid bk2; have hbw2' := Lib.hid hbw2; have hok' := Lib.hid hok; have hlen' := Lib.hid hlen; have hC2' := Lib.hid hC2; have hsn' := Lib.hid hsn; clear a4 a5 a6 l5 hg hW2 bk2 hbw2 hok hlen hC2 hsn
    go_upto_region 4 with fail
    rw [hW2'.out]; rw [hg'.out]
    go_wp2_with (refine wpList_load_at rfl 45 (.tmp 1) rfl w.heap.size 0 rfl (ints .i64 c ++ [Value.slice a n cp]) B hB'.out _ hC3 Try.underlying45 rfl 17 infoH17 hcl'.out ?_)
    refine hC2'.out.mono ?_; rintro e w3 ⟨ca, cc, rfl, ho3, hb3⟩; have am1 := a5'.out.late hb3; have am2 := a6'.out.late hb3; have bt := a4'.out.late hb3; have bk3 := bk2'.out.late hb3; have hbw3 := hbw2'.out.trans (hb3.mono hbw2'.out.size); have hsl3 := (Sl.of_own ho3).1; have hs3 := hs'.out.mono hbw3; have a4n : g + 1 < W2.heap.size := by have := a4'.out.lt; omega
    clear a4' a5' a6' l5' bk2' hC2' hC3; have am1' := Lib.hid am1; have am2' := Lib.hid am2; have bt' := Lib.hid bt; have bk3' := Lib.hid bk3; have hbw3' := Lib.hid hbw3; have hsl3' := Lib.hid hsl3; have hs3' := Lib.hid hs3; have ho3' := Lib.hid ho3; have hb3' := Lib.hid hb3; have a4n' := Lib.hid a4n; clear am1 am2 bt bk3 hbw3 hsl3 hs3 ho3 hb3 a4n
    go_wp2_with fail
    go_loopw [17] (fun iv wr => ∃ k : Nat, k ≤ n ∧ iv = .int .i64 k ∧ Hid (AM Try.prog 3 wr g (entC c s k)) ∧ Hid (AM Try.prog 102 wr (g + 1) (entS c s k)) ∧ Hid (Mo (fun j => j = g ∨ j = g + 1) w3 wr)) (fun iv _ => n - (intOf iv).toNat)
    case atStart => exact ⟨0, by omega, rfl, am1', am2', Lib.hid (Mo.refl _ _)⟩
    case round =>
      obtain ⟨k, hk, rfl, hA1, hA2, hmo⟩ := hrel
      by_cases hlt : k < n
      · have hsl := hsl3'.out.mo hmo.out (fun x hx hS => by
          have h1 := (ho3'.out.lt x.block (by subst hx; rfl)).1; have h2 := a4n'.out
          rcases hS with e | e <;> omega)
        obtain ⟨sb0, so0, rfl, hsb0, _⟩ := hs'.out.at hlt
        have hss := hs3'.out.mo hmo.out (fun x hx hS => by
          injection hx with hx; subst hx
          rcases (show sb0 = g ∨ sb0 = g + 1 from hS) with e | e <;> omega)
        obtain ⟨sb, so, hse, hsb, fs⟩ := hss.at hlt; injection hse with hse; injection hse with hse1 hse2; subst hse1 hse2; have hkl : k < (codesS c).length := by rw [hlen'.out, hsn'.out]; exact hlt
        obtain ⟨X, hX⟩ : ∃ X, (codesS c).getD k (0, 0) = X := ⟨_, rfl⟩; have hXg : (codesS c)[k]? = some X := by rw [← hX, List.getD_eq_getElem?_getD, List.getElem?_eq_getElem hkl]; rfl
        obtain ⟨cb, co, rfl, hcb, hel, hce⟩ := hsl.elem hlt; rw [show bitsC (codesS c) = ((codesS c).map bitV).flatten from rfl, flat_elem bitV 2 (codesS c) (fun _ _ => rfl) k X hXg] at hce; obtain ⟨V, N⟩ := X; have hce2 : ∀ j v, ([.int .i64 V, .int .i64 N] : List Value)[j]? = some v → wr.cell? ⟨cb, co + k * 2 + j, none⟩ = some v := hce; obtain ⟨sy, hsy⟩ : ∃ x, s.getD k 0 = x := ⟨_, rfl⟩; have f0 := fs k _ (ints_get (by rw [hl'.out]; exact hlt)); rw [hsy] at f0; clear hce fs hel; have hsl' := Lib.hid hsl; have hss' := Lib.hid hss; have hX' := Lib.hid hX; have hXg' := Lib.hid hXg; have hsy' := Lib.hid hsy; have hkl' := Lib.hid hkl; clear hsl hss hX hXg hsy hkl
        go_upto_region 6 with fail
        go_upto_region 7 with (refine wpList_load_at rfl 102 (.tmp 20) rfl cb (co + k * 2) rfl [.int .i64 V, .int .i64 N] _ rfl _ hce2 Try.underlying102 rfl 2 (by kernel_rfl) rfl ?_)
        have hal := (Below.refl wr.heap.size wr).alloc (Nat.le_refl _) (.cells #[.int .i64 V, .int .i64 N] 102); have B6 := Blk.new wr 102 #[.int .i64 V, .int .i64 N]; have A6a := hA1.out.late hal; have A6b := hA2.out.late hal; have t6 := (bt'.out.mo hmo.out (by omega)).late hal; have h6 := H16'.out _ ((bk3'.out.mo hmo.out (by omega)).late hal); have s6 := late hal hsb f0; have m6 := hmo.out.alloc (.cells #[.int .i64 V, .int .i64 N] 102); obtain ⟨g6, hg6⟩ : ∃ x, wr.heap.size = x := ⟨_, rfl⟩; obtain ⟨W6, hW6⟩ : ∃ W, wr.alloc (.cells #[.int .i64 V, .int .i64 N] 102) = W := ⟨_, rfl⟩; rw [hW6] at B6 A6a A6b t6 h6 s6 m6; rw [hg6] at B6; rw [hW6, hg6]; have hg6g : g + 1 < g6 := by have h1 := a4n'.out; have h2 := hb3'.out.size; have h3 := hmo.out.size; omega
        obtain ⟨Ty, ff, hnn, hbel, hsurj⟩ := pr_worlds (fun W => Mo (fun j => j = g ∨ j = g + 1) W6 W) W6 (Mo.refl _ _); have HD := Lib.hid ((Mo.refl (fun j => j = g ∨ j = g + 1) W6).trans (S' := fun j => j = g ∨ j = g + 1) (Mo.of_below ((Below.refl W6.heap.size W6).drew)) (fun _ _ e => e)); have HS := Lib.hid (hsurj W6.drew HD.out); have q0 : ∀ x, (ff x).cell? ⟨g + 1 + 1, 0, none⟩ = some (.map (some g)) := fun x => (t6.mo (hbel x) (by omega)).cell rfl; have q1 : ∀ x, (ff x).cell? ⟨g + 1 + 1, 1, none⟩ = some (.map (some (g + 1))) := fun x => (t6.mo (hbel x) (by omega)).cell rfl
        have q2 : ∀ x, (ff x).cell? ⟨w.heap.size, 16, none⟩ = some (.slice (some ⟨sb0, so0, none⟩) n cp) := fun x => by
          rw [(hbel x).cell (p := ⟨w.heap.size, 16, none⟩) (cell_ltH h6) (by show ¬ (w.heap.size = g ∨ w.heap.size = g + 1); omega)]; exact h6
        have q3 : ∀ x, (ff x).cell? ⟨sb0, so0 + k, none⟩ = some (.int .i64 sy) := fun x => by
          rw [(hbel x).cell (p := ⟨sb0, so0 + k, none⟩) (cell_ltH s6) (by show ¬ (sb0 = g ∨ sb0 = g + 1); omega)]; exact s6
        have q4 : ∀ x, (ff x).cell? ⟨g6, 0, none⟩ = some (.int .i64 V) := fun x => (B6.mo (hbel x) (by omega)).cell rfl; have q5 : ∀ x, (ff x).cell? ⟨g6, 1, none⟩ = some (.int .i64 N) := fun x => (B6.mo (hbel x) (by omega)).cell rfl; clear hce2 f0 hal; have B6' := Lib.hid B6; have A6a' := Lib.hid A6a; have A6b' := Lib.hid A6b; have t6' := Lib.hid t6; have h6' := Lib.hid h6; have s6' := Lib.hid s6; have m6' := Lib.hid m6; have hg6' := Lib.hid hg6; have hW6' := Lib.hid hW6; have hbel' := Lib.hid hbel; have hsurj' := Lib.hid hsurj; clear B6 A6a A6b t6 h6 s6 m6 hg6 hW6 hbel hsurj; refine wp_noP ?_; refine till_begin (t := 25) (C := fun W => ∃ s, W = ff s) (by kernel_rfl) 26 rfl ?_; have A7a := A6a'.out.late ((Below.refl W6.heap.size W6).drew); have A7b := A6b'.out.late ((Below.refl W6.heap.size W6).drew); obtain ⟨W7, hW7⟩ : ∃ W, W6.drew = W := ⟨_, rfl⟩; rw [hW7] at HS HD A7a A7b ⊢; clear hW7; have hwfX := code_wf (code_at hok'.out hkl'.out); have hnS := entS_new hmb'.out (show k < s.length by rw [hsn'.out]; exact hlt); have hnC := entC_new hmb'.out (show k < s.length by rw [hsn'.out]; exact hlt); rw [hX'.out] at hwfX hnS; rw [hsy'.out] at hnC; have hwfs := hw'.out sy (by rw [← hsy'.out]; exact get_mem (by rw [hsn'.out]; exact hlt)); obtain ⟨kl1, hk1⟩ := key_bit hwfX.1 hwfX.2; have hk2 := Maps.keyOf_int_mk Try.underlying3 hwfs; have A7a' := Lib.hid A7a; have A7b' := Lib.hid A7b; have hnS' := Lib.hid hnS; have hnC' := Lib.hid hnC; have hk1' := Lib.hid hk1; have hk2' := Lib.hid hk2; clear A7a A7b hnS hnC hk1 hk2; refine till_take [0, 1, 2, 3, 4, 5, 6, 7, 8, 9, 10, 11, 12, 13, 14, 15, 16, 17, 18, 19] 6 (by kernel_rfl) noP_put (by kernel_rfl) (by kernel_rfl) (by kernel_rfl) HS.out ?_; simp only [pickL, List.map_cons, List.map_nil, List.getD_cons_succ, List.getD_cons_zero]
        iterate 20 (go_big_quiet_step (fail))
        refine wpQuiet_nil ?_; refine till_one 20 5 (by kernel_rfl) (by kernel_rfl) ?_; simp only [pickL, List.map_cons, List.map_nil, List.getD_cons_succ, List.getD_cons_zero]
        go_wp2_with (refine wpList_entry_am keyI Try.underlying196 rfl (.tmp 25) (.tmp 30) rfl rfl A7a'.out (.int .i64 sy) (.agg #[.int .i64 0, .int .i64 0]) rfl hk2'.out (fun W => by kernel_rfl) hnC'.out ?_; intro w8 ha8 hb8 hz8)
        have c8 := HD.out.trans (Mo.of_but (S := fun j => j = g ∨ j = g + 1) hb8 (.inl rfl)) (fun _ _ e => e); have HS8 := Lib.hid (hsurj'.out _ c8); have A8b := A7b'.out.but hb8 (by omega); clear A7a' A7b' hz8 hb8; have c8' := Lib.hid c8; have A8b' := Lib.hid A8b; have ha8' := Lib.hid ha8; clear c8 A8b ha8; refine Mid.mk ⟨fun _ => HS8.out, ?_⟩; refine till_one 21 4 (by kernel_rfl) (by kernel_rfl) ?_; simp only [pickL, List.map_cons, List.map_nil, List.getD_cons_succ, List.getD_cons_zero]
        go_wp2_with fail
        refine Mid.mk ⟨fun _ => HS8.out, ?_⟩; refine till_one 22 3 (by kernel_rfl) (by kernel_rfl) ?_; simp only [pickL, List.map_cons, List.map_nil, List.getD_cons_succ, List.getD_cons_zero]
        go_wp2_with (refine wpList_store_am rfl (.tmp 25) (.tmp 43) (.tmp 36) rfl rfl ha8'.out (entC c s k).length (.agg #[.int .i64 V, .int .i64 N]) (by simp) rfl rfl ?_; intro w9 ha9 hb9 hz9)
        rw [set_last] at ha9; have c9 := c8'.out.trans (Mo.of_but (S := fun j => j = g ∨ j = g + 1) hb9 (.inl rfl)) (fun _ _ e => e); have HS9 := Lib.hid (hsurj'.out _ c9); have A9b := A8b'.out.but hb9 (by omega); have A9a : AM Try.prog 3 w9 g (entC c s (k + 1)) := by rw [entC_succ, hX'.out, hsy'.out]; exact ha9
        clear ha8' A8b' ha9 hb9 hz9 c8'; have c9' := Lib.hid c9; have A9b' := Lib.hid A9b; have A9a' := Lib.hid A9a; clear c9 A9b A9a; refine Mid.mk ⟨fun _ => HS9.out, ?_⟩; refine till_one 23 2 (by kernel_rfl) (by kernel_rfl) ?_; simp only [pickL, List.map_cons, List.map_nil, List.getD_cons_succ, List.getD_cons_zero]
        go_wp2_with (refine wpList_entry_am bitK Try.underlying197 rfl (.tmp 34) (.tmp 35) rfl rfl A9b'.out (bitA (V, N)) (.int .i64 0) rfl hk1'.out (fun W => zeroI W) hnS'.out ?_; intro w10 ha10 hb10 hz10)
        have c10 := c9'.out.trans (Mo.of_but (S := fun j => j = g ∨ j = g + 1) hb10 (.inr rfl)) (fun _ _ e => e); have HS10 := Lib.hid (hsurj'.out _ c10); have A10a := A9a'.out.but hb10 (by omega); clear A9a' A9b' hz10 hb10 c9'; have c10' := Lib.hid c10; have A10a' := Lib.hid A10a; have ha10' := Lib.hid ha10; clear c10 A10a ha10; refine Mid.mk ⟨fun _ => HS10.out, ?_⟩; refine till_one 24 1 (by kernel_rfl) (by kernel_rfl) ?_; simp only [pickL, List.map_cons, List.map_nil, List.getD_cons_succ, List.getD_cons_zero]
        go_wp2_with fail
        refine Mid.mk ⟨fun _ => HS10.out, ?_⟩; refine till_one 25 0 (by kernel_rfl) (by kernel_rfl) ?_; simp only [pickL, List.map_cons, List.map_nil, List.getD_cons_succ, List.getD_cons_zero]
        go_wp2_with (refine wpList_store_am rfl (.tmp 34) (.tmp 45) (.tmp 41) rfl rfl ha10'.out (entS c s k).length (.int .i64 sy) (by simp) rfl rfl ?_; intro w11 ha11 hb11 hz11)
        rw [set_last] at ha11; have c11 := c10'.out.trans (Mo.of_but (S := fun j => j = g ∨ j = g + 1) hb11 (.inr rfl)) (fun _ _ e => e); have A11a := A10a'.out.but hb11 (by omega); have A11b : AM Try.prog 102 w11 (g + 1) (entS c s (k + 1)) := by rw [entS_succ, hX'.out, hsy'.out]; exact ha11
        have m11 := m6'.out.trans c11 (fun _ _ e => e); clear ha10' A10a' ha11 hb11 hz11 c10' c11; have A11a' := Lib.hid A11a; have A11b' := Lib.hid A11b; have m11' := Lib.hid m11; clear A11a A11b m11; refine ⟨by kernel_rfl, noP_normal ?_⟩; clear q0 q1 q2 q3 q4 q5 HS HS8 HS9 HS10 HD
        go_wp2_with fail
        go_roundw
        case rel => exact ⟨k + 1, by omega, by go_num, A11a', A11b', m11'⟩
        case measure => simp [intOf]; omega
      · obtain rfl : k = n := by omega
        have f1 := hA1.out; have f2 := hA2.out; rw [← hsn'.out] at f1 f2; have hbt := bt'.out.mo hmo.out (by omega); have hbf := hbw3'.out.trans (hmo.out.below (B := w.heap.size) hbw3'.out.size (fun j hj => by omega)); have f1' := Lib.hid f1; have f2' := Lib.hid f2; have hbt' := Lib.hid hbt; have hbf' := Lib.hid hbf; clear f1 f2 hbt hbf
        go_wp2
        go_ret2
        exact ⟨.inr ⟨g + 1 + 1, rfl, ⟨⟨g, g + 1, hbt'.out, f1'.out, f2'.out⟩, hmb'.out, hw'.out⟩⟩, hbf'.out⟩
end Go.Proofs.Ytpjopeojeglogaa

namespace Tt
open Go Go.RowKit
set_option linter.unusedVariables false
theorem Blk.rowH {w : World} {g : Nat} {T : TypeId} {cs : Array Value} (h : Blk w g T cs) (ds : Array Value) : Blk (w.setRow g ds) g T ds := by
  have h0 : w.heap[g]? = some (.cells cs T) := h; have hg : g < w.heap.size := h.lt
  show (w.setRow g ds).heap[g]? = _
  unfold World.setRow
  simp [Array.getElem?_modify, h0]
section
variable {P : Program} {k e t : TypeId} {w : World} {ops : Array Oper} {rest : List Oper} {o : Oper} {a : Act} {Q : Exit → Act → World → Prop} {b : Nat} {l : List (Value × Value)}
end
end Tt
namespace Go.Proofs.Ytpjopeojeglogaa
open Go.RowKit Tt
set_option linter.unusedVariables false
set_option linter.unusedSimpArgs false

theorem codeS_yes {c s : List Int} (h : hMay c s = true) {i : Nat} (hi : i < s.length) : codeS c s (s.getD i 0) = some ((codesS c).getD i (0, 0)) := by
  unfold codeS; rw [if_pos h]
  have : (List.range s.length).find? (fun j => s.getD j 0 == s.getD i 0) = some i := by
    rw [List.find?_range_eq_some]; refine ⟨by simp, List.mem_range.2 hi, fun j hj => ?_⟩; have := (symOk_iff.1 ((CntOk.of h).2.2.2.2 i hi)).2 j hj (by omega)
    simpa using this
  rw [this]
  rfl
theorem codeS_no {c s : List Int} {x : Int} (h : ∀ i, i < s.length → s.getD i 0 ≠ x) : codeS c s x = none := by
  unfold codeS
  split
  · rw [List.find?_eq_none.2 fun i hi => ?_]
    · rfl
    · have := h i (List.mem_range.1 hi)
      simpa using this
  · rfl
theorem codeS_ok {c s : List Int} {x : Int} {X : Int × Nat} (h : codeS c s x = some X) : hMay c s = true ∧ ∃ i, i < s.length ∧ s.getD i 0 = x ∧ X = (codesS c).getD i (0, 0) := by
  unfold codeS at h
  split at h
  · rename_i hm
    obtain ⟨i, hf, rfl⟩ := Option.map_eq_some_iff.1 h; have := List.find?_some hf; exact ⟨hm, i, List.mem_range.1 (List.mem_of_find?_eq_some hf), by simpa using this, rfl⟩
  · cases h
theorem codeS_bits {c s : List Int} {x : Int} {X : Int × Nat} (h : codeS c s x = some X) : CodeOk X := by
  obtain ⟨hm, i, hi, _, rfl⟩ := codeS_ok h; exact code_at (CntOk.of hm).1 (by rw [codes_len hm]; exact hi)
/-- what a look-up of a symbol gives -/
def codR (q : Option (Int × Nat)) : Value := .tuple #[bitA (q.getD (0, 0)), .bool q.isSome]
set_option maxRecDepth 20000 in
theorem code_run {c s : List Int} {W : World} {b : Nat} (hm : hMay c s = true) (h : AM Try.prog 3 W b (entC c s s.length)) {x : Int} (hx : (Lit.int .i64 x).wf = true) :
    (Instr.lookup 196 (.map (some b)) (.int .i64 x) true).run Try.prog W = .ok (codR (codeS c s x)) W := by
  rcases h.look keyI Try.underlying196 (Maps.keyOf_int_mk Try.underlying3 hx) (z := bitA (0, 0)) (by kernel_rfl) with ⟨h1, h2⟩ | ⟨v, h1, h2⟩
  · rw [h2, codeS_no fun i hi he => ?_]
    · rfl
    · exact h1 (.int .i64 (s.getD i 0), bitA ((codesS c).getD i (0, 0))) (List.mem_map.2 ⟨i, List.mem_range.2 hi, rfl⟩) (by show Value.int .i64 (s.getD i 0) = _; rw [he])
  · obtain ⟨i, hi, he⟩ := List.mem_map.1 h1
    injection he with e1 e2; injection e1 with _ e1; rw [h2, ← e1, codeS_yes hm (List.mem_range.1 hi), ← e2]
    rfl
set_option maxRecDepth 20000 in
set_option maxHeartbeats 1000000 in
theorem tcode_any (tb : Nat) (c s : List Int) (x : Int) (w : World) (h : TbM w tb c s) (hx : (Lit.int .i64 x).wf = true) :
    Calls Try.prog 74 #[.pointer (some ⟨tb, 0, none⟩), .int .i64 x] w fun e w' => e = .returned (codR (codeS c s x)) ∧ Below w.heap.size w w' := by
  obtain ⟨b1, b2, hb, ha, _⟩ := h.ex; have hal := (Below.refl w.heap.size w).alloc (Nat.le_refl _) (.cells #[.int .i64 0, .int .i64 0] 102); have B1 := Blk.new w 102 #[.int .i64 0, .int .i64 0]; have hb1 := hb.late hal; have hr := code_run h.may (ha.late hal) hx; obtain ⟨W1, hW1⟩ : ∃ W, w.alloc (.cells #[.int .i64 0, .int .i64 0] 102) = W := ⟨_, rfl⟩; rw [hW1] at hal B1 hb1 hr; have k0 := hb1.cell (i := 0) rfl; obtain ⟨q, hq⟩ : ∃ q, codeS c s x = q := ⟨_, rfl⟩; rw [hq] at hr; rw [hq]; obtain ⟨⟨V, N⟩, hV⟩ : ∃ X, q.getD (0, 0) = X := ⟨_, rfl⟩; obtain ⟨f, hf⟩ : ∃ f, q.isSome = f := ⟨_, rfl⟩; unfold codR bitA at hr ⊢; rw [hV, hf] at hr; rw [hV, hf]; clear h ha hb; have hal' := Lib.hid hal; have B1' := Lib.hid B1; have hb1' := Lib.hid hb1; have hW1' := Lib.hid hW1; have hq' := Lib.hid hq; have hV' := Lib.hid hV; have hf' := Lib.hid hf; clear hal B1 hb1 hW1 hq hV hf
  go_enter Try.func74, Try.ntmps74
  go_upto_region 3 with fail
  rw [hW1'.out]; have hal2 := (Below.refl W1.heap.size W1).alloc (Nat.le_refl _) (.cells #[.int .i64 V, .int .i64 N] 102); have B2 := Blk.new W1 102 #[.int .i64 V, .int .i64 N]; have B3 := B1'.out.late hal2; have hd2 := hal'.out.trans (hal2.mono hal'.out.size); obtain ⟨W2, hW2⟩ : ∃ W, W1.alloc (.cells #[.int .i64 V, .int .i64 N] 102) = W := ⟨_, rfl⟩; rw [hW2] at B2 B3 hd2; obtain ⟨g2, hg2⟩ : ∃ x, W1.heap.size = x := ⟨_, rfl⟩; rw [hg2] at B2; have j0 : W2.cell? ⟨g2, 0, none⟩ = some (.int .i64 V) := B2.cell rfl; have j1 : W2.cell? ⟨g2, 1, none⟩ = some (.int .i64 N) := B2.cell rfl; clear hal2; have B2' := Lib.hid B2; have B3' := Lib.hid B3; have hd2' := Lib.hid hd2; have hW2' := Lib.hid hW2; have hg2' := Lib.hid hg2; clear B2 B3 hd2 hW2 hg2
  go_upto_region 4 with fail
  rw [hW2'.out, hg2'.out]
  go_wp2_with (refine wpList_store_row rfl 102 (.tmp 4) (.tmp 20) rfl w.heap.size #[.int .i64 V, .int .i64 N] rfl rfl 102 _ B3'.out (by kernel_rfl) rfl (by kernel_rfl) ?_)
  refine bodyPost_ret (results_blk_tmp rfl _ _ w.heap.size 102 #[.int .i64 V, .int .i64 N] _ rfl (Blk.rowH B3'.out _) Try.underlying102 rfl (by kernel_rfl)) rfl ?_; exact ⟨rfl, rowBelow hd2'.out (Nat.le_refl _) _⟩
end Go.Proofs.Ytpjopeojeglogaa

namespace Go.Proofs.Ytpjopeojeglogaa
open Go.RowKit Tt
set_option linter.unusedVariables false
set_option linter.unusedSimpArgs false

def bitsQ : Option (Int × Nat) → List Int
  | some X => lowS X.1 X.2
  | none => []
theorem Wl.bel {S : Nat → Prop} {w w' : World} {wb : Nat} {L : List Int} (h : Wl S w wb L) (hb : Below w.heap.size w w') : Wl (Sx S w w') w' wb L := (h.late hb).sub fun k hk => .inl hk
theorem Wl.lt {S : Nat → Prop} {w : World} {wb : Nat} {L : List Int} (h : Wl S w wb L) : wb < w.heap.size := by obtain ⟨a, n, c, h1, _⟩ := h.ex; exact h1.lt
set_option maxRecDepth 20000 in
set_option maxHeartbeats 1000000 in
theorem tput_any (S : Nat → Prop) (tb wb : Nat) (c s L : List Int) (x : Int) (w : World) (h : TbM w tb c s) (hx : (Lit.int .i64 x).wf = true) (hw : Wl S w wb L) (hL : L.length ≤ 8000000) :
    Calls Try.prog 84 #[.pointer (some ⟨tb, 0, none⟩), .pointer (some ⟨wb, 0, none⟩), .int .i64 x] w fun e w' => e = .returned (.bool (codeS c s x).isSome) ∧ Wl (Sx S w w') w' wb (L ++ bitsQ (codeS c s x)) ∧ Mo S w w' := by
  have hC := tcode_any tb c s x w h hx; have hP := fun W (V : Int) (N : Nat) (hb : Wl S W wb L) (hN : N ≤ 16) => wput_any S wb L V N W hb hN hL; obtain ⟨q, hq⟩ : ∃ q, codeS c s x = q := ⟨_, rfl⟩; have hok := fun X (e : q = some X) => codeS_bits (c := c) (s := s) (x := x) (X := X) (hq.trans e); rw [hq] at hC ⊢; clear h; have hC' := Lib.hid hC; have hP' := Lib.hid hP; have hq' := Lib.hid hq; have hw' := Lib.hid hw; clear hC hP hq hw
  go_enter Try.func84, Try.ntmps84
  cases q with
  | none =>
    have hC1 := hC'.out; unfold codR bitA at hC1; simp only [Option.getD_none, Option.isSome_none] at hC1; clear hC'; have hC1' := Lib.hid hC1; clear hC1
    go_wp2_with fail
    refine hC1'.out.mono ?_; rintro e w1 ⟨rfl, hb1⟩; have hal := (Below.refl w1.heap.size w1).alloc (Nat.le_refl _) (.cells #[.int .i64 0, .int .i64 ((0 : Nat) : Int)] 102); have hd := hb1.trans (hal.mono hb1.size); obtain ⟨w2, hw2⟩ : ∃ W, w1.alloc (.cells #[.int .i64 0, .int .i64 ((0 : Nat) : Int)] 102) = W := ⟨_, rfl⟩; rw [hw2] at hd; clear hal; have hb1' := Lib.hid hb1; have hd' := Lib.hid hd; have hw2' := Lib.hid hw2; clear hb1 hd hw2
    go_wp2_with fail
    go_ret
    have e2 : w1.alloc (.cells #[.int .i64 0, .int .i64 0] 102) = w2 := hw2'.out; rw [e2]; refine ⟨rfl, ?_, Mo.of_below hd'.out⟩
    show Wl _ _ _ (L ++ [])
    rw [List.append_nil]; exact hw'.out.bel hd'.out
  | some X =>
    obtain ⟨V, N⟩ := X; have hC1 := hC'.out; have hN := (hok _ rfl).2.1; unfold codR bitA at hC1; simp only [Option.getD_some, Option.isSome_some] at hC1; clear hC' hok; have hC1' := Lib.hid hC1; clear hC1
    go_upto_region 1 with fail
    go_wp2_with fail
    refine hC1'.out.mono ?_; rintro e w1 ⟨rfl, hb1⟩; have hal := (Below.refl w1.heap.size w1).alloc (Nat.le_refl _) (.cells #[.int .i64 V, .int .i64 N] 102); have hB := Blk.new w1 102 #[.int .i64 V, .int .i64 N]; have hd := hb1.trans (hal.mono hb1.size); obtain ⟨w2, hw2⟩ : ∃ W, w1.alloc (.cells #[.int .i64 V, .int .i64 N] 102) = W := ⟨_, rfl⟩; rw [hw2] at hd hB; obtain ⟨g, hg⟩ : ∃ x, w1.heap.size = x := ⟨_, rfl⟩; rw [hg] at hB; have k0 : w2.cell? ⟨g, 0, none⟩ = some (.int .i64 V) := hB.cell rfl; have k1 : w2.cell? ⟨g, 1, none⟩ = some (.int .i64 N) := hB.cell rfl; have hW2 := hw'.out.late hd; have hP2 := hP'.out w2 V N hW2 hN; clear hal; have hb1' := Lib.hid hb1; have hd' := Lib.hid hd; have hw2' := Lib.hid hw2; have hg' := Lib.hid hg; have hB' := Lib.hid hB; have hW2' := Lib.hid hW2; have hP2' := Lib.hid hP2; clear hb1 hd hw2 hg hB hW2 hP2
    go_upto_region 2 with fail
    rw [hw2'.out, hg'.out]
    go_wp2_with fail
    refine hP2'.out.mono ?_; rintro e w3 ⟨rfl, hW3, hm3⟩; have hW3' := Lib.hid hW3; have hm3' := Lib.hid hm3; clear hW3 hm3
    go_wp2_with fail
    go_ret
    refine ⟨rfl, hW3'.out.sub fun k hk => ?_, (Mo.of_below hd'.out).trans hm3'.out (fun _ _ e => e)⟩
    rcases hk with hk | hk
    · exact .inl hk
    · exact .inr ⟨by have := hd'.out.size; omega, hk.2⟩
end Go.Proofs.Ytpjopeojeglogaa
