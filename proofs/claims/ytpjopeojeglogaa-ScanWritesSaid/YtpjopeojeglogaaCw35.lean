/- Chapter 4, the document's side: Codes (under way). | Chapter 4, the document's side: Next. -/
import Derived.Test.YtpjopeojeglogaaCw34
import Derived.Test.YtpjopeojeglogaaCw33
import Derived.Test.YtpjopeojeglogaaCw27
import Derived.Test.YtpjopeojeglogaaCw05
import Derived.Test.YtpjopeojeglogaaCw07
import Derived.Test.YtpjopeojeglogaaCw20
namespace Go.Proofs.Ytpjopeojeglogaa
open Go.RowKit Tt
set_option linter.unusedVariables false
set_option linter.unusedSimpArgs false

def codC2 (l : List (Int × Nat)) : List Value := (l.map fun x => [Value.int .i64 x.1, Value.int .i64 (x.2 : Int)]).flatten
theorem codC2_snoc (l : List (Int × Nat)) (x : Int × Nat) : codC2 (l ++ [x]) = codC2 l ++ [Value.int .i64 x.1, Value.int .i64 (x.2 : Int)] := by unfold codC2; rw [List.map_append, List.flatten_append]; rfl
theorem code_elem {w : World} {a : Option Addr} {n c : Nat} {l : List (Int × Nat)} (hs : Sl w a n c 2 (codC2 l)) {j : Nat} {x : Int × Nat} (hx : l[j]? = some x) :
    ∃ b o, a = some ⟨b, o, none⟩ ∧ b < w.heap.size ∧ w.cell? ⟨b, o + j * 2, none⟩ = some (.int .i64 x.1) ∧ w.cell? ⟨b, o + j * 2 + 1, none⟩ = some (.int .i64 (x.2 : Int)) := by
  have hl : l.length = n := by
    have h1 := hs.len; have h2 : (codC2 l).length = l.length * 2 := flat_len (fun x : Int × Nat => [Value.int .i64 x.1, Value.int .i64 (x.2 : Int)]) 2 l (fun x _ => rfl); rw [h2] at h1; omega
  have hj : j < n := by rw [← hl]; exact (List.getElem?_eq_some_iff.1 hx).1
  obtain ⟨b, o, e, hb, _, hc⟩ := hs.elem hj; unfold codC2 at hc; rw [flat_elem (fun x : Int × Nat => [Value.int .i64 x.1, Value.int .i64 (x.2 : Int)]) 2 l (fun q hq => rfl) j x hx] at hc; exact ⟨b, o, e, hb, hc 0 _ rfl, hc 1 _ rfl⟩
theorem infoBits2 : (Try.prog.info? 102).map (fun i => (i.zero, i.size, i.bytes)) = some (some (.agg #[.int .i64 0, .int .i64 0]), 2, 16) := by kernel_rfl
set_option maxRecDepth 100000 in
set_option maxHeartbeats 600000 in
theorem rcodes_any (c s : List Int) (a : Option Addr) (n cp : Nat) (w : World) (hc : c.length = 16) (hm : hMay c s = true) :
    Calls Try.prog 78 #[hV c a n cp] w fun e w' => ∃ a2 c2, e = .returned (.slice a2 (codesS c).length c2) ∧ w'.ownsRow w.heap.size 102 2 (.slice a2 (codesS c).length c2) (codesS c).length (codC2 (codesS c)) ∧ Below w.heap.size w w' := by
  obtain ⟨i0, hi, hz0, hz1, hz2⟩ := info_parts infoBits2; obtain ⟨hco, _⟩ := CntOk.of hm; have hcb : ∀ i, i < 16 → 0 ≤ c.getD i 0 ∧ c.getD i 0 ≤ 256 := fun i hi => ⟨(hco.val hi).2.1, (hco.val hi).2.2.1⟩; have hlast := codes_last fun i hi => (hcb i hi).1
  have hsm : ∀ i, i < 16 → 0 ≤ valS c i ∧ valS c i + c.getD i 0 < 65536 := fun i hi => ⟨(hco.val hi).1, by
    have h1 := hco.small hi; have h2 : (2 : Int) ^ (i + 1) ≤ 2 ^ 16 := by exact_mod_cast Nat.pow_le_pow_right (by decide : 0 < 2) (show i + 1 ≤ 16 by omega)
    omega⟩
  have hup : ∀ i k, i < 16 → k ≤ (c.getD i 0).toNat → (upTo c i k).length ≤ 4400 := fun i k hi hk => by
    unfold upTo; rw [List.length_append, List.length_take, lvl_len]; have h1 := (codes_inv hco i (by omega)).2.2; have h2 := many_bd i (fun j hj => hco.ok j (by omega)); have h3 := hcb i hi
    omega
  unfold hV; obtain ⟨B, hB⟩ : ∃ B, (ints .i64 c ++ [Value.slice a n cp]).toArray = B := ⟨_, rfl⟩; have b1 := Blk.new w 45 B; have hb1 := (Below.refl w.heap.size w).alloc (Nat.le_refl _) (.cells B 45); obtain ⟨W1, hW1⟩ : ∃ W1, w.alloc (.cells B 45) = W1 := ⟨_, rfl⟩; rw [hW1] at b1 hb1; have hcells : ∀ W, Blk W w.heap.size 45 B → ∀ k x, c[k]? = some x → W.cell? ⟨w.heap.size, k, none⟩ = some (.int .i64 x) := fun W hb => (hf_cells (a := a) (n := n) (cp := cp) hc (hB ▸ hb)).1; rw [hB]; clear hB hco; have hm' := Lib.hid hm; have b1' := Lib.hid b1; have hb1' := Lib.hid hb1; have hc' := Lib.hid hc; have hW1' := Lib.hid hW1; have hcells' := Lib.hid hcells; have hcb' := Lib.hid hcb; have hlast' := Lib.hid hlast; have hsm' := Lib.hid hsm; have hup' := Lib.hid hup; clear hm b1 hb1 hc hW1 hcells hcb hlast hsm hup
  go_enter Try.func78, Try.ntmps78
  go_upto_region 1 with fail
  rw [hW1'.out]
  go_wp2
  go_loopw [3, 4, 5, 6, 7] (fun ov iv _ _ _ wr => ∃ (i : Nat) (a2 : Option Addr) (c2 m : Nat), i ≤ 16 ∧ iv = .int .i64 i ∧ ov = .slice a2 m c2 ∧ Hid (m = (upTo c i 0).length) ∧ Hid (wr.ownsRow W1.heap.size 102 2 (.slice a2 m c2) m (codC2 (upTo c i 0))) ∧ Hid (Below W1.heap.size W1 wr)) (fun _ iv _ _ _ _ => 16 - (intOf iv).toNat)
  case atStart => exact ⟨0, none, 0, 0, by omega, rfl, rfl, Lib.hid rfl, Lib.hid (own_nil _ _ _ _), Lib.hid (Below.refl _ _)⟩
  case round =>
    rename World => wo
    obtain ⟨i, a2, c2, m, hi16, rfl, rfl, hm2, hown, hbel⟩ := hrel
    by_cases hlt : i < 16
    · obtain ⟨x, hx⟩ : ∃ x, c[i]? = some x := ⟨_, List.getElem?_eq_getElem (by rw [hc'.out]; exact hlt)⟩
      have hxd : c.getD i 0 = x := by rw [List.getD_eq_getElem?_getD, hx]; rfl
      have hxb := hcb'.out i hlt; rw [hxd] at hxb; obtain ⟨y, rfl⟩ : ∃ y : Nat, x = y := ⟨x.toNat, by omega⟩; have hP := hlast'.out i hlt; rw [hxd, Int.toNat_natCast] at hP; have hx' := Lib.hid hx; have hxd' := Lib.hid hxd; have hP' := Lib.hid hP; clear hx hxd hP
      go_wp2
      go_loopw [3, 5, 6, 7] (fun ov kv _ _ wr => ∃ (k : Nat) (a2 : Option Addr) (c2 m : Nat), k ≤ y ∧ kv = .int .i64 k ∧ ov = .slice a2 m c2 ∧ Hid (m = (upTo c i k).length) ∧ Hid (wr.ownsRow W1.heap.size 102 2 (.slice a2 m c2) m (codC2 (upTo c i k))) ∧ Hid (Below W1.heap.size W1 wr)) (fun _ kv _ _ _ => y - (intOf kv).toNat)
      case atStart => exact ⟨0, a2, c2, m, by omega, rfl, rfl, hm2, hown, hbel⟩
      case round =>
        rename World => wr
        obtain ⟨k, a2, c2, m, hky, rfl, rfl, hm2, hown, hbel⟩ := hrel; have f0 := hcells'.out wr (b1'.out.late hbel.out) i y hx'.out
        by_cases hlt2 : k < y
        · have hcp : m ≤ c2 := (Sl.of_own hown.out).1.le
          rcases Nat.eq_zero_or_pos m with hm0 | hm0
          · subst hm0
            have hPk := hP'.out k (by omega); have hnil : upTo c i k = [] := List.eq_nil_of_length_eq_zero hm2.out.symm
            have hv0 : valS c i + k = 0 := by
              rcases hPk with ⟨_, h⟩ | ⟨x, h, _⟩
              · exact h
              · rw [hnil] at h; cases h
            have hus := upTo_succ (c := c) (i := i) (k := k) (by rw [hxd'.out]; simpa using hlt2); rw [hv0] at hus; obtain ⟨w2, hw2⟩ : ∃ W, wr.alloc (.cells #[.int .i64 0, .int .i64 ((i : Int) + 1)] 102) = W := ⟨_, rfl⟩; have l1 := (Below.refl wr.heap.size wr).alloc (Nat.le_refl _) (.cells #[.int .i64 0, .int .i64 ((i : Int) + 1)] 102); rw [hw2] at l1; have l2 := (Below.refl w2.heap.size w2).alloc (Nat.le_refl _) (.cells #[.int .i64 0, .int .i64 ((i : Int) + 1)] 102); have s3 := Sl.new w2 102 2 1 #[.int .i64 0, .int .i64 ((i : Int) + 1)] (0, 0) (by decide) rfl; have hsw : w2.heap.size = wr.heap.size + 1 := by rw [← hw2]; simp only [World.size_alloc]
            rw [hsw] at s3; have hown3 := own_later (own_later hown.out l1) l2; have hbel3 := (hbel.out.trans (l1.mono hbel.out.size)).trans (l2.mono (Nat.le_trans hbel.out.size l1.size)); have hsz3 := hbel3.size; clear l1 l2 hsw; have hus' := Lib.hid hus; have hown3' := Lib.hid hown3; have hbel3' := Lib.hid hbel3; have hsz3' := Lib.hid hsz3; have s3' := Lib.hid s3; have hnil' := Lib.hid hnil; have hPk' := Lib.hid hPk; have hw2' := Lib.hid hw2; clear hus hown3 hbel3 hsz3 s3 hnil hPk hw2
            go_wp2_with (at_builtin; go_loud (rw [hw2'.out]; refine wpList_app rfl _ _ 106 rfl W1.heap.size 102 i0 _ 2 16 Try.underlying106 hi hz0 (by assumption) hz2 rfl (by decide) _ 0 _ rfl hown3'.out (some ⟨wr.heap.size + 1, 0, none⟩) 1 1 _ rfl s3'.out (by simp [Value.oneCell']) (by omega) (by decide) hsz3'.out ?_; intro a7 c7 w7 ho7 hb7 hg7; have Ho7 := Lib.hid ho7; have Hb7 := Lib.hid (hbel3'.out.trans hb7); clear ho7 hb7 hg7))
            go_roundw
            case rel =>
              have e : ((i + 1 : Nat) : Int) = (i : Int) + 1 := by omega
              exact ⟨k + 1, by omega, by go_num, a7, c7, 1, ⟨rfl, rfl, rfl⟩, Lib.hid (by rw [hus'.out, hnil'.out]; rfl), Lib.hid (by rw [hus'.out, codC2_snoc]; simp only [e]; exact Ho7.out)⟩
            case measure => simp [intOf]; omega
          · obtain ⟨q, rfl⟩ : ∃ q, m = q + 1 := ⟨m - 1, by omega⟩
            have hPk := hP'.out k (by omega); have hq4 : q + 1 ≤ 4400 := by have h := hup'.out i k hlt (by rw [hxd'.out]; omega); rw [← hm2.out] at h; exact h
            obtain ⟨⟨xv, xn⟩, hxl, hx1, hx2, hxv⟩ : ∃ x, (upTo c i k).getLast? = some x ∧ 1 ≤ x.2 ∧ x.2 ≤ i + 1 ∧ (x.1 + 1) * 2 ^ (i + 1 - x.2) = valS c i + k := by
              rcases hPk with ⟨h, _⟩ | h
              · have := hm2.out; rw [h] at this; cases this
              · exact h
            have hxq : (upTo c i k)[q]? = some (xv, xn) := by
              rw [List.getLast?_eq_getElem?, ← hm2.out] at hxl; simpa using hxl
            have hwq : wrap64 (q : Int) = q := by have := (Sl.of_own hown.out).1.max; unfold wrap64; omega
            obtain ⟨gq, oq, rfl, hgq, r0, r1⟩ := code_elem (Sl.of_own hown.out).1 hxq; have hus := upTo_succ (c := c) (i := i) (k := k) (by rw [hxd'.out]; simpa using hlt2); obtain ⟨v1, v2⟩ := hsm'.out i hlt; rw [hxd'.out] at v2; obtain ⟨V, hV⟩ : ∃ V, valS c i + (k : Int) = V := ⟨_, rfl⟩; rw [hV] at hus hxv; simp only at hxv hx1 hx2 r0 r1; have hd64 : i + 1 - xn ≤ 64 := by omega
            have hp2 := pow_pos2 (i + 1 - xn)
            have hz0 : 0 ≤ xv + 1 := by
              rcases Int.lt_or_le (xv + 1) 0 with h | h
              · have := Int.mul_neg_of_neg_of_pos h hp2; omega
              · exact h
            have hzV : xv + 1 ≤ V := by
              have : (xv + 1) * 1 ≤ (xv + 1) * 2 ^ (i + 1 - xn) := Int.mul_le_mul_of_nonneg_left (by omega) hz0
              omega
            have hwV : wrap64 V = V := by unfold wrap64; omega
            have hwx : wrap64 (xv + 1) = xv + 1 := by unfold wrap64; omega
            obtain ⟨w2, hw2⟩ : ∃ W, wr.alloc (.cells #[.int .i64 0, .int .i64 ((i : Int) + 1)] 102) = W := ⟨_, rfl⟩; have l1 := (Below.refl wr.heap.size wr).alloc (Nat.le_refl _) (.cells #[.int .i64 0, .int .i64 ((i : Int) + 1)] 102); have bA := Blk.new wr 102 #[.int .i64 0, .int .i64 ((i : Int) + 1)]; rw [hw2] at l1 bA; have hsw2 : w2.heap.size = wr.heap.size + 1 := by rw [← hw2]; simp only [World.size_alloc]
            obtain ⟨w3, hw3⟩ : ∃ W, w2.alloc (.cells #[.int .i64 xv, .int .i64 (xn : Int)] 102) = W := ⟨_, rfl⟩; have l2 := (Below.refl w2.heap.size w2).alloc (Nat.le_refl _) (.cells #[.int .i64 xv, .int .i64 (xn : Int)] 102); have bB := Blk.new w2 102 #[.int .i64 xv, .int .i64 (xn : Int)]; rw [hw3] at l2 bB; have hsw3 : w3.heap.size = wr.heap.size + 2 := by rw [← hw3]; simp only [World.size_alloc]; omega
            have bA3 := bA.late l2; obtain ⟨w4, hw4⟩ : ∃ W, w3.setCell ⟨wr.heap.size, 0, none⟩ (.int .i64 V) = W := ⟨_, rfl⟩; have bA4 := bA3.set 0 (.int .i64 V); have hbt := (But.refl wr.heap.size w3).set 0 (.int .i64 V); rw [hw4] at bA4 hbt; have hsw4 : w4.heap.size = wr.heap.size + 2 := by rw [← hw4]; simpa using hsw3
            have hb3 := (l1.trans (l2.mono l1.size)); have hb4 : Below wr.heap.size wr w4 := hb3.trans (hbt.below (Nat.le_refl _) hb3.size); have l5 := (Below.refl w4.heap.size w4).alloc (Nat.le_refl _) (.cells #[.int .i64 V, .int .i64 ((i : Int) + 1)] 102); have s5 := Sl.new w4 102 2 1 #[.int .i64 V, .int .i64 ((i : Int) + 1)] (0, 0) (by decide) rfl; rw [hsw4] at s5; have hown5 := own_later (own_later hown.out hb4) l5; have hbel5 := (hbel.out.trans (hb4.mono hbel.out.size)).trans (l5.mono (Nat.le_trans hbel.out.size hb4.size)); have hsz5 := hbel5.size; have r02 := (l1.cell (p := ⟨gq, oq + q * 2, none⟩) hgq).trans r0; have r12 := (l1.cell (p := ⟨gq, oq + q * 2 + 1, none⟩) hgq).trans r1; have hf2 := hcells'.out w2 (b1'.out.late (hbel.out.trans (l1.mono hbel.out.size))) i y hx'.out; obtain ⟨d, hd⟩ : ∃ d, i + 1 - xn = d := ⟨_, rfl⟩; have hdI : (i : Int) + 1 - (xn : Int) = (d : Int) := by omega
            rw [hd] at hxv hp2 hd64; have hdw : wrap64 (d : Int) = (d : Int) := by clear hxv hp2 hzV; unfold wrap64; omega
            have hdm : min d 64 = d := Nat.min_eq_left hd64; have hshl : wrap64 ((xv + 1) * 2 ^ d) = V := by rw [hxv]; exact hwV
            have hxr : -1 ≤ xv ∧ xv ≤ 65536 := ⟨by omega, by omega⟩; clear l1 l2 hb3 hb4 hbt r0 r1 hxq hxl hPk v1 v2 l5 hp2 hz0 hzV; clear hd; clear hwq; have hdI' := Lib.hid hdI; have hdw' := Lib.hid hdw; have hdm' := Lib.hid hdm; have hd64' := Lib.hid hd64; have hxr' := Lib.hid hxr; have hshl' := Lib.hid hshl; have hus' := Lib.hid hus; have hwx' := Lib.hid hwx; have hx1' := Lib.hid hx1; have hx2' := Lib.hid hx2; have hV' := Lib.hid hV; have bA' := Lib.hid bA; have bB' := Lib.hid bB; have bA3' := Lib.hid bA3; have bA4' := Lib.hid bA4; have hown5' := Lib.hid hown5; have hbel5' := Lib.hid hbel5; have hsz5' := Lib.hid hsz5; have s5' := Lib.hid s5; have hw2' := Lib.hid hw2; have hw3' := Lib.hid hw3; have hw4' := Lib.hid hw4; have hxv' := Lib.hid hxv; have hwV' := Lib.hid hwV; have hsw2' := Lib.hid hsw2; have hsw3' := Lib.hid hsw3; have hsw4' := Lib.hid hsw4; clear hdI hdw hdm hd64 hxr hshl hus hwx hx1 hx2 hV bA bB bA3 bA4 hown5 hbel5 hsz5 s5 hw2 hw3 hw4 hxv hwV hsw2 hsw3 hsw4
            go_upto_region 10 with fail
            rw [hw2'.out]
            go_upto_region 11 with fail
            rw [hw3'.out]; clear r02 r12 hf2; have hq4' := Lib.hid hq4; have hcp' := Lib.hid hcp; have hm0' := Lib.hid hm0; have hgq' := Lib.hid hgq; clear hq4 hcp hm0 hgq; have hxr := hxr'.out; have hd64 := hd64'.out; have hdI := hdI'.out; have hdm := hdm'.out; have hshl := hshl'.out; have e1 : w3.cell? ⟨wr.heap.size, 1, none⟩ = some (.int .i64 ((i : Int) + 1)) := bA3'.out.cell rfl; have e2 : w3.cell? ⟨w2.heap.size, 0, none⟩ = some (.int .i64 xv) := bB'.out.cell rfl; have e3 : w3.cell? ⟨w2.heap.size, 1, none⟩ = some (.int .i64 (xn : Int)) := bB'.out.cell rfl; have e0 : w3.cell? ⟨wr.heap.size, 0, none⟩ = some (.int .i64 0) := bA3'.out.cell rfl; have e4 := bA3'.out.frozen 0
            go_upto_region 12 with fail
            rw [hw4'.out]; clear e0 e1 e2 e3 e4 hdI hdm hshl hxr hd64; have hq4 := hq4'.out; have hcp := hcp'.out; have e1 : w4.cell? ⟨wr.heap.size, 0, none⟩ = some (.int .i64 V) := bA4'.out.cell rfl; have e2 : w4.cell? ⟨wr.heap.size, 1, none⟩ = some (.int .i64 ((i : Int) + 1)) := bA4'.out.cell rfl; have hw44 := hsw4'.out
            go_wp2_with (at_builtin; go_loud (refine wpList_app rfl _ _ 106 rfl W1.heap.size 102 i0 _ 2 16 Try.underlying106 hi hz0 (by assumption) hz2 rfl (by decide) _ (q + 1) _ rfl hown5'.out (some ⟨wr.heap.size + 2, 0, none⟩) 1 1 _ rfl s5'.out (by simp [Value.oneCell']) (by omega) (by decide) hsz5'.out ?_; intro a7 c7 w7 ho7 hb7 hg7; have Ho7 := Lib.hid ho7; have Hb7 := Lib.hid (hbel5'.out.trans hb7); clear ho7 hb7 hg7))
            go_roundw
            case rel =>
              have e : ((i + 1 : Nat) : Int) = (i : Int) + 1 := by omega
              exact ⟨k + 1, by omega, by go_num, a7, c7, q + 2, ⟨rfl, rfl, rfl⟩, Lib.hid (by rw [hus'.out, List.length_append, ← hm2.out]; rfl), Lib.hid (by rw [hus'.out, codC2_snoc]; simp only [e]; exact Ho7.out)⟩
            case measure => simp [intOf]; omega
        · obtain rfl : k = y := by omega
          have hfu := upTo_full (c := c) (i := i) (k := k) (by rw [hxd'.out]; simp); have hfu' := Lib.hid hfu; clear hfu
          go_wp2
          go_roundw
          case rel => exact ⟨i + 1, a2, c2, m, by omega, by go_num, rfl, Lib.hid (by rw [← hfu'.out]; exact hm2.out), Lib.hid (by rw [← hfu'.out]; exact hown.out), hbel⟩
          case measure => simp [intOf]; omega
    · obtain rfl : i = 16 := by omega
      have hm3 := hm2.out; have ho := hown.out; rw [upTo_all] at hm3 ho; have hbw := hb1'.out.trans (hbel.out.mono hb1'.out.size); subst hm3; have ho' := Lib.hid ho; have hbw' := Lib.hid hbw; clear ho hbw
      go_wp2
      go_ret
      exact ⟨a2, c2, rfl, own_mono ho'.out hb1'.out.size, hbw'.out⟩
end Go.Proofs.Ytpjopeojeglogaa

namespace Go.Proofs.Ytpjopeojeglogaa
open Go.RowKit Tt
set_option linter.unusedVariables false
set_option linter.unusedSimpArgs false

theorem hV_len {c : List Int} {a : Option Addr} {n cp : Nat} (hc : c.length = 16) : (ints .i64 c ++ [Value.slice a n cp]).length = 17 := by rw [List.length_append, ints_len, hc]; rfl
end Go.Proofs.Ytpjopeojeglogaa
