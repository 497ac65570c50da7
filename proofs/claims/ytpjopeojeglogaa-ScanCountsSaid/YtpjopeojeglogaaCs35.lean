/- Chapter 11, the document's side: Code. | Chapter 12 (plain): what the document tells of a block: the number its plane's last block began with. | Chapter 12, the document's side: filled, Unit. -/
import Derived.Test.YtpjopeojeglogaaCs34
import Derived.Test.YtpjopeojeglogaaCs14
import Derived.Test.YtpjopeojeglogaaCs03
import Derived.Test.YtpjopeojeglogaaCs22
import Derived.Test.YtpjopeojeglogaaCs26
import Derived.Test.YtpjopeojeglogaaCs29
import Derived.Test.YtpjopeojeglogaaCs28
import Derived.Test.YtpjopeojeglogaaCs31
import Derived.Test.YtpjopeojeglogaaCs06
import Derived.Test.YtpjopeojeglogaaCs07
import Derived.Test.YtpjopeojeglogaaCs19
namespace Go.Proofs.Ytpjopeojeglogaa
open Go.RowKit Tt
set_option linter.unusedVariables false
set_option linter.unusedSimpArgs false

def Cd11 (o : Option (List Cod)) (w : World) (e : Ending) (w' : World) : Prop :=
  ((o = none ∧ e = .returned (.tuple #[.slice none 0 0, .bool false])) ∨ ∃ l a n c, o = some l ∧ e = .returned (.tuple #[.slice a n c, .bool true]) ∧ n = l.length ∧ w'.ownsRow w.heap.size 133 4 (.slice a n c) n (codC l)) ∧ Below w.heap.size w w'
theorem Cd11.no {o : Option (List Cod)} {w w' : World} {e : Ending} (h : o = none) (he : e = .returned (.tuple #[.slice none 0 0, .bool false])) (hb : Below w.heap.size w w') : Cd11 o w e w' := ⟨.inl ⟨h, he⟩, hb⟩
theorem Cd11.yes {o : Option (List Cod)} {w w' : World} {e : Ending} {l : List Cod} {a : Option Addr} {n c : Nat} (h : o = some l) (he : e = .returned (.tuple #[.slice a n c, .bool true])) (hn : n = l.length) (ho : w'.ownsRow w.heap.size 133 4 (.slice a n c) n (codC l)) (hb : Below w.heap.size w w') : Cd11 o w e w' := ⟨.inr ⟨l, a, n, c, h, he, hn, ho⟩, hb⟩
theorem rep_snoc (o : List Cod) (x : Cod) (i : Nat) : o ++ List.replicate (i + 1) x = (o ++ List.replicate i x) ++ [x] := by rw [List.replicate_succ', List.append_assoc]
theorem acStep_zero (o : List Cod) (z : Nat) : acStep (some (o, z)) 0 = some (o, z + 1) := by simp [acStep]
theorem acStep_ok {o : List Cod} {z : Nat} {v : Int} (hv : v ≠ 0) (hb : bitLen v.natAbs ≤ 10) : acStep (some (o, z)) v = some (o ++ List.replicate (z / 16) (1, 240, 0, 0) ++ [codOf 1 (z % 16 : Nat) v], 0) := by simp [acStep, hv, hb]
theorem acStep_bad {o : List Cod} {z : Nat} {v : Int} (hv : v ≠ 0) (hb : ¬ bitLen v.natAbs ≤ 10) : acStep (some (o, z)) v = none := by simp [acStep, hv, hb]
theorem acFrom_bad {l : List Int} {k : Nat} {s : Option (List Cod × Nat)} (h : acFrom (l.take k) s = none) : acFrom l s = none := by
  have := acFrom_none (l.drop k); unfold acFrom at h this ⊢; rw [← List.take_append_drop k l, List.foldl_append, h, this]
set_option maxRecDepth 100000 in
set_option maxHeartbeats 4000000 in
theorem rcode11_any (b : List Int) (A : Array Value) (hA : (ints .i64 b).toArray = A) (last : Int) (w : World) (ht : b.length = 64) (hw : ∀ x ∈ b, Wf x) (hl : Wf last) :
    Calls Try.prog 148 #[.agg A, .int .i64 last] w (Cd11 (codeB b last) w) := by
  obtain ⟨i1, hi, hz0, hz1, hz2⟩ := info_parts infoCod; have hib : (ints .i64 b).length = 64 := by rw [ints_len, ht]
  have b1 := Blk.new w 129 A; have hb1 := (Below.refl w.heap.size w).alloc (Nat.le_refl _) (.cells A 129); obtain ⟨W1, hW1⟩ : ∃ W, w.alloc (.cells A 129) = W := ⟨_, rfl⟩; rw [hW1] at b1 hb1; obtain ⟨v0, hv0⟩ : ∃ x, b.getD 0 0 = x := ⟨_, rfl⟩; have h00 : (ints .i64 b)[0]? = some (.int .i64 v0) := by rw [← hv0]; exact ints_get (by omega)
  have k0 : W1.cell? ⟨w.heap.size, 0, none⟩ = some (.int .i64 v0) := b1.cell (by rw [← hA, List.getElem?_toArray]; exact h00); have HC : ∀ j v, (ints .i64 b)[j]? = some v → W1.cell? ⟨w.heap.size, 0 + j, none⟩ = some v := fun j v h => b1.cell (by rw [← hA, Nat.zero_add, List.getElem?_toArray]; exact h); have hwf0 := hw v0 (by rw [← hv0]; exact get_mem (by omega)); have hS1 := rsize11_any last W1 hl; have hS2 := rsize11_any v0 W1 hwf0; have hcod : codeB b last = if sizeS last < 0 ∨ sizeS v0 < 0 ∨ 11 < bitLen (v0 - last).natAbs then none else (acFrom ((toZ b).drop 1) (some ([codOf 0 0 (v0 - last)], 0))).map acEnd := by unfold codeB; rw [hv0]
  obtain ⟨R, hR⟩ : ∃ R, codeB b last = R := ⟨_, rfl⟩; rw [hR] at hcod ⊢; obtain ⟨m1, hm1⟩ : ∃ m, sizeS last = m := ⟨_, rfl⟩; obtain ⟨m2, hm2⟩ : ∃ m, sizeS v0 = m := ⟨_, rfl⟩; rw [hm1] at hS1; rw [hm2] at hS2; have hsz1 := @size_ok last; have hsz2 := @size_ok v0; rw [hm1] at hsz1 hcod; rw [hm2] at hsz2 hcod; have b1' := Lib.hid b1; have hb1' := Lib.hid hb1; have hib' := Lib.hid hib; have hW1' := Lib.hid hW1; have hv0' := Lib.hid hv0; have h00' := Lib.hid h00; have hS1' := Lib.hid hS1; have hS2' := Lib.hid hS2; have hcod' := Lib.hid hcod; have hA' := Lib.hid hA; have hw' := Lib.hid hw; have hl' := Lib.hid hl; have hwf0' := Lib.hid hwf0; have hR' := Lib.hid hR; have hm1' := Lib.hid hm1; have hm2' := Lib.hid hm2; have HC' := Lib.hid HC; have hsz1' := Lib.hid hsz1; have hsz2' := Lib.hid hsz2; clear b1 hb1 hib hW1 hv0 h00 hS1 hS2 hcod hA hw hl hwf0 hR hm1 hm2 HC hsz1 hsz2
  go_enter Try.func148, Try.ntmps148
  go_upto_region 1 with fail
  rw [hW1'.out]
  by_cases hs1 : m1 < 0
  · have hc : R = none := by rw [hcod'.out, if_pos (.inl hs1)]
    have hc' := Lib.hid hc; clear hc
    go_wp2_with fail
    refine hS1'.out.mono ?_; rintro e w1 ⟨rfl, rfl⟩
    go_wp2
    go_ret2
    exact Cd11.no hc'.out rfl hb1'.out
  by_cases hs2 : m2 < 0
  · have hc : R = none := by rw [hcod'.out, if_pos (.inr (.inl hs2))]
    have hc' := Lib.hid hc; clear hc
    go_wp2_with fail
    refine hS1'.out.mono ?_; rintro e w1 ⟨rfl, rfl⟩
    go_wp2_with fail
    refine hS2'.out.mono ?_; rintro e w1 ⟨rfl, rfl⟩
    go_wp2
    go_ret2
    exact Cd11.no hc'.out rfl hb1'.out
  have l1 := hsz1'.out hs1; have l2 := hsz2'.out hs2; obtain ⟨dv, hdv⟩ : ∃ d, v0 - last = d := ⟨_, rfl⟩
  have hcd : R = if 11 < bitLen dv.natAbs then none else (acFrom ((toZ b).drop 1) (some ([codOf 0 0 dv], 0))).map acEnd := by
    rw [hcod'.out, hdv]
    by_cases h11 : 11 < bitLen dv.natAbs
    · rw [if_pos (.inr (.inr h11)), if_pos h11]
    · rw [if_neg (by rintro (h | h | h) <;> contradiction), if_neg h11]
  have hdw : Wf dv := by unfold Wf; omega
  have hS3 := rsize11_any dv W1 hdw; have hsz3 := sizeS_cases dv; have hEx := rextra_any dv W1 hdw; obtain ⟨m3, hm3⟩ : ∃ m, sizeS dv = m := ⟨_, rfl⟩; rw [hm3] at hS3 hsz3 hEx; have hcd' := Lib.hid hcd; have hdw' := Lib.hid hdw; have hS3' := Lib.hid hS3; have hm3' := Lib.hid hm3; have hEx' := Lib.hid hEx; have hsz3' := Lib.hid hsz3; clear hcd hdw hS3 hm3 hEx hsz3
  go_wp2_with fail
  refine hS1'.out.mono ?_; rintro e w1 ⟨rfl, rfl⟩
  go_wp2_with fail
  refine hS2'.out.mono ?_; rintro e w1 ⟨rfl, rfl⟩
  go_upto_region 4 with fail
  by_cases hs3 : m3 < 0
  · have hc : R = none := by rw [hcd'.out, if_pos (by have := hsz3'.out; omega)]
    have hc' := Lib.hid hc; clear hc
    go_wp2_with fail
    refine hS3'.out.mono ?_; rintro e w1 ⟨rfl, rfl⟩
    go_wp2
    go_ret2
    exact Cd11.no hc'.out rfl hb1'.out
  by_cases hs4 : 11 < m3
  · have hc : R = none := by rw [hcd'.out, if_pos (by have := hsz3'.out; omega)]
    have hc' := Lib.hid hc; clear hc
    go_wp2_with fail
    refine hS3'.out.mono ?_; rintro e w1 ⟨rfl, rfl⟩
    go_wp2_with fail
    refine hS3'.out.mono ?_; rintro e w1 ⟨rfl, rfl⟩
    go_wp2
    go_ret2
    exact Cd11.no hc'.out rfl hb1'.out
  have hcd2 : R = (acFrom ((toZ b).drop 1) (some ([codOf 0 0 dv], 0))).map acEnd := by rw [hcd'.out, if_neg (by have := hsz3'.out; omega)]
  have hb3 : (bitLen dv.natAbs : Int) = m3 := by have := hsz3'.out; omega
  obtain ⟨V3, hV3⟩ : ∃ V, extraV dv = V := ⟨_, rfl⟩; have hE3 := hEx'.out (by omega); rw [hV3] at hE3; have hco : codOf 0 0 dv = (0, m3, V3, m3) := by unfold codOf; rw [hb3, hV3]; simp
  rw [hco] at hcd2; unfold bitC at hE3; clear hcd' hsz3' hEx' hS1' hS2' hsz1' hsz2' hcod'; have hcd2' := Lib.hid hcd2; have hb3' := Lib.hid hb3; have hE3' := Lib.hid hE3; have hV3' := Lib.hid hV3; clear hcd2 hb3 hE3 hV3
  go_wp2_with fail
  refine hS3'.out.mono ?_; rintro e w1 ⟨rfl, rfl⟩
  go_wp2_with fail
  refine hS3'.out.mono ?_; rintro e w1 ⟨rfl, rfl⟩
  go_wp2_with fail
  refine hS3'.out.mono ?_; rintro e w1 ⟨rfl, rfl⟩
  go_wp2_with fail
  refine hE3'.out.mono ?_; rintro e w2 ⟨rfl, hb2⟩; have hbw2 := hb1'.out.trans (hb2.mono hb1'.out.size); have b2 := b1'.out.late hb2; have o3 := own_new w2 w.heap.size 133 4 1 #[.int .i64 0, .int .i64 m3, .int .i64 V3, .int .i64 m3] hbw2.size (by decide) rfl; have hal3 := (Below.refl w2.heap.size w2).alloc (Nat.le_refl _) (.cells #[.int .i64 0, .int .i64 m3, .int .i64 V3, .int .i64 m3] 133); obtain ⟨w3, hw3⟩ : ∃ W, w2.alloc (.cells #[.int .i64 0, .int .i64 m3, .int .i64 V3, .int .i64 m3] 133) = W := ⟨_, rfl⟩; rw [hw3] at o3 hal3; have hbw3 := hbw2.trans (hal3.mono hbw2.size); have b3 := b2.late hal3; have f3 : ∀ j v, (ints .i64 b)[j]? = some v → w3.cell? ⟨w.heap.size, 0 + j, none⟩ = some v := fun j v h => b3.cell (by rw [← hA'.out, Nat.zero_add, List.getElem?_toArray]; exact h); have hT := rto_any b A hA'.out w3 ht; obtain ⟨R8, hR8⟩ : ∃ R, (ints .i64 (toZ b)).toArray = R := ⟨_, rfl⟩; rw [hR8] at hT; have hRl : (ints .i64 (toZ b)).length = 64 := by rw [ints_len, toZ_len]
  have hRs : R8.size = 64 := by rw [← hR8, List.size_toArray]; exact hRl
  have hR1 : R8.all (·.oneCell') = true := by rw [← hR8]; exact ints_one'
  clear hb2 hal3; have hbw2' := Lib.hid hbw2; have b2' := Lib.hid b2; have o3' := Lib.hid o3; have hw3' := Lib.hid hw3; have hbw3' := Lib.hid hbw3; have b3' := Lib.hid b3; have f3' := Lib.hid f3; have hT' := Lib.hid hT; have hR8' := Lib.hid hR8; have hRl' := Lib.hid hRl; have hRs' := Lib.hid hRs; have hR1' := Lib.hid hR1; clear hbw2 b2 o3 hw3 hbw3 b3 f3 hT hR8 hRl hRs hR1
  go_upto_region 7 with fail
  rw [hw3'.out]
  go_wp2_with (refine wpList_load_at rfl 129 (.tmp 2) rfl w.heap.size 0 rfl (ints .i64 b) A hA'.out _ f3'.out Try.underlying129 rfl 64 infoB64 hib'.out ?_)
  refine hT'.out.mono ?_; rintro e w4 ⟨rfl, hb4⟩; have o4 := own_later o3'.out hb4; have hbw4 := hbw3'.out.trans (hb4.mono hbw3'.out.size); have hal5 := (Below.refl w4.heap.size w4).alloc (Nat.le_refl _) (.cells R8 129); have b8 := Blk.new w4 129 R8; obtain ⟨w5, hw5⟩ : ∃ W, w4.alloc (.cells R8 129) = W := ⟨_, rfl⟩; obtain ⟨g8, hg8⟩ : ∃ g, w4.heap.size = g := ⟨_, rfl⟩; rw [hw5] at hal5; rw [hw5, hg8] at b8; have o5 := own_later o4 hal5; have hbw5 := hbw4.trans (hal5.mono hbw4.size); clear hb4 o4 hal5; have hbw4' := Lib.hid hbw4; have b8' := Lib.hid b8; have hw5' := Lib.hid hw5; have hg8' := Lib.hid hg8; have o5' := Lib.hid o5; have hbw5' := Lib.hid hbw5; clear hbw4 b8 hw5 hg8 o5 hbw5
  go_upto_region 8 with (refine wpList_store_row rfl 129 (.tmp 8) (.tmp 40) rfl w4.heap.size R8 rfl rfl 129 _ (heap_new _ _) (by rw [hRs'.out]; exact infoB64) (by rw [hRs'.out]; rfl) hR1'.out ?_)
  rw [setRow_alloc, hw5'.out, hg8'.out]
  go_wp2
  go_loopw [7, 9, 10, 11] (fun ov zv iv _ wr => ∃ (j z n7 : Nat) (o : List Cod) (a7 : Option Addr) (c7 : Nat), j ≤ 63 ∧ n7 ≤ 1 + 5 * j ∧ z ≤ j ∧ iv = .int .i64 ((j : Int) + 1) ∧ zv = .int .i64 z ∧ ov = .slice a7 n7 c7 ∧ Hid (n7 = o.length) ∧ Hid (acFrom (((toZ b).drop 1).take j) (some ([(0, m3, V3, m3)], 0)) = some (o, z)) ∧ Hid (wr.ownsRow w.heap.size 133 4 (.slice a7 n7 c7) n7 (codC o)) ∧ Hid (Blk wr g8 129 R8) ∧ Hid (Below w.heap.size w wr)) (fun _ _ iv _ _ => 64 - (intOf iv).toNat)
  case atStart => exact ⟨0, 0, 1, [(0, m3, V3, m3)], _, 1, by omega, by omega, by omega, by go_num, rfl, rfl, Lib.hid rfl, Lib.hid rfl, o5', b8', hbw5'⟩
  case round =>
    rename World => wr
    obtain ⟨j, z, n7, o, a7, c7, hj, hn7, hzj, rfl, rfl, rfl, hno, hst, hown, hb8, hbel⟩ := hrel
    by_cases hlt : j < 63
    · have q0 : wr.cell? ⟨g8, j + 1, none⟩ = some (.int .i64 ((toZ b).getD (j + 1) 0)) := hb8.out.cell (by rw [← hR8'.out, List.getElem?_toArray]; exact ints_get (by rw [toZ_len]; omega))
      have hst2 := acFrom_take (l := (toZ b).drop 1) (k := j) (by rw [List.length_drop, toZ_len]; omega) (some ([(0, m3, V3, m3)], 0)); rw [hst.out, show ((toZ b).drop 1).getD j 0 = (toZ b).getD (j + 1) 0 by simp [List.getD_eq_getElem?_getD, List.getElem?_drop, Nat.add_comm]] at hst2; have hvw : Wf ((toZ b).getD (j + 1) 0) := hw'.out _ ((mem_toZ ht).1 (get_mem (by rw [toZ_len]; omega))); obtain ⟨v, hv⟩ : ∃ x, (toZ b).getD (j + 1) 0 = x := ⟨_, rfl⟩; rw [hv] at q0 hst2 hvw
      by_cases hv0 : v = 0
      · subst hv0
        rw [acStep_zero] at hst2; have hst2' := Lib.hid hst2; have hvw' := Lib.hid hvw; have hv' := Lib.hid hv; clear hst2 hvw hv
        go_wp2
        go_roundw
        case rel => exact ⟨j + 1, z + 1, n7, o, a7, c7, by omega, by omega, by omega, by go_num, by go_num, rfl, hno, hst2', hown, hb8, hbel⟩
        case measure => simp [intOf]; omega
      · have hS := rsize11_any v wr hvw
        have hsz := sizeS_cases v; have hE := fun W => rextra_any v W hvw; obtain ⟨m, hm⟩ : ∃ m, sizeS v = m := ⟨_, rfl⟩; rw [hm] at hS hsz hE; have hve : (v == 0) = false := by simpa using hv0
        by_cases hbad : m < 0 ∨ 10 < m
        · have hR0 : R = none := by
            rw [hcd2'.out, acFrom_bad (k := j + 1) (by rw [hst2, acStep_bad hv0 (by omega)])]
            rfl
          have hbw := hbel.out
          by_cases hm0 : m < 0
          · clear hbad hsz hv0
            have hS' := Lib.hid hS; have hE' := Lib.hid hE; have hR0' := Lib.hid hR0; have hst2' := Lib.hid hst2; have hvw' := Lib.hid hvw; have hv' := Lib.hid hv; have hm' := Lib.hid hm; have hbw' := Lib.hid hbw; clear hS hE hR0 hst2 hvw hv hm hbw
            go_wp2_with fail
            refine hS'.out.mono ?_; rintro e w1 ⟨rfl, rfl⟩
            go_wp2
            go_ret2
            exact Cd11.no hR0'.out rfl hbw'.out
          · have hm10 : 10 < m := by omega
            clear hbad hsz hv0; have hS' := Lib.hid hS; have hE' := Lib.hid hE; have hR0' := Lib.hid hR0; have hst2' := Lib.hid hst2; have hvw' := Lib.hid hvw; have hv' := Lib.hid hv; have hm' := Lib.hid hm; have hbw' := Lib.hid hbw; clear hS hE hR0 hst2 hvw hv hm hbw
            go_wp2_with fail
            refine hS'.out.mono ?_; rintro e w1 ⟨rfl, rfl⟩
            go_wp2
            go_ret2
            exact Cd11.no hR0'.out rfl hbw'.out
        · have hm0 : 0 ≤ m ∧ m ≤ 10 := by omega
          have hbl : (bitLen v.natAbs : Int) = m := by omega
          rw [acStep_ok hv0 (by omega)] at hst2; obtain ⟨V, hV⟩ : ∃ V, extraV v = V := ⟨_, rfl⟩; have hE := fun W => hE W hm0.1; rw [hV] at hE; unfold bitC at hE; obtain ⟨zq, hzq⟩ : ∃ q, z / 16 = q := ⟨_, rfl⟩; obtain ⟨zr, hzr⟩ : ∃ q, z % 16 = q := ⟨_, rfl⟩; have hzz : z = 16 * zq + zr := by omega
          have hzr16 : zr < 16 := by omega
          have hco : codOf 1 (zr : Nat) v = (1, 16 * zr + m, V, m) := by unfold codOf; rw [hbl, hV]
          rw [hzq, hzr, hco] at hst2; clear hbad hsz hv0 hzq hzr; have hS' := Lib.hid hS; have hE' := Lib.hid hE; have hst2' := Lib.hid hst2; have hvw' := Lib.hid hvw; have hv' := Lib.hid hv; have hm' := Lib.hid hm; have hbl' := Lib.hid hbl; have hV' := Lib.hid hV; have hco' := Lib.hid hco; have hown' := Lib.hid hown; have hb8' := Lib.hid hb8; have hbel' := Lib.hid hbel; have hzz' := Lib.hid hzz; clear hS hE hst2 hvw hv hm hbl hV hco hown hb8 hbel hzz
          go_wp2_with fail
          refine hS'.out.mono ?_; rintro e w1 ⟨rfl, rfl⟩
          go_wp2
          go_loopw [7, 9] (fun ov zv wi => ∃ (i zz n2 : Nat) (a2 : Option Addr) (c2 : Nat), z = 16 * i + zz ∧ Hid (n2 = n7 + i) ∧ n2 ≤ n7 + i ∧ zv = .int .i64 zz ∧ ov = .slice a2 n2 c2 ∧ Hid (wi.ownsRow w.heap.size 133 4 (.slice a2 n2 c2) n2 (codC (o ++ List.replicate i (1, 240, 0, 0)))) ∧ Hid (Blk wi g8 129 R8) ∧ Hid (Below w.heap.size w wi)) (fun _ zv _ => (intOf zv).toNat)
          case atStart => exact ⟨0, z, n7, a7, c7, by omega, Lib.hid rfl, by omega, rfl, rfl, Lib.hid (by rw [List.replicate_zero, List.append_nil]; exact hown'.out.out), hb8'.out, hbel'.out⟩
          case round =>
            rename World => wi
            obtain ⟨i, zz, n2, a2, c2, hzi, hn2, hn2l, rfl, rfl, hown2, hb82, hbel2⟩ := hrel
            by_cases hz16 : 16 ≤ zz
            · have hal := (Below.refl wi.heap.size wi).alloc (Nat.le_refl _) (.cells #[.int .i64 1, .int .i64 240, .int .i64 0, .int .i64 0] 133)
              have o6 := own_later hown2.out hal; have b6 := hb82.out.late hal; have s6 := Sl.new wi 133 4 1 #[.int .i64 1, .int .i64 240, .int .i64 0, .int .i64 0] (0, 0) (by decide) rfl; have d6 := hbel2.out.trans (hal.mono hbel2.out.size); have hs6 := d6.size; have hn2b : n2 ≤ 400 := by omega
              have hne := own_neB o6 b6 (by decide); clear hal; have o6' := Lib.hid o6; have b6' := Lib.hid b6; have s6' := Lib.hid s6; have d6' := Lib.hid d6; have hne' := Lib.hid hne; clear o6 b6 s6 d6 hne
              go_wp2_with (at_builtin; refine wpList_app rfl _ _ 146 rfl w.heap.size 133 i1 _ 4 32 Try.underlying146 hi hz0 hz1 hz2 rfl (by decide) _ n2 _ rfl o6'.out (some ⟨wi.heap.size, 0, none⟩) 1 1 _ rfl s6'.out (by simp [Value.oneCell']) (by omega) (by decide) hs6 ?_; intro ax cx wx hox hbx hgx; have Hox := Lib.hid hox; have Hbx := Lib.hid hbx; have Hgx := Lib.hid hgx; clear hox hbx hgx)
              have hmg := Mo.of_grown (S := fun k => (Value.slice a2 n2 c2).ownBlock = some k) Hgx.out fun k hk => hk; have b7 := b6'.out.mo hmg hne'.out; have d7 := d6'.out.trans (Hbx.out); have o7 : wx.ownsRow w.heap.size 133 4 (.slice ax (n2 + 1) cx) (n2 + 1) (codC (o ++ List.replicate (i + 1) (1, 240, 0, 0))) := by rw [rep_snoc, codC_snoc]; exact Hox.out
              clear hmg Hox Hgx Hbx; have b7' := Lib.hid b7; have d7' := Lib.hid d7; have o7' := Lib.hid o7; clear b7 d7 o7
              go_wp2
              go_roundw
              case rel => exact ⟨i + 1, zz - 16, n2 + 1, ax, cx, by omega, Lib.hid (by rw [hn2.out]; rfl), by omega, by go_num, rfl, o7', b7', d7'⟩
              case measure => simp [intOf]; omega
            · obtain ⟨rfl, rfl⟩ : i = zq ∧ zz = zr := by have := hzz'.out; omega
              have b6 := hb82.out; have q0 : wi.cell? ⟨g8, j + 1, none⟩ = some (.int .i64 v) := b6.cell (by rw [← hR8'.out, List.getElem?_toArray, ← hv'.out]; exact ints_get (by rw [toZ_len]; omega)); have hE2 := hE'.out wi; have hn2b : n2 ≤ 400 := by omega
              have hzz16 : zz ≤ 15 := by omega
              clear hzi; have hE2' := Lib.hid hE2; have b6' := Lib.hid b6; clear hE2 b6
              go_wp2_with fail
              refine hE2'.out.mono ?_; rintro e w6 ⟨rfl, hb6⟩; have o6 := own_later hown2.out hb6; have b7 := b6'.out.late hb6; have d6 := hbel2.out.trans (hb6.mono hbel2.out.size); have hal := (Below.refl w6.heap.size w6).alloc (Nat.le_refl _) (.cells #[.int .i64 1, .int .i64 (16 * (zz : Int) + m), .int .i64 V, .int .i64 m] 133); have o7 := own_later o6 hal; have b8 := b7.late hal; have s7 := Sl.new w6 133 4 1 #[.int .i64 1, .int .i64 (16 * (zz : Int) + m), .int .i64 V, .int .i64 m] (0, 0) (by decide) rfl; have d7 := d6.trans (hal.mono d6.size); have hs7 := d7.size; have hne := own_neB o7 b8 (by decide); clear hal hb6 o6 b7 d6; have o7' := Lib.hid o7; have b8' := Lib.hid b8; have s7' := Lib.hid s7; have d7' := Lib.hid d7; have hne' := Lib.hid hne; clear o7 b8 s7 d7 hne
              go_wp2_with (at_builtin; refine wpList_app rfl _ _ 146 rfl w.heap.size 133 i1 _ 4 32 Try.underlying146 hi hz0 hz1 hz2 rfl (by decide) _ n2 _ rfl o7'.out (some ⟨w6.heap.size, 0, none⟩) 1 1 _ rfl s7'.out (by simp [Value.oneCell']) (by omega) (by decide) hs7 ?_; intro ax cx wx hox hbx hgx; have Hox := Lib.hid hox; have Hbx := Lib.hid hbx; have Hgx := Lib.hid hgx; clear hox hbx hgx)
              have hmg := Mo.of_grown (S := fun k => (Value.slice a2 n2 c2).ownBlock = some k) Hgx.out fun k hk => hk; have b9 := b8'.out.mo hmg hne'.out; have d9 := d7'.out.trans (Hbx.out); have o9 : wx.ownsRow w.heap.size 133 4 (.slice ax (n2 + 1) cx) (n2 + 1) (codC ((o ++ List.replicate i (1, 240, 0, 0)) ++ [(1, 16 * (zz : Int) + m, V, m)])) := by rw [codC_snoc]; exact Hox.out
              have hln : n2 + 1 = ((o ++ List.replicate i ((1, 240, 0, 0) : Cod)) ++ [((1 : Int), 16 * (zz : Int) + m, V, m)]).length := by
                rw [List.length_append, List.length_append, List.length_replicate, ← hno.out, hn2.out]; rfl
              have hi4 : 16 * i ≤ j := by have := hzz'.out; omega
              clear hmg Hox Hgx Hbx; have b9' := Lib.hid b9; have d9' := Lib.hid d9; have o9' := Lib.hid o9; have hln' := Lib.hid hln; clear b9 d9 o9 hln
              go_wp2
              go_roundw
              case rel => exact ⟨j + 1, 0, n2 + 1, _, ax, cx, by omega, by omega, by omega, by go_num, rfl, rfl, hln', hst2', o9', b9', d9'⟩
              case measure => simp [intOf]; omega
    · obtain rfl : j = 63 := by omega
      have htk : ((toZ b).drop 1).take 63 = (toZ b).drop 1 := List.take_of_length_le (by rw [List.length_drop, toZ_len]; omega)
      have hfin : R = some (acEnd (o, z)) := by
        rw [hcd2'.out, ← htk, hst.out]
        rfl
      by_cases hz : 0 < z
      · have hL : acEnd (o, z) = o ++ [(1, 0, 0, 0)] := by unfold acEnd; rw [if_pos hz]
        rw [hL] at hfin; have hal := (Below.refl wr.heap.size wr).alloc (Nat.le_refl _) (.cells #[.int .i64 1, .int .i64 0, .int .i64 0, .int .i64 0] 133); have o6 := own_later hown.out hal; have s6 := Sl.new wr 133 4 1 #[.int .i64 1, .int .i64 0, .int .i64 0, .int .i64 0] (0, 0) (by decide) rfl; have d6 := hbel.out.trans (hal.mono hbel.out.size); have hs6 := d6.size; clear hal hL htk; have o6' := Lib.hid o6; have s6' := Lib.hid s6; have d6' := Lib.hid d6; have hfin' := Lib.hid hfin; clear o6 s6 d6 hfin
        go_wp2_with (at_builtin; refine wpList_app rfl _ _ 146 rfl w.heap.size 133 i1 _ 4 32 Try.underlying146 hi hz0 hz1 hz2 rfl (by decide) _ n7 _ rfl o6'.out (some ⟨wr.heap.size, 0, none⟩) 1 1 _ rfl s6'.out (by simp [Value.oneCell']) (by omega) (by decide) hs6 ?_; intro ax cx wx hox hbx hgx; have Hox := Lib.hid hox; have Hbx := Lib.hid hbx; clear hox hbx hgx)
        have d7 := d6'.out.trans (Hbx.out); have o7 : wx.ownsRow w.heap.size 133 4 (.slice ax (n7 + 1) cx) (n7 + 1) (codC (o ++ [(1, 0, 0, 0)])) := by rw [codC_snoc]; exact Hox.out
        clear Hox Hbx; have d7' := Lib.hid d7; have o7' := Lib.hid o7; clear d7 o7
        go_ret2
        exact Cd11.yes hfin'.out rfl (by rw [List.length_append, ← hno.out]; rfl) o7'.out d7'.out
      · have hL : acEnd (o, z) = o := by unfold acEnd; rw [if_neg hz]
        rw [hL] at hfin; clear hL htk; have hfin' := Lib.hid hfin; clear hfin
        go_wp2
        go_ret2
        exact Cd11.yes hfin'.out rfl hno.out hown.out hbel.out
end Go.Proofs.Ytpjopeojeglogaa

namespace Go.Proofs.Ytpjopeojeglogaa
open Go.RowKit Tt
set_option linter.unusedVariables false
set_option linter.unusedSimpArgs false

/-- the number that a plane's last block among some began with -/
def lastD (bs : List (List (List Int))) (part : Nat) (l : List (Nat × Nat)) : Int := l.foldl (fun la x => if x.1 = part then (blkB bs x).getD 0 0 else la) 0
theorem lastD_snoc {bs : List (List (List Int))} {part : Nat} {l : List (Nat × Nat)} {x : Nat × Nat} : lastD bs part (l ++ [x]) = if x.1 = part then (blkB bs x).getD 0 0 else lastD bs part l := by
  unfold lastD; rw [List.foldl_append]; rfl
/-- from which place on they count -/
def firstD (iv : Int) (U k : Nat) : Nat := if 0 < iv then k / U / iv.toNat * iv.toNat * U else 0
theorem firstD_le (iv : Int) (U k : Nat) : firstD iv U k ≤ k := by
  unfold firstD
  split
  · exact Nat.le_trans (Nat.mul_le_mul_right _ (Nat.div_mul_le_self _ _)) (Nat.div_mul_le_self _ _)
  · exact Nat.zero_le _
def symsD (s : ScT) (bs : List (List (List Int))) (UU : List (Nat × Nat)) (k : Nat) : Option (List Cod) :=
  let y := UU.getD k (0, 0)
  codeB (blkB bs y) (lastD bs y.1 ((UU.take k).drop (firstD s.iv (unitN s.ps) k)))
/-- a place of the order: its plane, its block -/
theorem place_whole {s : ScT} {bs : List (List (List Int))} (hw : wholeS s bs = true) {a d N U : Nat} (ha : s.ax = a) (hd : s.dn = d) (hN : a * d = N) (hU : unitN s.ps = U) (h1 : 1 ≤ a) (hm : ∀ (k : Nat) p, s.ps[k]? = some p → mayPt p = true) {k : Nat} (hk : k < N * U) :
    ∃ y p B x, (unitsS a s.ps N)[k]? = some y ∧ s.ps[y.1]? = some p ∧ bs[y.1]? = some B ∧ B[y.2]? = some x ∧ blkB bs y = x := by
  obtain ⟨y, p, hy, hp, hyn, _⟩ := order_step (a := a) (d := d) (k := k) h1 hm hU (by rw [hN]; exact hk); rw [hN] at hy; obtain ⟨B, hB, hl⟩ := wholeS_at hw hm ha hd hp; obtain ⟨x, hx⟩ : ∃ x, B[y.2]? = some x := ⟨_, List.getElem?_eq_getElem (by omega)⟩; refine ⟨y, p, B, x, hy, hp, hB, hx, ?_⟩; unfold blkB; rw [List.getD_eq_getElem?_getD, List.getD_eq_getElem?_getD, hB, Option.getD_some, hx]
  rfl
theorem take_drop_snoc {α : Type} {l : List α} {f i : Nat} {x : α} (hf : f ≤ i) (hx : l[i]? = some x) : (l.take (i + 1)).drop f = (l.take i).drop f ++ [x] := by
  have hi := (List.getElem?_eq_some_iff.1 hx).1; rw [List.take_add_one, hx, Option.toList_some, List.drop_append_of_le_length (by rw [List.length_take]; omega)]
end Go.Proofs.Ytpjopeojeglogaa

namespace Go.Proofs.Ytpjopeojeglogaa
open Go.RowKit Tt
set_option linter.unusedVariables false
set_option linter.unusedSimpArgs false

theorem unitN_snoc {ps : List PtM} {k : Nat} {p : PtM} (h : ps[k]? = some p) : unitN (ps.take (k + 1)) = unitN (ps.take k) + p.1.toNat * p.2.1.toNat := by
  unfold unitN; rw [List.take_add_one, h, List.map_append, List.sum_append]
  simp
set_option maxRecDepth 100000 in
set_option maxHeartbeats 1000000 in
theorem runit12_any (s : ScT) (pa : Option Addr) (pn pc : Nat) (w : World) (hs : PtsR w pa pn pc s.ps) (hpts : ∀ (k : Nat) p, s.ps[k]? = some p → mayPt p = true) (hp4 : pn ≤ 4) :
    Calls Try.prog 96 #[.agg #[.int .i64 s.ax, .int .i64 s.dn, .slice pa pn pc, .int .i64 s.iv]] w fun e w' => e = .returned (.int .i64 (unitN s.ps : Nat)) ∧ Below w.heap.size w w' := by
  have hl := hs.ilen; obtain ⟨ax, dn, iv, ps⟩ := s; simp only at hs hl hpts ⊢; have b1 := Blk.new w 24 #[.int .i64 ax, .int .i64 dn, .slice pa pn pc, .int .i64 iv]; have hb1 := (Below.refl w.heap.size w).alloc (Nat.le_refl _) (.cells #[.int .i64 ax, .int .i64 dn, .slice pa pn pc, .int .i64 iv] 24); obtain ⟨W1, hW1⟩ : ∃ W1, w.alloc (.cells #[.int .i64 ax, .int .i64 dn, .slice pa pn pc, .int .i64 iv] 24) = W1 := ⟨_, rfl⟩; rw [hW1] at b1 hb1; have k2 : W1.cell? ⟨w.heap.size, 2, none⟩ = some (.slice pa pn pc) := b1.cell rfl; have hs' := Lib.hid hs; have hl' := Lib.hid hl; have b1' := Lib.hid b1; have hb1' := Lib.hid hb1; have hW1' := Lib.hid hW1; have hpts' := Lib.hid hpts; clear hs hl b1 hb1 hW1 hpts
  go_enter Try.func96, Try.ntmps96
  go_upto_region 1 with fail
  rw [hW1'.out]
  go_wp2
  clear k2
  go_loopw [3, 4] (fun nv iv wr => ∃ (k m : Nat), k ≤ pn ∧ m ≤ 16 * k ∧ iv = .int .i64 k ∧ nv = .int .i64 m ∧ Hid (m = unitN (ps.take k)) ∧ Hid (Below W1.heap.size W1 wr)) (fun _ iv _ => pn - (intOf iv).toNat)
  case atStart => exact ⟨0, 0, by omega, by omega, rfl, rfl, Lib.hid rfl, Lib.hid (Below.refl _ _)⟩
  case round =>
    rename World => wr
    obtain ⟨k, m, hk, hm, rfl, rfl, hmk, hbel⟩ := hrel; have k2 : wr.cell? ⟨w.heap.size, 2, none⟩ = some (.slice pa pn pc) := (b1'.out.late hbel.out).cell rfl; have hbw := hb1'.out.trans (hbel.out.mono hb1'.out.size)
    by_cases hlt : k < pn
    · obtain ⟨p, hp⟩ : ∃ p, ps[k]? = some p := ⟨_, List.getElem?_eq_getElem (by rw [hl'.out]; exact hlt)⟩
      obtain ⟨g, o, rfl, hg, f⟩ := (hs'.out.mono hbw).elem hp; have hmp := mayPt_bd (hpts'.out k p hp); have hun := unitN_snoc hp; obtain ⟨h, hh⟩ : ∃ h : Nat, p.1 = h := ⟨p.1.toNat, by omega⟩; obtain ⟨v, hv⟩ : ∃ v : Nat, p.2.1 = v := ⟨p.2.1.toNat, by omega⟩; have f0 : wr.cell? ⟨g, o + k * 36, none⟩ = some (.int .i64 h) := by have := f 0 (.int .i64 p.1) rfl; rw [hh] at this; exact this
      have f1 : wr.cell? ⟨g, o + k * 36 + 1, none⟩ = some (.int .i64 v) := by have := f 1 (.int .i64 p.2.1) rfl; rw [hv] at this; exact this
      rw [hh, hv, Int.toNat_natCast, Int.toNat_natCast] at hun; rw [hh, hv] at hmp; obtain ⟨z, hz⟩ : ∃ z, h * v = z := ⟨_, rfl⟩; have hz16 : z ≤ 16 := by rw [← hz]; exact Nat.le_trans (Nat.mul_le_mul (show h ≤ 4 by omega) (show v ≤ 4 by omega)) (by decide)
      rw [hz] at hun; have ew : IntKind.i64.wrap ((h : Int) * v) = z := by rw [← Int.natCast_mul, hz]; exact wrapN (by omega)
      have hm2 : m + z = unitN (ps.take (k + 1)) := by rw [hun, hmk.out]
      clear f hmp hun hz; have hp' := Lib.hid hp; have hh' := Lib.hid hh; have hv' := Lib.hid hv; have hm2' := Lib.hid hm2; have hbw' := Lib.hid hbw; clear hp hh hv hm2 hbw
      go_wp2
      go_quiet (fail)
      go_wp2
      go_roundw
      case rel => exact ⟨k + 1, m + z, by omega, by omega, by go_num, by go_num, hm2', Lib.hid (below_dN hbel.out)⟩
      case measure => simp [intOf]; omega
    · have hkn : k = pn := by omega
      have hm3 := hmk.out; rw [List.take_of_length_le (by rw [hl'.out]; omega)] at hm3; subst hm3; have hbw' := Lib.hid hbw; clear hbw
      go_wp2
      go_ret
      exact ⟨rfl, hbw'.out⟩
end Go.Proofs.Ytpjopeojeglogaa
