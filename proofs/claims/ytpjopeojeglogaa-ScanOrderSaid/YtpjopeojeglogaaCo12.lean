/- Chapter 4: the codes of a table: the program. -/
import Derived.Test.YtpjopeojeglogaaCo08
import Derived.Test.YtpjopeojeglogaaCo05
import Derived.Test.YtpjopeojeglogaaCo11
namespace Go.Proofs.Ytpjopeojeglogaa
open Go.RowKit Tt
set_option linter.unusedVariables false
set_option linter.unusedSimpArgs false

def bitV (x : Int × Nat) : List Value := [.int .i64 x.1, .int .i64 x.2]
def bitsC (l : List (Int × Nat)) : List Value := (l.map bitV).flatten
theorem bitsC_app (l m : List (Int × Nat)) : bitsC (l ++ m) = bitsC l ++ bitsC m := by simp [bitsC]
theorem infoBits : (Try.prog.info? 102).map (fun i => (i.zero, i.size, i.bytes)) = some (some (.agg #[.int .i64 0, .int .i64 0]), 2, 16) := by kernel_rfl
theorem lvlS_take {c : List Int} {i j : Nat} (h : (j : Int) < c.getD i 0) : (lvlS c i).take (j + 1) = (lvlS c i).take j ++ [(valS c i + j, i + 1)] := by
  unfold lvlS; rw [List.take_add_one, ← List.map_take, List.getElem?_map, List.getElem?_range (by omega)]
  rfl
theorem lvlS_len (c : List Int) (i : Nat) : (lvlS c i).length = (c.getD i 0).toNat := by unfold lvlS; rw [List.length_map, List.length_range]
theorem codes_le {c : List Int} (h : CntOk c) {i : Nat} (hi : i ≤ 16) : (codesTo c i).length ≤ 65536 := by
  have h1 := (codes_inv h i hi).2.2; have h2 := many_bd (c := c) i fun j hj => h.ok j (by omega)
  omega
set_option maxRecDepth 20000 in
set_option maxHeartbeats 2000000 in
theorem codes_any (c : List Int) (a : Option Addr) (n cp : Nat) (w : World) (hc : c.length = 16) (hok : CntOk c) :
    Calls Try.prog 140 #[hV c a n cp] w fun e w' => ∃ a2 c2, e = .returned (.slice a2 (codesS c).length c2) ∧ w'.ownsRow w.heap.size 102 2 (.slice a2 (codesS c).length c2) (codesS c).length (bitsC (codesS c)) ∧ Below w.heap.size w w' := by
  obtain ⟨i1, hi, hz0, hz1, hz2⟩ := info_parts infoBits; unfold hV; have hcl : (ints .i64 c).length = 16 := by rw [ints_len, hc]
  obtain ⟨B, hB⟩ : ∃ B, (ints .i64 c ++ [Value.slice a n cp]).toArray = B := ⟨_, rfl⟩; obtain ⟨A, hA⟩ : ∃ A, (ints .i64 c).toArray = A := ⟨_, rfl⟩; have b1 := Blk.new w 45 B; have hb1 := (Below.refl w.heap.size w).alloc (Nat.le_refl _) (.cells B 45); obtain ⟨W1, hW1⟩ : ∃ W1, w.alloc (.cells B 45) = W1 := ⟨_, rfl⟩; rw [hW1] at b1 hb1
  have HC : ∀ j v, (ints .i64 c)[j]? = some v → W1.cell? ⟨w.heap.size, 0 + j, none⟩ = some v := fun j v h => by
    refine b1.cell ?_; rw [← hB, Nat.zero_add]; simp only [List.getElem?_toArray]; rw [List.getElem?_append_left (List.getElem?_eq_some_iff.1 h).1, h]
  have hix : ∀ (k : Nat) x, c[k]? = some x → k < 16 → ∀ W, (Instr.index 43 (.agg A) (.int .i64 k)).run Try.prog W = .ok (.int .i64 x) W := fun k x h1 h2 W => by
    rw [← hA]; exact run_index_arr _ _ 16 c .i64 k x Try.underlying43 Try.underlying3 (by kernel_rfl) h1 h2 W
  rw [hB]; have HA := Lib.hid hA; clear hA hB; have hb1' := Lib.hid hb1; have b1' := Lib.hid b1; have HC' := Lib.hid HC; have hix' := Lib.hid hix; have hcl' := Lib.hid hcl; have hc' := Lib.hid hc; have hW1' := Lib.hid hW1; have hok' := Lib.hid hok; clear hb1 b1 HC hix hcl hc hW1 hok
  go_enter Try.func140, Try.ntmps140
  go_upto_region 3 with fail
  rw [hW1'.out]
  go_wp2_with (refine wpList_load_at rfl 43 (.tmp 7) rfl w.heap.size 0 rfl (ints .i64 c) A HA.out _ HC'.out Try.underlying43 rfl 16 (by kernel_rfl) hcl'.out ?_)
  go_loopw [3, 4, 9] (fun ov cv iv wr => ∃ (k m : Nat) (V : Int) (a2 : Option Addr) (c2 : Nat), k ≤ 16 ∧ iv = .int .i64 k ∧ cv = .int .i64 V ∧ ov = .slice a2 m c2 ∧ Hid (m = (codesTo c k).length ∧ V = valS c k) ∧ Hid (wr.ownsRow w.heap.size 102 2 (.slice a2 m c2) m (bitsC (codesTo c k))) ∧ Hid (Below w.heap.size w wr)) (fun _ _ iv _ => 16 - (intOf iv).toNat)
  case atStart => exact ⟨0, 0, 0, none, 0, by omega, rfl, rfl, rfl, Lib.hid ⟨rfl, rfl⟩, Lib.hid (own_nil _ _ _ _), hb1'⟩
  case round =>
    obtain ⟨k, m, V, a2, c2, hk, rfl, rfl, rfl, hmV, hown, hbel⟩ := hrel
    by_cases hlt : k < 16
    · obtain ⟨x, hx⟩ : ∃ x, c[k]? = some x := ⟨_, List.getElem?_eq_getElem (by rw [hc'.out]; exact hlt)⟩
      have hxd : c.getD k 0 = x := by rw [List.getD_eq_getElem?_getD, hx]; rfl
      have hik := hix'.out k x hx hlt; obtain ⟨v0, v1, v2, _⟩ := hok'.out.val hlt; have hsm := hok'.out.small hlt; have hp16 : (2 : Int) ^ (k + 1) ≤ 2 ^ 16 := by exact_mod_cast Nat.pow_le_pow_right (by decide : 0 < 2) (by omega)
      rw [hxd, ← hmV.out.2] at hsm; rw [hxd] at v1 v2; rw [← hmV.out.2] at v0; have hml := codes_le hok'.out (show k ≤ 16 by omega); rw [← hmV.out.1] at hml; have hV : 0 ≤ V ∧ V + x < 65536 := by omega
      obtain ⟨n, rfl⟩ : ∃ n : Nat, x = n := ⟨x.toNat, by omega⟩; obtain ⟨hV1, hV2⟩ := hV; clear hsm hp16 v0 v1; have hx' := Lib.hid hx; have hxd' := Lib.hid hxd; clear hx hxd
      go_wp2
      go_loopw [3, 4, 14] (fun ov cv jv wx => ∃ (j : Nat) (a3 : Option Addr) (c3 : Nat), j ≤ n ∧ jv = .int .i64 j ∧ cv = .int .i64 (V + j) ∧ ov = .slice a3 (m + j) c3 ∧ Hid (wx.ownsRow w.heap.size 102 2 (.slice a3 (m + j) c3) (m + j) (bitsC (codesTo c k ++ (lvlS c k).take j))) ∧ Hid (Below w.heap.size w wx)) (fun _ _ jv _ => n - (intOf jv).toNat)
      case atStart => exact ⟨0, a2, c2, by omega, rfl, by simp, by simp, Lib.hid (by simpa using hown.out), hbel⟩
      case round =>
        obtain ⟨j, a3, c3, hj, rfl, rfl, rfl, ho3, hb3⟩ := hrel
        by_cases hjl : j < n
        · have hsz := hb3.out.size
          have hsn : bitsC (codesTo c k ++ (lvlS c k).take (j + 1)) = bitsC (codesTo c k ++ (lvlS c k).take j) ++ [.int .i64 (V + j), .int .i64 (k + 1 : Nat)] := by
            rw [lvlS_take (by rw [hxd'.out]; omega), ← List.append_assoc, bitsC_app _ [_], ← hmV.out.2]; rfl
          have hsn2 : bitsC (codesTo c k ++ (lvlS c k).take (j + 1)) = bitsC (codesTo c k ++ (lvlS c k).take j) ++ (#[Value.int .i64 (V + j), .int .i64 ((k : Int) + 1)]).toList := hsn; clear hsn; have hsz' := Lib.hid hsz; have hsn2' := Lib.hid hsn2; clear hsz hsn2
          go_wp2_with (at_builtin; refine wpList_app_lit rfl _ _ 106 rfl w.heap.size 102 i1 _ 2 16 Try.underlying106 hi hz0 hz1 hz2 rfl (by decide) _ (m + j) _ rfl ho3.out #[.int .i64 (V + j), .int .i64 ((k : Int) + 1)] rfl rfl (by simp [Value.oneCell']) (by omega) (by decide) w hb3.out hsz'.out ?_; intro a5 c5 w5 ho5 hb5; have Ho5 := Lib.hid ho5; have Hb5 := Lib.hid hb5; clear ho5 hb5)
          refine ⟨⟨_, _, _, ⟨j + 1, by omega, by go_num, by go_num, a5, c5, rfl, Lib.hid (by rw [hsn2'.out]; exact Ho5.out)⟩, rfl, rfl, rfl⟩, ?_⟩
          simp [intOf]; omega
        · obtain rfl : j = n := by omega
          have ht : (lvlS c k).take j = lvlS c k := List.take_of_length_le (by rw [lvlS_len, hxd'.out]; omega); rw [ht, ← codesTo_succ] at ho3; have hm2 : m + j = (codesTo c (k + 1)).length := by rw [codesTo_succ, List.length_append, ← hmV.out.1, lvlS_len, hxd'.out]; omega
          have hv2 : (V + j) * 2 = valS c (k + 1) := by show _ = 2 * (valS c k + c.getD k 0); rw [← hmV.out.2, hxd'.out]; omega
          have ht' := Lib.hid ht; have hm2' := Lib.hid hm2; have hv2' := Lib.hid hv2; clear ht hm2 hv2
          go_wp2
          go_roundw
          case rel => exact ⟨k + 1, m + j, (V + j) * 2, a3, c3, by omega, by go_num, by go_num, rfl, Lib.hid ⟨hm2'.out, hv2'.out⟩, ho3, hb3⟩
          case measure => simp [intOf]; omega
    · obtain rfl : k = 16 := by omega
      have h1 := hmV.out.1; have h2 := hown.out; rw [h1] at h2; clear hown; have h1' := Lib.hid h1; have h2' := Lib.hid h2; clear h1 h2
      go_wp2
      go_ret
      refine ⟨a2, c2, ?_, h2'.out, hbel.out⟩; rw [h1'.out]; rfl
end Go.Proofs.Ytpjopeojeglogaa
