/- Chapter 14: may a table of codes be told: the document. -/
import Derived.Test.YtpjopeojeglogaaCd24
namespace Go.Proofs.Ytpjopeojeglogaa
open Go.RowKit Tt
set_option linter.unusedVariables false
set_option linter.unusedSimpArgs false

theorem cOk_cnt {c : Cdr} {k : Nat} {x : Int} (h : c.2.2.1[k]? = some x) (hx : 255 < x) : cOk c = false := by
  have h1 : c.2.2.1.all (fun n => decide (n ≤ 255)) = false := List.all_eq_false.2 ⟨x, List.mem_of_getElem? h, by simp; omega⟩; unfold cOk; rw [h1, Bool.and_false]
theorem cOk_byt {c : Cdr} (h : cOk c = true) (hl : c.2.2.1.length = 16) : (0 ≤ c.1 ∧ c.1 ≤ 1) ∧ (0 ≤ c.2.1 ∧ c.2.1 ≤ 3) ∧ (∀ x ∈ c.2.2.1, 0 ≤ x ∧ x ≤ 255) ∧ (∀ x ∈ c.2.2.2, 0 ≤ x ∧ x ≤ 255) := by
  rw [cOk_split] at h; simp only [Bool.and_eq_true, decide_eq_true_eq] at h; obtain ⟨h1, h2, h3, h4⟩ := h; refine ⟨by omega, by omega, fun x hx => ⟨(cnt_nonneg h3 hl x hx).1, ?_⟩, sym_byt h3⟩; have := List.all_eq_true.1 h4 x hx
  rwa [decide_eq_true_eq] at this
set_option maxRecDepth 20000 in
set_option maxHeartbeats 2000000 in
theorem rcoder_any (m : CdM) (B : Array Value) (hB : (cMC m).toArray = B) (w : World) (hm : CdOk w m) :
    Calls Try.prog 117 #[.agg B] w fun e w' => e = .returned (.bool (cOk m.1)) ∧ Below w.heap.size w w' := by
  obtain ⟨Q, hQ⟩ : ∃ Q, cOk m.1 = Q := ⟨_, rfl⟩; rw [hQ]; have hsp := cOk_split (c := m.1); rw [hQ] at hsp; have b1 := Blk.new w 165 B; have hb1 := (Below.refl w.heap.size w).alloc (Nat.le_refl _) (.cells B 165); obtain ⟨W1, hW1⟩ : ∃ W1, w.alloc (.cells B 165) = W1 := ⟨_, rfl⟩; rw [hW1] at b1 hb1; obtain ⟨⟨cl, id, cnt, ss⟩, sa, sn, sc⟩ := m; have hm1 := hm.mono hb1; have hlen := hm.len; have hfew := hm.few; have hcs := fun W (b : Blk W w.heap.size 165 B) => cB_cells (m := ((cl, id, cnt, ss), sa, sn, sc)) hlen (hB ▸ b); have hcn := fun k x (h : cnt[k]? = some x) (hx : 255 < x) => (cOk_cnt (c := (cl, id, cnt, ss)) h hx); simp only at hsp hcs hlen hfew; have hB' := Lib.hid hB; have b1' := Lib.hid b1; have hb1' := Lib.hid hb1; have hW1' := Lib.hid hW1; have hQ' := Lib.hid hQ; have hsp' := Lib.hid hsp; have hm' := Lib.hid hm; have hm1' := Lib.hid hm1; have hlen' := Lib.hid hlen; have hfew' := Lib.hid hfew; have hcs' := Lib.hid hcs; have hcn' := Lib.hid hcn; clear hB b1 hb1 hW1 hQ hsp hm hm1 hlen hfew hcs hcn
  go_enter Try.func117, Try.ntmps117
  go_upto_region 1 with fail
  rw [hW1'.out]
  go_wp2
  go_loopw [3] (fun iv wr => ∃ (k : Nat), k ≤ 16 ∧ iv = .int .i64 k ∧ Hid (∀ (j : Nat) (x : Int), j < k → cnt[j]? = some x → x ≤ 255) ∧ Hid (Qt W1 wr)) (fun iv _ => 16 - (intOf iv).toNat)
  case atStart => exact ⟨0, by omega, rfl, Lib.hid (fun j x h => by omega), Lib.hid (Qt.refl _)⟩
  case round =>
    obtain ⟨k, hk, rfl, hall, hq⟩ := hrel; obtain ⟨dq, rfl⟩ := hq.out.ex; have hbel := hb1'.out.trans (Qt.below ⟨dq, rfl⟩ (B := w.heap.size) (b := W1.drewN dq))
    by_cases hlt : k < 16
    · obtain ⟨x, hx⟩ : ∃ x, cnt[k]? = some x := ⟨_, List.getElem?_eq_getElem (by rw [hlen'.out]; exact hlt)⟩
      have f0 : W1.cell? ⟨w.heap.size, 2 + k, none⟩ = some (.int .i64 x) := (hcs'.out W1 b1'.out).2.2.2 k _ (by
        rw [List.getElem?_append_left (by rw [ints_len, hlen'.out]; exact hlt)]; unfold ints; rw [List.getElem?_map, hx]
        rfl)
      by_cases h1 : 255 < x
      · obtain rfl : Q = false := by rw [← hQ'.out]; exact hcn'.out k x hx h1
        have hx' := Lib.hid hx; have hbel' := Lib.hid hbel; clear hx hbel
        go_wp2
        go_ret
        exact ⟨rfl, hbel'.out⟩
      have hall2 : ∀ (j : Nat) (y : Int), j < k + 1 → cnt[j]? = some y → y ≤ 255 := fun j y hj hy => by
        rcases Nat.lt_or_ge j k with h | h
        · exact hall.out j y h hy
        · obtain rfl : j = k := by omega
          rw [hx] at hy; injection hy with hy
          omega
      have hx' := Lib.hid hx; have hbel' := Lib.hid hbel; have hall2' := Lib.hid hall2; clear hx hbel hall2
      go_wp2
      go_roundw
      case rel => exact ⟨k + 1, by omega, by go_num, hall2', Lib.hid ⟨_, rfl⟩⟩
      case measure => simp [intOf]; omega
    · have hk16 : k = 16 := by omega
      have h4 : cnt.all (fun n => decide (n ≤ 255)) = true := all_of_get fun j x hx => by
        rw [decide_eq_true_eq]; exact hall.out j x (by rw [hk16, ← hlen'.out]; exact (List.getElem?_eq_some_iff.1 hx).1) hx
      have hsp2 := hsp'.out; rw [h4, Bool.and_true] at hsp2; obtain ⟨c0, c1, c18, hall9⟩ := hcs'.out W1 b1'.out; clear h4
      by_cases g1 : cl < 0
      · obtain rfl : Q = false := by rw [hsp2, decide_eq_false (by omega)]; rfl
        have hk16' := Lib.hid hk16; have hsp2' := Lib.hid hsp2; have hbel' := Lib.hid hbel; have hall9' := Lib.hid hall9; clear hk16 hsp2 hbel hall9
        go_wp2
        go_ret
        exact ⟨rfl, hbel'.out⟩
      by_cases g2 : 1 < cl
      · obtain rfl : Q = false := by rw [hsp2, decide_eq_false (by omega)]; rfl
        have hk16' := Lib.hid hk16; have hsp2' := Lib.hid hsp2; have hbel' := Lib.hid hbel; have hall9' := Lib.hid hall9; clear hk16 hsp2 hbel hall9
        go_wp2
        go_ret
        exact ⟨rfl, hbel'.out⟩
      rw [decide_eq_true (p := 0 ≤ cl ∧ cl < 2) (by omega), Bool.true_and] at hsp2
      by_cases g3 : id < 0
      · obtain rfl : Q = false := by rw [hsp2, decide_eq_false (by omega)]; rfl
        have hk16' := Lib.hid hk16; have hsp2' := Lib.hid hsp2; have hbel' := Lib.hid hbel; have hall9' := Lib.hid hall9; clear hk16 hsp2 hbel hall9
        go_wp2
        go_ret
        exact ⟨rfl, hbel'.out⟩
      by_cases g4 : 3 < id
      · obtain rfl : Q = false := by rw [hsp2, decide_eq_false (by omega)]; rfl
        have hk16' := Lib.hid hk16; have hsp2' := Lib.hid hsp2; have hbel' := Lib.hid hbel; have hall9' := Lib.hid hall9; clear hk16 hsp2 hbel hall9
        go_wp2
        go_ret
        exact ⟨rfl, hbel'.out⟩
      rw [decide_eq_true (p := 0 ≤ id ∧ id < 4) (by omega), Bool.true_and] at hsp2; obtain ⟨H, hH⟩ : ∃ H, (ints .i64 cnt ++ [Value.slice sa sn sc]).toArray = H := ⟨_, rfl⟩; have HM := rmay04_any cnt ss sa sn sc (W1.drewN dq) hlen'.out (hm'.out.sl.mono hbel) (by have h : sn ≤ 1000 := hfew'.out; omega); unfold hV at HM; rw [hH, ← hsp2] at HM; have hl17 : (ints .i64 cnt ++ [Value.slice sa sn sc]).length = 17 := by simp [ints_len, hlen'.out]
      have hall8 : ∀ j v, (ints .i64 cnt ++ [Value.slice sa sn sc])[j]? = some v → (W1.drewN dq).cell? ⟨w.heap.size, 2 + j, none⟩ = some v := fun j v hv => hall9 j v hv; clear hall9; have hk16' := Lib.hid hk16; have hsp2' := Lib.hid hsp2; have hbel' := Lib.hid hbel; have hall8' := Lib.hid hall8; have hH' := Lib.hid hH; have HM' := Lib.hid HM; have hl17' := Lib.hid hl17; clear hk16 hsp2 hbel hall8 hH HM hl17
      go_wp2_with (refine wpList_load_atW rfl 45 (.tmp 33) rfl w.heap.size 2 rfl (ints .i64 cnt ++ [Value.slice sa sn sc]) H hH'.out _ hall8'.out Try.underlying45 rfl 17 infoH17 hl17'.out ?_)
      refine HM'.out.mono ?_; rintro e w5 ⟨rfl, hb5⟩; have hbw5 := hbel'.out.trans (hb5.mono hbel'.out.size); clear hb5; have hbw5' := Lib.hid hbw5; clear hbw5
      go_wp2
      go_ret
      exact ⟨rfl, hbw5'.out⟩
end Go.Proofs.Ytpjopeojeglogaa
