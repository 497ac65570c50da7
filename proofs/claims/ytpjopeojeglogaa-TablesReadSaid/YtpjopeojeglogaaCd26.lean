/- Chapter 14: ReadQuants; slices.Equal over bytes: the program. -/
import Derived.Test.YtpjopeojeglogaaCd25
namespace Go.Proofs.Ytpjopeojeglogaa
open Go.RowKit Tt
set_option linter.unusedVariables false
set_option linter.unusedSimpArgs false

theorem readQuants_any (a : Option Addr) (n c : Nat) (z : List Int) (w : World) (hs : Sl w a n c 1 (ints .u8 z)) (hlt : ∀ x, a = some x → x.block < w.heap.size) (hz : Byt z) (hn : n ≤ 100000) :
    Calls Try.prog 46 #[.slice a n c] w (ReadR 172 65 qC (readAll takeQ (n + 1) z) w) := by
  have HP := preadQ_any a n c z w hs hlt hz hn; obtain ⟨T, hT⟩ : ∃ T, readAll takeQ (n + 1) z = T := ⟨_, rfl⟩; rw [hT] at HP ⊢; have HP' := Lib.hid HP; have hT' := Lib.hid hT; have hs' := Lib.hid hs; have hlt' := Lib.hid hlt; have hz' := Lib.hid hz; clear HP hT hs hlt hz
  go_enter Try.func46, Try.ntmps46
  go_wp2_with fail
  refine HP'.out.mono ?_; intro e w2 h2; obtain ⟨hb, a2, m2, c2, rfl, ho, hm⟩ := h2; have hb' := Lib.hid hb; have ho' := Lib.hid ho; have hm' := Lib.hid hm; clear hb ho hm
  go_wp2
  go_ret2
  exact ⟨hb'.out, a2, m2, c2, rfl, ho'.out, hm'.out⟩
theorem take_eq_snoc {x y : List Int} {k : Nat} (h : x.take k = y.take k) {u : Int} (hx : x[k]? = some u) (hy : y[k]? = some u) : x.take (k + 1) = y.take (k + 1) := by
  rw [List.take_add_one, List.take_add_one, h, hx, hy]
set_option maxRecDepth 20000 in
set_option maxHeartbeats 2000000 in
theorem bsame_any (a b : Option Addr) (n c m d : Nat) (x y : List Int) (w : World) (hx : Sl w a n c 1 (ints .u8 x)) (hy : Sl w b m d 1 (ints .u8 y)) :
    Calls Try.prog 132 #[.slice a n c, .slice b m d] w fun e w' => e = .returned (.bool (decide (x = y))) ∧ Qt w w' := by
  have hxl := hx.ilen; have hyl := hy.ilen; have hxm := hx.max; have hxe := hx.le; obtain ⟨R, hR⟩ : ∃ R, decide (x = y) = R := ⟨_, rfl⟩; rw [hR]; have hq0 := Qt.refl w
  by_cases hnm : n = m
  · subst hnm
    have hnb : ((n : Int) != n) = false := by simp
    have hx' := Lib.hid hx; have hy' := Lib.hid hy; have hxl' := Lib.hid hxl; have hyl' := Lib.hid hyl; have hR' := Lib.hid hR; have hq0' := Lib.hid hq0; clear hx hy hxl hyl hR hq0
    go_enter Try.func132, Try.ntmps132
    go_wp2
    go_loopw [5, 13] (fun _ iv wr => ∃ (k : Nat), k ≤ n ∧ iv = .int .i64 k ∧ Hid (x.take k = y.take k) ∧ Hid (Qt w wr)) (fun _ iv _ => n - (intOf iv).toNat)
    case atStart => exact ⟨0, by omega, rfl, Lib.hid rfl, hq0'⟩
    case round =>
      obtain ⟨k, hk, rfl, heq, hq⟩ := hrel; obtain ⟨dq, rfl⟩ := hq.out.ex
      by_cases hlt : k < n
      · obtain ⟨u, hu⟩ : ∃ u, x[k]? = some u := ⟨_, List.getElem?_eq_getElem (by rw [hxl'.out]; exact hlt)⟩
        obtain ⟨v, hv⟩ : ∃ v, y[k]? = some v := ⟨_, List.getElem?_eq_getElem (by rw [hyl'.out]; exact hlt)⟩; have hud : x.getD k 0 = u := by rw [List.getD_eq_getElem?_getD, hu]; rfl
        have hvd : y.getD k 0 = v := by rw [List.getD_eq_getElem?_getD, hv]; rfl
        obtain ⟨ba, oa, rfl, _, fa⟩ := hx'.out.at hlt; obtain ⟨bb, ob, rfl, _, fb⟩ := hy'.out.at hlt; have f0 := fa k _ (ints_get (by rw [hxl'.out]; exact hlt)); have f1 := fb k _ (ints_get (by rw [hyl'.out]; exact hlt)); rw [hud] at f0; rw [hvd] at f1
        by_cases huv : u = v
        · subst huv
          have hb : (u != u) = false := by simp
          have hn2 := take_eq_snoc heq.out hu hv; clear fa fb; have hu' := Lib.hid hu; have hv' := Lib.hid hv; have hud' := Lib.hid hud; have hvd' := Lib.hid hvd; have hn2' := Lib.hid hn2; clear hu hv hud hvd hn2
          go_wp2
          go_quiet (fail)
          go_wp2
          go_roundw
          case rel => exact ⟨k + 1, by omega, by go_num, hn2', Lib.hid ⟨_, rfl⟩⟩
          case measure => simp [intOf]; omega
        · have hb : (u != v) = true := by simpa using huv
          obtain rfl : R = false := by
            rw [← hR'.out]; exact decide_eq_false fun h => huv (by rw [h, hv] at hu; injection hu with hu; exact hu.symm)
          clear fa fb huv; have hu' := Lib.hid hu; have hv' := Lib.hid hv; have hud' := Lib.hid hud; have hvd' := Lib.hid hvd; clear hu hv hud hvd
          go_wp2
          go_quiet (fail)
          go_wp2
          go_ret
          exact ⟨rfl, hq.out.trans ⟨_, rfl⟩⟩
      · obtain rfl : R = true := by
          rw [← hR'.out]; have h := heq.out; rw [List.take_of_length_le (by rw [hxl'.out]; omega), List.take_of_length_le (by rw [hyl'.out]; omega)] at h; exact decide_eq_true h
        go_wp2
        go_ret
        exact ⟨rfl, hq.out⟩
  · have hnb : ((n : Int) != m) = true := by simp; omega
    obtain rfl : R = false := by
      rw [← hR]; exact decide_eq_false fun h => hnm (by rw [← hxl, ← hyl, h])
    clear hnm; have hx' := Lib.hid hx; have hy' := Lib.hid hy; have hxl' := Lib.hid hxl; have hyl' := Lib.hid hyl; have hR' := Lib.hid hR; have hq0' := Lib.hid hq0; clear hx hy hxl hyl hR hq0
    go_enter Try.func132, Try.ntmps132
    go_wp2
    go_ret
    exact ⟨rfl, hq0'.out⟩
end Go.Proofs.Ytpjopeojeglogaa
