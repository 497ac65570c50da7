/- The document's part: rows of bytes, values and tags compared; made anew. | The document's part: a row of tags made anew; two compared. | The document's part: two rows of tags that are the same; Drop, Find. -/
import Derived.Test.YtnhcmibngcmebaaTgB
namespace Go.Proofs.Ytnhcmibngcmebaa
open Go.RowKit Tt
set_option linter.unusedVariables false
set_option linter.unusedSimpArgs false

set_option maxHeartbeats 400000 in
theorem same01_eq (a a' : Option Addr) (n c c' : Nat) (x : List Int) (w : World) (hx : Sl w a n c 1 (ints .u8 x)) (hy : Sl w a' n c' 1 (ints .u8 x)) :
    Calls Try.prog 47 #[.slice a n c, .slice a' n c'] w fun e w' => e = .returned (.bool true) ∧ Qt w w' := by
  have hxl : x.length = n := hx.ilen
  have hn := hx.le
  have hm := hx.max
  have hxl' := Lib.hid hxl
  clear hxl
  have hne : ((n : Int) != (n : Int)) = false := by simp
  go_enter Try.func47, Try.ntmps47
  go_wp2
  go_loopw [4, 5] (fun r i wr => ∃ k : Nat, k ≤ n ∧ i = .int .i64 k ∧ r = .bool false ∧ Qt w wr) (fun _ i _ => n - (intOf i).toNat)
  case atStart => exact ⟨0, Nat.zero_le _, rfl, rfl, Qt.refl _⟩
  case round =>
    obtain ⟨k, hk, rfl, rfl, hq⟩ := hrel
    by_cases hlt : k < n
    · obtain ⟨b, o, rfl, hbx, cx⟩ := (hx.qt hq).at hlt
      obtain ⟨b', o', rfl, hby, cy⟩ := (hy.qt hq).at hlt
      have c1 := cx k _ (ints_get (by rw [hxl'.out]; exact hlt))
      have c2 := cy k _ (ints_get (by rw [hxl'.out]; exact hlt))
      clear cx cy
      have hb : (x.getD k 0 != x.getD k 0) = false := by simp
      generalize x.getD k 0 = u at *
      go_wp2
      go_quiet (fail)
      go_wp2
      go_roundw
      case rel => exact ⟨k + 1, by omega, by go_num, rfl, hq.step _⟩
      case measure => simp [intOf]; omega
    · go_wp2
      go_ret
      exact ⟨rfl, hq⟩
set_option maxHeartbeats 400000 in
theorem own01_any (a : Option Addr) (n c : Nat) (x : List Int) (w : World) (hx : Sl w a n c 1 (ints .u8 x)) (hn : n ≤ 140737488355328) :
    Calls Try.prog 64 #[.slice a n c] w fun e w' => ∃ a' c', e = .returned (.slice a' n c') ∧ w'.ownsRow w.heap.size 5 1 (.slice a' n c') n (ints .u8 x) ∧ Below w.heap.size w w' := by
  obtain ⟨i0, hi, hz0, hz1, hz2⟩ := info_parts infoB
  go_enter Try.func64, Try.ntmps64
  go_wp2_with (at_builtin; refine wpList_app rfl _ _ 22 rfl w.heap.size 5 i0 _ 1 1 Try.underlying22 hi hz0 hz1 hz2 rfl (by decide) _ 0 [] rfl (own_new w w.heap.size 5 1 0 #[] (Nat.le_refl _) (by unfold maxLen; omega) rfl) a n c _ rfl (sl_alloc hx _) ints_one (by omega) (by decide) (by simp) ?_; intro a' c' w1 hown hbel hgrow)
  rw [Nat.zero_add, List.nil_append] at hown
  clear hgrow
  go_wp2
  go_ret
  exact ⟨a', c', ret_eq rfl, hown, ((Below.refl _ _).alloc (Nat.le_refl _) _).trans hbel⟩
set_option maxHeartbeats 400000 in
theorem own18_any (y k : Int) (a : Option Addr) (n c : Nat) (d : List Int) (w : World) (hs : Sl w a n c 1 (ints .u8 d)) (hl : n ≤ 1000000) :
    Calls Try.prog 41 #[.agg #[.int .i64 y, .int .i64 k, .slice a n c]] w fun e w' => ∃ a' c', e = .returned (.agg #[.int .i64 y, .int .i64 k, .slice a' n c']) ∧ w'.ownsRow w.heap.size 5 1 (.slice a' n c') n (ints .u8 d) ∧ Below w.heap.size w w' := by
  have hs' := Lib.hid hs
  clear hs
  go_enter Try.func41, Try.ntmps41
  go_wp2_with fail
  have hb0 := ((Below.refl w.heap.size w).alloc (Nat.le_refl _) (.cells #[.int .i64 y, .int .i64 k, .slice a n c] 24)).alloc (by simp) (.cells #[.int .i64 0, .int .i64 0, .slice none 0 0] 24)
  have b0 : Blk ((w.alloc (.cells #[.int .i64 y, .int .i64 k, .slice a n c] 24)).alloc (.cells #[.int .i64 0, .int .i64 0, .slice none 0 0] 24)) w.heap.size 24 #[.int .i64 y, .int .i64 k, .slice a n c] := (heap_old _ _ (by simp)).trans (heap_new _ _)
  have b1 : Blk ((w.alloc (.cells #[.int .i64 y, .int .i64 k, .slice a n c] 24)).alloc (.cells #[.int .i64 0, .int .i64 0, .slice none 0 0] 24)) (w.heap.size + 1) 24 #[.int .i64 0, .int .i64 0, .slice none 0 0] := heap_new' _ _ (by simp)
  generalize (w.alloc (.cells #[.int .i64 y, .int .i64 k, .slice a n c] 24)).alloc (.cells #[.int .i64 0, .int .i64 0, .slice none 0 0] 24) = w1 at *
  have hlt1 := b1.lt
  obtain ⟨Ty, f, hne, hbel, hsurj⟩ := below_worlds (w.heap.size + 1) w1
  have q0 : ∀ s, (f s).cell? ⟨w.heap.size, 0, none⟩ = some (.int .i64 y) := fun s => (Blk.mono b0 (hbel s) (by omega)).cell rfl
  have q1 : ∀ s, (f s).cell? ⟨w.heap.size, 1, none⟩ = some (.int .i64 k) := fun s => (Blk.mono b0 (hbel s) (by omega)).cell rfl
  have q2 : ∀ s, (f s).cell? ⟨w.heap.size, 2, none⟩ = some (.slice a n c) := fun s => (Blk.mono b0 (hbel s) (by omega)).cell rfl
  have HS := Lib.hid (hsurj _ ((Below.refl _ _).drew))
  have HD := Lib.hid ((Below.refl w1.heap.size w1).drew)
  have hbel' := Lib.hid hbel
  have hsurj' := Lib.hid hsurj
  have hb0' := Lib.hid hb0
  have b0' := Lib.hid b0
  have b1' := Lib.hid b1
  clear hbel hsurj hb0 b0 b1
  refine held_begin (S := fun W => ∃ s, W = f s) (by kernel_rfl) 9 rfl ?_
  refine held_take [0, 1, 2, 3, 4, 5] 3 (by kernel_rfl) (fun d _ _ _ _ h => by cases d <;> exact h) (by kernel_rfl) (by kernel_rfl) (by kernel_rfl) HS.out ?_
  simp only [pickL, List.map_cons, List.map_nil, List.getD_cons_succ, List.getD_cons_zero]
  iterate 6 (go_big_quiet_step (fail))
  refine wpQuiet_nil ?_
  refine held_one 6 2 (by kernel_rfl) (by kernel_rfl) ?_
  simp only [pickL, List.map_cons, List.map_nil, List.getD_cons_succ, List.getD_cons_zero]
  go_wp2_with fail
  refine (own01_any a n c d _ (hs'.out.mono (hb0'.out.trans (HD.out.mono hb0'.out.size))) (by omega)).mono ?_
  rintro e w2 ⟨a5, c5, rfl, ho, hb2⟩
  have hb := HD.out.trans (hb2.mono HD.out.size)
  have hbb := hb0'.out.trans (hb.mono hb0'.out.size)
  have b1 := b1'.out.late hb
  have HS := Lib.hid (hsurj'.out _ (hb.mono (Nat.le_of_lt hlt1)))
  have hb' := Lib.hid hb
  have hb2' := Lib.hid hb2
  have hbb' := Lib.hid hbb
  have b1' := Lib.hid b1
  have ho' := Lib.hid ho
  clear hb hb2 hbb b1 ho
  go_wp2_with fail
  first | refine Mid.mk ⟨HS.out, ?_⟩ | refine Mid.mk ?_
  refine held_take [7] 1 (by kernel_rfl) (fun d _ _ _ _ h => by cases d <;> exact h) (by kernel_rfl) (by kernel_rfl) (by kernel_rfl) HS.out ?_
  simp only [pickL, List.map_cons, List.map_nil, List.getD_cons_succ, List.getD_cons_zero]
  iterate 1 (go_big_quiet_step (fail))
  refine wpQuiet_nil ?_
  refine held_one 8 0 (by kernel_rfl) (by kernel_rfl) ?_
  simp only [pickL, List.map_cons, List.map_nil, List.getD_cons_succ, List.getD_cons_zero]
  have p0 : w2.cell? ⟨w.heap.size + 1, 0, none⟩ = some (.int .i64 0) := b1'.out.cell rfl
  have p1 : w2.cell? ⟨w.heap.size + 1, 1, none⟩ = some (.int .i64 0) := b1'.out.cell rfl
  have p2 : w2.cell? ⟨w.heap.size + 1, 2, none⟩ = some (.slice none 0 0) := b1'.out.cell rfl
  have y0 := b1'.out.frozen 0
  have y1 := b1'.out.frozen 1
  have y2 := b1'.out.frozen 2
  go_wp2_with fail
  have HS := Lib.hid (hsurj'.out _ (below_set3 (hb'.out.mono (Nat.le_of_lt hlt1)) (Nat.le_refl _) (.int .i64 y) (.int .i64 k) (.slice a5 n c5)))
  refine Mid.mk ⟨HS.out, ?_⟩
  refine held_last (by kernel_rfl) ?_
  go_wp2_with fail
  refine bodyPost_ret (results_cell_row rfl _ _ (w.heap.size + 1) 24 #[.int .i64 y, .int .i64 k, .slice a5 n c5] (0, 0) _ rfl (b1'.out.set3 _ _ _) Try.underlying24 rfl (by kernel_rfl)) rfl ?_
  refine ⟨_, _, rfl, own_mono (own_set3 ho'.out (Nat.lt_of_lt_of_le hlt1 HD.out.size) _ _ _) (Nat.le_trans hb0'.out.size HD.out.size), below_set3 hbb'.out (by omega) _ _ _⟩
theorem same18_eq (y k : Int) (a a' : Option Addr) (n c c' : Nat) (d : List Int) (w : World) (hs : Sl w a n c 1 (ints .u8 d)) (hs2 : Sl w a' n c' 1 (ints .u8 d)) :
    Calls Try.prog 27 #[.agg #[.int .i64 y, .int .i64 k, .slice a n c], .agg #[.int .i64 y, .int .i64 k, .slice a' n c']] w fun e w' => e = .returned (.bool true) ∧ Below w.heap.size w w' := by
  have h1 : (y == y) = true := by simp
  have h2 : (k == k) = true := by simp
  have hs' := Lib.hid hs
  have hs2' := Lib.hid hs2
  clear hs hs2
  go_enter Try.func27, Try.ntmps27
  go_wp2_with fail
  have hb0 := ((Below.refl w.heap.size w).alloc (Nat.le_refl _) (.cells #[.int .i64 y, .int .i64 k, .slice a n c] 24)).alloc (by simp) (.cells #[.int .i64 y, .int .i64 k, .slice a' n c'] 24)
  refine (same01_eq a a' n c c' d _ (hs'.out.mono hb0) (hs2'.out.mono hb0)).mono ?_
  rintro e w2 ⟨rfl, hq⟩
  have hb := hb0.trans (hq.below w.heap.size)
  have hb' := Lib.hid hb
  have hq' := Lib.hid hq
  have hb0' := Lib.hid hb0
  clear hb hq hb0
  go_wp2_with fail
  go_ret
  exact ⟨rfl, hb'.out⟩
end Go.Proofs.Ytnhcmibngcmebaa

namespace Go.Proofs.Ytnhcmibngcmebaa
open Go.RowKit Tt
set_option linter.unusedVariables false
set_option linter.unusedSimpArgs false

theorem To.app {B : Nat} {W W' : World} {a a' : Option Addr} {n c c' : Nat} {zs : List Tz} (h : To B W a n c zs) {z : Tz} (hz : Ow B W z) (hr : W'.ownsRow B 26 4 (.slice a' (n + 1) c') (n + 1) (zc zs ++ zcl z)) (hg : W.grownBy W' (Value.slice a n c).ownBlock) :
    To B W' a' (n + 1) c' (zs ++ [z]) := ⟨by rw [zc_append]; simpa [zc] using hr, fun u hu => by
  rcases List.mem_append.1 hu with hu | hu
  · exact (h.each u hu).grown h.row hg
  · obtain rfl : u = z := by simpa using hu
    exact hz.grown h.row hg⟩

set_option maxRecDepth 20000 in
set_option maxHeartbeats 4000000 in
theorem owntags_any (a : Option Addr) (n c : Nat) (zs : List Tz) (w : World) (hs : Tr w a n c zs) (hl : n ≤ 1000000) (hd : ∀ z ∈ zs, z.1.2.2.2.2.1 ≤ 1000000) :
    Calls Try.prog 19 #[.slice a n c] w fun e w' => ∃ a' c' zs', e = .returned (.slice a' n c') ∧ To w.heap.size w' a' n c' zs' ∧ zs'.map tag = zs.map tag ∧ Below w.heap.size w w' := by
  have hzl := hs.len
  obtain ⟨i0, z0, hi0, hz, hz1, hz2, hz3⟩ := infoT_parts
  have hs' := Lib.hid hs
  have hd' := Lib.hid hd
  have hzl' := Lib.hid hzl
  clear hs hd hzl
  go_enter Try.func19, Try.ntmps19
  go_wp2_with fail
  go_loopw [3, 4] (fun ov iv wr => ∃ (i : Nat) (a1 : Option Addr) (c1 : Nat) (zs' : List Tz), i ≤ n ∧ iv = .int .i64 i ∧ ov = .slice a1 i c1 ∧ Hid (To w.heap.size wr a1 i c1 zs') ∧ Hid (zs'.map tag = (zs.take i).map tag) ∧ Hid (Below w.heap.size w wr)) (fun _ iv _ => n - (intOf iv).toNat)
  case atStart => exact ⟨0, none, 0, [], by omega, rfl, rfl, Lib.hid ⟨own_nil _ _ _ _, fun z hz => by cases hz⟩, Lib.hid rfl, Lib.hid (Below.refl _ _)⟩
  case round =>
    obtain ⟨i, a1, c1, zs', hin, rfl, rfl, hto, htag, hb⟩ := hrel
    by_cases hi : i < n
    · have hil : (i : Int) < (n : Int) := by omega
      have hw1 : IntKind.i64.wrap ((i : Int) + 1) = i + 1 := by rw [IntKind.wrap_i64]; omega
      have hdn := hd'.out _ (getD_mem (zs := zs) (i := i) (by rw [hzl'.out]; exact hi))
      have hnext : (zs.take (i + 1)).map tag = (zs.take i).map tag ++ [tag (zs.getD i tz0)] := by
        rw [List.take_succ_eq_append_getElem (by rw [hzl'.out]; exact hi), List.map_append, List.getD_eq_getElem?_getD, List.getElem?_eq_getElem (by rw [hzl'.out]; exact hi)]; rfl
      obtain ⟨b, o, rfl, hblt, f0, f1, f2, f3, hrd⟩ := hs'.out.at hi
      obtain ⟨⟨⟨y, t, k, xa, xn, xc⟩, d⟩, hzi⟩ : ∃ z, zs.getD i tz0 = z := ⟨_, rfl⟩
      rw [hzi] at f0 f1 f2 f3 hrd hdn hnext
      change Sl w xa xn xc 1 (ints .u8 d) at hrd
      change xn ≤ 1000000 at hdn
      simp only at f0 f1 f2 f3
      obtain ⟨Ty, f, hne, hbel, hsurj⟩ := below_worlds w.heap.size w
      have q0 : ∀ s, (f s).cell? ⟨b, o + i * 4, none⟩ = some (.int .i64 y) := fun s => late (hbel s) hblt f0
      have q1 : ∀ s, (f s).cell? ⟨b, o + i * 4 + 1, none⟩ = some (.int .i64 t) := fun s => late (hbel s) hblt f1
      have q2 : ∀ s, (f s).cell? ⟨b, o + i * 4 + 2, none⟩ = some (.int .i64 k) := fun s => late (hbel s) hblt f2
      have q3 : ∀ s, (f s).cell? ⟨b, o + i * 4 + 3, none⟩ = some (.slice xa xn xc) := fun s => late (hbel s) hblt f3
      have HS := Lib.hid (hsurj _ (hb.out.drew))
      have HD := Lib.hid ((Below.refl wr.heap.size wr).drew)
      clear f0 f1 f2 f3 hblt
      have hbel' := Lib.hid hbel
      have hsurj' := Lib.hid hsurj
      have hrd' := Lib.hid hrd
      have hzi' := Lib.hid hzi
      have hnext' := Lib.hid hnext
      clear hbel hsurj hrd hzi hnext
      go_wp2_with fail
      refine held_begin (S := fun W => ∃ s, W = f s) (by kernel_rfl) 16 rfl ?_
      refine held_take [0, 1, 2, 3, 4, 5, 6, 7, 8, 9, 10] 5 (by kernel_rfl) (fun d _ _ _ _ h => by cases d <;> exact h) (by kernel_rfl) (by kernel_rfl) (by kernel_rfl) HS.out ?_
      simp only [pickL, List.map_cons, List.map_nil, List.getD_cons_succ, List.getD_cons_zero]
      iterate 11 (go_big_quiet_step (fail))
      refine wpQuiet_nil ?_
      refine held_one 11 4 (by kernel_rfl) (by kernel_rfl) ?_
      simp only [pickL, List.map_cons, List.map_nil, List.getD_cons_succ, List.getD_cons_zero]
      go_wp2_with fail
      have hrw := hrd'.out.mono (hb.out.trans (HD.out.mono hb.out.size))
      refine (own18_any t k xa xn xc d _ hrw hdn).mono ?_
      rintro e w2 ⟨a6, c6, rfl, ho2, hb2⟩
      have hb12 := HD.out.trans (hb2.mono HD.out.size)
      have hbw := hb.out.trans (hb12.mono hb.out.size)
      have hto2 := hto.out.later hb12
      have ho3 := own_mono ho2 (show w.heap.size ≤ _ from Nat.le_trans hb.out.size HD.out.size)
      have HS := Lib.hid (hsurj'.out _ hbw)
      clear ho2 hb2 hb12 hrw
      have hbw' := Lib.hid hbw
      have hto2' := Lib.hid hto2
      have ho3' := Lib.hid ho3
      clear hbw hto2 ho3
      go_wp2_with fail
      first | refine Mid.mk ⟨HS.out, ?_⟩ | refine Mid.mk ?_
      refine held_take [12] 3 (by kernel_rfl) (fun d _ _ _ _ h => by cases d <;> exact h) (by kernel_rfl) (by kernel_rfl) (by kernel_rfl) HS.out ?_
      simp only [pickL, List.map_cons, List.map_nil, List.getD_cons_succ, List.getD_cons_zero]
      iterate 1 (go_big_quiet_step (fail))
      refine wpQuiet_nil ?_
      refine held_one 13 2 (by kernel_rfl) (by kernel_rfl) ?_
      simp only [pickL, List.map_cons, List.map_nil, List.getD_cons_succ, List.getD_cons_zero]
      go_wp2_with fail
      have hal := (Below.refl w2.heap.size w2).alloc (Nat.le_refl _) (.cells #[.int .i64 y, .int .i64 t, .int .i64 k, .slice a6 xn c6] 26)
      have hbw := hbw'.out.trans (hal.mono hbw'.out.size)
      have hto3 := hto2'.out.later hal
      have ho4 := own_later ho3'.out hal
      have HS := Lib.hid (hsurj'.out _ hbw)
      clear hal
      have hbw' := Lib.hid hbw
      have hto3' := Lib.hid hto3
      have ho4' := Lib.hid ho4
      clear hbw hto3 ho4
      first | refine Mid.mk ⟨HS.out, ?_⟩ | refine Mid.mk ?_
      refine held_one 14 1 (by kernel_rfl) (by kernel_rfl) ?_
      simp only [pickL, List.map_cons, List.map_nil, List.getD_cons_succ, List.getD_cons_zero]
      go_wp2_with (at_builtin; refine wpList_app rfl _ _ 27 rfl w.heap.size 26 i0 z0 4 48 Try.underlying27 hi0 hz hz1 hz2 hz3 (by decide) _ i _ rfl hto3'.out.row _ 1 1 [.int .i64 y, .int .i64 t, .int .i64 k, .slice a6 xn c6] rfl (Sl.new' _ 26 4 1 #[.int .i64 y, .int .i64 t, .int .i64 k, .slice a6 xn c6] (0, 0) (by simp) (by omega) rfl) (by simp [Value.oneCell']) (by omega) (by decide) hbw'.out.size ?_; intro a7 c7 w7 ob hb7 hg7; have Ob := Lib.hid ob; have Hg7 := Lib.hid hg7; clear ob hb7 hg7)
      have hto4 := hto3'.out.app (z := ((y, t, k, a6, xn, c6), d)) ho4'.out Ob.out Hg7.out
      have hbw := below_grown hbw'.out Hg7.out hbw'.out.size hto3'.out.row
      have HS := Lib.hid (hsurj'.out _ hbw)
      have hto4' := Lib.hid hto4
      have hbw' := Lib.hid hbw
      clear hto4 hbw
      first | refine Mid.mk ⟨HS.out, ?_⟩ | refine Mid.mk ?_
      refine held_one 15 0 (by kernel_rfl) (by kernel_rfl) ?_
      simp only [pickL, List.map_cons, List.map_nil, List.getD_cons_succ, List.getD_cons_zero]
      go_wp2_with fail
      first | refine Mid.mk ⟨HS.out, ?_⟩ | refine Mid.mk ?_
      refine held_last (by kernel_rfl) ?_
      go_wp2_with fail
      go_roundw
      case rel => exact ⟨i + 1, _, _, _, by omega, by go_num, rfl, hto4'.out, Lib.hid (by rw [List.map_append, htag.out, hnext'.out]; rfl), hbw'.out⟩
      case measure => simp [intOf]; omega
    · obtain rfl : i = n := by omega
      go_wp2
      go_ret
      exact ⟨_, _, zs', rfl, hto.out, by rw [htag.out, List.take_of_length_le (by rw [hzl'.out]; exact Nat.le_refl _)], hb.out⟩
end Go.Proofs.Ytnhcmibngcmebaa

namespace Go.Proofs.Ytnhcmibngcmebaa
open Go.RowKit Tt
set_option linter.unusedVariables false
set_option linter.unusedSimpArgs false

theorem tag_at {zs ys : List Tz} (h : zs.map tag = ys.map tag) {i : Nat} (hi : i < zs.length) : tag (zs.getD i tz0) = tag (ys.getD i tz0) := by
  have hl : zs.length = ys.length := by simpa using congrArg List.length h
  have h1 : (zs.map tag)[i]'(by simp; omega) = (ys.map tag)[i]'(by simp; omega) := by simp only [h]
  rw [List.getD_eq_getElem?_getD, List.getD_eq_getElem?_getD, List.getElem?_eq_getElem hi, List.getElem?_eq_getElem (by omega : i < ys.length)]
  simpa using h1
set_option maxRecDepth 20000 in
set_option maxHeartbeats 4000000 in
theorem tags_eq (a a' : Option Addr) (n c n' c' : Nat) (xs ys : List Tz) (w : World) (hx : Tr w a n c xs) (hy : Tr w a' n' c' ys) (h : xs.map tag = ys.map tag) :
    Calls Try.prog 24 #[.slice a n c, .slice a' n' c'] w fun e w' => e = .returned (.bool true) ∧ Below w.heap.size w w' := by
  have hxl := hx.len
  have hyl := hy.len
  have hl : xs.length = ys.length := by simpa using congrArg List.length h
  obtain rfl : n' = n := by omega
  have hne : ((n' : Int) != (n' : Int)) = false := by simp
  have hmx := hx.row.max
  have hle := hx.row.le
  have hx' := Lib.hid hx
  have hy' := Lib.hid hy
  have hxl' := Lib.hid hxl
  have hyl' := Lib.hid hyl
  have h' := Lib.hid h
  clear hx hy hxl hyl h
  clear hl
  go_enter Try.func24, Try.ntmps24
  go_wp2_with fail
  go_loopw [5] (fun iv wr => ∃ (i : Nat), i ≤ n' ∧ iv = .int .i64 i ∧ Hid (Below w.heap.size w wr)) (fun iv _ => n' - (intOf iv).toNat)
  case atStart => exact ⟨0, by omega, rfl, Lib.hid (Below.refl _ _)⟩
  case round =>
    obtain ⟨i, hin, rfl, hb⟩ := hrel
    by_cases hi : i < n'
    · have hil : (i : Int) < (n' : Int) := by omega
      have hw1 : IntKind.i64.wrap ((i : Int) + 1) = i + 1 := by rw [IntKind.wrap_i64]; omega
      obtain ⟨b, o, rfl, hblt, f0, f1, f2, f3, hrd⟩ := hx'.out.at hi
      obtain ⟨b2, o2, rfl, hblt2, g0, g1, g2, g3, hrd2⟩ := hy'.out.at hi
      have ht := tag_at h'.out (show i < xs.length by rw [hxl'.out]; exact hi)
      obtain ⟨⟨⟨y, t, k, xa, xn, xc⟩, d⟩, hzi⟩ : ∃ z, xs.getD i tz0 = z := ⟨_, rfl⟩
      obtain ⟨⟨⟨y2, t2, k2, xa2, xn2, xc2⟩, d2⟩, hzi2⟩ : ∃ z, ys.getD i tz0 = z := ⟨_, rfl⟩
      rw [hzi] at f0 f1 f2 f3 hrd ht
      rw [hzi2] at g0 g1 g2 g3 hrd2 ht
      simp only [tag, Prod.mk.injEq] at ht
      obtain ⟨rfl, rfl, rfl, rfl⟩ := ht
      change Sl w xa xn xc 1 (ints .u8 d) at hrd
      change Sl w xa2 xn2 xc2 1 (ints .u8 d) at hrd2
      obtain rfl : xn2 = xn := by have := hrd.ilen; have := hrd2.ilen; omega
      simp only at f0 f1 f2 f3 g0 g1 g2 g3
      obtain ⟨Ty, f, hne, hbel, hsurj⟩ := below_worlds w.heap.size w
      have q0 : ∀ s, (f s).cell? ⟨b, o + i * 4, none⟩ = some (.int .i64 y) := fun s => late (hbel s) hblt f0
      have q1 : ∀ s, (f s).cell? ⟨b, o + i * 4 + 1, none⟩ = some (.int .i64 t) := fun s => late (hbel s) hblt f1
      have q2 : ∀ s, (f s).cell? ⟨b, o + i * 4 + 2, none⟩ = some (.int .i64 k) := fun s => late (hbel s) hblt f2
      have q3 : ∀ s, (f s).cell? ⟨b, o + i * 4 + 3, none⟩ = some (.slice xa xn2 xc) := fun s => late (hbel s) hblt f3
      have r0 : ∀ s, (f s).cell? ⟨b2, o2 + i * 4, none⟩ = some (.int .i64 y) := fun s => late (hbel s) hblt2 g0
      have r1 : ∀ s, (f s).cell? ⟨b2, o2 + i * 4 + 1, none⟩ = some (.int .i64 t) := fun s => late (hbel s) hblt2 g1
      have r2 : ∀ s, (f s).cell? ⟨b2, o2 + i * 4 + 2, none⟩ = some (.int .i64 k) := fun s => late (hbel s) hblt2 g2
      have r3 : ∀ s, (f s).cell? ⟨b2, o2 + i * 4 + 3, none⟩ = some (.slice xa2 xn2 xc2) := fun s => late (hbel s) hblt2 g3
      have HS := Lib.hid (hsurj _ (hb.out.drew))
      have HG := Lib.hid (fun s => same18_eq t k xa xa2 xn2 xc xc2 d (f s) (hrd.mono (hbel s)) (hrd2.mono (hbel s)))
      have hyy : (y != y) = false := by simp
      clear f0 f1 f2 f3 g0 g1 g2 g3 hblt hblt2
      have hbel' := Lib.hid hbel
      have hsurj' := Lib.hid hsurj
      have hrd' := Lib.hid hrd
      have hrd2' := Lib.hid hrd2
      have hzi' := Lib.hid hzi
      have hzi2' := Lib.hid hzi2
      clear hbel hsurj hrd hrd2 hzi hzi2
      go_wp2_with fail
      refine wp_quiet_in f (by kernel_rfl) (by kernel_rfl) HS.out ?_
      iterate 25 (go_big_quiet_step ((go_at_call 27; refine (HG.out _).mono ?_; rintro e w3 ⟨rfl, hb3⟩; exact ⟨rfl, hsurj'.out _ ((hbel'.out _).trans (hb3.mono (hbel'.out _).size))⟩)))
      refine wpQuiet_nil ?_
      intro s
      have hbs := hbel'.out s
      have hbs' := Lib.hid hbs
      clear hbs
      clear q0 q1 q2 q3 r0 r1 r2 r3
      go_wp2_with fail
      go_roundw
      case rel => exact ⟨i + 1, by omega, by go_num, hbs'⟩
      case measure => simp [intOf]; omega
    · obtain rfl : i = n' := by omega
      go_wp2
      go_ret
      exact ⟨rfl, hb.out⟩

/-- one tag more at the end of a row that the call owns -/
theorem own_app {B : Nat} {W : World} {a : Option Addr} {n c : Nat} {zs : List Tz} {z : Tz} (h : W.ownsRow B 26 4 (.slice a (n + 1) c) (n + 1) (zc zs ++ zcl z)) : W.ownsRow B 26 4 (.slice a (n + 1) c) (n + 1) (zc (zs ++ [z])) := by
  rw [zc_append]; simpa [zc] using h
theorem take_next {zs : List Tz} {i : Nat} (hi : i < zs.length) : zs.take (i + 1) = zs.take i ++ [zs.getD i tz0] := by
  rw [List.take_succ_eq_append_getElem hi, List.getD_eq_getElem?_getD, List.getElem?_eq_getElem hi]; rfl
theorem map_filter {zs : List Tz} {p : Tg → Bool} : (zs.filter (fun z => p (tag z))).map tag = (zs.map tag).filter p := by
  induction zs with
  | nil => rfl
  | cons z r ih => by_cases h : p (tag z) <;> simp [h, ih]

set_option maxRecDepth 20000 in
set_option maxHeartbeats 4000000 in
theorem rdrop_any (a : Option Addr) (n c : Nat) (zs : List Tz) (t : Int) (w : World) (hs : Tr w a n c zs) (hl : n ≤ 1000000) (hd : ∀ z ∈ zs, z.1.2.2.2.2.1 ≤ 1000000) :
    Calls Try.prog 26 #[.slice a n c, .int .i64 t] w fun e w' => ∃ a' n' c' zs', e = .returned (.slice a' n' c') ∧ To w.heap.size w' a' n' c' zs' ∧ zs'.map tag = dropS (zs.map tag) t ∧ Below w.heap.size w w' := by
  have hzl := hs.len
  obtain ⟨i0, z0, hi0, hz, hz1, hz2, hz3⟩ := infoT_parts
  have hs' := Lib.hid hs
  have hd' := Lib.hid hd
  have hzl' := Lib.hid hzl
  clear hs hd hzl
  go_enter Try.func26, Try.ntmps26
  go_wp2_with fail
  go_loopw [5, 6] (fun ov iv wr => ∃ (i m : Nat) (a1 : Option Addr) (c1 : Nat), i ≤ n ∧ m ≤ i ∧ iv = .int .i64 i ∧ ov = .slice a1 m c1 ∧ Hid (wr.ownsRow w.heap.size 26 4 (.slice a1 m c1) m (zc ((zs.take i).filter (fun z => decide ((tag z).1 ≠ t))))) ∧ Hid (Below w.heap.size w wr)) (fun _ iv _ => n - (intOf iv).toNat)
  case atStart => exact ⟨0, 0, none, 0, by omega, by omega, rfl, rfl, Lib.hid (own_nil _ _ _ _), Lib.hid (Below.refl _ _)⟩
  case round =>
    obtain ⟨i, m, a1, c1, hin, hmi, rfl, rfl, hown, hb⟩ := hrel
    by_cases hi : i < n
    · have hil : (i : Int) < (n : Int) := by omega
      have hw1 : IntKind.i64.wrap ((i : Int) + 1) = i + 1 := by rw [IntKind.wrap_i64]; omega
      have hnext := take_next (zs := zs) (i := i) (by rw [hzl'.out]; exact hi)
      obtain ⟨b, o, rfl, hblt, f0, f1, f2, f3, hrd⟩ := (hs'.out.mono hb.out).at hi
      obtain ⟨⟨⟨y, ty, k, xa, xn, xc⟩, d⟩, hzi⟩ : ∃ z, zs.getD i tz0 = z := ⟨_, rfl⟩
      rw [hzi] at f0 f1 f2 f3 hrd hnext
      simp only at f0 f1 f2 f3
      by_cases hyt : y = t
      · have hd : (y != t) = false := by simp [hyt]
        have hf : (zs.take (i + 1)).filter (fun z => decide ((tag z).1 ≠ t)) = (zs.take i).filter (fun z => decide ((tag z).1 ≠ t)) := by
          rw [hnext, List.filter_append, List.filter_cons_of_neg (by simp [tag, hyt])]; simp
        have hyt' := Lib.hid hyt
        have hf' := Lib.hid hf
        have hnext' := Lib.hid hnext
        have hrd' := Lib.hid hrd
        have hzi' := Lib.hid hzi
        clear hyt hf hnext hrd hzi
        go_wp2_with fail
        go_roundw
        case rel => exact ⟨i + 1, m, _, _, by omega, by omega, by go_num, rfl, by rw [hf'.out]; exact hown, hb⟩
        case measure => simp [intOf]; omega
      · have hd : (y != t) = true := by simp [hyt]
        have hf : (zs.take (i + 1)).filter (fun z => decide ((tag z).1 ≠ t)) = (zs.take i).filter (fun z => decide ((tag z).1 ≠ t)) ++ [((y, ty, k, xa, xn, xc), d)] := by
          rw [hnext, List.filter_append, List.filter_cons_of_pos (by simp [tag, hyt])]; simp
        have hyt' := Lib.hid hyt
        have hf' := Lib.hid hf
        have hnext' := Lib.hid hnext
        have hrd' := Lib.hid hrd
        have hzi' := Lib.hid hzi
        clear hyt hf hnext hrd hzi
        go_wp2_with (at_builtin; refine wpList_app rfl _ _ 27 rfl w.heap.size 26 i0 z0 4 48 Try.underlying27 hi0 hz hz1 hz2 hz3 (by decide) _ m _ rfl (World.ownsRow.alloc hown.out _) _ 1 1 [.int .i64 y, .int .i64 ty, .int .i64 k, .slice xa xn xc] rfl (Sl.new' _ 26 4 1 #[.int .i64 y, .int .i64 ty, .int .i64 k, .slice xa xn xc] (0, 0) (by simp) (by omega) rfl) (by simp [Value.oneCell']) (by omega) (by decide) (hb.out.alloc hb.out.size _).size ?_; intro a7 c7 w7 ob hb7 hg7; have Ob := Lib.hid (own_app (z := ((y, ty, k, xa, xn, xc), d)) ob); have Hb7 := Lib.hid ((hb.out.alloc hb.out.size _).trans hb7); clear ob hb7 hg7)
        go_roundw
        case rel => exact ⟨i + 1, m + 1, _, _, by omega, by omega, by go_num, rfl, by rw [hf'.out]; exact Ob, Hb7⟩
        case measure => simp [intOf]; omega
    · obtain rfl : i = n := by omega
      have hall : zs.take i = zs := List.take_of_length_le (by rw [hzl'.out]; exact Nat.le_refl _)
      have hown2 := hown.out
      rw [hall] at hown2
      have hT : Tr wr a1 m c1 (zs.filter (fun z => decide ((tag z).1 ≠ t))) := ⟨(Sl.of_own hown2).1, fun z hz => ((hs'.out.each z (List.mem_filter.1 hz).1).mono hb.out)⟩
      have hO := owntags_any a1 m c1 _ wr hT (by omega) (fun z hz => hd'.out z (List.mem_filter.1 hz).1)
      have hall' := Lib.hid hall
      have hown2' := Lib.hid hown2
      have hT' := Lib.hid hT
      have hO' := Lib.hid hO
      clear hall hown2 hT hO
      go_wp2_with fail
      refine hO'.out.mono ?_
      rintro e w2 ⟨a6, c6, zs', rfl, ho2, htg, hb2⟩
      have ho3 := ho2.le hb.out.size
      have hbw := hb.out.trans (hb2.mono hb.out.size)
      have ho2' := Lib.hid ho2
      have ho3' := Lib.hid ho3
      have htg' := Lib.hid htg
      have hbw' := Lib.hid hbw
      have hb2' := Lib.hid hb2
      clear ho2 ho3 htg hbw hb2
      go_wp2_with fail
      go_ret
      exact ⟨_, _, _, zs', rfl, ho3'.out, by rw [htg'.out]; exact map_filter (p := fun y => decide (y.1 ≠ t)), hbw'.out⟩
end Go.Proofs.Ytnhcmibngcmebaa
