/- Chapter 14: a frame's bytes, a head's: the document. -/
import Derived.Test.YtpjopeojeglogaaCa34
namespace Go.Proofs.Ytpjopeojeglogaa
open Go.RowKit Tt
set_option linter.unusedVariables false
set_option linter.unusedSimpArgs false

theorem id_byt {s : List Int} (h : idOk s = true) : ∀ x ∈ s, 0 ≤ x ∧ x ≤ 255 := fun x hx => by
  have q2 : (List.range s.length).all (symOk s) = true := by
    unfold idOk at h; simp only [Bool.and_eq_true] at h; exact h.1
  have q3 := ((sym_all _).1 q2).1; unfold belowS at q3; have q4 := List.all_eq_true.1 q3 x hx; rw [decide_eq_true_eq] at q4
  omega
theorem frm_byt {fw fh : Int} {l : List Cmp4} (h : frmE fw fh l = 0) (j : Nat) (x : Cmp4) (hx : l[j]? = some x) : 0 ≤ x.1 ∧ x.1 ≤ 255 ∧ 1 ≤ x.2.1 ∧ x.2.1 ≤ 4 ∧ 1 ≤ x.2.2.1 ∧ x.2.2.1 ≤ 4 ∧ 0 ≤ x.2.2.2 ∧ x.2.2.2 ≤ 3 := by
  obtain ⟨h1, h2, _⟩ := frmE_ok h; have hm := List.mem_of_getElem? hx; have q1 := List.all_eq_true.1 h1 x hm; unfold cmpOk at q1; rw [decide_eq_true_eq] at q1; have q4 := id_byt h2 x.1 (List.mem_map_of_mem hm)
  omega
theorem use_byt {l : List Use3} (h : usesOk l = true) (j : Nat) (x : Use3) (hx : l[j]? = some x) : 0 ≤ x.1 ∧ x.1 ≤ 255 ∧ 0 ≤ x.2.1 ∧ x.2.1 ≤ 3 ∧ 0 ≤ x.2.2 ∧ x.2.2 ≤ 3 := by
  have hm := List.mem_of_getElem? hx; unfold usesOk at h; rw [Bool.and_eq_true] at h; have q1 := List.all_eq_true.1 h.1 x hm; unfold useOk at q1; rw [decide_eq_true_eq] at q1; have q4 := id_byt h.2 x.1 (List.mem_map_of_mem hm)
  omega
theorem quo256 {x : Int} (h0 : 0 ≤ x) (h1 : x < 65536) : Int.tdiv x 256 = x / 256 ∧ Int.tmod x 256 = x % 256 ∧ IntKind.i64.wrap (x / 256) = x / 256 ∧ (x / 256) % 256 = x / 256 ∧ (x % 256) % 256 = x % 256 :=
  ⟨Int.tdiv_eq_ediv_of_nonneg h0, Int.tmod_eq_emod_of_nonneg h0, by rw [IntKind.wrap_i64]; omega, by omega, by omega⟩
set_option maxRecDepth 20000 in
set_option maxHeartbeats 4000000 in
theorem rframe_any (fw fh : Int) (a : Option Addr) (n c : Nat) (l : List Cmp4) (w : World) (hs : StR cmpL 4 w a n c l) (h0 : frmE fw fh l = 0) :
    Calls Try.prog 41 #[.agg #[.int .i64 fw, .int .i64 fh, .slice a n c]] w fun e w' => ∃ a2 n2 c2, e = .returned (.slice a2 n2 c2) ∧ w'.ownsRow w.heap.size 5 1 (.slice a2 n2 c2) n2 (ints .u8 (frmW fw fh l)) ∧ Below w.heap.size w w' := by
  obtain ⟨i0, hi, hz0, hz1, hz2⟩ := info_parts info8; have hl := hs.len; have b1 := Blk.new w 56 #[.int .i64 fw, .int .i64 fh, .slice a n c]; have hb1 := (Below.refl w.heap.size w).alloc (Nat.le_refl _) (.cells #[.int .i64 fw, .int .i64 fh, .slice a n c] 56); obtain ⟨W1, hW1⟩ : ∃ W1, w.alloc (.cells #[.int .i64 fw, .int .i64 fh, .slice a n c] 56) = W1 := ⟨_, rfl⟩; rw [hW1] at b1 hb1; have k0 : W1.cell? ⟨w.heap.size, 0, none⟩ = some (.int .i64 fw) := b1.cell rfl; have k1 : W1.cell? ⟨w.heap.size, 1, none⟩ = some (.int .i64 fh) := b1.cell rfl; have k2 : W1.cell? ⟨w.heap.size, 2, none⟩ = some (.slice a n c) := b1.cell rfl; have hid := frm_byt h0; obtain ⟨_, h2, p1, p2, p3, p4⟩ := frmE_ok h0; have h3 := idOk_len h2; rw [List.length_map, hl] at h3; obtain ⟨h3a, h3b⟩ := h3; obtain ⟨T, hT⟩ : ∃ T, frmW fw fh l = T := ⟨_, rfl⟩; rw [hT]; obtain ⟨v1, v2, v3, v4, v5⟩ := quo256 (x := fw) (by omega) (by omega); obtain ⟨u1, u2, u3, u4, u5⟩ := quo256 (x := fh) (by omega) (by omega); have hn256 : (n : Int) % 256 = n := by omega
  obtain ⟨A, hA⟩ : ∃ A, #[Value.int .u8 8, .int .u8 (fh / 256), .int .u8 (fh % 256), .int .u8 (fw / 256), .int .u8 (fw % 256), .int .u8 (n : Int)] = A := ⟨_, rfl⟩; have hsz1 : w.heap.size + 1 ≤ W1.heap.size := b1.lt; have o2 : (W1.alloc (.cells #[Value.int .u8 8, .int .u8 (fh / 256), .int .u8 (fh % 256), .int .u8 (fw / 256), .int .u8 (fw % 256), .int .u8 (n : Int)] 5)).ownsRow (w.heap.size + 1) 5 1 (.slice (some ⟨W1.heap.size, 0, none⟩) 6 6) 6 (ints .u8 [8, fh / 256, fh % 256, fw / 256, fw % 256, (n : Int)]) := own_new W1 (w.heap.size + 1) 5 1 6 _ hsz1 (by unfold maxLen; omega) rfl; have hal := (Below.refl W1.heap.size W1).alloc (Nat.le_refl _) (.cells #[Value.int .u8 8, .int .u8 (fh / 256), .int .u8 (fh % 256), .int .u8 (fw / 256), .int .u8 (fw % 256), .int .u8 (n : Int)] 5); have b2 := b1.late hal; have hbw2 := hb1.trans (hal.mono hb1.size); obtain ⟨W2, hW2⟩ : ∃ W2, W1.alloc (.cells #[Value.int .u8 8, .int .u8 (fh / 256), .int .u8 (fh % 256), .int .u8 (fw / 256), .int .u8 (fw % 256), .int .u8 (n : Int)] 5) = W2 := ⟨_, rfl⟩; rw [hW2] at o2 b2 hbw2; clear h2 hal hA A; have hs' := Lib.hid hs; have hl' := Lib.hid hl; have hid' := Lib.hid hid; have hT' := Lib.hid hT; have b1' := Lib.hid b1; have hb1' := Lib.hid hb1; have hW1' := Lib.hid hW1; have o2' := Lib.hid o2; have b2' := Lib.hid b2; have hbw2' := Lib.hid hbw2; have hW2' := Lib.hid hW2; clear hs hl hid hT b1 hb1 hW1 o2 b2 hbw2 hW2
  go_enter Try.func41, Try.ntmps41
  go_upto_region 1 with fail
  rw [hW1'.out]
  go_upto_region 2 with fail
  rw [hW2'.out]; clear k0 k1 k2 v1 v2 v3 v4 v5 u1 u2 u3 u4 u5 hn256
  go_wp2
  go_loopw [3, 4, 5] (fun bv iv _ wr => ∃ (k m : Nat) (a3 : Option Addr) (c3 : Nat), k ≤ n ∧ m ≤ 6 + 3 * k ∧ iv = .int .i64 k ∧ bv = .slice a3 m c3 ∧ Hid (wr.ownsRow (w.heap.size + 1) 5 1 (.slice a3 m c3) m (ints .u8 ([8, fh / 256, fh % 256, fw / 256, fw % 256, (n : Int)] ++ flatW frmF l k))) ∧ Hid (Blk wr w.heap.size 56 #[.int .i64 fw, .int .i64 fh, .slice a n c]) ∧ Hid (Below w.heap.size w wr)) (fun _ iv _ _ => n - (intOf iv).toNat)
  case atStart => exact ⟨0, 6, _, 6, by omega, by omega, rfl, rfl, Lib.hid (by show W2.ownsRow _ _ _ _ _ (ints .u8 (_ ++ [])); rw [List.append_nil]; exact o2'.out), b2', hbw2'⟩
  case round =>
    obtain ⟨k, m, a3, c3, hk, hm, rfl, rfl, Ob, hbk, hbel⟩ := hrel; have k2 : wr.cell? ⟨w.heap.size, 2, none⟩ = some (.slice a n c) := hbk.out.cell rfl
    by_cases hlt : k < n
    · obtain ⟨x, hx⟩ : ∃ x, l[k]? = some x := ⟨_, List.getElem?_eq_getElem (by rw [hl'.out]; exact hlt)⟩
      obtain ⟨bb, o, rfl, hbb, f⟩ := (hs'.out.mono hbel.out).elem cmpL_len hx; have hsn := flatW_snoc (f := frmF) hx; have hxx := hid'.out k x hx; obtain ⟨x0, x1, x2, x3⟩ := x; obtain ⟨p1, p2, p3, p4, p5, p6, p7, p8⟩ := hxx; simp only at p1 p2 p3 p4 p5 p6 p7 p8; have f0 : wr.cell? ⟨bb, o + k * 4, none⟩ = some (.int .i64 x0) := f 0 _ rfl; have f1 : wr.cell? ⟨bb, o + k * 4 + 1, none⟩ = some (.int .i64 x1) := f 1 _ rfl; have f2 : wr.cell? ⟨bb, o + k * 4 + 2, none⟩ = some (.int .i64 x2) := f 2 _ rfl; have f3 : wr.cell? ⟨bb, o + k * 4 + 3, none⟩ = some (.int .i64 x3) := f 3 _ rfl; have bA := Blk.new wr 167 #[.int .i64 x0, .int .i64 x1, .int .i64 x2, .int .i64 x3]; have hal := (Below.refl wr.heap.size wr).alloc (Nat.le_refl _) (.cells #[.int .i64 x0, .int .i64 x1, .int .i64 x2, .int .i64 x3] 167); obtain ⟨W2, hW2⟩ : ∃ W2, wr.alloc (.cells #[.int .i64 x0, .int .i64 x1, .int .i64 x2, .int .i64 x3] 167) = W2 := ⟨_, rfl⟩; rw [hW2] at bA hal; have hbw2 := hbel.out.trans (hal.mono hbel.out.size); have Ob2 := own_later Ob.out hal; have hbk2 := hbk.out.late hal; clear f hal; have hx' := Lib.hid hx; have hsn' := Lib.hid hsn; have bA' := Lib.hid bA; have hW2' := Lib.hid hW2; have hbw2' := Lib.hid hbw2; have Ob2' := Lib.hid Ob2; have hbk2' := Lib.hid hbk2; have hm' := Lib.hid hm; clear hx hsn bA hW2 hbw2 Ob2 hbk2 hm
      go_upto_region 6 with fail
      rw [hW2'.out]; clear f0 f1 f2 f3 k2; have hmb : m ≤ 100 := by have := hm'.out; omega
      have g0 : W2.cell? ⟨wr.heap.size, 0, none⟩ = some (.int .i64 x0) := bA'.out.cell rfl; have g1 : W2.cell? ⟨wr.heap.size, 1, none⟩ = some (.int .i64 x1) := bA'.out.cell rfl; have g2 : W2.cell? ⟨wr.heap.size, 2, none⟩ = some (.int .i64 x2) := bA'.out.cell rfl; have g3 : W2.cell? ⟨wr.heap.size, 3, none⟩ = some (.int .i64 x3) := bA'.out.cell rfl; have m0 : x0 % 256 = x0 := by omega
      have m1 : (16 * x1 + x2) % 256 = 16 * x1 + x2 := by omega
      have m3 : x3 % 256 = x3 := by omega
      have hsz4 : w.heap.size + 1 ≤ W2.heap.size := hbk2'.out.lt
      go_wp2_with (at_builtin; refine wpList_app rfl _ _ 30 rfl (w.heap.size + 1) 5 i0 _ 1 1 Try.underlying30 hi hz0 hz1 hz2 rfl (by decide) _ m _ rfl (World.ownsRow.alloc Ob2'.out _) _ 3 3 _ rfl (Sl.new W2 5 1 3 #[.int .u8 x0, .int .u8 (16 * x1 + x2), .int .u8 x3] (0, 0) (by omega) rfl) (by simp [Value.oneCell']) (by omega) (by decide) (by simp; omega) ?_; intro a6 c6 w6 ob6 hb6 hg6; have Ob6 := Lib.hid ob6; have Hb6 := Lib.hid (((Below.refl (w.heap.size + 1) W2).alloc hsz4 (.cells #[.int .u8 x0, .int .u8 (16 * x1 + x2), .int .u8 x3] 5)).trans hb6); clear ob6 hb6 hg6)
      clear m0 m1 m3; have hbk6 := hbk2'.out.mono Hb6.out (by omega); have hbw6 := hbw2'.out.trans (Hb6.out.mono (by omega)); have hbk6' := Lib.hid hbk6; have hbw6' := Lib.hid hbw6; clear hbk6 hbw6
      go_roundw
      case rel => exact ⟨k + 1, m + 3, a6, c6, by omega, by have := hm'.out; omega, by go_num, rfl, Lib.hid (by rw [hsn'.out, ← List.append_assoc, ints_append]; exact Ob6.out), hbk6', hbw6'⟩
      case measure => simp [intOf]; omega
    · have hkn : k = n := by omega
      have Ob2 := Ob.out; rw [hkn] at Ob2
      have hRe : [8, fh / 256, fh % 256, fw / 256, fw % 256, (n : Int)] ++ flatW frmF l n = T := by
        rw [← hT'.out]; unfold frmW flatW frmF; rw [List.take_of_length_le (by rw [hl'.out]; exact Nat.le_refl _), hl'.out]
      rw [hRe] at Ob2; have Ob3 := own_mono Ob2 (Nat.le_succ w.heap.size); clear hRe Ob2; have Ob3' := Lib.hid Ob3; have hkn' := Lib.hid hkn; clear Ob3 hkn
      go_wp2
      go_ret
      exact ⟨a3, m, c3, rfl, Ob3'.out, hbel.out⟩
set_option maxRecDepth 20000 in
set_option maxHeartbeats 4000000 in
theorem rhead_any (a : Option Addr) (n c : Nat) (l : List Use3) (w : World) (hs : StR useL 3 w a n c l) (h0 : usesOk l = true) :
    Calls Try.prog 44 #[.slice a n c] w fun e w' => ∃ a2 n2 c2, e = .returned (.slice a2 n2 c2) ∧ w'.ownsRow w.heap.size 5 1 (.slice a2 n2 c2) n2 (ints .u8 (headW l)) ∧ Below w.heap.size w w' := by
  obtain ⟨i0, hi, hz0, hz1, hz2⟩ := info_parts info8; have hl := hs.len; have hid := use_byt h0
  have h3 : 1 ≤ n ∧ n ≤ 4 := by
    have h := h0; unfold usesOk at h; rw [Bool.and_eq_true] at h; have := idOk_len h.2; rw [List.length_map, hl] at this; exact this
  obtain ⟨h3a, h3b⟩ := h3; obtain ⟨T, hT⟩ : ∃ T, headW l = T := ⟨_, rfl⟩; rw [hT]; have hn256 : (n : Int) % 256 = n := by omega
  have o2 : (w.alloc (.cells #[.int .u8 (n : Int)] 5)).ownsRow w.heap.size 5 1 (.slice (some ⟨w.heap.size, 0, none⟩) 1 1) 1 (ints .u8 [(n : Int)]) := own_new w w.heap.size 5 1 1 #[.int .u8 (n : Int)] (Nat.le_refl _) (by unfold maxLen; omega) rfl; have hal := (Below.refl w.heap.size w).alloc (Nat.le_refl _) (.cells #[.int .u8 (n : Int)] 5); obtain ⟨W2, hW2⟩ : ∃ W2, w.alloc (.cells #[.int .u8 (n : Int)] 5) = W2 := ⟨_, rfl⟩; rw [hW2] at o2 hal; have hs' := Lib.hid hs; have hl' := Lib.hid hl; have hid' := Lib.hid hid; have hT' := Lib.hid hT; have o2' := Lib.hid o2; have hal' := Lib.hid hal; have hW2' := Lib.hid hW2; clear hs hl hid hT o2 hal hW2
  go_enter Try.func44, Try.ntmps44
  go_upto_region 2 with fail
  rw [hW2'.out]; clear hn256
  go_wp2
  go_loopw [3, 4] (fun bv iv wr => ∃ (k m : Nat) (a3 : Option Addr) (c3 : Nat), k ≤ n ∧ m ≤ 1 + 2 * k ∧ iv = .int .i64 k ∧ bv = .slice a3 m c3 ∧ Hid (wr.ownsRow w.heap.size 5 1 (.slice a3 m c3) m (ints .u8 ((n : Int) :: flatW headF l k))) ∧ Hid (Below w.heap.size w wr)) (fun _ iv _ => n - (intOf iv).toNat)
  case atStart => exact ⟨0, 1, _, 1, by omega, by omega, rfl, rfl, o2', hal'⟩
  case round =>
    obtain ⟨k, m, a3, c3, hk, hm, rfl, rfl, Ob, hbel⟩ := hrel
    by_cases hlt : k < n
    · obtain ⟨x, hx⟩ : ∃ x, l[k]? = some x := ⟨_, List.getElem?_eq_getElem (by rw [hl'.out]; exact hlt)⟩
      obtain ⟨bb, o, rfl, hbb, fw⟩ := hs'.out.elem useL_len hx; have hsn := flatW_snoc (f := headF) hx; have hxx := hid'.out k x hx; obtain ⟨x0, x1, x2⟩ := x; obtain ⟨p1, p2, p3, p4, p5, p6⟩ := hxx; simp only at p1 p2 p3 p4 p5 p6
      have hcl : ∀ W, Below w.heap.size w W → W.cell? ⟨bb, o + k * 3, none⟩ = some (.int .i64 x0) ∧ W.cell? ⟨bb, o + k * 3 + 1, none⟩ = some (.int .i64 x1) ∧ W.cell? ⟨bb, o + k * 3 + 2, none⟩ = some (.int .i64 x2) := fun W hW =>
        ⟨(hW.cell (p := ⟨bb, o + k * 3, none⟩) hbb).trans (fw 0 _ rfl), (hW.cell (p := ⟨bb, o + k * 3 + 1, none⟩) hbb).trans (fw 1 _ rfl), (hW.cell (p := ⟨bb, o + k * 3 + 2, none⟩) hbb).trans (fw 2 _ rfl)⟩
      obtain ⟨w3, hw3⟩ : ∃ w3, wr.drew = w3 := ⟨_, rfl⟩; have hd3 := (Below.refl wr.heap.size wr).drew; rw [hw3] at hd3; have hbw3 := hbel.out.trans (hd3.mono hbel.out.size); have Ob3 := own_later Ob.out hd3; have hsz3 := hbw3.size; obtain ⟨Ty, ff, hne, qq, hsurj⟩ := pr_worlds (fun W => W.cell? ⟨bb, o + k * 3, none⟩ = some (.int .i64 x0) ∧ W.cell? ⟨bb, o + k * 3 + 1, none⟩ = some (.int .i64 x1) ∧ W.cell? ⟨bb, o + k * 3 + 2, none⟩ = some (.int .i64 x2)) w3 (hcl w3 hbw3); have q0 := fun s => (qq s).1; have q1 := fun s => (qq s).2.1; have q2 := fun s => (qq s).2.2; have hal4 := (Below.refl w3.heap.size w3).alloc (Nat.le_refl _) (.cells #[.int .u8 x0, .int .u8 (16 * x1 + x2)] 5); have hbw4 := hbw3.trans (hal4.mono hsz3); have Ob4 := own_later Ob3 hal4; have s4 := Sl.new w3 5 1 2 #[.int .u8 x0, .int .u8 (16 * x1 + x2)] (0, 0) (by omega) rfl; obtain ⟨w4, hw4⟩ : ∃ w4, w3.alloc (.cells #[.int .u8 x0, .int .u8 (16 * x1 + x2)] 5) = w4 := ⟨_, rfl⟩; rw [hw4] at hbw4 Ob4 s4; have hsz4 := hbw4.size; have HS := Lib.hid (hsurj _ (hcl w3 hbw3)); have HS4 := Lib.hid (hsurj _ (hcl w4 hbw4)); have m0 : x0 % 256 = x0 := by omega
      have m1 : (16 * x1 + x2) % 256 = 16 * x1 + x2 := by omega
      have hmb : m ≤ 100 := by omega
      clear qq hal4 fw; have hx' := Lib.hid hx; have hsn' := Lib.hid hsn; have hw3' := Lib.hid hw3; have hd3' := Lib.hid hd3; have hbw3' := Lib.hid hbw3; have Ob3' := Lib.hid Ob3; have hsz3' := Lib.hid hsz3; have hcl' := Lib.hid hcl; have hsurj' := Lib.hid hsurj; have hbw4' := Lib.hid hbw4; have Ob4' := Lib.hid Ob4; have s4' := Lib.hid s4; have hw4' := Lib.hid hw4; have hsz4' := Lib.hid hsz4; have hm' := Lib.hid hm; clear hx hsn hw3 hd3 hbw3 Ob3 hsz3 hcl hsurj hbw4 Ob4 s4 hw4 hsz4 hm
      go_wp2
      refine held_begin (S := fun W => ∃ s, W = ff s) (by kernel_rfl) 23 rfl ?_; rw [hw3'.out]; refine held_take [0, 1, 2, 3, 4, 5, 6, 7, 8, 9, 10, 11, 12, 13, 14, 15, 16, 17, 18, 19] 3 (by kernel_rfl) (fun d _ _ _ _ h => by cases d <;> exact h) (by kernel_rfl) (by kernel_rfl) (by kernel_rfl) HS.out ?_; simp only [pickL, List.map_cons, List.map_nil, List.getD_cons_succ, List.getD_cons_zero]
      iterate 20 (go_big_quiet_step (fail))
      refine wpQuiet_nil ?_; refine held_one 20 2 (by kernel_rfl) (by kernel_rfl) ?_; simp only [pickL, List.map_cons, List.map_nil, List.getD_cons_succ, List.getD_cons_zero]
      go_wp2_with fail
      rw [hw4'.out]
      first | refine Mid.mk ⟨HS4.out, ?_⟩ | refine Mid.mk ?_
      clear q0 q1 q2 hne; refine held_one 21 1 (by kernel_rfl) (by kernel_rfl) ?_; simp only [pickL, List.map_cons, List.map_nil, List.getD_cons_succ, List.getD_cons_zero]
      go_wp2_with (at_builtin; refine wpList_app rfl _ _ 30 rfl w.heap.size 5 i0 _ 1 1 Try.underlying30 hi hz0 hz1 hz2 rfl (by decide) _ m _ rfl Ob4'.out _ 2 2 _ rfl s4'.out (by simp [Value.oneCell']) (by omega) (by decide) hsz4'.out ?_; intro a5 c5 w5 ob5 hb5 hg5; have Ob5 := Lib.hid ob5; have Hb5 := Lib.hid (hbw4'.out.trans hb5); have HS5 := Lib.hid (hsurj'.out _ (hcl'.out w5 (hbw4'.out.trans hb5))); clear ob5 hb5 hg5)
      first | refine Mid.mk ⟨HS5.out, ?_⟩ | refine Mid.mk ?_
      refine held_one 22 0 (by kernel_rfl) (by kernel_rfl) ?_; simp only [pickL, List.map_cons, List.map_nil, List.getD_cons_succ, List.getD_cons_zero]
      go_wp2_with fail
      first | refine Mid.mk ⟨HS5.out, ?_⟩ | refine Mid.mk ?_
      refine held_last (by kernel_rfl) ?_; clear HS HS4 HS5 m0 m1
      go_wp2
      go_roundw
      case rel => exact ⟨k + 1, m + 2, a5, c5, by omega, by have := hm'.out; omega, by go_num, rfl, Lib.hid (by rw [hsn'.out, ← List.cons_append, ints_append]; exact Ob5.out), Hb5⟩
      case measure => simp [intOf]; omega
    · have hkn : k = n := by omega
      have Ob2 := Ob.out; rw [hkn] at Ob2
      have hRe : T = (n : Int) :: flatW headF l n ++ [0, 63, 0] := by
        rw [← hT'.out]; unfold headW flatW headF; rw [List.take_of_length_le (by rw [hl'.out]; exact Nat.le_refl _), hl'.out]
      have hsz3 := hbel.out.size; have Ob2' := Lib.hid Ob2; have hkn' := Lib.hid hkn; have hRe' := Lib.hid hRe; have hsz3' := Lib.hid hsz3; clear Ob2 hkn hRe hsz3
      go_wp2_with (at_builtin; refine wpList_app rfl _ _ 30 rfl w.heap.size 5 i0 _ 1 1 Try.underlying30 hi hz0 hz1 hz2 rfl (by decide) _ m _ rfl (World.ownsRow.alloc Ob2'.out _) _ 3 3 _ rfl (Sl.new wr 5 1 3 #[.int .u8 0, .int .u8 63, .int .u8 0] (0, 0) (by omega) rfl) (by simp [Value.oneCell']) (by omega) (by decide) (by have := hsz3'.out; simp; omega) ?_; intro a6 c6 w6 ob6 hb6 hg6; have Ob6 := Lib.hid ob6; have Hb6 := Lib.hid ((hbel.out.alloc hsz3'.out (.cells #[.int .u8 0, .int .u8 63, .int .u8 0] 5)).trans hb6); clear ob6 hb6 hg6)
      go_ret
      refine ⟨a6, m + 3, c6, rfl, ?_, Hb6.out⟩; rw [hRe'.out, ints_append]; exact Ob6.out
end Go.Proofs.Ytpjopeojeglogaa
