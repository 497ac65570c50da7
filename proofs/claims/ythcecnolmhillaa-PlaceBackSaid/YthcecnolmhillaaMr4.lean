/- Chapter 13: what stands behind a marker. -/
import Derived.Test.YthcecnolmhillaaMr3
import Derived.Test.YthcecnolmhillaaL9
namespace Go.Proofs.Ythcecnolmhillaa
open Go.RowKit Tt
set_option linter.unusedVariables false

theorem size5 : ∀ w, (Go.sizeOf 5).run Try.prog w = .ok 1 w := fun w => by kernel_rfl
theorem cut_u8 {w : World} {a : Option Addr} {n c : Nat} {z : List Int} (h : Sl w a n c 1 (ints .u8 z)) (l hi : Nat) (h1 : l ≤ hi) (h2 : hi ≤ n) (l' hi' : Int) (hl : l' = l) (hh : hi' = hi) :
    ∃ a2, (∀ W, (Instr.sliceAt 40 (.slice a n c) (some (.int .i64 l')) (some (.int .i64 hi')) none).run Try.prog W = .ok (.slice a2 (hi - l) (c - l)) W) ∧ Sl w a2 (hi - l) (c - l) 1 (ints .u8 ((z.drop l).take (hi - l))) ∧ In a2 a := by
  have hle := h.le
  obtain ⟨a2, r1, r2, r3⟩ := sub_lh (P := Try.prog) Try.underlying40 size5 h l' hi' (by omega) (by omega) (by omega) (hi - l) (c - l) (by omega) (by omega)
  refine ⟨a2, r1, ?_, r3⟩
  have e : l'.toNat = l := by omega
  rw [e] at r2
  simpa [ints, List.map_drop, List.map_take] using r2
theorem cutl_u8 {w : World} {a : Option Addr} {n c : Nat} {z : List Int} (h : Sl w a n c 1 (ints .u8 z)) (l : Nat) (h1 : l ≤ n) (l' : Int) (hl : l' = l) :
    ∃ a2, (∀ W, (Instr.sliceAt 40 (.slice a n c) (some (.int .i64 l')) none none).run Try.prog W = .ok (.slice a2 (n - l) (c - l)) W) ∧ Sl w a2 (n - l) (c - l) 1 (ints .u8 (z.drop l)) ∧ In a2 a := by
  have hle := h.le
  obtain ⟨a2, r1, r2, r3⟩ := sub_l (P := Try.prog) Try.underlying40 size5 h l' (by omega) (by omega) (n - l) (c - l) (by omega) (by omega)
  refine ⟨a2, r1, ?_, r3⟩
  have e : l'.toNat = l := by omega
  rw [e] at r2
  simpa [ints, List.map_drop] using r2
theorem get2_ok (a : Option Addr) (n c : Nat) (z : List Int) (at_ L : Nat) (w : World) (hs : Sl w a n c 1 (ints .u8 z)) (hb : Byt z) (hn : at_ + 2 ≤ n) (hL : be (getL z at_ 2 2) = L) :
    Calls Try.prog 31 #[.slice a n c, .int .i64 at_, .int .i64 2, .int .i64 2] w fun e w' => e = .returned (.tuple #[.int .i64 L, .bool true]) ∧ Below w.heap.size w w' := by
  have h := get_any a n c z at_ 2 2 w hs hb
  have h1 : getB n at_ 2 2 = true := by
    unfold getB mayB
    simp
    omega
  have h2 : getV z at_ 2 2 = L := by
    unfold getV
    rw [hs.ilen, if_pos h1, ← hL]
    rfl
  rw [h1, h2] at h
  exact h

set_option maxHeartbeats 1000000 in
theorem seg_alone (g : Nat) (m : Int) (hm : aloneB m = true) (w : World) :
    Calls Try.prog 27 #[.pointer (some ⟨g, 0, none⟩), .int .i64 m] w fun e w' => e = .returned (.agg #[.int .i64 m, .slice none 0 0, .slice none 0 0]) ∧ Below w.heap.size w w' := by
  have ha := fun W => alone_any m W
  rw [hm] at ha
  have ha' := Lib.hid ha
  have hm' := Lib.hid hm
  clear ha hm
  go_enter Try.func27, Try.ntmps27
  go_wp2_with (go_at_call 29; refine (ha'.out _).mono ?_; rintro e w' ⟨rfl, rfl⟩)
  refine bodyPost_ret (results_cell_row rfl _ _ w.heap.size 63 #[.int .i64 m, .slice none 0 0, .slice none 0 0] (0, 0) _ rfl ((heap_old _ _ (by simp)).trans (heap_new _ _)) Try.underlying63 rfl (by kernel_rfl)) rfl ?_
  exact ⟨rfl, ((Below.refl _ _).alloc (Nat.le_refl _) _).alloc (by simp) _⟩

/-- the lexer's variable -/
def Lx (w : World) (g : Nat) (a : Option Addr) (n c at_ : Nat) : Prop := Blk w g 61 #[.slice a n c, .int .i64 at_]
theorem Lx.c0 {w : World} {g : Nat} {a : Option Addr} {n c at_ : Nat} (h : Lx w g a n c at_) : w.cell? ⟨g, 0, none⟩ = some (.slice a n c) := Blk.cell h rfl
theorem Lx.c1 {w : World} {g : Nat} {a : Option Addr} {n c at_ : Nat} (h : Lx w g a n c at_) : w.cell? ⟨g, 1, none⟩ = some (.int .i64 at_) := Blk.cell h rfl
theorem Lx.fz {w : World} {g : Nat} {a : Option Addr} {n c at_ : Nat} (h : Lx w g a n c at_) : w.frozen? ⟨g, 1, none⟩ = false := Blk.frozen h 1
theorem Lx.move {w : World} {g : Nat} {a : Option Addr} {n c at_ : Nat} (h : Lx w g a n c at_) (t : Nat) : Lx (w.setCell ⟨g, 1, none⟩ (.int .i64 t)) g a n c t := Blk.set h 1 _
theorem Lx.late {w w' : World} {g : Nat} {a : Option Addr} {n c at_ : Nat} (h : Lx w g a n c at_) (hb : Below w.heap.size w w') : Lx w' g a n c at_ := Blk.late h hb
theorem Lx.lt {w : World} {g : Nat} {a : Option Addr} {n c at_ : Nat} (h : Lx w g a n c at_) : g < w.heap.size := Blk.lt h

set_option maxRecDepth 100000 in
set_option maxHeartbeats 8000000 in
/-- a scan: its head, and its data -/
theorem seg_scan (g n c at_ L k : Nat) (a : Option Addr) (z : List Int) (w : World) (hs : Sl w a n c 1 (ints .u8 z)) (hz : Byt z) (hx : Lx w g a n c at_) (hag : ∀ x, a = some x → x.block ≠ g) (hnn : n ≤ 140737488355328)
    (hn : at_ + 2 ≤ n) (hL : be (getL z at_ 2 2) = L) (h2 : 2 ≤ L) (hl : at_ + L ≤ n) (hk : k + 1 < n - (at_ + L)) (hst : stopB (z.drop (at_ + L)) k = true) (hno : ∀ i, i < k → stopB (z.drop (at_ + L)) i = false) :
    Calls Try.prog 27 #[.pointer (some ⟨g, 0, none⟩), .int .i64 218] w fun e w' => ∃ a1 c1 a2 c2, e = .returned (.agg #[.int .i64 218, .slice a1 (L - 2) c1, .slice a2 k c2]) ∧ But g w w' ∧ Lx w' g a n c (at_ + L + k) := by
  have ha := fun W => alone_any 218 W
  rw [show aloneB 218 = false by decide] at ha
  have hle := hs.le
  have hmx := hs.max
  have hglt := hx.lt
  have hzl := hs.ilen
  obtain ⟨a1, cut1, sl1, _⟩ := cut_u8 hs (at_ + 2) (at_ + L) (by omega) hl ((at_ : Int) + 2) ((at_ : Int) + L) (by omega) (by omega)
  obtain ⟨a2, cut2, sl2, in2⟩ := cutl_u8 hs (at_ + L) hl ((at_ : Int) + L) (by omega)
  obtain ⟨a3, cut3, sl3, in3⟩ := cut_u8 hs (at_ + L) (at_ + L + k) (by omega) (by omega) ((at_ : Int) + L) ((at_ : Int) + L + k) (by omega) (by omega)
  rw [show at_ + L - (at_ + 2) = L - 2 by omega] at cut1 sl1
  rw [show at_ + L + k - (at_ + L) = k by omega] at cut3 sl3
  have hne2 := in2.ne hag
  have hne3 := in3.ne hag
  clear in2 in3
  have ha' := Lib.hid ha
  have hs' := Lib.hid hs
  have hz' := Lib.hid hz
  have hx' := Lib.hid hx
  have hag' := Lib.hid hag
  have hL' := Lib.hid hL
  have hst' := Lib.hid hst
  have hno' := Lib.hid hno
  have hzl' := Lib.hid hzl
  have sl1' := Lib.hid sl1
  have sl2' := Lib.hid sl2
  have sl3' := Lib.hid sl3
  have hne2' := Lib.hid hne2
  have hne3' := Lib.hid hne3
  clear ha hs hz hx hag hL hst hno hzl sl1 sl2 sl3 hne2 hne3
  go_enter Try.func27, Try.ntmps27
  go_wp2_with (go_at_call 29; refine (ha'.out _).mono ?_; rintro e w' ⟨rfl, rfl⟩)
  obtain ⟨w1, hw1⟩ : ∃ w1, (w.alloc (.cells #[.int .i64 0, .slice none 0 0, .slice none 0 0] 63)).alloc (.cells #[.int .i64 218, .slice none 0 0, .slice none 0 0] 63) = w1 := ⟨_, rfl⟩
  rw [hw1]
  have HB := Lib.hid (show Below w.heap.size w w1 by rw [← hw1]; exact ((Below.refl _ _).alloc (Nat.le_refl _) _).alloc (by simp) _)
  have B4 := Lib.hid (show Blk w1 w.heap.size 63 #[.int .i64 0, .slice none 0 0, .slice none 0 0] by rw [← hw1]; exact (heap_old _ _ (by simp)).trans (heap_new _ _))
  have B5 := Lib.hid (show Blk w1 (w.heap.size + 1) 63 #[.int .i64 218, .slice none 0 0, .slice none 0 0] by rw [← hw1]; exact heap_new' _ _ (by simp))
  have X := Lib.hid (hx'.out.late HB.out)
  have S := Lib.hid (hs'.out.mono HB.out)
  clear hw1
  refine (need_ok g n c a at_ 2 _ X.out.c0 X.out.c1 (by omega) (by omega) (by omega)).mono ?_
  rintro e w2 ⟨rfl, hq⟩
  have hb := hq.below w1.heap.size
  have HB := Lib.hid (HB.out.trans (hb.mono HB.out.size))
  have B4 := Lib.hid (B4.out.late hb)
  have B5 := Lib.hid (B5.out.late hb)
  have X := Lib.hid (X.out.late hb)
  have S := Lib.hid (S.out.mono hb)
  clear hq hb
  go_wp2_with fail
  obtain ⟨Ty, f, hne, hbel, hsurj⟩ := later_worlds w2
  have q0 : ∀ s, (f s).cell? ⟨g, 0, none⟩ = some (.slice a n c) := fun s => (X.out.late (hbel s)).c0
  have q1 : ∀ s, (f s).cell? ⟨g, 1, none⟩ = some (.int .i64 at_) := fun s => (X.out.late (hbel s)).c1
  have HS := Lib.hid (hsurj _ ((Below.refl _ _).drew))
  have HG := Lib.hid (fun s => get2_ok a n c z at_ L (f s) (S.out.mono (hbel s)) hz'.out hn hL'.out)
  have hbel' := Lib.hid hbel
  have hsurj' := Lib.hid hsurj
  clear hbel hsurj
  refine wp_quiet_in f (by kernel_rfl) (by kernel_rfl) HS.out ?_
  iterate 14 (go_big_quiet_step ((go_at_call 31; refine (HG.out _).mono ?_; rintro e w3 ⟨rfl, hb3⟩; exact ⟨rfl, hsurj'.out _ ((hbel'.out _).trans (hb3.mono (hbel'.out _).size))⟩)))
  refine wpQuiet_nil ?_
  intro s
  have hb := hbel'.out s
  clear q0 q1 HS
  obtain ⟨w3, hw3⟩ : ∃ w3, f s = w3 := ⟨_, rfl⟩
  rw [hw3] at hb ⊢
  have HB := Lib.hid (HB.out.trans (hb.mono HB.out.size))
  have B4 := Lib.hid (B4.out.late hb)
  have B5 := Lib.hid (B5.out.late hb)
  have X := Lib.hid (X.out.late hb)
  have S := Lib.hid (S.out.mono hb)
  clear hw3 hb HG
  clear hbel' hsurj' hne s f Ty
  have d1 : decide ((L : Int) < 2) = false := by simp; omega
  go_wp2_with fail
  refine (need_ok g n c a at_ (L : Int) _ X.out.c0 X.out.c1 (by omega) (by omega) (by omega)).mono ?_
  rintro e w4 ⟨rfl, hq⟩
  have hb := hq.below w3.heap.size
  have HB := Lib.hid (HB.out.trans (hb.mono HB.out.size))
  have B4 := Lib.hid (B4.out.late hb)
  have B5 := Lib.hid (B5.out.late hb)
  have X := Lib.hid (X.out.late hb)
  have S := Lib.hid (S.out.mono hb)
  have S1 := Lib.hid (sl1'.out.mono HB.out)
  have HD := Lib.hid ((Below.refl w4.heap.size w4).drew)
  clear hq hb
  have hw1 : IntKind.i64.wrap ((at_ : Int) + 2) = at_ + 2 := by rw [IntKind.wrap_i64]; omega
  have hw2 : IntKind.i64.wrap ((at_ : Int) + L) = at_ + L := by rw [IntKind.wrap_i64]; omega
  go_wp2_with fail
  obtain ⟨Ty, f, hne, hbel, hsurj⟩ := below_worlds w.heap.size w4
  have q0 : ∀ s, (f s).cell? ⟨g, 0, none⟩ = some (.slice a n c) := fun s => (Blk.mono X.out (hbel s) hglt).cell rfl
  have q1 : ∀ s, (f s).cell? ⟨g, 1, none⟩ = some (.int .i64 at_) := fun s => (Blk.mono X.out (hbel s) hglt).cell rfl
  have HS := Lib.hid (hsurj _ ((Below.refl _ _).drew))
  have hbel' := Lib.hid hbel
  have hsurj' := Lib.hid hsurj
  clear hbel hsurj
  refine held_begin (S := fun W => ∃ s, W = f s) (by kernel_rfl) 19 rfl ?_
  refine held_take [0, 1, 2, 3, 4, 5, 6, 7, 8, 9, 10, 11, 12, 13, 14, 15] 3 (by kernel_rfl) (fun d _ _ _ _ h => by cases d <;> exact h) (by kernel_rfl) (by kernel_rfl) (by kernel_rfl) HS.out ?_
  simp only [pickL, List.map_cons, List.map_nil, List.getD_cons_succ, List.getD_cons_zero]
  iterate 16 (go_big_quiet_step (fail))
  refine wpQuiet_nil ?_
  refine held_one 16 2 (by kernel_rfl) (by kernel_rfl) ?_
  simp only [pickL, List.map_cons, List.map_nil, List.getD_cons_succ, List.getD_cons_zero]
  go_wp2_with fail
  refine (bclone_any a1 (L - 2) _ _ _ (S1.out.mono HD.out) (by omega)).mono ?_
  rintro e w5 ⟨a5, c5, rfl, s5, _, hb5⟩
  have hb := HD.out.trans (hb5.mono HD.out.size)
  have H45 := Lib.hid (hb.mono HB.out.size)
  have HS := Lib.hid (hsurj'.out _ H45.out)
  have HB := Lib.hid (HB.out.trans H45.out)
  have B4 := Lib.hid (B4.out.late hb)
  have B5 := Lib.hid (B5.out.late hb)
  have X := Lib.hid (X.out.late hb)
  have S := Lib.hid (S.out.mono hb)
  clear s5 hb5
  go_wp2_with fail
  refine Mid.mk ⟨HS.out, ?_⟩
  refine held_take [17] 1 (by kernel_rfl) (fun d _ _ _ _ h => by cases d <;> exact h) (by kernel_rfl) (by kernel_rfl) (by kernel_rfl) HS.out ?_
  simp only [pickL, List.map_cons, List.map_nil, List.getD_cons_succ, List.getD_cons_zero]
  iterate 1 (go_big_quiet_step (fail))
  refine wpQuiet_nil ?_
  refine held_one 18 0 (by kernel_rfl) (by kernel_rfl) ?_
  simp only [pickL, List.map_cons, List.map_nil, List.getD_cons_succ, List.getD_cons_zero]
  have p5 : w5.cell? ⟨w.heap.size + 1, 1, none⟩ = some (.slice none 0 0) := B5.out.cell rfl
  have z5 : w5.frozen? ⟨w.heap.size + 1, 1, none⟩ = false := B5.out.frozen 1
  go_wp2_with fail
  have hbs := H45.out.setCell (p := ⟨w.heap.size + 1, 1, none⟩) (show w.heap.size ≤ w.heap.size + 1 by omega) (.slice a5 (L - 2) c5)
  have HS := Lib.hid (hsurj'.out _ hbs)
  have HB := Lib.hid (HB.out.setCell (p := ⟨w.heap.size + 1, 1, none⟩) (show w.heap.size ≤ w.heap.size + 1 by omega) (.slice a5 (L - 2) c5))
  have B4 := Lib.hid (B4.out.set_other (show w.heap.size ≠ w.heap.size + 1 by omega) 1 (.slice a5 (L - 2) c5))
  have B5 := Lib.hid (B5.out.set 1 (.slice a5 (L - 2) c5))
  have X := Lib.hid (show Lx (w5.setCell ⟨w.heap.size + 1, 1, none⟩ (.slice a5 (L - 2) c5)) g a n c at_ from Blk.set_other X.out (show g ≠ w.heap.size + 1 by omega) 1 _)
  have S := Lib.hid (hs'.out.mono HB.out)
  clear p5 z5 hbs hb q0 q1
  refine Mid.mk ⟨HS.out, ?_⟩
  refine held_last (by kernel_rfl) ?_
  obtain ⟨w6, hw6⟩ : ∃ w6, w5.setCell ⟨w.heap.size + 1, 1, none⟩ (.slice a5 (L - 2) c5) = w6 := ⟨_, rfl⟩
  rw [hw6] at HB B4 B5 X S ⊢
  clear hw6 HS hbel' hsurj' hne HD S1
  have c1 := X.out.c1
  have cz := X.out.fz
  have S2 := Lib.hid (sl2'.out.mono HB.out)
  have S3 := Lib.hid (sl3'.out.mono HB.out)
  go_wp2_with fail
  have HT := Lib.hid ((But.of_below (b := g) HB.out |>.trans (But.refl g w6)).set 1 (.int .i64 ((at_ : Int) + L)))
  have B4 := Lib.hid (B4.out.set_other (show w.heap.size ≠ g by omega) 1 (.int .i64 ((at_ : Int) + L)))
  have B5 := Lib.hid (B5.out.set_other (show w.heap.size + 1 ≠ g by omega) 1 (.int .i64 ((at_ : Int) + L)))
  have hcast : ((at_ + L : Nat) : Int) = (at_ : Int) + L := by omega
  have X := Lib.hid (show Lx (w6.setCell ⟨g, 1, none⟩ (.int .i64 ((at_ : Int) + L))) g a n c (at_ + L) from hcast ▸ X.out.move (at_ + L))
  have hb6 : But g w6 (w6.setCell ⟨g, 1, none⟩ (.int .i64 ((at_ : Int) + L))) := (But.refl g w6).set 1 _
  have S2 := Lib.hid (S2.out.but hb6 hne2'.out)
  have S3 := Lib.hid (S3.out.but hb6 hne3'.out)
  clear hb6 c1 cz
  obtain ⟨w7, hw7⟩ : ∃ w7, w6.setCell ⟨g, 1, none⟩ (.int .i64 ((at_ : Int) + L)) = w7 := ⟨_, rfl⟩
  rw [hw7] at HT B4 B5 X S2 S3 ⊢
  clear hw7
  obtain ⟨Ty2, f2, hne, hbel, hsurj⟩ := later_worlds w7
  have q0 : ∀ s, (f2 s).cell? ⟨g, 0, none⟩ = some (.slice a n c) := fun s => (X.out.late (hbel s)).c0
  have q1 : ∀ s, (f2 s).cell? ⟨g, 1, none⟩ = some (.int .i64 ((at_ : Int) + L)) := fun s => hcast ▸ (X.out.late (hbel s)).c1
  have HS := Lib.hid (hsurj _ ((Below.refl _ _).drew))
  have HG := Lib.hid (fun s => scanned_at a2 (n - (at_ + L)) _ _ k (f2 s) (S2.out.mono (hbel s)) (hz'.out.drop _) hk hst'.out hno'.out)
  have hbel' := Lib.hid hbel
  have hsurj' := Lib.hid hsurj
  clear hbel hsurj
  refine wp_quiet_in f2 (by kernel_rfl) (by kernel_rfl) HS.out ?_
  iterate 11 (go_big_quiet_step ((go_at_call 33; refine (HG.out _).mono ?_; rintro e w_ ⟨rfl, rfl⟩; exact ⟨rfl, _, rfl⟩)))
  refine wpQuiet_nil ?_
  intro s
  have hb := hbel'.out s
  clear q0 q1 HS
  obtain ⟨w8, hw8⟩ : ∃ w8, f2 s = w8 := ⟨_, rfl⟩
  rw [hw8] at hb ⊢
  have HT := Lib.hid (HT.out.later hb)
  have B4 := Lib.hid (B4.out.late hb)
  have B5 := Lib.hid (B5.out.late hb)
  have X := Lib.hid (X.out.late hb)
  have S3 := Lib.hid (S3.out.mono hb)
  have HD := Lib.hid ((Below.refl w8.heap.size w8).drew)
  have hsz8 := HT.out.size
  clear hw8 hb HG
  have hw3 : IntKind.i64.wrap ((at_ : Int) + L + k) = at_ + L + k := by rw [IntKind.wrap_i64]; omega
  go_wp2_with fail
  obtain ⟨Ty3, f3, hne3, hbel, hsurj⟩ := below_worlds w.heap.size w8
  have q0 : ∀ s, (f3 s).cell? ⟨g, 0, none⟩ = some (.slice a n c) := fun s => (Blk.mono X.out (hbel s) hglt).cell rfl
  have q1 : ∀ s, (f3 s).cell? ⟨g, 1, none⟩ = some (.int .i64 ((at_ : Int) + L)) := fun s => hcast ▸ (Blk.mono X.out (hbel s) hglt).cell rfl
  have HS := Lib.hid (hsurj _ ((Below.refl _ _).drew))
  have hbel' := Lib.hid hbel
  have hsurj' := Lib.hid hsurj
  clear hbel hsurj
  refine held_begin (S := fun W => ∃ s, W = f3 s) (by kernel_rfl) 18 rfl ?_
  refine held_take [0, 1, 2, 3, 4, 5, 6, 7, 8, 9, 10, 11, 12, 13, 14] 3 (by kernel_rfl) (fun d _ _ _ _ h => by cases d <;> exact h) (by kernel_rfl) (by kernel_rfl) (by kernel_rfl) HS.out ?_
  simp only [pickL, List.map_cons, List.map_nil, List.getD_cons_succ, List.getD_cons_zero]
  iterate 15 (go_big_quiet_step (fail))
  refine wpQuiet_nil ?_
  refine held_one 15 2 (by kernel_rfl) (by kernel_rfl) ?_
  simp only [pickL, List.map_cons, List.map_nil, List.getD_cons_succ, List.getD_cons_zero]
  go_wp2_with fail
  refine (bclone_any a3 k _ _ _ (S3.out.mono HD.out) (by omega)).mono ?_
  rintro e w9 ⟨a9, c9, rfl, s9, _, hb9⟩
  have hb := HD.out.trans (hb9.mono HD.out.size)
  have H89 := Lib.hid (hb.mono hsz8)
  have HS := Lib.hid (hsurj'.out _ H89.out)
  have HT := Lib.hid (HT.out.later hb)
  have B4 := Lib.hid (B4.out.late hb)
  have B5 := Lib.hid (B5.out.late hb)
  have X := Lib.hid (X.out.late hb)
  clear s9 hb9 hb
  go_wp2_with fail
  refine Mid.mk ⟨HS.out, ?_⟩
  refine held_take [16] 1 (by kernel_rfl) (fun d _ _ _ _ h => by cases d <;> exact h) (by kernel_rfl) (by kernel_rfl) (by kernel_rfl) HS.out ?_
  simp only [pickL, List.map_cons, List.map_nil, List.getD_cons_succ, List.getD_cons_zero]
  iterate 1 (go_big_quiet_step (fail))
  refine wpQuiet_nil ?_
  refine held_one 17 0 (by kernel_rfl) (by kernel_rfl) ?_
  simp only [pickL, List.map_cons, List.map_nil, List.getD_cons_succ, List.getD_cons_zero]
  have p5 : w9.cell? ⟨w.heap.size + 1, 2, none⟩ = some (.slice none 0 0) := B5.out.cell rfl
  have z5 : w9.frozen? ⟨w.heap.size + 1, 2, none⟩ = false := B5.out.frozen 2
  go_wp2_with fail
  have hbs := H89.out.setCell (p := ⟨w.heap.size + 1, 2, none⟩) (show w.heap.size ≤ w.heap.size + 1 by omega) (.slice a9 k c9)
  have HS := Lib.hid (hsurj'.out _ hbs)
  have HT := Lib.hid (HT.out.set_new (show w.heap.size ≤ w.heap.size + 1 by omega) 2 (.slice a9 k c9))
  have B4 := Lib.hid (B4.out.set_other (show w.heap.size ≠ w.heap.size + 1 by omega) 2 (.slice a9 k c9))
  have B5 := Lib.hid (B5.out.set 2 (.slice a9 k c9))
  have X := Lib.hid (show Lx (w9.setCell ⟨w.heap.size + 1, 2, none⟩ (.slice a9 k c9)) g a n c (at_ + L) from Blk.set_other X.out (show g ≠ w.heap.size + 1 by omega) 2 _)
  clear p5 z5 hbs q0 q1
  refine Mid.mk ⟨HS.out, ?_⟩
  refine held_last (by kernel_rfl) ?_
  obtain ⟨w10, hw10⟩ : ∃ w10, w9.setCell ⟨w.heap.size + 1, 2, none⟩ (.slice a9 k c9) = w10 := ⟨_, rfl⟩
  rw [hw10] at HT B4 B5 X ⊢
  clear hw10 HS hbel' hsurj' HD
  have c1 : w10.cell? ⟨g, 1, none⟩ = some (.int .i64 ((at_ : Int) + L)) := hcast ▸ X.out.c1
  have cz := X.out.fz
  have b0 : w10.cell? ⟨w.heap.size + 1, 0, none⟩ = some (.int .i64 218) := B5.out.cell rfl
  have b1 : w10.cell? ⟨w.heap.size + 1, 1, none⟩ = some (.slice a5 (L - 2) c5) := B5.out.cell rfl
  have b2 : w10.cell? ⟨w.heap.size + 1, 2, none⟩ = some (.slice a9 k c9) := B5.out.cell rfl
  have e0 : w10.cell? ⟨w.heap.size, 0, none⟩ = some (.int .i64 0) := B4.out.cell rfl
  have e1 : w10.cell? ⟨w.heap.size, 1, none⟩ = some (.slice none 0 0) := B4.out.cell rfl
  have e2 : w10.cell? ⟨w.heap.size, 2, none⟩ = some (.slice none 0 0) := B4.out.cell rfl
  have y0 := B4.out.frozen 0
  have y1 := B4.out.frozen 1
  have y2 := B4.out.frozen 2
  have n1 : w.heap.size ≠ g := by omega
  have n2 : w.heap.size + 1 ≠ g := by omega
  have n3 : g ≠ w.heap.size := by omega
  have n4 : g ≠ w.heap.size + 1 := by omega
  go_wp2_with fail
  have hc2 : ((at_ + L + k : Nat) : Int) = (at_ : Int) + L + k := by omega
  have X2 : Lx (w10.setCell ⟨g, 1, none⟩ (.int .i64 ((at_ : Int) + L + k))) g a n c (at_ + L + k) := hc2 ▸ X.out.move (at_ + L + k)
  refine bodyPost_ret (results_cell_row rfl _ _ w.heap.size 63 #[.int .i64 218, .slice a5 (L - 2) c5, .slice a9 k c9] (0, 0) _ rfl ((B4.out.set_other (show w.heap.size ≠ g by omega) 1 _).set3 _ _ _) Try.underlying63 rfl (by kernel_rfl)) rfl ?_
  exact ⟨_, _, _, _, rfl, (((HT.out.set 1 _).set_new (Nat.le_refl _) 0 _).set_new (Nat.le_refl _) 1 _).set_new (Nat.le_refl _) 2 _, Blk.set_other (Blk.set_other (Blk.set_other X2 n3 0 _) n3 1 _) n3 2 _⟩
end Go.Proofs.Ythcecnolmhillaa
