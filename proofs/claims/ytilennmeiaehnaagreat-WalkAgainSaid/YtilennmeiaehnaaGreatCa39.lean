/- Chapter 22: the law's own small functions: of, alone, wrong. | Chapter 22: the example's value: OfNumbers of one number of two bytes. | Chapter 22: wrong; awake: the chapter's examples. | Chapter 22, the document's walk: all of a block. | Chapter 22: Of, Clean of the document; Clean of the program. | Chapter 22: the walk of WalkReads. -/
import Derived.LoopN
import Derived.Lib.ConvBytes
import Derived.Laws.AppendOwn
import Derived.Test.YtilennmeiaehnaaGreatCa38
import Derived.Test.YtilennmeiaehnaaGreatCa09
import Derived.Test.YtilennmeiaehnaaGreatCa04
import Derived.Test.YtilennmeiaehnaaGreatCa02
import Derived.Test.YtilennmeiaehnaaGreatCa00
namespace Go.Proofs.YtilennmeiaehnaaGreat
open Go.RowKit Tt
set_option linter.unusedVariables false
set_option linter.unusedSimpArgs false

theorem info_u8W : (Tryz.prog.info? 5).map (fun i => (i.zero, i.size, i.bytes)) = some (some (.int .u8 0), 1, 1) := by kernel_rfl
set_option maxHeartbeats 1000000 in
theorem lof_anyW (a : Option Addr) (n c : Nat) (x : List Int) (w : World) (hx : Sl w a n c 1 (ints .u8 x)) (hn : n ≤ 1000000) :
    Calls Tryz.prog 68 #[.slice a n c] w fun e w' => ∃ a' c', e = .returned (.slice a' (8 + n) c') ∧ Sl w' a' (8 + n) c' 1 (ints .u8 (ofL x)) ∧ Below w.heap.size w w' := by
  obtain ⟨i0, hi, hz0, hz1, hz2⟩ := info_parts info_u8W
  go_enter Tryz.func68, Tryz.ntmps68
  go_wp2_with (at_builtin; refine wpList_app rfl _ _ 30 rfl w.heap.size 5 i0 _ 1 1 Tryz.underlying30 hi hz0 hz1 hz2 rfl (by decide) _ 8 (ints .u8 [73, 73, 42, 0, 8, 0, 0, 0]) rfl (own_new w w.heap.size 5 1 8 _ (Nat.le_refl _) (by unfold maxLen; omega) rfl) a n c _ rfl (sl_alloc hx _) ints_one (by omega) (by decide) (by simp) ?_; intro a' c' w1 hown hbel hgrow)
  rw [← ints_append] at hown; clear hgrow
  go_wp2
  go_ret
  exact ⟨a', c', rfl, (Sl.of_own hown).1, ((Below.refl _ _).alloc (Nat.le_refl _) _).trans hbel⟩
theorem DirsAt.rd {X : Nat → Prop} {B : Nat} {w : World} {a : Option Addr} {n c : Nat} {ds : List (DirT 16)} (h : DirsAt X B w (.slice a n c) ds) : DirsR 16 w a n c ds := by
  obtain ⟨dzs, h1, h2, h3⟩ := h; exact ⟨dzs, h1, h2.sl, fun i hi hi' => (h3 i hi hi').rd⟩
theorem DirsR.len {f : Nat} {w : World} {a : Option Addr} {n c : Nat} {ds : List (DirT f)} (h : DirsR f w a n c ds) : ds.length = n := by
  obtain ⟨dzs, h1, h2, _⟩ := h; rw [← h1]; exact h2.flen dvC_len (by decide)
def AlPostW (w : World) (oo : Int) (R : Except Int (List (DirT 16) × St)) (e : Ending) (w' : World) : Prop := match R with
  | .error x => e = .returned (.tuple #[.agg #[.int .i64 0, .slice none 0 0], .int .i64 x]) ∧ Below w.heap.size w w'
  | .ok (ds, s) => ∃ a c, e = .returned (.tuple #[.agg #[.int .i64 oo, .slice a ds.length c], .int .i64 0]) ∧ Below w.heap.size w w' ∧ DirsR 16 w' a ds.length c ds
theorem lone_atW {w w' : World} (h : Below (w.heap.size + 1) (w.alloc (.cells #[.slice none 0 0, .int .i64 0, .int .i64 0, .int .i64 (-1)] 50)) w') : ShR w' (some ⟨w.heap.size, 0, none⟩) 1 1 [((none, 0, 0), ([], 0, 0, -1))] := by
  have h2 : ShR (w.alloc (.cells #[.slice none 0 0, .int .i64 0, .int .i64 0, .int .i64 (-1)] 50)) (some ⟨w.heap.size, 0, none⟩) 1 1 [((none, 0, 0), ([], 0, 0, -1))] :=
    ⟨Sl.new w 50 4 1 _ (0, 0) (by omega) rfl, fun z hz => by obtain rfl : z = _ := List.mem_singleton.1 hz; exact Sl.nil _ _⟩
  exact h2.mono (by simpa using h)
set_option maxRecDepth 20000 in
set_option maxHeartbeats 8000000 in
theorem alone_anyW (hD : DirOk) (a : Option Addr) (n c : Nat) (z : List Int) (w : World) (hs : Sl w a n c 1 (ints .u8 z)) (hby : Byt z) (hn : n ≤ 1000000000) :
    Calls Tryz.prog 67 #[.slice a n c] w (AlPostW w (orderS z) (readS z loneS)) := by
  have bp := Blk.new w 24 #[.int .i64 0, .slice none 0 0]; have hbW := (Below.refl w.heap.size w).alloc (Nat.le_refl _) (.cells #[.int .i64 0, .slice none 0 0] 24); have hsz : (w.alloc (.cells #[.int .i64 0, .slice none 0 0] 24)).heap.size = w.heap.size + 1 := by simp
  obtain ⟨W, hW⟩ : ∃ W, w.alloc (.cells #[.int .i64 0, .slice none 0 0] 24) = W := ⟨_, rfl⟩; rw [hW] at bp hbW hsz; obtain ⟨V, hV⟩ : ∃ V, W.alloc (.cells #[.slice none 0 0, .int .i64 0, .int .i64 0, .int .i64 (-1)] 50) = V := ⟨_, rfl⟩; have hbV : Below W.heap.size W V := by rw [← hV]; exact (Below.refl _ _).alloc (Nat.le_refl _) _
  have hsV : V.heap.size = W.heap.size + 1 := by rw [← hV]; simp
  have hsh : ShR V (some ⟨W.heap.size, 0, none⟩) 1 1 [((none, 0, 0), ([], 0, 0, -1))] := lone_atW (by rw [hV]; exact Below.refl _ _); have HW := wof_any hD a n c z _ 1 1 _ V ((hs.mono hbW).mono hbV) hsh hby hn (fun x h => readS_ne h); rw [show shps [((none, 0, 0), ([], 0, 0, -1))] = loneS from rfl] at HW; obtain ⟨R, hR⟩ : ∃ R, readS z loneS = R := ⟨_, rfl⟩; rw [hR] at HW; rw [hR]; obtain ⟨oo, hoo⟩ : ∃ o, orderS z = o := ⟨_, rfl⟩; rw [hoo] at HW; rw [hoo]; rw [hsz] at HW; have bpV := bp.late hbV; have hbwV := hbW.trans (hbV.mono hbW.size); have hs' := Lib.hid hs; have hby' := Lib.hid hby
  have bp' := Lib.hid bp; have hbW' := Lib.hid hbW; have HW' := Lib.hid HW; have hR' := Lib.hid hR; have hoo' := Lib.hid hoo; have bpV' := Lib.hid bpV; have hbwV' := Lib.hid hbwV; have hbV' := Lib.hid hbV; have hsh' := Lib.hid hsh; clear hs hby bp hbW HW hR hoo bpV hbwV hbV hsh
  go_enter Tryz.func67, Tryz.ntmps67
  go_upto_region 1 with fail
  try rw [hW]
  clear hW
  go_wp2_with fail
  refine HW'.out.mono ?_; rintro e w2 hpost
  obtain ⟨x0, xa, xm, xc, ys, er, rfl, hb2, hend⟩ : ∃ (x0 : Int) (xa : Option Addr) (xm xc : Nat) (ys : Value) (er : Int), e = .returned (.tuple #[.agg #[.int .i64 x0, .slice xa xm xc], ys, .int .i64 er]) ∧ Below V.heap.size V w2 ∧ (∀ w3, But w.heap.size w2 w3 → Below w.heap.size w w3 → AlPostW w oo R (.returned (.tuple #[.agg #[.int .i64 x0, .slice xa xm xc], .int .i64 er])) w3) := by
    cases R with
    | error x =>
      obtain ⟨rfl, hb⟩ := hpost; exact ⟨0, none, 0, 0, _, x, rfl, hb, fun w3 h3 h => ⟨rfl, h⟩⟩
    | ok r =>
      obtain ⟨ds, s⟩ := r; obtain ⟨a2, m, c2, b, k, d, rfl, hb, hds, _⟩ := hpost; have hm : ds.length = m := (DirsAt.rd hds).len; subst hm; exact ⟨oo, a2, ds.length, c2, _, 0, rfl, hb, fun w3 h3 h => ⟨a2, c2, rfl, h, DirsAt.rd (DirsAt.keep hds (kp_but h3 (by omega)))⟩⟩
  have bp2 := bpV'.out.late hb2; have hbw2 := hbwV'.out.trans (hb2.mono hbwV'.out.size); have p0 : w2.cell? ⟨w.heap.size, 0, none⟩ = some (.int .i64 0) := bp2.cell rfl; have p1 : w2.cell? ⟨w.heap.size, 1, none⟩ = some (.slice none 0 0) := bp2.cell rfl; have y0 := bp2.frozen 0; have y1 := bp2.frozen 1; have hlt := bp2.lt; have hbt := ((But.refl w.heap.size w2).set 0 (.int .i64 x0)).set 1 (.slice xa xm xc); have bp3 := (bp2.set 0 (.int .i64 x0)).set 1 (.slice xa xm xc); have hb3 := hbt.below (Nat.le_refl _) hbw2.size; have hb23 := hbw2.trans hb3; have bp2' := Lib.hid bp2; have hbw2' := Lib.hid hbw2; have hb2' := Lib.hid hb2; have hend' := Lib.hid hend; have hbt' := Lib.hid hbt; have bp3' := Lib.hid bp3; have hb3' := Lib.hid hb3; have hb23' := Lib.hid hb23; clear bp2 hbw2 hb2 hend hbt bp3 hb3 hb23
  go_wp2_with fail
  generalize (w2.setCell ⟨w.heap.size, 0, none⟩ (.int .i64 x0)).setCell ⟨w.heap.size, 1, none⟩ (.slice xa xm xc) = w3 at *
  have hal := (Below.refl w3.heap.size w3).alloc (Nat.le_refl _) (.cells #[.int .i64 x0, .slice xa xm xc] 24); refine bodyPost_ret (results_blk_tmp rfl _ _ w.heap.size 24 #[.int .i64 x0, .slice xa xm xc] _ rfl (bp3'.out.late hal) Tryz.underlying24 rfl (by kernel_rfl)) rfl ?_; exact hend'.out _ (hbt'.out.trans (But.of_below hal)) (hb23'.out.trans (hal.mono hb23'.out.size))
end Go.Proofs.YtilennmeiaehnaaGreat

namespace Go.Proofs.YtilennmeiaehnaaGreat
open Go.RowKit Tt
set_option linter.unusedVariables false

theorem sign3W (w : World) : Calls Tryz.prog 154 #[.int .i64 3] w fun e w' => e = .returned (.bool false) ∧ w = w' := by
  go_enter Tryz.func154, Tryz.ntmps154
  go_wp2
  go_ret
  exact ⟨rfl, rfl⟩
theorem part3W (w : World) : Calls Tryz.prog 156 #[.int .i64 3] w fun e w' => e = .returned (.int .i64 2) ∧ w = w' := by
  go_enter Tryz.func156, Tryz.ntmps156
  go_wp2_with (go_at_call 119; refine (rsize_any _ _).mono ?_; rintro e w' ⟨rfl, rfl⟩)
  go_ret
  exact ⟨rfl, rfl⟩

theorem put258W (w : World) : Calls Tryz.prog 91 #[.int .i64 258, .int .i64 2, .int .i64 2] w fun e w' => ∃ a c, e = .returned (.tuple #[.slice a 2 c, .bool true]) ∧ Sl w' a 2 c 1 (ints .u8 [1, 2]) ∧ Below w.heap.size w w' := by
  refine (r1put_any _ _ _ _).mono ?_; rintro e w' ⟨a, m, c, rfl, ho, hb⟩; rw [show putS 258 2 2 = [1, 2] by decide] at ho; have hs := (Sl.of_own ho).1; obtain rfl : m = 2 := by have := hs.ilen; simpa using this.symm
  exact ⟨a, c, by rw [show putOk 258 2 2 = true by decide], hs, hb⟩

set_option maxRecDepth 20000 in
set_option maxHeartbeats 4000000 in
theorem of258W (a : Option Addr) (c : Nat) (w : World) (hs : Sl w a 1 c 1 (ints .i64 [258])) :
    Calls Tryz.prog 120 #[.int .i64 3, .slice a 1 c, .int .i64 1] w fun e w' => ∃ a' c', e = .returned (.tuple #[.agg #[.int .i64 3, .int .i64 1, .slice a' 2 c'], .bool true]) ∧ w'.ownsRow w.heap.size 5 1 (.slice a' 2 c') 2 (ints .u8 [1, 2]) ∧ Below w.heap.size w w' := by
  obtain ⟨i0, hi, hz0, hz1, hz2⟩ := info_parts info8; obtain ⟨b, o, rfl, hbx, cx⟩ := hs.at (i := 0) (by omega); have c1 : w.cell? ⟨b, o, none⟩ = some (.int .i64 258) := cx 0 _ rfl; clear cx; have Hs := Lib.hid hs; clear hs
  go_enter Tryz.func120, Tryz.ntmps120
  go_wp2
  obtain ⟨W0, hW0⟩ : ∃ W0, W0 = (w.alloc (.cells #[.int .i64 0, .int .i64 0, .slice none 0 0] 76)).alloc (.cells #[.int .i64 3, .int .i64 1, .slice none 0 0] 76) := ⟨_, rfl⟩; obtain ⟨g, hg⟩ : ∃ g, g = w.heap.size + 1 := ⟨_, rfl⟩; have B0 : Blk W0 w.heap.size 76 #[.int .i64 0, .int .i64 0, .slice none 0 0] := by rw [hW0]; exact (Blk.new _ _ _).alloc _
  have G0 : Blk W0 g 76 #[.int .i64 3, .int .i64 1, .slice none 0 0] := by rw [hW0, hg]; have := Blk.new (w.alloc (.cells #[.int .i64 0, .int .i64 0, .slice none 0 0] 76)) 76 #[.int .i64 3, .int .i64 1, .slice none 0 0]; simpa using this
  have BW : Below w.heap.size w W0 := by rw [hW0]; exact ((Below.refl _ _).alloc (Nat.le_refl _) _).alloc (by simp) _
  have B0 := Lib.hid B0; have G0 := Lib.hid G0; have BW := Lib.hid BW; have Hg := Lib.hid hg; have c2 : W0.cell? ⟨b, o, none⟩ = some (.int .i64 258) := late BW.out hbx c1; rw [← hW0, ← hg]; clear hW0 hg c1; refine wp_loop_rounds 2 ?_; rw [rounds_succ]
  go_wp2_with (first
    | (go_at_call 154; refine (sign3W _).mono ?_; rintro e w' ⟨rfl, rfl⟩)
    | (go_at_call 156; refine (part3W _).mono ?_; rintro e w' ⟨rfl, rfl⟩)
    | (go_at_call 91; refine (put258W _).mono ?_; rintro e w1 ⟨a1, c1, rfl, hs1, hb1⟩; have Hs1 := Lib.hid hs1; have G1 := Lib.hid (G0.out.late hb1); have Hb1 := Lib.hid hb1; clear hs1 hb1; have q2 : w1.cell? ⟨g, 2, none⟩ = some (.slice none 0 0) := G1.out.cell rfl)
    | (at_builtin; refine wpList_app rfl _ _ 30 rfl W0.heap.size 5 i0 _ 1 1 Tryz.underlying30 hi hz0 hz1 hz2 rfl (by decide) _ 0 [] rfl (own_nil _ _ _ _) a1 2 c1 _ rfl Hs1.out ints_one (by omega) (by decide) Hb1.out.size ?_; intro a5 c5 w2 ob hb2 hg2; clear hg2; have Ob := Lib.hid ob; have Hb2 := Lib.hid (Hb1.out.trans hb2); clear ob hb2; have G2 := Lib.hid (G0.out.late Hb2.out); have z0 : w2.cell? ⟨g, 0, none⟩ = some (.int .i64 3) := G2.out.cell rfl; have z1 : w2.cell? ⟨g, 1, none⟩ = some (.int .i64 1) := G2.out.cell rfl; have z2 : w2.cell? ⟨g, 2, none⟩ = some (.slice none 0 0) := G2.out.cell rfl; have fz := G2.out.frozen 2))
  obtain ⟨w3, hw3⟩ : ∃ w3, w3 = w2.setCell ⟨g, 2, none⟩ (.slice a5 2 c5) := ⟨_, rfl⟩; rw [← hw3]; have B2 : Blk w2 w.heap.size 76 #[.int .i64 0, .int .i64 0, .slice none 0 0] := B0.out.late Hb2.out; have G3 : Blk w3 g 76 #[.int .i64 3, .int .i64 1, .slice a5 2 c5] := by rw [hw3]; exact G2.out.set 2 _
  have B3 : Blk w3 w.heap.size 76 #[.int .i64 0, .int .i64 0, .slice none 0 0] := by rw [hw3]; exact B2.set_other (by have := Hg.out; omega) _ _
  have O3 : w3.ownsRow W0.heap.size 5 1 (.slice a5 2 c5) 2 (ints .u8 [1, 2]) := by rw [hw3]; exact own_set_other Ob.out G0.out.lt _ _
  have BB : Below w.heap.size w w3 := by rw [hw3]; exact (BW.out.trans (Hb2.out.mono BW.out.size)).setCell (by show w.heap.size ≤ g; have := Hg.out; omega) _
  have S3 := Lib.hid (Sl.of_own O3).1; have HO3 := Lib.hid O3; have hlt0 : w.heap.size < W0.heap.size := by have h1 := G0.out.lt; have h2 := Hg.out; omega
  have Hlt0 := Lib.hid hlt0; have G3 := Lib.hid G3; have B3 := Lib.hid B3; have BB := Lib.hid BB; clear hw3 z0 z1 z2 fz B2 O3 q2 hlt0; have z0 : w3.cell? ⟨g, 0, none⟩ = some (.int .i64 3) := G3.out.cell rfl; have z1 : w3.cell? ⟨g, 1, none⟩ = some (.int .i64 1) := G3.out.cell rfl; have z2 : w3.cell? ⟨g, 2, none⟩ = some (.slice a5 2 c5) := G3.out.cell rfl; have hmt : mayS 3 1 [1, 2] = true := by decide
  have Hmt := Lib.hid hmt; clear hmt; rw [rounds_succ]
  go_wp2_with (go_at_call 87; refine (rmay_any 3 1 a5 2 c5 [1, 2] _ S3.out).mono ?_; rw [Hmt.out]; rintro e w4 ⟨rfl, hb4⟩; have G4 := Lib.hid (G3.out.late hb4); have B4 := Lib.hid (B3.out.late hb4); have O4 := Lib.hid (own_later HO3.out hb4); have Hb4 := Lib.hid hb4; clear hb4; have y0 : w4.cell? ⟨g, 0, none⟩ = some (.int .i64 3) := G4.out.cell rfl; have y1 : w4.cell? ⟨g, 1, none⟩ = some (.int .i64 1) := G4.out.cell rfl; have y2 : w4.cell? ⟨g, 2, none⟩ = some (.slice a5 2 c5) := G4.out.cell rfl; have x0 : w4.cell? ⟨w.heap.size, 0, none⟩ = some (.int .i64 0) := B4.out.cell rfl; have x1 : w4.cell? ⟨w.heap.size, 1, none⟩ = some (.int .i64 0) := B4.out.cell rfl; have x2 : w4.cell? ⟨w.heap.size, 2, none⟩ = some (.slice none 0 0) := B4.out.cell rfl; have f0 := B4.out.frozen 0; have f1 := B4.out.frozen 1; have f2 := B4.out.frozen 2)
  have B5 := ((B4.out.set 0 (.int .i64 3)).set 1 (.int .i64 1)).set 2 (.slice a5 2 c5); refine bodyPost_ret (results_blk_tmp rfl _ _ w.heap.size 76 #[.int .i64 3, .int .i64 1, .slice a5 2 c5] _ rfl B5 Tryz.underlying76 rfl (by kernel_rfl)) rfl ?_; have O5 := own_set_other (own_set_other (own_set_other O4.out Hlt0.out 0 (.int .i64 3)) Hlt0.out 1 (.int .i64 1)) Hlt0.out 2 (.slice a5 2 c5); exact ⟨_, _, rfl, own_mono O5 (Nat.le_of_lt Hlt0.out), (((BB.out.trans (Hb4.out.mono BB.out.size)).setCell (Nat.le_refl _) _).setCell (Nat.le_refl _) _).setCell (Nat.le_refl _) _⟩

set_option maxHeartbeats 4000000 in
theorem ofnum258W (a : Option Addr) (c : Nat) (w : World) (hs : Sl w a 1 c 1 (ints .i64 [258])) :
    Calls Tryz.prog 69 #[.int .i64 3, .slice a 1 c] w fun e w' => ∃ a' c', e = .returned (.tuple #[.agg #[.int .i64 3, .int .i64 1, .slice a' 2 c'], .bool true]) ∧ w'.ownsRow w.heap.size 5 1 (.slice a' 2 c') 2 (ints .u8 [1, 2]) ∧ Below w.heap.size w w' := by
  have Hs := Lib.hid hs; clear hs
  go_enter Tryz.func69, Tryz.ntmps69
  obtain ⟨W0, hW0⟩ : ∃ W0, W0 = w.alloc (.cells #[.int .i64 0, .int .i64 0, .slice none 0 0] 76) := ⟨_, rfl⟩; have B0 : Blk W0 w.heap.size 76 #[.int .i64 0, .int .i64 0, .slice none 0 0] := by rw [hW0]; exact Blk.new _ _ _
  have BW : Below w.heap.size w W0 := by rw [hW0]; exact (Below.refl _ _).alloc (Nat.le_refl _) _
  have B0 := Lib.hid B0; have BW := Lib.hid BW; have HS := Lib.hid (Hs.out.mono BW.out); have hlt0 : w.heap.size < W0.heap.size := B0.out.lt; have Hlt0 := Lib.hid hlt0; clear hlt0
  go_upto_region 1 with fail
  rw [← hW0]; clear hW0
  go_wp2_with (first
    | (go_at_call 119; refine (rsize_any _ _).mono ?_; rintro e w' ⟨rfl, rfl⟩)
    | (go_at_call 120; refine (of258W a c _ HS.out).mono ?_; rintro e w4 ⟨a5, c5, rfl, hs5, hb4⟩; have S4 := Lib.hid hs5; have B4 := Lib.hid (B0.out.late hb4); have Hb4 := Lib.hid hb4; clear hb4 hs5; have x0 : w4.cell? ⟨w.heap.size, 0, none⟩ = some (.int .i64 0) := B4.out.cell rfl; have x1 : w4.cell? ⟨w.heap.size, 1, none⟩ = some (.int .i64 0) := B4.out.cell rfl; have x2 : w4.cell? ⟨w.heap.size, 2, none⟩ = some (.slice none 0 0) := B4.out.cell rfl; have f0 := B4.out.frozen 0; have f1 := B4.out.frozen 1; have f2 := B4.out.frozen 2))
  have B5 := B4.out.set3 (.int .i64 3) (.int .i64 1) (.slice a5 2 c5); refine bodyPost_ret (results_blk_tmp rfl _ _ w.heap.size 76 #[.int .i64 3, .int .i64 1, .slice a5 2 c5] _ rfl B5 Tryz.underlying76 rfl (by kernel_rfl)) rfl ?_; exact ⟨_, _, rfl, own_mono (own_set3 S4.out Hlt0.out _ _ _) (Nat.le_of_lt Hlt0.out), below_set3 (BW.out.trans (Hb4.out.mono BW.out.size)) (Nat.le_refl _) _ _ _⟩

end Go.Proofs.YtilennmeiaehnaaGreat

namespace Go.Proofs.YtilennmeiaehnaaGreat
open Go.RowKit Tt
set_option linter.unusedVariables false
set_option linter.unusedSimpArgs false

set_option maxRecDepth 20000 in
set_option maxHeartbeats 8000000 in
theorem wrong_anyW (hD : DirOk) (x : Int) (a : Option Addr) (n c : Nat) (z : List Int) (w : World) (hs : Sl w a n c 1 (ints .u8 z)) (hby : Byt z) (hn : n ≤ 1000000000) (hR : readS z loneS = .error x) :
    Calls Tryz.prog 70 #[.int .i64 x, .slice a n c] w fun e w' => e = .returned (.bool true) ∧ Below w.heap.size w w' := by
  have HA := alone_anyW hD a n c z w hs hby hn; rw [hR] at HA; have d1 : (x == x) = true := by simp
  have HA' := Lib.hid HA; have hs' := Lib.hid hs; have hby' := Lib.hid hby
  have hR' := Lib.hid hR; clear HA hs hby hR
  go_enter Tryz.func70, Tryz.ntmps70
  go_wp2_with fail
  refine HA'.out.mono ?_; rintro e w1 ⟨rfl, hb1⟩; have hb1' := Lib.hid hb1; clear hb1
  go_wp2_with fail
  go_ret
  exact ⟨rfl, hb1'.out.alloc hb1'.out.size _⟩
def dirOfW (ts : List Tgs) : DirT 16 := ((ts, [], []) : List Tgs × List (Int × DirT 15) × List Int)
theorem sameT_okW {r : Except Int (List (DirT 16) × St)} {ts : List Tgs} (h : sameT r ts = true) : ∃ s, r = .ok ([dirOfW ts], s) := by
  unfold sameT at h
  split at h
  · rename_i d s
    obtain ⟨d1, d2, d3⟩ : List Tgs × List (Int × DirT 15) × List Int := d; simp only [Bool.and_eq_true, decide_eq_true_eq] at h; obtain ⟨⟨rfl, h2⟩, rfl⟩ := h; obtain rfl := List.eq_nil_of_length_eq_zero h2; exact ⟨s, rfl⟩
  · cases h
theorem errS_okW {r : Except Int (List (DirT 16) × St)} {x : Int} (h : errS r = x) (hx : x ≠ 0) : r = .error x := by
  unfold errS at h
  split at h
  · rw [h]
  · exact absurd h.symm hx
def x1LW : List Int := [1, 0, 0, 1, 3, 0, 1, 0, 0, 0, 2, 1, 0, 0, 0, 0, 0, 0]
def x3LW : List Int := [1, 0, 0, 1, 5, 0, 1, 0, 0, 0, 8, 0, 0, 0, 0, 0, 0, 0]
def x4LW : List Int := [1, 0, 0, 1, 5, 0, 1, 0, 0, 0, 9, 0, 0, 0, 0, 0, 0, 0]
def x5LW : List Int := [1, 0, 0, 1, 5, 0, 1, 0, 0, 0, 232, 3, 0, 0, 0, 0, 0, 0]
def x6LW : List Int := [1, 0, 0, 1, 2, 0, 2, 0, 0, 0, 97, 98, 0, 0, 0, 0, 0, 0]
theorem byt_decW {l : List Int} (h : l.all (fun x => decide (0 ≤ x) && decide (x < 256)) = true) : Byt l := fun x hx => by
  have := List.all_eq_true.1 h x hx
  simpa using this
theorem below_newW {a w w' : World} {o : Obj} (h : Below a.heap.size a w) (hb : Below (w.alloc o).heap.size (w.alloc o) w') : Below a.heap.size a w' := (h.alloc h.size o).trans (hb.mono (h.alloc h.size o).size)
set_option maxRecDepth 100000 in
set_option maxHeartbeats 16000000 in
theorem awake_anyW (hD : DirOk) (w : World) : Calls Tryz.prog 31 #[] w fun e w' => e = .returned (.bool true) ∧ Below w.heap.size w w' := by
  obtain ⟨s1, hr1⟩ := sameT_okW ex1; have ho1 : orderS (ofL x1LW) = 1 := by decide +kernel
  have hr1' := Lib.hid hr1; clear hr1
  go_enter Tryz.func31, Tryz.ntmps31
  go_wp2_with fail
  refine (lof_anyW _ 18 18 x1LW _ (Sl.new w 5 1 18 _ (0, 0) (by omega) rfl) (by omega)).mono ?_; rintro e w1 ⟨a1, c1, rfl, hs1, hb1⟩; have HB1 : Below w.heap.size w w1 := (Below.refl w.heap.size w).trans (((Below.refl w.heap.size w).alloc (Nat.le_refl _) _).trans (hb1.mono (by simp))); have hs1' := Lib.hid hs1; have hb1' := Lib.hid hb1; have HB1' := Lib.hid HB1; clear hs1 hb1 HB1
  go_wp2_with fail
  refine (alone_anyW hD a1 26 c1 _ w1 hs1'.out (byt_decW (by decide +kernel)) (by omega)).mono ?_; rintro e w2 hpost; rw [ho1, show readS (ofL x1LW) loneS = _ from hr1'.out] at hpost; obtain ⟨a2, c2, he2, hb2, hds⟩ := hpost
  replace he2 : e = .returned (.tuple #[.agg #[.int .i64 1, .slice a2 1 c2], .int .i64 0]) := he2
  subst he2
  replace hds : DirsR 16 w2 a2 1 c2 [dirOfW [(256, 3, 1, [1, 2])]] := hds
  have HB2 := HB1'.out.trans (hb2.mono HB1'.out.size); obtain ⟨W2, hW2⟩ : ∃ W, w2.alloc (.cells #[.int .i64 1, .slice a2 1 c2] 24) = W := ⟨_, rfl⟩; have bT : Blk W2 w2.heap.size 24 #[.int .i64 1, .slice a2 1 c2] := by rw [← hW2]; exact Blk.new _ _ _
  have hal : Below w2.heap.size w2 W2 := by rw [← hW2]; exact (Below.refl _ _).alloc (Nat.le_refl _) _
  have HW2 := HB2.trans (hal.mono HB2.size); have hdsW := hds.mono hal; clear hb2 hds ho1 HB2; have hal' := Lib.hid hal; have HW2' := Lib.hid HW2; have hdsW' := Lib.hid hdsW; have bT' := Lib.hid bT; clear hal HW2 hdsW bT
  go_upto_region 2 with fail
  obtain ⟨g1, hg1⟩ : ∃ g, w2.heap.size = g := ⟨_, rfl⟩; rw [hg1] at bT'; rw [hg1]; clear hg1 hW2 hal'
  go_wp2_with fail
  refine (ofnum258W _ 1 _ (Sl.new W2 3 1 1 _ (0, 0) (by omega) rfl)).mono ?_; rintro e w3 ⟨a3, c3, rfl, hown3, hb3⟩; have hb23 : Below W2.heap.size W2 w3 := ((Below.refl W2.heap.size W2).alloc (Nat.le_refl _) _).trans (hb3.mono (by simp)); obtain ⟨W3, hW3⟩ : ∃ W, w3.alloc (.cells #[.int .i64 3, .int .i64 1, .slice a3 2 c3] 76) = W := ⟨_, rfl⟩; have bV : Blk W3 w3.heap.size 76 #[.int .i64 3, .int .i64 1, .slice a3 2 c3] := by rw [← hW3]; exact Blk.new _ _ _
  have hal : Below w3.heap.size w3 W3 := by rw [← hW3]; exact (Below.refl _ _).alloc (Nat.le_refl _) _
  have s3 := (Sl.of_own hown3).1.mono hal; have hbW3 := hb23.trans (hal.mono hb23.size); have HW3 := HW2'.out.trans (hbW3.mono HW2'.out.size); have hds3 := hdsW'.out.mono hbW3; have bT3 := bT'.out.late hbW3; clear hb3 hown3 hb23 hbW3 HW2' hdsW' bT'; have s3' := Lib.hid s3; have HW3' := Lib.hid HW3; have hds3' := Lib.hid hds3; have bT3' := Lib.hid bT3; have bV' := Lib.hid bV; have hal' := Lib.hid hal; clear s3 HW3 hds3 bT3 bV hal
  go_upto_region 3 with fail
  obtain ⟨g3, hg3⟩ : ∃ g, w3.heap.size = g := ⟨_, rfl⟩; have bV := bV'.out; rw [hg3] at bV; rw [hg3]; clear hg3 hW3 hal' bV'; have p0 : W3.cell? ⟨g3, 0, none⟩ = some (.int .i64 3) := bV.cell rfl; have p1 : W3.cell? ⟨g3, 1, none⟩ = some (.int .i64 1) := bV.cell rfl; have p2 : W3.cell? ⟨g3, 2, none⟩ = some (.slice a3 2 c3) := bV.cell rfl; have hlt3 := bV.lt; have hlt1 := bT3'.out.lt; have bV' := Lib.hid bV; clear bV
  go_upto_region 4 with fail
  obtain ⟨n3, hn3⟩ : ∃ n, W3.heap.size = n := ⟨_, rfl⟩; have tg := Sl.new W3 78 4 1 #[.int .i64 256, .int .i64 3, .int .i64 1, .slice a3 2 c3] (0, 0) (by omega) rfl; have a1_ : Below W3.heap.size W3 (W3.alloc (.cells #[.int .i64 256, .int .i64 3, .int .i64 1, .slice a3 2 c3] 78)) := (Below.refl _ _).alloc (Nat.le_refl _) _; have z1_ : (W3.alloc (.cells #[.int .i64 256, .int .i64 3, .int .i64 1, .slice a3 2 c3] 78)).heap.size = W3.heap.size + 1 := by simp
  obtain ⟨T1, hT1⟩ : ∃ W, W3.alloc (.cells #[.int .i64 256, .int .i64 3, .int .i64 1, .slice a3 2 c3] 78) = W := ⟨_, rfl⟩; rw [hT1] at tg a1_ z1_ ⊢; have dg := Sl.new T1 42 3 1 #[.slice (some ⟨W3.heap.size, 0, none⟩) 1 1, .slice none 0 0, .slice none 0 0] (0, 0) (by omega) rfl; have a2_ : Below T1.heap.size T1 (T1.alloc (.cells #[.slice (some ⟨W3.heap.size, 0, none⟩) 1 1, .slice none 0 0, .slice none 0 0] 42)) := (Below.refl _ _).alloc (Nat.le_refl _) _; have z2_ : (T1.alloc (.cells #[.slice (some ⟨W3.heap.size, 0, none⟩) 1 1, .slice none 0 0, .slice none 0 0] 42)).heap.size = T1.heap.size + 1 := by simp
  obtain ⟨T2, hT2⟩ : ∃ W, T1.alloc (.cells #[.slice (some ⟨W3.heap.size, 0, none⟩) 1 1, .slice none 0 0, .slice none 0 0] 42) = W := ⟨_, rfl⟩; rw [hT2] at dg a2_ z2_ ⊢; rw [z1_] at z2_ dg; have bG := Blk.new T2 24 #[.int .i64 1, .slice (some ⟨W3.heap.size + 1, 0, none⟩) 1 1]; have a3_ : Below T2.heap.size T2 (T2.alloc (.cells #[.int .i64 1, .slice (some ⟨W3.heap.size + 1, 0, none⟩) 1 1] 24)) := (Below.refl _ _).alloc (Nat.le_refl _) _; obtain ⟨T3, hT3⟩ : ∃ W, T2.alloc (.cells #[.int .i64 1, .slice (some ⟨W3.heap.size + 1, 0, none⟩) 1 1] 24) = W := ⟨_, rfl⟩; rw [hT3] at bG a3_ ⊢; rw [z2_] at bG; rw [hn3] at dg bG tg ⊢; have a12 := a1_.trans (a2_.mono (by omega)); have a13 := a12.trans (a3_.mono (by omega)); have HT3 := HW3'.out.trans (a13.mono HW3'.out.size); have hdsT := hds3'.out.mono a13; have bT := bT3'.out.late a13; have sV := s3'.out.mono a13; have tgT := (tg.mono a2_).mono a3_; have dgT := dg.mono a3_
  have hwant : DirsR 16 T3 (some ⟨n3 + 1, 0, none⟩) 1 1 [dirOfW [(256, 3, 1, [1, 2])]] :=
    ⟨[(.slice (some ⟨n3, 0, none⟩) 1 1, .slice none 0 0, .slice none 0 0)], rfl, dgT, fun i hi hi' => by
      obtain rfl : i = 0 := by simp at hi; omega
      exact ⟨some ⟨n3, 0, none⟩, 1, 1, [((256, 3, 1, a3, 2, c3), [1, 2])], none, 0, 0, [], none, 0, 0, rfl, ⟨tgT, fun z hz => by obtain rfl := List.mem_singleton.1 hz; exact sV⟩, rfl, Sl.nil _ _, rfl, (fun j hj _ => by cases hj), Sl.nil _ _⟩⟩
  have HS := tree_same 16 1 1 a2 1 c2 (some ⟨n3 + 1, 0, none⟩) 1 1 _ _ T3 hdsT hwant true (by simp); have f0 : T3.cell? ⟨g1, 0, none⟩ = some (.int .i64 1) := bT.cell rfl; have f1 : T3.cell? ⟨g1, 1, none⟩ = some (.slice a2 1 c2) := bT.cell rfl; have k0 : T3.cell? ⟨n3 + 1 + 1, 0, none⟩ = some (.int .i64 1) := bG.cell rfl; have k1 : T3.cell? ⟨n3 + 1 + 1, 1, none⟩ = some (.slice (some ⟨n3 + 1, 0, none⟩) 1 1) := bG.cell rfl; have k2 : T3.cell? ⟨n3 + 2, 0, none⟩ = some (.int .i64 1) := bG.cell rfl; have k3 : T3.cell? ⟨n3 + 2, 1, none⟩ = some (.slice (some ⟨n3 + 1, 0, none⟩) 1 1) := bG.cell rfl; clear hn3 hT1 hT2 hT3 tg dg bG a1_ a2_ a3_ z1_ z2_ a12 a13 hdsT bT sV tgT dgT hwant p0 p1 p2 hlt3 hlt1 s3' HW3' hds3' bT3' bV'; have HS' := Lib.hid HS; have HT3' := Lib.hid HT3; clear HS HT3
  go_wp2_with fail
  refine HS'.out.mono ?_; rintro e v1 ⟨rfl, hb⟩; have HV := Lib.hid (HT3'.out.trans (hb.mono HT3'.out.size)); clear hb HT3' f0 f1 k0 k1 k2 k3 HS' hs1' hb1' HB1'
  go_wp2_with fail
  refine (lof_anyW _ 6 6 [0, 0, 0, 0, 0, 0] _ (Sl.new v1 5 1 6 _ (0, 0) (by omega) rfl) (by omega)).mono ?_; rintro e v2 ⟨a1, c1, rfl, hs, hb⟩; have HV := Lib.hid (below_newW HV.out hb); have hs' := Lib.hid hs; clear hs; clear hb
  go_wp2_with fail
  refine (wrong_anyW hD 2 a1 _ c1 _ v2 hs'.out (byt_decW (by decide +kernel)) (by omega) (errS_okW ex2 (by decide))).mono ?_; rintro e v3 ⟨rfl, hb⟩; have HV := Lib.hid (HV.out.trans (hb.mono HV.out.size)); clear hs' hb
  go_wp2_with fail
  refine (lof_anyW _ 18 18 x3LW _ (Sl.new v3 5 1 18 _ (0, 0) (by omega) rfl) (by omega)).mono ?_; rintro e v4 ⟨a1, c1, rfl, hs, hb⟩; have HV := Lib.hid (below_newW HV.out hb); have hs' := Lib.hid hs; clear hs; clear hb
  go_wp2_with fail
  refine (wrong_anyW hD 5 a1 _ c1 _ v4 hs'.out (byt_decW (by decide +kernel)) (by omega) (errS_okW ex3 (by decide))).mono ?_; rintro e v5 ⟨rfl, hb⟩; have HV := Lib.hid (HV.out.trans (hb.mono HV.out.size)); clear hs' hb
  go_wp2_with fail
  refine (lof_anyW _ 18 18 x4LW _ (Sl.new v5 5 1 18 _ (0, 0) (by omega) rfl) (by omega)).mono ?_; rintro e v6 ⟨a1, c1, rfl, hs, hb⟩; have HV := Lib.hid (below_newW HV.out hb); have hs' := Lib.hid hs; clear hs; clear hb
  go_wp2_with fail
  refine (wrong_anyW hD 4 a1 _ c1 _ v6 hs'.out (byt_decW (by decide +kernel)) (by omega) (errS_okW ex4 (by decide))).mono ?_; rintro e v7 ⟨rfl, hb⟩; have HV := Lib.hid (HV.out.trans (hb.mono HV.out.size)); clear hs' hb
  go_wp2_with fail
  refine (lof_anyW _ 18 18 x5LW _ (Sl.new v7 5 1 18 _ (0, 0) (by omega) rfl) (by omega)).mono ?_; rintro e v8 ⟨a1, c1, rfl, hs, hb⟩; have HV := Lib.hid (below_newW HV.out hb); have hs' := Lib.hid hs; clear hs; clear hb
  go_wp2_with fail
  refine (wrong_anyW hD 4 a1 _ c1 _ v8 hs'.out (byt_decW (by decide +kernel)) (by omega) (errS_okW ex5 (by decide))).mono ?_; rintro e v9 ⟨rfl, hb⟩; have HV := Lib.hid (HV.out.trans (hb.mono HV.out.size)); clear hs' hb
  go_wp2_with fail
  refine (lof_anyW _ 18 18 x6LW _ (Sl.new v9 5 1 18 _ (0, 0) (by omega) rfl) (by omega)).mono ?_; rintro e v10 ⟨a1, c1, rfl, hs, hb⟩; have HV := Lib.hid (below_newW HV.out hb); have hs' := Lib.hid hs; clear hs; clear hb
  go_wp2_with fail
  refine (wrong_anyW hD 6 a1 _ c1 _ v10 hs'.out (byt_decW (by decide +kernel)) (by omega) (errS_okW ex6 (by decide))).mono ?_; rintro e v11 ⟨rfl, hb⟩; have HV := Lib.hid (HV.out.trans (hb.mono HV.out.size)); clear hs' hb
  go_wp2_with fail
  refine (wrong_anyW hD 3 none 0 0 [] v11 (Sl.nil _ _) (byt_decW (by decide +kernel)) (by omega) (errS_okW ex7 (by decide))).mono ?_; rintro e v12 ⟨rfl, hb⟩; have HV := Lib.hid (HV.out.trans (hb.mono HV.out.size)); clear hb
  go_wp2_with fail
  go_ret
  exact ⟨rfl, HV.out⟩
end Go.Proofs.YtilennmeiaehnaaGreat

namespace Tt
open Go Go.RowKit
end Tt
namespace Go.Proofs.YtilennmeiaehnaaGreat
open Go.RowKit Tt
set_option linter.unusedVariables false
set_option linter.unusedSimpArgs false

theorem byte_atW {w : World} {a : Option Addr} {n c : Nat} {z : List Int} (h : Sl w a n c 1 (ints .u8 z)) (i : Nat) (hi : i < n) :
    ∃ p : Addr, (∀ W, (Instr.indexAt 30 (.slice a n c) (.int .i64 (i : Int))).run Tryz.prog W = .ok (.pointer (some p)) W) ∧ p.block < w.heap.size ∧ w.cell? p = some (.int .u8 (z.getD i 0)) := by
  have hl := h.ilen; obtain ⟨b, off, rfl, hb, hc⟩ := h.lies i hi; refine ⟨⟨b, off + i, none⟩, fun W => ?_, hb, hc i _ (ints_get (by omega))⟩; rw [run_indexAt_slice (h := by kernel_rfl), if_pos (by omega)]; have hsz : (sizeOf (Program.elem Tryz.prog 30)).run Tryz.prog W = .ok 1 W := by kernel_rfl
  rw [hsz]
  simp [Result.andThen, Addr.add]
end Go.Proofs.YtilennmeiaehnaaGreat

namespace Go.Proofs.YtilennmeiaehnaaGreat
open Go.RowKit Tt
set_option linter.unusedVariables false
set_option linter.unusedSimpArgs false

theorem cleanS_noW {z : List Int} {L : List Shp} {e : Int} (h : readS z L = .error e) : cleanS z L = false := by unfold cleanS; rw [h]
theorem cleanS_soiledW {z : List Int} {L : List Shp} {ds : List (DirT 16)} {s : St} (h : readS z L = .ok (ds, s)) (hs : 0 < s.soiled) : cleanS z L = false := by
  unfold cleanS; rw [h]
  simp
  intro h2
  omega
theorem cleanS_atW {z : List Int} {L : List Shp} {ds : List (DirT 16)} {s : St} (h : readS z L = .ok (ds, s)) {k : Nat} (hk : k < z.length) (h0 : z.getD k 0 ≠ 0) (ht : takenB s k = false) : cleanS z L = false := by
  unfold cleanS; rw [h]; simp only [Bool.and_eq_false_iff]; refine .inr (List.all_eq_false.2 ⟨k, List.mem_range.2 hk, ?_⟩); rw [ht]
  simp
  simpa [List.getD_eq_getElem?_getD] using h0
theorem cleanS_yesW {z : List Int} {L : List Shp} {ds : List (DirT 16)} {s : St} (h : readS z L = .ok (ds, s)) (hs : s.soiled ≤ 0) (ha : ∀ k : Nat, k < z.length → z.getD k 0 = 0 ∨ takenB s k = true) : cleanS z L = true := by
  unfold cleanS; rw [h]; simp only [Bool.and_eq_true, decide_eq_true_eq]; refine ⟨by omega, List.all_eq_true.2 (fun k hk => ?_)⟩
  rcases ha k (List.mem_range.1 hk) with h1 | h1
  · simp only [decide_eq_true h1, Bool.true_or]
  · rw [h1, Bool.or_true]
set_option maxRecDepth 20000 in
set_option maxHeartbeats 8000000 in
theorem wclean_anyW (hD : DirOk) (a : Option Addr) (n c : Nat) (z : List Int) (sa : Option Addr) (sn sc : Nat) (zs : List Shz) (w : World) (hs : Sl w a n c 1 (ints .u8 z)) (hsh : ShR w sa sn sc zs) (hby : Byt z) (hn : n ≤ 100000000) :
    Calls Tryz.prog 34 #[.slice a n c, .slice sa sn sc] w fun e w' => e = .returned (.bool (cleanS z (shps zs))) ∧ Below w.heap.size w w' := by
  have hzl := hs.ilen; have HB := begin_any a n c z sa sn sc zs w hs hsh hby (by omega); obtain ⟨R, hR⟩ : ∃ R, readS z (shps zs) = R := ⟨_, rfl⟩; have hx : ∀ x, R = .error x → x ≠ 0 := fun x e => readS_ne (hR.trans e); obtain ⟨q, hq⟩ : ∃ b, cleanS z (shps zs) = b := ⟨_, rfl⟩; rw [hq]; have hs' := Lib.hid hs; have hsh' := Lib.hid hsh; have hby' := Lib.hid hby
  have HB' := Lib.hid HB; have hR' := Lib.hid hR; have hzl' := Lib.hid hzl; have hq' := Lib.hid hq; have hx' := Lib.hid hx; clear hs hsh hby HB hR hzl hq hx
  go_enter Tryz.func34, Tryz.ntmps34
  go_wp2_with fail
  refine HB'.out.mono ?_; rintro e w1 ⟨g, gt, rfl, ht, hok, hb1⟩; have hrd := read_any hD _ ht rfl _ _ w1 hok; simp only at hrd; rw [hR'.out] at hrd; have hg0 : w.heap.size ≤ g := ht.gB; have hgt0 : w.heap.size ≤ gt := ht.gtB; have hg1 : g < w1.heap.size := hok.blk.lt; clear HB'; have hrd' := Lib.hid hrd; have hb1' := Lib.hid hb1; have ht' := Lib.hid ht; have hok' := Lib.hid hok; clear hrd hb1 ht hok
  go_wp2_with fail
  refine hrd'.out.mono ?_; rintro e w2 hpost
  cases R with
  | error x =>
    obtain ⟨rfl, sv', hmv⟩ := hpost; have hx0 := hx'.out x rfl; have hb2 := mv_new hb1'.out hmv hg0 hgt0 (fun k e => by cases e) (Nat.le_refl _); have d1 : (x != 0) = true := by simp; exact hx0
    obtain rfl : q = false := by rw [← hq'.out, cleanS_noW hR'.out]
    clear hmv hx0; have hb2' := Lib.hid hb2; clear hb2
    go_wp2_with fail
    go_ret
    exact ⟨rfl, hb2'.out.alloc hb2'.out.size _⟩
  | ok r =>
    obtain ⟨ds, s⟩ := r; obtain ⟨sv', tk', a2, m2, c2, rfl, hok2, hmv, hds⟩ := hpost; have hb2 := mv_new hb1'.out hmv hg0 hgt0 (fun k e => by cases e) (Nat.le_refl _); have hal := (Below.refl w2.heap.size w2).alloc (Nat.le_refl _) (.cells #[.int .i64 (orderS z), .slice a2 m2 c2] 24); have hok3 := hok2.later hal; have hb3 := hb2.alloc hb2.size (.cells #[.int .i64 (orderS z), .slice a2 m2 c2] 24); obtain ⟨w3, hw3⟩ : ∃ W, w2.alloc (.cells #[.int .i64 (orderS z), .slice a2 m2 c2] 24) = W := ⟨_, rfl⟩; rw [hw3] at hok3 hb3; obtain ⟨so, hso⟩ : ∃ v, s.soiled = v := ⟨_, rfl⟩; have c6 : w2.cell? ⟨g, 6, none⟩ = some (.int .i64 so) := by rw [← hso]; exact hok2.blk.cell rfl
    have e6 : w3.cell? ⟨g, 6, none⟩ = some (.int .i64 so) := by rw [← hso]; exact hok3.blk.cell rfl
    have hg2 : g < w2.heap.size := hok2.blk.lt
    by_cases hs0 : 0 < so
    · have d1 : decide (0 < so) = true := by simp; exact hs0
      obtain rfl : q = false := by rw [← hq'.out, cleanS_soiledW hR'.out (by rw [hso]; exact hs0)]
      clear hso hs0 hmv hok2 hds hb2 hal; have hok3' := Lib.hid hok3; have hb3' := Lib.hid hb3; clear hok3 hb3
      go_wp2_with fail
      try rw [hw3]
      go_ret
      first | exact ⟨rfl, hb3'.out⟩ | (rw [hw3]; exact ⟨rfl, hb3'.out⟩)
    · have d1 : decide (0 < so) = false := by simp; omega
      have hs0' := Lib.hid (show s.soiled ≤ 0 by omega); clear hso hs0 hmv hok2 hds hb2 hal; have hok3' := Lib.hid hok3; have hb3' := Lib.hid hb3; clear hok3 hb3
      go_upto_region 5 with fail
      try rw [hw3]
      clear hw3 c6 e6
      go_wp2_with fail
      go_loopw [29] (fun iv wr => ∃ (i : Nat), i ≤ n ∧ iv = .int .i64 i ∧ w3 = wr ∧ Hid (∀ k : Nat, k < i → z.getD k 0 = 0 ∨ takenB s k = true)) (fun iv _ => n - (intOf iv).toNat)
      case atStart => exact ⟨0, by omega, rfl, rfl, Lib.hid (fun k hk => by omega)⟩
      case round =>
        obtain ⟨i, hi, rfl, rfl, hall⟩ := hrel
        by_cases hlt : i < n
        · have hin : (i : Int) < n := by omega
          obtain ⟨bt, hbt⟩ : ∃ b, takenB s i = b := ⟨_, rfl⟩; have hbits : bitB tk' i = bt := by rw [← hbt]; exact hok3'.out.bits i hlt
          have HI := is_any g gt (n / 64 + 1) _ _ tk' i w3 hok3'.out.blk rfl hok3'.out.tak hok3'.out.tkl hok3'.out.tkb (by omega) (by omega); rw [hbits] at HI; obtain ⟨qp, hqi, _, hqc⟩ := byte_atW (hs'.out.mono hb3'.out) i hlt; obtain ⟨xv, hxv⟩ : ∃ v, z.getD i 0 = v := ⟨_, rfl⟩; rw [hxv] at hqc; clear hbits
          by_cases hx0 : xv = 0
          · have d0 : (xv != 0) = false := by simp [hx0]
            clear HI; have hbt' := Lib.hid hbt; have hxv' := Lib.hid hxv; have hx0' := Lib.hid hx0; clear hbt hxv hx0
            go_wp2_with fail
            go_roundw
            case rel => exact ⟨i + 1, by omega, by go_num, by first | rfl | trivial, Lib.hid (fun k hk => by
              by_cases hki : k = i
              · subst hki; exact .inl (hxv'.out.trans hx0'.out)
              · exact hall.out k (by omega))⟩
            case measure => simp [intOf]; omega
          · have d0 : (xv != 0) = true := by simp; exact hx0
            have hx0' := Lib.hid hx0; clear hx0; have HI' := Lib.hid HI; clear HI
            cases bt with
            | true =>
              have hbt' := Lib.hid hbt; have hxv' := Lib.hid hxv; clear hbt hxv
              go_wp2_with fail
              refine HI'.out.mono ?_; rintro e w4 ⟨rfl, rfl⟩
              go_wp2_with fail
              go_roundw
              case rel => exact ⟨i + 1, by omega, by go_num, by first | rfl | trivial, Lib.hid (fun k hk => by
                by_cases hki : k = i
                · subst hki; exact .inr hbt'.out
                · exact hall.out k (by omega))⟩
              case measure => simp [intOf]; omega
            | false =>
              obtain rfl : q = false := by rw [← hq'.out, cleanS_atW hR'.out (k := i) (by rw [hzl'.out]; exact hlt) (by rw [hxv]; exact hx0'.out) hbt]
              clear hxv hbt
              go_wp2_with fail
              refine HI'.out.mono ?_; rintro e w4 ⟨rfl, rfl⟩
              go_wp2_with fail
              go_ret
              exact ⟨rfl, hb3'.out⟩
        · obtain rfl : q = true := by rw [← hq'.out, cleanS_yesW hR'.out hs0'.out (fun k hk => hall.out k (by rw [hzl'.out] at hk; omega))]
          obtain rfl : i = n := by omega
          go_wp2_with fail
          go_ret
          exact ⟨rfl, hb3'.out⟩
end Go.Proofs.YtilennmeiaehnaaGreat

namespace Go.Proofs.YtilennmeiaehnaaGreat
open Go.RowKit Tt
set_option linter.unusedVariables false
set_option linter.unusedSimpArgs false

theorem many_anyW (sa : Option Addr) (sn sc : Nat) (zs : List Shz) (w : World) (h : ShR w sa sn sc zs) :
    Calls Tryz.prog 30 #[.slice sa sn sc] w fun e w' => ∃ b, e = .returned (.bool b) ∧ w = w' := by
  have hmx : sn ≤ 9223372036854775807 := Nat.le_trans h.row.le h.row.max; have h' := Lib.hid h; clear h
  go_enter Tryz.func30, Tryz.ntmps30
  go_wp2_with fail
  go_loopw [3] (fun iv wr => ∃ (i : Nat), i ≤ sn ∧ iv = .int .i64 i ∧ w = wr) (fun iv _ => sn - (intOf iv).toNat)
  case atStart => exact ⟨0, by omega, rfl, rfl⟩
  case round =>
    obtain ⟨i, hi, rfl, rfl⟩ := hrel
    by_cases hlt : i < sn
    · have hin : (i : Int) < sn := by omega
      have hww : IntKind.i64.wrap ((i : Int) + 1) = i + 1 := by rw [IntKind.wrap_i64]; omega
      obtain ⟨bb, oo, rfl, hbb, fe⟩ := h'.out.row.elem shc_len (by decide) shz0 hlt; obtain ⟨⟨⟨la, ln, lc⟩, x⟩, hx⟩ : ∃ z, zs.getD i shz0 = z := ⟨_, rfl⟩; rw [hx] at fe; have f0 := fe 0 _ rfl; simp only [Nat.add_zero] at f0; clear fe; have hx' := Lib.hid hx; clear hx
      by_cases h20 : 20 < ln
      · have d1 : (20 : Int) < (ln : Int) := by omega
        go_wp2_with fail
        go_ret
        exact ⟨_, rfl, rfl⟩
      · have d1 : ¬ (20 : Int) < (ln : Int) := by omega
        have d2 : decide ((20 : Int) < (ln : Int)) = false := by simp; omega
        go_wp2_with fail
        go_roundw
        case rel => exact ⟨i + 1, by omega, by go_num, by first | rfl | trivial⟩
        case measure => simp [intOf]; omega
    · obtain rfl : i = sn := by omega
      go_wp2_with fail
      go_ret
      exact ⟨_, rfl, rfl⟩
end Go.Proofs.YtilennmeiaehnaaGreat
