/- Chapter 22: the law's own small functions: of, alone, wrong. | Chapter 22: the example's value: OfNumbers of one number of two bytes. | Chapter 22: wrong; awake: the chapter's examples. -/
import Derived.Test.YtheelhepelbgcaaWkB
import Derived.Test.YtheelhepelbgcaaWr
import Derived.Test.YtheelhepelbgcaaSm1
import Derived.Test.YtheelhepelbgcaaReg8
import Derived.Test.YtheelhepelbgcaaRef01
import Derived.Test.YtheelhepelbgcaaL7
import Derived.LoopN
namespace Go.Proofs.Ytheelhepelbgcaa
open Go.RowKit Tt
set_option linter.unusedVariables false
set_option linter.unusedSimpArgs false

theorem info_u8 : (Try.prog.info? 5).map (fun i => (i.zero, i.size, i.bytes)) = some (some (.int .u8 0), 1, 1) := by kernel_rfl
set_option maxHeartbeats 1000000 in
theorem lof_any (a : Option Addr) (n c : Nat) (x : List Int) (w : World) (hx : Sl w a n c 1 (ints .u8 x)) (hn : n ≤ 1000000) :
    Calls Try.prog 18 #[.slice a n c] w fun e w' => ∃ a' c', e = .returned (.slice a' (8 + n) c') ∧ Sl w' a' (8 + n) c' 1 (ints .u8 (ofL x)) ∧ Below w.heap.size w w' := by
  obtain ⟨i0, hi, hz0, hz1, hz2⟩ := info_parts info_u8
  go_enter Try.func18, Try.ntmps18
  go_wp2_with (at_builtin; refine wpList_app rfl _ _ 24 rfl w.heap.size 5 i0 _ 1 1 Try.underlying24 hi hz0 hz1 hz2 rfl (by decide) _ 8 (ints .u8 [73, 73, 42, 0, 8, 0, 0, 0]) rfl (own_new w w.heap.size 5 1 8 _ (Nat.le_refl _) (by unfold maxLen; omega) rfl) a n c _ rfl (sl_alloc hx _) ints_one (by omega) (by decide) (by simp) ?_; intro a' c' w1 hown hbel hgrow)
  rw [← ints_append] at hown
  clear hgrow
  go_wp2
  go_ret
  exact ⟨a', c', rfl, (Sl.of_own hown).1, ((Below.refl _ _).alloc (Nat.le_refl _) _).trans hbel⟩
theorem DirsAt.rd {X : Nat → Prop} {B : Nat} {w : World} {a : Option Addr} {n c : Nat} {ds : List (DirT 16)} (h : DirsAt X B w (.slice a n c) ds) : DirsR 16 w a n c ds := by
  obtain ⟨dzs, h1, h2, h3⟩ := h
  exact ⟨dzs, h1, h2.sl, fun i hi hi' => (h3 i hi hi').rd⟩
theorem DirsR.len {f : Nat} {w : World} {a : Option Addr} {n c : Nat} {ds : List (DirT f)} (h : DirsR f w a n c ds) : ds.length = n := by
  obtain ⟨dzs, h1, h2, _⟩ := h
  rw [← h1]
  exact h2.flen dvC_len (by decide)
def AlPost (w : World) (oo : Int) (R : Except Int (List (DirT 16) × St)) (e : Ending) (w' : World) : Prop := match R with
  | .error x => e = .returned (.tuple #[.agg #[.int .i64 0, .slice none 0 0], .int .i64 x]) ∧ Below w.heap.size w w'
  | .ok (ds, s) => ∃ a c, e = .returned (.tuple #[.agg #[.int .i64 oo, .slice a ds.length c], .int .i64 0]) ∧ Below w.heap.size w w' ∧ DirsR 16 w' a ds.length c ds
theorem lone_at {w w' : World} (h : Below (w.heap.size + 1) (w.alloc (.cells #[.slice none 0 0, .int .i64 0, .int .i64 0, .int .i64 (-1)] 35)) w') : ShR w' (some ⟨w.heap.size, 0, none⟩) 1 1 [((none, 0, 0), ([], 0, 0, -1))] := by
  have h2 : ShR (w.alloc (.cells #[.slice none 0 0, .int .i64 0, .int .i64 0, .int .i64 (-1)] 35)) (some ⟨w.heap.size, 0, none⟩) 1 1 [((none, 0, 0), ([], 0, 0, -1))] :=
    ⟨Sl.new w 35 4 1 _ (0, 0) (by omega) rfl, fun z hz => by obtain rfl : z = _ := List.mem_singleton.1 hz; exact Sl.nil _ _⟩
  exact h2.mono (by simpa using h)
set_option maxRecDepth 20000 in
set_option maxHeartbeats 8000000 in
theorem alone_any (hD : DirOk) (a : Option Addr) (n c : Nat) (z : List Int) (w : World) (hs : Sl w a n c 1 (ints .u8 z)) (hby : Byt z) (hn : n ≤ 1000000000) :
    Calls Try.prog 17 #[.slice a n c] w (AlPost w (orderS z) (readS z loneS)) := by
  have bp := Blk.new w 28 #[.int .i64 0, .slice none 0 0]
  have hbW := (Below.refl w.heap.size w).alloc (Nat.le_refl _) (.cells #[.int .i64 0, .slice none 0 0] 28)
  have hsz : (w.alloc (.cells #[.int .i64 0, .slice none 0 0] 28)).heap.size = w.heap.size + 1 := by simp
  obtain ⟨W, hW⟩ : ∃ W, w.alloc (.cells #[.int .i64 0, .slice none 0 0] 28) = W := ⟨_, rfl⟩
  rw [hW] at bp hbW hsz
  obtain ⟨V, hV⟩ : ∃ V, W.alloc (.cells #[.slice none 0 0, .int .i64 0, .int .i64 0, .int .i64 (-1)] 35) = V := ⟨_, rfl⟩
  have hbV : Below W.heap.size W V := by rw [← hV]; exact (Below.refl _ _).alloc (Nat.le_refl _) _
  have hsV : V.heap.size = W.heap.size + 1 := by rw [← hV]; simp
  have hsh : ShR V (some ⟨W.heap.size, 0, none⟩) 1 1 [((none, 0, 0), ([], 0, 0, -1))] := lone_at (by rw [hV]; exact Below.refl _ _)
  have HW := wof_any hD a n c z _ 1 1 _ V ((hs.mono hbW).mono hbV) hsh hby hn (fun x h => readS_ne h)
  rw [show shps [((none, 0, 0), ([], 0, 0, -1))] = loneS from rfl] at HW
  obtain ⟨R, hR⟩ : ∃ R, readS z loneS = R := ⟨_, rfl⟩
  rw [hR] at HW
  rw [hR]
  obtain ⟨oo, hoo⟩ : ∃ o, orderS z = o := ⟨_, rfl⟩
  rw [hoo] at HW
  rw [hoo]
  rw [hsz] at HW
  have bpV := bp.late hbV
  have hbwV := hbW.trans (hbV.mono hbW.size)
  have hs' := Lib.hid hs
  have hby' := Lib.hid hby
  have bp' := Lib.hid bp
  have hbW' := Lib.hid hbW
  have HW' := Lib.hid HW
  have hR' := Lib.hid hR
  have hoo' := Lib.hid hoo
  have bpV' := Lib.hid bpV
  have hbwV' := Lib.hid hbwV
  have hbV' := Lib.hid hbV
  have hsh' := Lib.hid hsh
  clear hs hby bp hbW HW hR hoo bpV hbwV hbV hsh
  go_enter Try.func17, Try.ntmps17
  go_upto_region 1 with fail
  try rw [hW]
  clear hW
  go_wp2_with fail
  refine HW'.out.mono ?_
  rintro e w2 hpost
  obtain ⟨x0, xa, xm, xc, ys, er, rfl, hb2, hend⟩ : ∃ (x0 : Int) (xa : Option Addr) (xm xc : Nat) (ys : Value) (er : Int), e = .returned (.tuple #[.agg #[.int .i64 x0, .slice xa xm xc], ys, .int .i64 er]) ∧ Below V.heap.size V w2 ∧ (∀ w3, But w.heap.size w2 w3 → Below w.heap.size w w3 → AlPost w oo R (.returned (.tuple #[.agg #[.int .i64 x0, .slice xa xm xc], .int .i64 er])) w3) := by
    cases R with
    | error x =>
      obtain ⟨rfl, hb⟩ := hpost
      exact ⟨0, none, 0, 0, _, x, rfl, hb, fun w3 h3 h => ⟨rfl, h⟩⟩
    | ok r =>
      obtain ⟨ds, s⟩ := r
      obtain ⟨a2, m, c2, b, k, d, rfl, hb, hds, _⟩ := hpost
      have hm : ds.length = m := (DirsAt.rd hds).len
      subst hm
      exact ⟨oo, a2, ds.length, c2, _, 0, rfl, hb, fun w3 h3 h => ⟨a2, c2, rfl, h, DirsAt.rd (DirsAt.keep hds (kp_but h3 (by omega)))⟩⟩
  have bp2 := bpV'.out.late hb2
  have hbw2 := hbwV'.out.trans (hb2.mono hbwV'.out.size)
  have p0 : w2.cell? ⟨w.heap.size, 0, none⟩ = some (.int .i64 0) := bp2.cell rfl
  have p1 : w2.cell? ⟨w.heap.size, 1, none⟩ = some (.slice none 0 0) := bp2.cell rfl
  have y0 := bp2.frozen 0
  have y1 := bp2.frozen 1
  have hlt := bp2.lt
  have hbt := ((But.refl w.heap.size w2).set 0 (.int .i64 x0)).set 1 (.slice xa xm xc)
  have bp3 := (bp2.set 0 (.int .i64 x0)).set 1 (.slice xa xm xc)
  have hb3 := hbt.below (Nat.le_refl _) hbw2.size
  have hb23 := hbw2.trans hb3
  have bp2' := Lib.hid bp2
  have hbw2' := Lib.hid hbw2
  have hb2' := Lib.hid hb2
  have hend' := Lib.hid hend
  have hbt' := Lib.hid hbt
  have bp3' := Lib.hid bp3
  have hb3' := Lib.hid hb3
  have hb23' := Lib.hid hb23
  clear bp2 hbw2 hb2 hend hbt bp3 hb3 hb23
  go_wp2_with fail
  generalize (w2.setCell ⟨w.heap.size, 0, none⟩ (.int .i64 x0)).setCell ⟨w.heap.size, 1, none⟩ (.slice xa xm xc) = w3 at *
  have hal := (Below.refl w3.heap.size w3).alloc (Nat.le_refl _) (.cells #[.int .i64 x0, .slice xa xm xc] 28)
  refine bodyPost_ret (results_blk_tmp rfl _ _ w.heap.size 28 #[.int .i64 x0, .slice xa xm xc] _ rfl (bp3'.out.late hal) Try.underlying28 rfl (by kernel_rfl)) rfl ?_
  exact hend'.out _ (hbt'.out.trans (But.of_below hal)) (hb23'.out.trans (hal.mono hb23'.out.size))
end Go.Proofs.Ytheelhepelbgcaa

namespace Go.Proofs.Ytheelhepelbgcaa
open Go.RowKit Tt
set_option linter.unusedVariables false

theorem sign3 (w : World) : Calls Try.prog 39 #[.int .i64 3] w fun e w' => e = .returned (.bool false) ∧ w = w' := by
  go_enter Try.func39, Try.ntmps39
  go_wp2
  go_ret
  exact ⟨rfl, rfl⟩
theorem part3 (w : World) : Calls Try.prog 41 #[.int .i64 3] w fun e w' => e = .returned (.int .i64 2) ∧ w = w' := by
  go_enter Try.func41, Try.ntmps41
  go_wp2_with (go_at_call 26; refine (rsize_any _ _).mono ?_; rintro e w' ⟨rfl, rfl⟩)
  go_ret
  exact ⟨rfl, rfl⟩

theorem put258 (w : World) : Calls Try.prog 42 #[.int .i64 258, .int .i64 2, .int .i64 2] w fun e w' => ∃ a c, e = .returned (.tuple #[.slice a 2 c, .bool true]) ∧ Sl w' a 2 c 1 (ints .u8 [1, 2]) ∧ Below w.heap.size w w' := by
  refine (r1put_any _ _ _ _).mono ?_
  rintro e w' ⟨a, m, c, rfl, ho, hb⟩
  rw [show putS 258 2 2 = [1, 2] by decide] at ho
  have hs := (Sl.of_own ho).1
  obtain rfl : m = 2 := by have := hs.ilen; simpa using this.symm
  exact ⟨a, c, by rw [show putOk 258 2 2 = true by decide], hs, hb⟩

set_option maxRecDepth 20000 in
set_option maxHeartbeats 4000000 in
theorem of258 (a : Option Addr) (c : Nat) (w : World) (hs : Sl w a 1 c 1 (ints .i64 [258])) :
    Calls Try.prog 27 #[.int .i64 3, .slice a 1 c, .int .i64 1] w fun e w' => ∃ a' c', e = .returned (.tuple #[.agg #[.int .i64 3, .int .i64 1, .slice a' 2 c'], .bool true]) ∧ w'.ownsRow w.heap.size 5 1 (.slice a' 2 c') 2 (ints .u8 [1, 2]) ∧ Below w.heap.size w w' := by
  obtain ⟨i0, hi, hz0, hz1, hz2⟩ := info_parts info8
  obtain ⟨b, o, rfl, hbx, cx⟩ := hs.at (i := 0) (by omega)
  have c1 : w.cell? ⟨b, o, none⟩ = some (.int .i64 258) := cx 0 _ rfl
  clear cx
  have Hs := Lib.hid hs
  clear hs
  go_enter Try.func27, Try.ntmps27
  go_wp2
  obtain ⟨W0, hW0⟩ : ∃ W0, W0 = (w.alloc (.cells #[.int .i64 0, .int .i64 0, .slice none 0 0] 54)).alloc (.cells #[.int .i64 3, .int .i64 1, .slice none 0 0] 54) := ⟨_, rfl⟩
  obtain ⟨g, hg⟩ : ∃ g, g = w.heap.size + 1 := ⟨_, rfl⟩
  have B0 : Blk W0 w.heap.size 54 #[.int .i64 0, .int .i64 0, .slice none 0 0] := by rw [hW0]; exact (Blk.new _ _ _).alloc _
  have G0 : Blk W0 g 54 #[.int .i64 3, .int .i64 1, .slice none 0 0] := by rw [hW0, hg]; have := Blk.new (w.alloc (.cells #[.int .i64 0, .int .i64 0, .slice none 0 0] 54)) 54 #[.int .i64 3, .int .i64 1, .slice none 0 0]; simpa using this
  have BW : Below w.heap.size w W0 := by rw [hW0]; exact ((Below.refl _ _).alloc (Nat.le_refl _) _).alloc (by simp) _
  have B0 := Lib.hid B0
  have G0 := Lib.hid G0
  have BW := Lib.hid BW
  have Hg := Lib.hid hg
  have c2 : W0.cell? ⟨b, o, none⟩ = some (.int .i64 258) := late BW.out hbx c1
  rw [← hW0, ← hg]
  clear hW0 hg c1
  refine wp_loop_rounds 2 ?_
  rw [rounds_succ]
  go_wp2_with (first
    | (go_at_call 39; refine (sign3 _).mono ?_; rintro e w' ⟨rfl, rfl⟩)
    | (go_at_call 41; refine (part3 _).mono ?_; rintro e w' ⟨rfl, rfl⟩)
    | (go_at_call 42; refine (put258 _).mono ?_; rintro e w1 ⟨a1, c1, rfl, hs1, hb1⟩; have Hs1 := Lib.hid hs1; have G1 := Lib.hid (G0.out.late hb1); have Hb1 := Lib.hid hb1; clear hs1 hb1; have q2 : w1.cell? ⟨g, 2, none⟩ = some (.slice none 0 0) := G1.out.cell rfl)
    | (at_builtin; refine wpList_app rfl _ _ 24 rfl W0.heap.size 5 i0 _ 1 1 Try.underlying24 hi hz0 hz1 hz2 rfl (by decide) _ 0 [] rfl (own_nil _ _ _ _) a1 2 c1 _ rfl Hs1.out ints_one (by omega) (by decide) Hb1.out.size ?_; intro a5 c5 w2 ob hb2 hg2; clear hg2; have Ob := Lib.hid ob; have Hb2 := Lib.hid (Hb1.out.trans hb2); clear ob hb2; have G2 := Lib.hid (G0.out.late Hb2.out); have z0 : w2.cell? ⟨g, 0, none⟩ = some (.int .i64 3) := G2.out.cell rfl; have z1 : w2.cell? ⟨g, 1, none⟩ = some (.int .i64 1) := G2.out.cell rfl; have z2 : w2.cell? ⟨g, 2, none⟩ = some (.slice none 0 0) := G2.out.cell rfl; have fz := G2.out.frozen 2))
  obtain ⟨w3, hw3⟩ : ∃ w3, w3 = w2.setCell ⟨g, 2, none⟩ (.slice a5 2 c5) := ⟨_, rfl⟩
  rw [← hw3]
  have B2 : Blk w2 w.heap.size 54 #[.int .i64 0, .int .i64 0, .slice none 0 0] := B0.out.late Hb2.out
  have G3 : Blk w3 g 54 #[.int .i64 3, .int .i64 1, .slice a5 2 c5] := by rw [hw3]; exact G2.out.set 2 _
  have B3 : Blk w3 w.heap.size 54 #[.int .i64 0, .int .i64 0, .slice none 0 0] := by rw [hw3]; exact B2.set_other (by have := Hg.out; omega) _ _
  have O3 : w3.ownsRow W0.heap.size 5 1 (.slice a5 2 c5) 2 (ints .u8 [1, 2]) := by rw [hw3]; exact own_set_other Ob.out G0.out.lt _ _
  have BB : Below w.heap.size w w3 := by rw [hw3]; exact (BW.out.trans (Hb2.out.mono BW.out.size)).setCell (by show w.heap.size ≤ g; have := Hg.out; omega) _
  have S3 := Lib.hid (Sl.of_own O3).1
  have HO3 := Lib.hid O3
  have hlt0 : w.heap.size < W0.heap.size := by have h1 := G0.out.lt; have h2 := Hg.out; omega
  have Hlt0 := Lib.hid hlt0
  have G3 := Lib.hid G3
  have B3 := Lib.hid B3
  have BB := Lib.hid BB
  clear hw3 z0 z1 z2 fz B2 O3 q2 hlt0
  have z0 : w3.cell? ⟨g, 0, none⟩ = some (.int .i64 3) := G3.out.cell rfl
  have z1 : w3.cell? ⟨g, 1, none⟩ = some (.int .i64 1) := G3.out.cell rfl
  have z2 : w3.cell? ⟨g, 2, none⟩ = some (.slice a5 2 c5) := G3.out.cell rfl
  have hmt : mayS 3 1 [1, 2] = true := by decide
  have Hmt := Lib.hid hmt
  clear hmt
  rw [rounds_succ]
  go_wp2_with (go_at_call 43; refine (rmay_any 3 1 a5 2 c5 [1, 2] _ S3.out).mono ?_; rw [Hmt.out]; rintro e w4 ⟨rfl, hb4⟩; have G4 := Lib.hid (G3.out.late hb4); have B4 := Lib.hid (B3.out.late hb4); have O4 := Lib.hid (own_later HO3.out hb4); have Hb4 := Lib.hid hb4; clear hb4; have y0 : w4.cell? ⟨g, 0, none⟩ = some (.int .i64 3) := G4.out.cell rfl; have y1 : w4.cell? ⟨g, 1, none⟩ = some (.int .i64 1) := G4.out.cell rfl; have y2 : w4.cell? ⟨g, 2, none⟩ = some (.slice a5 2 c5) := G4.out.cell rfl; have x0 : w4.cell? ⟨w.heap.size, 0, none⟩ = some (.int .i64 0) := B4.out.cell rfl; have x1 : w4.cell? ⟨w.heap.size, 1, none⟩ = some (.int .i64 0) := B4.out.cell rfl; have x2 : w4.cell? ⟨w.heap.size, 2, none⟩ = some (.slice none 0 0) := B4.out.cell rfl; have f0 := B4.out.frozen 0; have f1 := B4.out.frozen 1; have f2 := B4.out.frozen 2)
  have B5 := ((B4.out.set 0 (.int .i64 3)).set 1 (.int .i64 1)).set 2 (.slice a5 2 c5)
  refine bodyPost_ret (results_blk_tmp rfl _ _ w.heap.size 54 #[.int .i64 3, .int .i64 1, .slice a5 2 c5] _ rfl B5 Try.underlying54 rfl (by kernel_rfl)) rfl ?_
  have O5 := own_set_other (own_set_other (own_set_other O4.out Hlt0.out 0 (.int .i64 3)) Hlt0.out 1 (.int .i64 1)) Hlt0.out 2 (.slice a5 2 c5)
  exact ⟨_, _, rfl, own_mono O5 (Nat.le_of_lt Hlt0.out), (((BB.out.trans (Hb4.out.mono BB.out.size)).setCell (Nat.le_refl _) _).setCell (Nat.le_refl _) _).setCell (Nat.le_refl _) _⟩

set_option maxHeartbeats 4000000 in
theorem ofnum258 (a : Option Addr) (c : Nat) (w : World) (hs : Sl w a 1 c 1 (ints .i64 [258])) :
    Calls Try.prog 19 #[.int .i64 3, .slice a 1 c] w fun e w' => ∃ a' c', e = .returned (.tuple #[.agg #[.int .i64 3, .int .i64 1, .slice a' 2 c'], .bool true]) ∧ w'.ownsRow w.heap.size 5 1 (.slice a' 2 c') 2 (ints .u8 [1, 2]) ∧ Below w.heap.size w w' := by
  have Hs := Lib.hid hs
  clear hs
  go_enter Try.func19, Try.ntmps19
  obtain ⟨W0, hW0⟩ : ∃ W0, W0 = w.alloc (.cells #[.int .i64 0, .int .i64 0, .slice none 0 0] 54) := ⟨_, rfl⟩
  have B0 : Blk W0 w.heap.size 54 #[.int .i64 0, .int .i64 0, .slice none 0 0] := by rw [hW0]; exact Blk.new _ _ _
  have BW : Below w.heap.size w W0 := by rw [hW0]; exact (Below.refl _ _).alloc (Nat.le_refl _) _
  have B0 := Lib.hid B0
  have BW := Lib.hid BW
  have HS := Lib.hid (Hs.out.mono BW.out)
  have hlt0 : w.heap.size < W0.heap.size := B0.out.lt
  have Hlt0 := Lib.hid hlt0
  clear hlt0
  go_upto_region 1 with fail
  rw [← hW0]
  clear hW0
  go_wp2_with (first
    | (go_at_call 26; refine (rsize_any _ _).mono ?_; rintro e w' ⟨rfl, rfl⟩)
    | (go_at_call 27; refine (of258 a c _ HS.out).mono ?_; rintro e w4 ⟨a5, c5, rfl, hs5, hb4⟩; have S4 := Lib.hid hs5; have B4 := Lib.hid (B0.out.late hb4); have Hb4 := Lib.hid hb4; clear hb4 hs5; have x0 : w4.cell? ⟨w.heap.size, 0, none⟩ = some (.int .i64 0) := B4.out.cell rfl; have x1 : w4.cell? ⟨w.heap.size, 1, none⟩ = some (.int .i64 0) := B4.out.cell rfl; have x2 : w4.cell? ⟨w.heap.size, 2, none⟩ = some (.slice none 0 0) := B4.out.cell rfl; have f0 := B4.out.frozen 0; have f1 := B4.out.frozen 1; have f2 := B4.out.frozen 2))
  have B5 := B4.out.set3 (.int .i64 3) (.int .i64 1) (.slice a5 2 c5)
  refine bodyPost_ret (results_blk_tmp rfl _ _ w.heap.size 54 #[.int .i64 3, .int .i64 1, .slice a5 2 c5] _ rfl B5 Try.underlying54 rfl (by kernel_rfl)) rfl ?_
  exact ⟨_, _, rfl, own_mono (own_set3 S4.out Hlt0.out _ _ _) (Nat.le_of_lt Hlt0.out), below_set3 (BW.out.trans (Hb4.out.mono BW.out.size)) (Nat.le_refl _) _ _ _⟩

end Go.Proofs.Ytheelhepelbgcaa

namespace Go.Proofs.Ytheelhepelbgcaa
open Go.RowKit Tt
set_option linter.unusedVariables false
set_option linter.unusedSimpArgs false

set_option maxRecDepth 20000 in
set_option maxHeartbeats 8000000 in
theorem wrong_any (hD : DirOk) (x : Int) (a : Option Addr) (n c : Nat) (z : List Int) (w : World) (hs : Sl w a n c 1 (ints .u8 z)) (hby : Byt z) (hn : n ≤ 1000000000) (hR : readS z loneS = .error x) :
    Calls Try.prog 20 #[.int .i64 x, .slice a n c] w fun e w' => e = .returned (.bool true) ∧ Below w.heap.size w w' := by
  have HA := alone_any hD a n c z w hs hby hn
  rw [hR] at HA
  have d1 : (x == x) = true := by simp
  have HA' := Lib.hid HA
  have hs' := Lib.hid hs
  have hby' := Lib.hid hby
  have hR' := Lib.hid hR
  clear HA hs hby hR
  go_enter Try.func20, Try.ntmps20
  go_wp2_with fail
  refine HA'.out.mono ?_
  rintro e w1 ⟨rfl, hb1⟩
  have hb1' := Lib.hid hb1
  clear hb1
  go_wp2_with fail
  go_ret
  exact ⟨rfl, hb1'.out.alloc hb1'.out.size _⟩
def dirOf (ts : List Tgs) : DirT 16 := ((ts, [], []) : List Tgs × List (Int × DirT 15) × List Int)
theorem sameT_ok {r : Except Int (List (DirT 16) × St)} {ts : List Tgs} (h : sameT r ts = true) : ∃ s, r = .ok ([dirOf ts], s) := by
  unfold sameT at h
  split at h
  · rename_i d s
    obtain ⟨d1, d2, d3⟩ : List Tgs × List (Int × DirT 15) × List Int := d
    simp only [Bool.and_eq_true, decide_eq_true_eq] at h
    obtain ⟨⟨rfl, h2⟩, rfl⟩ := h
    obtain rfl := List.eq_nil_of_length_eq_zero h2
    exact ⟨s, rfl⟩
  · cases h
theorem errS_ok {r : Except Int (List (DirT 16) × St)} {x : Int} (h : errS r = x) (hx : x ≠ 0) : r = .error x := by
  unfold errS at h
  split at h
  · rw [h]
  · exact absurd h.symm hx
def x1L : List Int := [1, 0, 0, 1, 3, 0, 1, 0, 0, 0, 2, 1, 0, 0, 0, 0, 0, 0]
def x3L : List Int := [1, 0, 0, 1, 5, 0, 1, 0, 0, 0, 8, 0, 0, 0, 0, 0, 0, 0]
def x4L : List Int := [1, 0, 0, 1, 5, 0, 1, 0, 0, 0, 9, 0, 0, 0, 0, 0, 0, 0]
def x5L : List Int := [1, 0, 0, 1, 5, 0, 1, 0, 0, 0, 232, 3, 0, 0, 0, 0, 0, 0]
def x6L : List Int := [1, 0, 0, 1, 2, 0, 2, 0, 0, 0, 97, 98, 0, 0, 0, 0, 0, 0]
theorem byt_dec {l : List Int} (h : l.all (fun x => decide (0 ≤ x) && decide (x < 256)) = true) : Byt l := fun x hx => by
  have := List.all_eq_true.1 h x hx
  simpa using this
theorem below_new {a w w' : World} {o : Obj} (h : Below a.heap.size a w) (hb : Below (w.alloc o).heap.size (w.alloc o) w') : Below a.heap.size a w' := (h.alloc h.size o).trans (hb.mono (h.alloc h.size o).size)
set_option maxRecDepth 100000 in
set_option maxHeartbeats 16000000 in
theorem awake_any (hD : DirOk) (w : World) : Calls Try.prog 5 #[] w fun e w' => e = .returned (.bool true) ∧ Below w.heap.size w w' := by
  obtain ⟨s1, hr1⟩ := sameT_ok ex1
  have ho1 : orderS (ofL x1L) = 1 := by decide +kernel
  have hr1' := Lib.hid hr1
  clear hr1
  go_enter Try.func5, Try.ntmps5
  go_wp2_with fail
  refine (lof_any _ 18 18 x1L _ (Sl.new w 5 1 18 _ (0, 0) (by omega) rfl) (by omega)).mono ?_
  rintro e w1 ⟨a1, c1, rfl, hs1, hb1⟩
  have HB1 : Below w.heap.size w w1 := (Below.refl w.heap.size w).trans (((Below.refl w.heap.size w).alloc (Nat.le_refl _) _).trans (hb1.mono (by simp)))
  have hs1' := Lib.hid hs1
  have hb1' := Lib.hid hb1
  have HB1' := Lib.hid HB1
  clear hs1 hb1 HB1
  go_wp2_with fail
  refine (alone_any hD a1 26 c1 _ w1 hs1'.out (byt_dec (by decide +kernel)) (by omega)).mono ?_
  rintro e w2 hpost
  rw [ho1, show readS (ofL x1L) loneS = _ from hr1'.out] at hpost
  obtain ⟨a2, c2, he2, hb2, hds⟩ := hpost
  replace he2 : e = .returned (.tuple #[.agg #[.int .i64 1, .slice a2 1 c2], .int .i64 0]) := he2
  subst he2
  replace hds : DirsR 16 w2 a2 1 c2 [dirOf [(256, 3, 1, [1, 2])]] := hds
  have HB2 := HB1'.out.trans (hb2.mono HB1'.out.size)
  obtain ⟨W2, hW2⟩ : ∃ W, w2.alloc (.cells #[.int .i64 1, .slice a2 1 c2] 28) = W := ⟨_, rfl⟩
  have bT : Blk W2 w2.heap.size 28 #[.int .i64 1, .slice a2 1 c2] := by rw [← hW2]; exact Blk.new _ _ _
  have hal : Below w2.heap.size w2 W2 := by rw [← hW2]; exact (Below.refl _ _).alloc (Nat.le_refl _) _
  have HW2 := HB2.trans (hal.mono HB2.size)
  have hdsW := hds.mono hal
  clear hb2 hds ho1 HB2
  have hal' := Lib.hid hal
  have HW2' := Lib.hid HW2
  have hdsW' := Lib.hid hdsW
  have bT' := Lib.hid bT
  clear hal HW2 hdsW bT
  go_upto_region 2 with fail
  obtain ⟨g1, hg1⟩ : ∃ g, w2.heap.size = g := ⟨_, rfl⟩
  rw [hg1] at bT'
  rw [hg1]
  clear hg1 hW2 hal'
  go_wp2_with fail
  refine (ofnum258 _ 1 _ (Sl.new W2 3 1 1 _ (0, 0) (by omega) rfl)).mono ?_
  rintro e w3 ⟨a3, c3, rfl, hown3, hb3⟩
  have hb23 : Below W2.heap.size W2 w3 := ((Below.refl W2.heap.size W2).alloc (Nat.le_refl _) _).trans (hb3.mono (by simp))
  obtain ⟨W3, hW3⟩ : ∃ W, w3.alloc (.cells #[.int .i64 3, .int .i64 1, .slice a3 2 c3] 54) = W := ⟨_, rfl⟩
  have bV : Blk W3 w3.heap.size 54 #[.int .i64 3, .int .i64 1, .slice a3 2 c3] := by rw [← hW3]; exact Blk.new _ _ _
  have hal : Below w3.heap.size w3 W3 := by rw [← hW3]; exact (Below.refl _ _).alloc (Nat.le_refl _) _
  have s3 := (Sl.of_own hown3).1.mono hal
  have hbW3 := hb23.trans (hal.mono hb23.size)
  have HW3 := HW2'.out.trans (hbW3.mono HW2'.out.size)
  have hds3 := hdsW'.out.mono hbW3
  have bT3 := bT'.out.late hbW3
  clear hb3 hown3 hb23 hbW3 HW2' hdsW' bT'
  have s3' := Lib.hid s3
  have HW3' := Lib.hid HW3
  have hds3' := Lib.hid hds3
  have bT3' := Lib.hid bT3
  have bV' := Lib.hid bV
  have hal' := Lib.hid hal
  clear s3 HW3 hds3 bT3 bV hal
  go_upto_region 3 with fail
  obtain ⟨g3, hg3⟩ : ∃ g, w3.heap.size = g := ⟨_, rfl⟩
  have bV := bV'.out
  rw [hg3] at bV
  rw [hg3]
  clear hg3 hW3 hal' bV'
  have p0 : W3.cell? ⟨g3, 0, none⟩ = some (.int .i64 3) := bV.cell rfl
  have p1 : W3.cell? ⟨g3, 1, none⟩ = some (.int .i64 1) := bV.cell rfl
  have p2 : W3.cell? ⟨g3, 2, none⟩ = some (.slice a3 2 c3) := bV.cell rfl
  have hlt3 := bV.lt
  have hlt1 := bT3'.out.lt
  have bV' := Lib.hid bV
  clear bV
  go_upto_region 4 with fail
  obtain ⟨n3, hn3⟩ : ∃ n, W3.heap.size = n := ⟨_, rfl⟩
  have tg := Sl.new W3 59 4 1 #[.int .i64 256, .int .i64 3, .int .i64 1, .slice a3 2 c3] (0, 0) (by omega) rfl
  have a1_ : Below W3.heap.size W3 (W3.alloc (.cells #[.int .i64 256, .int .i64 3, .int .i64 1, .slice a3 2 c3] 59)) := (Below.refl _ _).alloc (Nat.le_refl _) _
  have z1_ : (W3.alloc (.cells #[.int .i64 256, .int .i64 3, .int .i64 1, .slice a3 2 c3] 59)).heap.size = W3.heap.size + 1 := by simp
  obtain ⟨T1, hT1⟩ : ∃ W, W3.alloc (.cells #[.int .i64 256, .int .i64 3, .int .i64 1, .slice a3 2 c3] 59) = W := ⟨_, rfl⟩
  rw [hT1] at tg a1_ z1_ ⊢
  have dg := Sl.new T1 48 3 1 #[.slice (some ⟨W3.heap.size, 0, none⟩) 1 1, .slice none 0 0, .slice none 0 0] (0, 0) (by omega) rfl
  have a2_ : Below T1.heap.size T1 (T1.alloc (.cells #[.slice (some ⟨W3.heap.size, 0, none⟩) 1 1, .slice none 0 0, .slice none 0 0] 48)) := (Below.refl _ _).alloc (Nat.le_refl _) _
  have z2_ : (T1.alloc (.cells #[.slice (some ⟨W3.heap.size, 0, none⟩) 1 1, .slice none 0 0, .slice none 0 0] 48)).heap.size = T1.heap.size + 1 := by simp
  obtain ⟨T2, hT2⟩ : ∃ W, T1.alloc (.cells #[.slice (some ⟨W3.heap.size, 0, none⟩) 1 1, .slice none 0 0, .slice none 0 0] 48) = W := ⟨_, rfl⟩
  rw [hT2] at dg a2_ z2_ ⊢
  rw [z1_] at z2_ dg
  have bG := Blk.new T2 28 #[.int .i64 1, .slice (some ⟨W3.heap.size + 1, 0, none⟩) 1 1]
  have a3_ : Below T2.heap.size T2 (T2.alloc (.cells #[.int .i64 1, .slice (some ⟨W3.heap.size + 1, 0, none⟩) 1 1] 28)) := (Below.refl _ _).alloc (Nat.le_refl _) _
  obtain ⟨T3, hT3⟩ : ∃ W, T2.alloc (.cells #[.int .i64 1, .slice (some ⟨W3.heap.size + 1, 0, none⟩) 1 1] 28) = W := ⟨_, rfl⟩
  rw [hT3] at bG a3_ ⊢
  rw [z2_] at bG
  rw [hn3] at dg bG tg ⊢
  have a12 := a1_.trans (a2_.mono (by omega))
  have a13 := a12.trans (a3_.mono (by omega))
  have HT3 := HW3'.out.trans (a13.mono HW3'.out.size)
  have hdsT := hds3'.out.mono a13
  have bT := bT3'.out.late a13
  have sV := s3'.out.mono a13
  have tgT := (tg.mono a2_).mono a3_
  have dgT := dg.mono a3_
  have hwant : DirsR 16 T3 (some ⟨n3 + 1, 0, none⟩) 1 1 [dirOf [(256, 3, 1, [1, 2])]] :=
    ⟨[(.slice (some ⟨n3, 0, none⟩) 1 1, .slice none 0 0, .slice none 0 0)], rfl, dgT, fun i hi hi' => by
      obtain rfl : i = 0 := by simp at hi; omega
      exact ⟨some ⟨n3, 0, none⟩, 1, 1, [((256, 3, 1, a3, 2, c3), [1, 2])], none, 0, 0, [], none, 0, 0, rfl, ⟨tgT, fun z hz => by obtain rfl := List.mem_singleton.1 hz; exact sV⟩, rfl, Sl.nil _ _, rfl, (fun j hj _ => by cases hj), Sl.nil _ _⟩⟩
  have HS := tree_same 16 1 1 a2 1 c2 (some ⟨n3 + 1, 0, none⟩) 1 1 _ _ T3 hdsT hwant true (by simp)
  have f0 : T3.cell? ⟨g1, 0, none⟩ = some (.int .i64 1) := bT.cell rfl
  have f1 : T3.cell? ⟨g1, 1, none⟩ = some (.slice a2 1 c2) := bT.cell rfl
  have k0 : T3.cell? ⟨n3 + 1 + 1, 0, none⟩ = some (.int .i64 1) := bG.cell rfl
  have k1 : T3.cell? ⟨n3 + 1 + 1, 1, none⟩ = some (.slice (some ⟨n3 + 1, 0, none⟩) 1 1) := bG.cell rfl
  have k2 : T3.cell? ⟨n3 + 2, 0, none⟩ = some (.int .i64 1) := bG.cell rfl
  have k3 : T3.cell? ⟨n3 + 2, 1, none⟩ = some (.slice (some ⟨n3 + 1, 0, none⟩) 1 1) := bG.cell rfl
  clear hn3 hT1 hT2 hT3 tg dg bG a1_ a2_ a3_ z1_ z2_ a12 a13 hdsT bT sV tgT dgT hwant p0 p1 p2 hlt3 hlt1 s3' HW3' hds3' bT3' bV'
  have HS' := Lib.hid HS
  have HT3' := Lib.hid HT3
  clear HS HT3
  go_wp2_with fail
  refine HS'.out.mono ?_
  rintro e v1 ⟨rfl, hb⟩
  have HV := Lib.hid (HT3'.out.trans (hb.mono HT3'.out.size))
  clear hb HT3' f0 f1 k0 k1 k2 k3 HS' hs1' hb1' HB1'
  go_wp2_with fail
  refine (lof_any _ 6 6 [0, 0, 0, 0, 0, 0] _ (Sl.new v1 5 1 6 _ (0, 0) (by omega) rfl) (by omega)).mono ?_
  rintro e v2 ⟨a1, c1, rfl, hs, hb⟩
  have HV := Lib.hid (below_new HV.out hb)
  have hs' := Lib.hid hs
  clear hs
  clear hb
  go_wp2_with fail
  refine (wrong_any hD 2 a1 _ c1 _ v2 hs'.out (byt_dec (by decide +kernel)) (by omega) (errS_ok ex2 (by decide))).mono ?_
  rintro e v3 ⟨rfl, hb⟩
  have HV := Lib.hid (HV.out.trans (hb.mono HV.out.size))
  clear hs' hb
  go_wp2_with fail
  refine (lof_any _ 18 18 x3L _ (Sl.new v3 5 1 18 _ (0, 0) (by omega) rfl) (by omega)).mono ?_
  rintro e v4 ⟨a1, c1, rfl, hs, hb⟩
  have HV := Lib.hid (below_new HV.out hb)
  have hs' := Lib.hid hs
  clear hs
  clear hb
  go_wp2_with fail
  refine (wrong_any hD 5 a1 _ c1 _ v4 hs'.out (byt_dec (by decide +kernel)) (by omega) (errS_ok ex3 (by decide))).mono ?_
  rintro e v5 ⟨rfl, hb⟩
  have HV := Lib.hid (HV.out.trans (hb.mono HV.out.size))
  clear hs' hb
  go_wp2_with fail
  refine (lof_any _ 18 18 x4L _ (Sl.new v5 5 1 18 _ (0, 0) (by omega) rfl) (by omega)).mono ?_
  rintro e v6 ⟨a1, c1, rfl, hs, hb⟩
  have HV := Lib.hid (below_new HV.out hb)
  have hs' := Lib.hid hs
  clear hs
  clear hb
  go_wp2_with fail
  refine (wrong_any hD 4 a1 _ c1 _ v6 hs'.out (byt_dec (by decide +kernel)) (by omega) (errS_ok ex4 (by decide))).mono ?_
  rintro e v7 ⟨rfl, hb⟩
  have HV := Lib.hid (HV.out.trans (hb.mono HV.out.size))
  clear hs' hb
  go_wp2_with fail
  refine (lof_any _ 18 18 x5L _ (Sl.new v7 5 1 18 _ (0, 0) (by omega) rfl) (by omega)).mono ?_
  rintro e v8 ⟨a1, c1, rfl, hs, hb⟩
  have HV := Lib.hid (below_new HV.out hb)
  have hs' := Lib.hid hs
  clear hs
  clear hb
  go_wp2_with fail
  refine (wrong_any hD 4 a1 _ c1 _ v8 hs'.out (byt_dec (by decide +kernel)) (by omega) (errS_ok ex5 (by decide))).mono ?_
  rintro e v9 ⟨rfl, hb⟩
  have HV := Lib.hid (HV.out.trans (hb.mono HV.out.size))
  clear hs' hb
  go_wp2_with fail
  refine (lof_any _ 18 18 x6L _ (Sl.new v9 5 1 18 _ (0, 0) (by omega) rfl) (by omega)).mono ?_
  rintro e v10 ⟨a1, c1, rfl, hs, hb⟩
  have HV := Lib.hid (below_new HV.out hb)
  have hs' := Lib.hid hs
  clear hs
  clear hb
  go_wp2_with fail
  refine (wrong_any hD 6 a1 _ c1 _ v10 hs'.out (byt_dec (by decide +kernel)) (by omega) (errS_ok ex6 (by decide))).mono ?_
  rintro e v11 ⟨rfl, hb⟩
  have HV := Lib.hid (HV.out.trans (hb.mono HV.out.size))
  clear hs' hb
  go_wp2_with fail
  refine (wrong_any hD 3 none 0 0 [] v11 (Sl.nil _ _) (byt_dec (by decide +kernel)) (by omega) (errS_ok ex7 (by decide))).mono ?_
  rintro e v12 ⟨rfl, hb⟩
  have HV := Lib.hid (HV.out.trans (hb.mono HV.out.size))
  clear hb
  go_wp2_with fail
  go_ret
  exact ⟨rfl, HV.out⟩
end Go.Proofs.Ytheelhepelbgcaa
