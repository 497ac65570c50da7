/- Chapter 21: the examples: a tag with a SHORT: the document's values. | Chapter 21: the examples: a tag with a SHORT, what is answered. -/
import Derived.LoopN
import Derived.Test.YtceclmpmpldmlaaGreatCs32
import Derived.Test.YtceclmpmpldmlaaGreatCs19
import Derived.Test.YtceclmpmpldmlaaGreatCs11
import Derived.Test.YtceclmpmpldmlaaGreatCs03
namespace Go.Proofs.YtceclmpmpldmlaaGreat
open Go.RowKit Tt
set_option linter.unusedVariables false
set_option linter.unusedSimpArgs false

theorem sign3 (w : World) : Calls Tryz.prog 215 #[.int .i64 3] w fun e w' => e = .returned (.bool false) ∧ w = w' := by
  go_enter Tryz.func215, Tryz.ntmps215
  go_wp2
  go_ret
  exact ⟨rfl, rfl⟩
theorem part3 (w : World) : Calls Tryz.prog 217 #[.int .i64 3] w fun e w' => e = .returned (.int .i64 2) ∧ w = w' := by
  go_enter Tryz.func217, Tryz.ntmps217
  go_wp2_with (go_at_call 146; refine (rsize_any _ _).mono ?_; rintro e w' ⟨rfl, rfl⟩)
  go_ret
  exact ⟨rfl, rfl⟩

theorem put3 (n : Int) (h : putOk n 2 2 = true) (w : World) : Calls Tryz.prog 188 #[.int .i64 n, .int .i64 2, .int .i64 2] w fun e w' => ∃ a c, e = .returned (.tuple #[.slice a 2 c, .bool true]) ∧ Sl w' a 2 c 1 (ints .u8 (putS n 2 2)) ∧ Below w.heap.size w w' := by
  refine (r1put_any _ _ _ _).mono ?_; rintro e w' ⟨a, m, c, rfl, ho, hb⟩; have hs := (Sl.of_own ho).1; obtain rfl : m = 2 := by have := hs.ilen; rw [putS_length h] at this; exact this.symm
  exact ⟨a, c, by rw [h], hs, hb⟩

set_option maxRecDepth 20000 in
set_option maxHeartbeats 4000000 in
theorem of3_ (n : Int) (hn : putOk n 2 2 = true) (hmt : mayS 3 1 (putS n 2 2) = true) (a : Option Addr) (c : Nat) (w : World) (hs : Sl w a 1 c 1 (ints .i64 [n])) :
    Calls Tryz.prog 147 #[.int .i64 3, .slice a 1 c, .int .i64 1] w fun e w' => ∃ a' c', e = .returned (.tuple #[.agg #[.int .i64 3, .int .i64 1, .slice a' 2 c'], .bool true]) ∧ w'.ownsRow w.heap.size 5 1 (.slice a' 2 c') 2 (ints .u8 (putS n 2 2)) ∧ Below w.heap.size w w' := by
  obtain ⟨i0, hi, hz0, hz1, hz2⟩ := info_parts info8; obtain ⟨b, o, rfl, hbx, cx⟩ := hs.at (i := 0) (by omega); have c1 : w.cell? ⟨b, o, none⟩ = some (.int .i64 n) := cx 0 _ rfl; clear cx; have Hs := Lib.hid hs; clear hs
  go_enter Tryz.func147, Tryz.ntmps147
  go_wp2
  obtain ⟨W0, hW0⟩ : ∃ W0, W0 = (w.alloc (.cells #[.int .i64 0, .int .i64 0, .slice none 0 0] 72)).alloc (.cells #[.int .i64 3, .int .i64 1, .slice none 0 0] 72) := ⟨_, rfl⟩; obtain ⟨g, hg⟩ : ∃ g, g = w.heap.size + 1 := ⟨_, rfl⟩; have B0 : Blk W0 w.heap.size 72 #[.int .i64 0, .int .i64 0, .slice none 0 0] := by rw [hW0]; exact (Blk.new _ _ _).alloc _
  have G0 : Blk W0 g 72 #[.int .i64 3, .int .i64 1, .slice none 0 0] := by rw [hW0, hg]; have := Blk.new (w.alloc (.cells #[.int .i64 0, .int .i64 0, .slice none 0 0] 72)) 72 #[.int .i64 3, .int .i64 1, .slice none 0 0]; simpa using this
  have BW : Below w.heap.size w W0 := by rw [hW0]; exact ((Below.refl _ _).alloc (Nat.le_refl _) _).alloc (by simp) _
  have B0 := Lib.hid B0; have G0 := Lib.hid G0; have BW := Lib.hid BW; have Hg := Lib.hid hg; have c2 : W0.cell? ⟨b, o, none⟩ = some (.int .i64 n) := late BW.out hbx c1; rw [← hW0, ← hg]; clear hW0 hg c1; refine wp_loop_rounds 2 ?_; rw [rounds_succ]
  go_wp2_with (first
    | (go_at_call 215; refine (sign3 _).mono ?_; rintro e w' ⟨rfl, rfl⟩)
    | (go_at_call 217; refine (part3 _).mono ?_; rintro e w' ⟨rfl, rfl⟩)
    | (go_at_call 188; refine (put3 n hn _).mono ?_; rintro e w1 ⟨a1, c1, rfl, hs1, hb1⟩; have Hs1 := Lib.hid hs1; have G1 := Lib.hid (G0.out.late hb1); have Hb1 := Lib.hid hb1; clear hs1 hb1; have q2 : w1.cell? ⟨g, 2, none⟩ = some (.slice none 0 0) := G1.out.cell rfl)
    | (at_builtin; refine wpList_app rfl _ _ 24 rfl W0.heap.size 5 i0 _ 1 1 Tryz.underlying24 hi hz0 hz1 hz2 rfl (by decide) _ 0 [] rfl (own_nil _ _ _ _) a1 2 c1 _ rfl Hs1.out ints_one (by omega) (by decide) Hb1.out.size ?_; intro a5 c5 w2 ob hb2 hg2; clear hg2; have Ob := Lib.hid ob; have Hb2 := Lib.hid (Hb1.out.trans hb2); clear ob hb2; have G2 := Lib.hid (G0.out.late Hb2.out); have z0 : w2.cell? ⟨g, 0, none⟩ = some (.int .i64 3) := G2.out.cell rfl; have z1 : w2.cell? ⟨g, 1, none⟩ = some (.int .i64 1) := G2.out.cell rfl; have z2 : w2.cell? ⟨g, 2, none⟩ = some (.slice none 0 0) := G2.out.cell rfl; have fz := G2.out.frozen 2))
  obtain ⟨w3, hw3⟩ : ∃ w3, w3 = w2.setCell ⟨g, 2, none⟩ (.slice a5 2 c5) := ⟨_, rfl⟩; rw [← hw3]; have B2 : Blk w2 w.heap.size 72 #[.int .i64 0, .int .i64 0, .slice none 0 0] := B0.out.late Hb2.out; have G3 : Blk w3 g 72 #[.int .i64 3, .int .i64 1, .slice a5 2 c5] := by rw [hw3]; exact G2.out.set 2 _
  have B3 : Blk w3 w.heap.size 72 #[.int .i64 0, .int .i64 0, .slice none 0 0] := by rw [hw3]; exact B2.set_other (by have := Hg.out; omega) _ _
  have O3 : w3.ownsRow W0.heap.size 5 1 (.slice a5 2 c5) 2 (ints .u8 (putS n 2 2)) := by rw [hw3]; exact own_set_other Ob.out G0.out.lt _ _
  have BB : Below w.heap.size w w3 := by rw [hw3]; exact (BW.out.trans (Hb2.out.mono BW.out.size)).setCell (by show w.heap.size ≤ g; have := Hg.out; omega) _
  have S3 := Lib.hid (Sl.of_own O3).1; have HO3 := Lib.hid O3; have hlt0 : w.heap.size < W0.heap.size := by have h1 := G0.out.lt; have h2 := Hg.out; omega
  have Hlt0 := Lib.hid hlt0; have G3 := Lib.hid G3; have B3 := Lib.hid B3; have BB := Lib.hid BB; clear hw3 z0 z1 z2 fz B2 O3 q2 hlt0; have z0 : w3.cell? ⟨g, 0, none⟩ = some (.int .i64 3) := G3.out.cell rfl; have z1 : w3.cell? ⟨g, 1, none⟩ = some (.int .i64 1) := G3.out.cell rfl; have z2 : w3.cell? ⟨g, 2, none⟩ = some (.slice a5 2 c5) := G3.out.cell rfl; have Hmt := Lib.hid hmt; rw [rounds_succ]
  go_wp2_with (go_at_call 183; refine (rmay_any 3 1 a5 2 c5 (putS n 2 2) _ S3.out).mono ?_; rw [Hmt.out]; rintro e w4 ⟨rfl, hb4⟩; have G4 := Lib.hid (G3.out.late hb4); have B4 := Lib.hid (B3.out.late hb4); have O4 := Lib.hid (own_later HO3.out hb4); have Hb4 := Lib.hid hb4; clear hb4; have y0 : w4.cell? ⟨g, 0, none⟩ = some (.int .i64 3) := G4.out.cell rfl; have y1 : w4.cell? ⟨g, 1, none⟩ = some (.int .i64 1) := G4.out.cell rfl; have y2 : w4.cell? ⟨g, 2, none⟩ = some (.slice a5 2 c5) := G4.out.cell rfl; have x0 : w4.cell? ⟨w.heap.size, 0, none⟩ = some (.int .i64 0) := B4.out.cell rfl; have x1 : w4.cell? ⟨w.heap.size, 1, none⟩ = some (.int .i64 0) := B4.out.cell rfl; have x2 : w4.cell? ⟨w.heap.size, 2, none⟩ = some (.slice none 0 0) := B4.out.cell rfl; have f0 := B4.out.frozen 0; have f1 := B4.out.frozen 1; have f2 := B4.out.frozen 2)
  have B5 := ((B4.out.set 0 (.int .i64 3)).set 1 (.int .i64 1)).set 2 (.slice a5 2 c5); refine bodyPost_ret (results_blk_tmp rfl _ _ w.heap.size 72 #[.int .i64 3, .int .i64 1, .slice a5 2 c5] _ rfl B5 Tryz.underlying72 rfl (by kernel_rfl)) rfl ?_; have O5 := own_set_other (own_set_other (own_set_other O4.out Hlt0.out 0 (.int .i64 3)) Hlt0.out 1 (.int .i64 1)) Hlt0.out 2 (.slice a5 2 c5); exact ⟨_, _, rfl, own_mono O5 (Nat.le_of_lt Hlt0.out), (((BB.out.trans (Hb4.out.mono BB.out.size)).setCell (Nat.le_refl _) _).setCell (Nat.le_refl _) _).setCell (Nat.le_refl _) _⟩

set_option maxHeartbeats 4000000 in
theorem short3_any (n : Int) (hn : putOk n 2 2 = true) (hmt : mayS 3 1 (putS n 2 2) = true) (a : Option Addr) (c : Nat) (w : World) (hs : Sl w a 1 c 1 (ints .i64 [n])) :
    Calls Tryz.prog 87 #[.int .i64 3, .slice a 1 c] w fun e w' => ∃ a' c', e = .returned (.tuple #[.agg #[.int .i64 3, .int .i64 1, .slice a' 2 c'], .bool true]) ∧ w'.ownsRow w.heap.size 5 1 (.slice a' 2 c') 2 (ints .u8 (putS n 2 2)) ∧ Below w.heap.size w w' := by
  have Hs := Lib.hid hs; clear hs
  go_enter Tryz.func87, Tryz.ntmps87
  obtain ⟨W0, hW0⟩ : ∃ W0, W0 = w.alloc (.cells #[.int .i64 0, .int .i64 0, .slice none 0 0] 72) := ⟨_, rfl⟩; have B0 : Blk W0 w.heap.size 72 #[.int .i64 0, .int .i64 0, .slice none 0 0] := by rw [hW0]; exact Blk.new _ _ _
  have BW : Below w.heap.size w W0 := by rw [hW0]; exact (Below.refl _ _).alloc (Nat.le_refl _) _
  have B0 := Lib.hid B0; have BW := Lib.hid BW; have HS := Lib.hid (Hs.out.mono BW.out); have hlt0 : w.heap.size < W0.heap.size := B0.out.lt; have Hlt0 := Lib.hid hlt0; clear hlt0
  go_upto_region 1 with fail
  rw [← hW0]; clear hW0
  go_wp2_with (first
    | (go_at_call 146; refine (rsize_any _ _).mono ?_; rintro e w' ⟨rfl, rfl⟩)
    | (go_at_call 147; refine (of3_ n hn hmt a c _ HS.out).mono ?_; rintro e w4 ⟨a5, c5, rfl, hs5, hb4⟩; have S4 := Lib.hid hs5; have B4 := Lib.hid (B0.out.late hb4); have Hb4 := Lib.hid hb4; clear hb4 hs5; have x0 : w4.cell? ⟨w.heap.size, 0, none⟩ = some (.int .i64 0) := B4.out.cell rfl; have x1 : w4.cell? ⟨w.heap.size, 1, none⟩ = some (.int .i64 0) := B4.out.cell rfl; have x2 : w4.cell? ⟨w.heap.size, 2, none⟩ = some (.slice none 0 0) := B4.out.cell rfl; have f0 := B4.out.frozen 0; have f1 := B4.out.frozen 1; have f2 := B4.out.frozen 2))
  have B5 := B4.out.set3 (.int .i64 3) (.int .i64 1) (.slice a5 2 c5); refine bodyPost_ret (results_blk_tmp rfl _ _ w.heap.size 72 #[.int .i64 3, .int .i64 1, .slice a5 2 c5] _ rfl B5 Tryz.underlying72 rfl (by kernel_rfl)) rfl ?_; exact ⟨_, _, rfl, own_mono (own_set3 S4.out Hlt0.out _ _ _) (Nat.le_of_lt Hlt0.out), below_set3 (BW.out.trans (Hb4.out.mono BW.out.size)) (Nat.le_refl _) _ _ _⟩
end Go.Proofs.YtceclmpmpldmlaaGreat

namespace Go.Proofs.YtceclmpmpldmlaaGreat
open Go.RowKit Tt
set_option linter.unusedVariables false
set_option linter.unusedSimpArgs false

set_option maxHeartbeats 2000000 in
theorem lshort_any (tag n : Int) (hn : putOk n 2 2 = true) (hmt : mayS 3 1 (putS n 2 2) = true) (w : World) :
    Calls Tryz.prog 40 #[.int .i64 tag, .int .i64 n] w fun e w' => ∃ a c, e = .returned (.agg #[.int .i64 tag, .int .i64 3, .int .i64 1, .slice a 2 c]) ∧ w'.ownsRow w.heap.size 5 1 (.slice a 2 c) 2 (ints .u8 (putS n 2 2)) ∧ Below w.heap.size w w' := by
  obtain ⟨W1, hW1, b0, b1, hb1, s1⟩ := two_boxes w 74 #[.int .i64 0, .int .i64 0, .int .i64 0, .slice none 0 0] 3 #[.int .i64 n]
  have hsl : Sl W1 (some ⟨w.heap.size + 1, 0, none⟩) 1 1 1 (ints .i64 [n]) := by
    have h := Sl.new (w.alloc (.cells #[.int .i64 0, .int .i64 0, .int .i64 0, .slice none 0 0] 74)) 3 1 1 #[.int .i64 n] (0, 0) (by omega) rfl; rw [show (w.alloc (.cells #[.int .i64 0, .int .i64 0, .int .i64 0, .slice none 0 0] 74)).heap.size = w.heap.size + 1 by simp] at h; rw [← hW1]; exact h
  have hS := short3_any n hn hmt _ 1 W1 hsl; have hW1' := Lib.hid hW1; have b0' := Lib.hid b0; have b1' := Lib.hid b1; have hb1' := Lib.hid hb1; have s1' := Lib.hid s1; have hsl' := Lib.hid hsl; have hS' := Lib.hid hS; clear hW1 b0 b1 hb1 s1 hsl hS
  go_enter Tryz.func40, Tryz.ntmps40
  go_wp2_with fail
  rw [hW1'.out]; refine hS'.out.mono ?_; rintro e w2 ⟨a, c, rfl, ho, hb⟩; have b02 := b0'.out.late hb; have hb2 := hb1'.out.trans (hb.mono hb1'.out.size); have hal := (Below.refl w2.heap.size w2).alloc (Nat.le_refl _) (.cells #[.int .i64 3, .int .i64 1, .slice a 2 c] 72); have b03 := b02.late hal; have ho3 := own_later ho hal; have hb3 := hb2.trans (hal.mono hb2.size); have p0 : (w2.alloc (.cells #[.int .i64 3, .int .i64 1, .slice a 2 c] 72)).cell? ⟨w.heap.size, 0, none⟩ = some (.int .i64 0) := b03.cell rfl; have p1 : (w2.alloc (.cells #[.int .i64 3, .int .i64 1, .slice a 2 c] 72)).cell? ⟨w.heap.size, 1, none⟩ = some (.int .i64 0) := b03.cell rfl; have p2 : (w2.alloc (.cells #[.int .i64 3, .int .i64 1, .slice a 2 c] 72)).cell? ⟨w.heap.size, 2, none⟩ = some (.int .i64 0) := b03.cell rfl; have p3 : (w2.alloc (.cells #[.int .i64 3, .int .i64 1, .slice a 2 c] 72)).cell? ⟨w.heap.size, 3, none⟩ = some (.slice none 0 0) := b03.cell rfl; have y0 := b03.frozen 0; have y1 := b03.frozen 1; have y2 := b03.frozen 2; have y3 := b03.frozen 3; have bN := (((b03.set 0 (.int .i64 tag)).set 1 (.int .i64 3)).set 2 (.int .i64 1)).set 3 (.slice a 2 c); have hbN := (((hb3.setCell (p := ⟨w.heap.size, 0, none⟩) (Nat.le_refl _) (.int .i64 tag)).setCell (p := ⟨w.heap.size, 1, none⟩) (Nat.le_refl _) (.int .i64 3)).setCell (p := ⟨w.heap.size, 2, none⟩) (Nat.le_refl _) (.int .i64 1)).setCell (p := ⟨w.heap.size, 3, none⟩) (Nat.le_refl _) (.slice a 2 c); have hlt1 : w.heap.size < W1.heap.size := by rw [s1'.out]; omega
  have hoN := own_set_other (own_set_other (own_set_other (own_set_other ho3 hlt1 0 (.int .i64 tag)) hlt1 1 (.int .i64 3)) hlt1 2 (.int .i64 1)) hlt1 3 (.slice a 2 c); have hoM := own_mono hoN (Nat.le_of_lt hlt1); clear hoN; have hb' := Lib.hid hb; have b02' := Lib.hid b02; have hb2' := Lib.hid hb2; have hal' := Lib.hid hal; have b03' := Lib.hid b03; have ho' := Lib.hid ho; have ho3' := Lib.hid ho3; have hb3' := Lib.hid hb3; have bN' := Lib.hid bN; have hbN' := Lib.hid hbN; have hoM' := Lib.hid hoM; clear hb b02 hb2 hal b03 ho ho3 hb3 bN hbN hoM
  go_wp2_with fail
  refine bodyPost_ret (results_cell_row rfl _ _ w.heap.size 74 #[.int .i64 tag, .int .i64 3, .int .i64 1, .slice a 2 c] (0, 0) _ rfl bN'.out Tryz.underlying74 rfl (by kernel_rfl)) rfl ?_; exact ⟨a, c, rfl, hoM'.out, hbN'.out⟩

def shp1 : List Shp := [([], 0, 0, -1)]
def shz1 : List Shz := [((none, 0, 0), ([], 0, 0, -1))]
theorem shz1_shp : shps shz1 = shp1 := rfl
theorem shz1_r (W : World) : ShR (W.alloc (.cells #[.slice none 0 0, .int .i64 0, .int .i64 0, .int .i64 (-1)] 35)) (some ⟨W.heap.size, 0, none⟩) 1 1 shz1 :=
  ⟨Sl.new W 35 4 1 #[.slice none 0 0, .int .i64 0, .int .i64 0, .int .i64 (-1)] (0, 0) (by omega) rfl, fun z hz => by
    simp only [shz1, List.mem_cons, List.not_mem_nil, or_false] at hz; subst hz; exact Sl.nil _ _⟩
set_option maxHeartbeats 2000000 in
/-- an error is answered -/
theorem answered_any (f : Nat) (sa : Option Addr) (sn sc : Nat) (ds : List (DirT f)) (e0 : Int) (w : World) (h : DirsR f w sa sn sc ds) (hs : ∀ d ∈ ds, smallD f d) (hby : ∀ d ∈ ds, bytD f d) (hN : (flatT f ds).length < 1000) (hsn : sn ≤ 500) (hR : checkS f 2 ds shp1 = e0) (h0 : e0 ≠ 0) :
    Calls Tryz.prog 41 #[.int .i64 e0, .slice sa sn sc] w fun e w' => e = .returned (.bool true) ∧ Below w.heap.size w w' := by
  have hb1 := (Below.refl w.heap.size w).alloc (Nat.le_refl _) (.cells #[.slice none 0 0, .int .i64 0, .int .i64 0, .int .i64 (-1)] 35); have hT := twrite_any f 2 sa sn sc ds _ 1 1 shz1 _ (h.mono hb1) (shz1_r w) hs hby hN hsn (by rw [shz1_shp, hR]; intro e; exact absurd e h0); rw [shz1_shp, hR] at hT; have hws : wrtS f 2 ds shp1 = [] := by unfold wrtS; rw [hR, if_neg h0]
  rw [hws] at hT; have hee : (e0 == e0) = true := by simp
  have he0 : (e0 == 0) = false := by simp [h0]
  have h' := Lib.hid h; have hb1' := Lib.hid hb1; have hT' := Lib.hid hT; have hws' := Lib.hid hws; have hs' := Lib.hid hs; have hby' := Lib.hid hby
  clear h hb1 hT hws hs hby
  go_enter Tryz.func41, Tryz.ntmps41
  go_wp2_with fail
  refine hT'.out.mono ?_; rintro e w2 ⟨a, m, c, rfl, ho, hb⟩; obtain rfl : m = 0 := by have := (Sl.of_own ho).1.ilen; simpa using this.symm
  have hb2 := hb1'.out.trans (hb.mono hb1'.out.size); have ho' := Lib.hid ho; have hb' := Lib.hid hb; have hb2' := Lib.hid hb2; clear ho hb hb2
  go_wp2_with fail
  go_ret
  exact ⟨rfl, hb2'.out⟩
end Go.Proofs.YtceclmpmpldmlaaGreat
