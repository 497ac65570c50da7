/- Chapter 12: the examples' scans: the law's one. | Chapter 12 (plain): the examples. -/
import Derived.Test.YtpjopeojeglogaaCs29
import Derived.Test.YtpjopeojeglogaaCs30
import Derived.Test.YtpjopeojeglogaaCs31
namespace Go.Proofs.Ytpjopeojeglogaa
open Go.RowKit Tt
set_option linter.unusedVariables false
set_option linter.unusedSimpArgs false

theorem blk_slS {w : World} {g n sz : Nat} {T : TypeId} {cs : Array Value} (h : Blk w g T cs) (hsz : cs.toList.length = n * sz) (hn : n ≤ maxLen) : Sl w (some ⟨g, 0, none⟩) n n sz cs.toList :=
  ⟨hsz, Nat.le_refl _, hn, fun j hj => ⟨g, 0, rfl, h.lt, fun k v hv => by rw [Nat.zero_add]; exact h.cell (by simpa using hv)⟩, fun e => by cases e⟩
def oneD (s1 : Nat) : HufM := (([1, 0, 0, 0, 0, 0, 0, 0, 0, 0, 0, 0, 0, 0, 0, 0], [0]), some ⟨s1, 0, none⟩, 1, 1)
def oneA (s2 : Nat) : HufM := (([0, 1, 0, 0, 0, 0, 0, 0, 0, 0, 0, 0, 0, 0, 0, 0], [0]), some ⟨s2, 0, none⟩, 1, 1)
def onePt (h : Int) (s1 s2 : Nat) : PtM := (h, 1, oneD s1, oneA s2)
structure OneP (w : World) (s1 s2 : Nat) : Prop where
  b1 : Blk w s1 3 #[.int .i64 0]
  b2 : Blk w s2 3 #[.int .i64 0]
theorem OneP.late {w w' : World} {s1 s2 : Nat} (h : OneP w s1 s2) (hb : Below w.heap.size w w') : OneP w' s1 s2 := ⟨h.b1.late hb, h.b2.late hb⟩
theorem OneP.ok {w : World} {s1 s2 : Nat} (h : OneP w s1 s2) (x : Int) : PtOk w (onePt x s1 s2) :=
  ⟨⟨rfl, blk_slS (n := 1) (sz := 1) h.b1 rfl (by decide), (show 1 ≤ 1000 by decide), fun x hx => by rw [List.mem_singleton.1 hx]; rfl⟩, ⟨rfl, blk_slS (n := 1) (sz := 1) h.b2 rfl (by decide), (show 1 ≤ 1000 by decide), fun x hx => by rw [List.mem_singleton.1 hx]; rfl⟩⟩
theorem one_pts {w : World} {pb s1 s2 : Nat} {x : Int} (h : OneP w s1 s2) (hb : Blk w pb 47 (pC (onePt x s1 s2)).toArray) : PtsR w (some ⟨pb, 0, none⟩) 1 1 [onePt x s1 s2] :=
  ⟨by
    have := blk_slS (n := 1) (sz := 36) hb rfl (by decide)
    simpa using this, fun p hp => by rw [List.mem_singleton.1 hp]; exact h.ok x⟩
set_option maxRecDepth 20000 in
set_option maxHeartbeats 2000000 in
theorem one_any (a iv : Int) (w : World) : Calls Try.prog 88 #[.int .i64 a, .int .i64 iv] w fun e w' =>
    ∃ pb s1 s2, e = .returned (.agg #[.int .i64 a, .int .i64 1, .slice (some ⟨pb, 0, none⟩) 1 1, .int .i64 iv]) ∧ Blk w' pb 47 (pC (onePt 1 s1 s2)).toArray ∧ OneP w' s1 s2 ∧ w.heap.size ≤ pb ∧ Below w.heap.size w w' := by
  have l1 := (Below.refl w.heap.size w).alloc (Nat.le_refl _) (.cells #[.int .i64 0, .int .i64 0, .slice none 0 0, .int .i64 0] 24); have b1 := Blk.new w 24 #[.int .i64 0, .int .i64 0, .slice none 0 0, .int .i64 0]; obtain ⟨W1, hW1⟩ : ∃ W, w.alloc (.cells #[.int .i64 0, .int .i64 0, .slice none 0 0, .int .i64 0] 24) = W := ⟨_, rfl⟩; rw [hW1] at l1 b1; have l2 := (Below.refl W1.heap.size W1).alloc (Nat.le_refl _) (.cells #[.int .i64 0] 3); have c2 := Blk.new W1 3 #[.int .i64 0]; obtain ⟨W2, hW2⟩ : ∃ W, W1.alloc (.cells #[.int .i64 0] 3) = W := ⟨_, rfl⟩; rw [hW2] at l2 c2; have z2 : W2.heap.size = W1.heap.size + 1 := by rw [← hW2]; exact Array.size_push _
  have l3 := (Below.refl W2.heap.size W2).alloc (Nat.le_refl _) (.cells #[.int .i64 0] 3); have c3 := Blk.new W2 3 #[.int .i64 0]; obtain ⟨W3, hW3⟩ : ∃ W, W2.alloc (.cells #[.int .i64 0] 3) = W := ⟨_, rfl⟩; rw [hW3] at l3 c3; have z3 : W3.heap.size = W2.heap.size + 1 := by rw [← hW3]; exact Array.size_push _
  have l4 := (Below.refl W3.heap.size W3).alloc (Nat.le_refl _) (.cells (pC (onePt 1 W1.heap.size (W1.heap.size + 1))).toArray 47); have c4 := Blk.new W3 47 (pC (onePt 1 W1.heap.size (W1.heap.size + 1))).toArray; obtain ⟨W4, hW4⟩ : ∃ W, W3.alloc (.cells (pC (onePt 1 W1.heap.size (W1.heap.size + 1))).toArray 47) = W := ⟨_, rfl⟩; rw [hW4] at l4 c4; rw [z2] at c3; rw [z3, z2] at c4; have d4 := ((b1.late l2).late l3).late l4; have o4 : OneP W4 W1.heap.size (W1.heap.size + 1) := ⟨(c2.late l3).late l4, c3.late l4⟩; have l14 := (((l1.trans (l2.mono l1.size)).trans (l3.mono (Nat.le_trans l1.size l2.size))).trans (l4.mono (Nat.le_trans (Nat.le_trans l1.size l2.size) l3.size))); have hw1 : w.heap.size < W1.heap.size := b1.lt; have hbt : But w.heap.size W4 (W4.setRow w.heap.size #[.int .i64 a, .int .i64 1, .slice (some ⟨W1.heap.size + 1 + 1, 0, none⟩) 1 1, .int .i64 iv]) := but_rowH W4 _; have e4 := c4.but hbt (by omega); have f4 : OneP (W4.setRow w.heap.size #[.int .i64 a, .int .i64 1, .slice (some ⟨W1.heap.size + 1 + 1, 0, none⟩) 1 1, .int .i64 iv]) W1.heap.size (W1.heap.size + 1) := ⟨o4.b1.but hbt (by omega), o4.b2.but hbt (by omega)⟩; have hfin := rowBelow l14 (g := w.heap.size) (Nat.le_refl _) #[.int .i64 a, .int .i64 1, .slice (some ⟨W1.heap.size + 1 + 1, 0, none⟩) 1 1, .int .i64 iv]; have hro := Blk.rowH d4 #[.int .i64 a, .int .i64 1, .slice (some ⟨W1.heap.size + 1 + 1, 0, none⟩) 1 1, .int .i64 iv]; have hd4 : (((W1.alloc (.cells #[.int .i64 0] 3)).alloc (.cells #[.int .i64 0] 3)).alloc (.cells (pC (onePt 1 W1.heap.size (W1.heap.size + 1))).toArray 47)) = W4 := by rw [hW2, hW3, hW4]
  clear l2 c2 l3 c3 l4 c4 o4 l14 hbt hW2 hW3 hW4 z2 z3; have l1' := Lib.hid l1; have b1' := Lib.hid b1; have hW1' := Lib.hid hW1; have d4' := Lib.hid d4; have hw1' := Lib.hid hw1; have e4' := Lib.hid e4; have f4' := Lib.hid f4; have hfin' := Lib.hid hfin; have hro' := Lib.hid hro; have hd4' := Lib.hid hd4; clear l1 b1 hW1 d4 hw1 e4 f4 hfin hro hd4
  go_enter Try.func88, Try.ntmps88
  go_upto_region 1 with fail
  rw [hW1'.out]; have hd5 : Blk (((W1.alloc (.cells #[.int .i64 0] 3)).alloc (.cells #[.int .i64 0] 3)).alloc (.cells (pC (onePt 1 W1.heap.size (W1.heap.size + 1))).toArray 47)) w.heap.size 24 #[.int .i64 0, .int .i64 0, .slice none 0 0, .int .i64 0] := by rw [hd4'.out]; exact d4'.out
  have Hd5 := Lib.hid hd5; clear hd5
  go_wp2_with (refine wpList_store_row rfl 24 (.tmp 4) (.tmp 15) rfl w.heap.size #[.int .i64 a, .int .i64 1, .slice (some ⟨W1.heap.size + 1 + 1, 0, none⟩) 1 1, .int .i64 iv] rfl rfl 24 _ Hd5.out (by kernel_rfl) rfl (by kernel_rfl) ?_)
  have hro2 : Blk ((((W1.alloc (.cells #[.int .i64 0] 3)).alloc (.cells #[.int .i64 0] 3)).alloc (.cells (pC (onePt 1 W1.heap.size (W1.heap.size + 1))).toArray 47)).setRow w.heap.size #[.int .i64 a, .int .i64 1, .slice (some ⟨W1.heap.size + 1 + 1, 0, none⟩) 1 1, .int .i64 iv]) w.heap.size 24 #[.int .i64 a, .int .i64 1, .slice (some ⟨W1.heap.size + 1 + 1, 0, none⟩) 1 1, .int .i64 iv] := by rw [hd4'.out]; exact hro'.out
  refine bodyPost_ret (results_cell_row rfl _ _ w.heap.size _ _ (0, 0) _ rfl hro2 Try.underlying24 rfl (by kernel_rfl)) rfl ?_; refine ⟨W1.heap.size + 1 + 1, W1.heap.size, W1.heap.size + 1, rfl, ?_⟩; have e : (((W1.alloc (.cells #[.int .i64 0] 3)).alloc (.cells #[.int .i64 0] 3)).alloc (.cells (pC (onePt 1 W1.heap.size (W1.heap.size + 1))).toArray 47)).setRow w.heap.size #[.int .i64 a, .int .i64 1, .slice (some ⟨W1.heap.size + 1 + 1, 0, none⟩) 1 1, .int .i64 iv] = W4.setRow w.heap.size #[.int .i64 a, .int .i64 1, .slice (some ⟨W1.heap.size + 1 + 1, 0, none⟩) 1 1, .int .i64 iv] := by rw [hd4'.out]
  have hgoal : ∀ W, W = W4.setRow w.heap.size #[.int .i64 a, .int .i64 1, .slice (some ⟨W1.heap.size + 1 + 1, 0, none⟩) 1 1, .int .i64 iv] → Blk W (W1.heap.size + 1 + 1) 47 (pC (onePt 1 W1.heap.size (W1.heap.size + 1))).toArray ∧ OneP W W1.heap.size (W1.heap.size + 1) ∧ w.heap.size ≤ W1.heap.size + 1 + 1 ∧ Below w.heap.size w W := fun W hW => by
    subst hW; exact ⟨e4'.out, f4'.out, by have := hw1'.out; omega, hfin'.out⟩
  exact hgoal _ e
end Go.Proofs.Ytpjopeojeglogaa

namespace Go.Proofs.Ytpjopeojeglogaa
open Go.RowKit Tt
set_option linter.unusedVariables false

def zB : List Int := List.replicate 64 0
theorem ex_w1 (s1 s2 : Nat) : writeS ⟨1, 1, 0, [onePt 1 s1 s2]⟩ [[zB]] = .ok [31] := by kernel_rfl
theorem ex_w2 (s1 s2 : Nat) : writeS ⟨2, 1, 1, [onePt 1 s1 s2]⟩ [[zB, zB]] = .ok [31, 255, 208, 31] := by kernel_rfl
theorem ex_m1 (s1 s2 : Nat) : mayS ⟨1, 1, 0, [onePt 1 s1 s2]⟩ = true := by kernel_rfl
theorem ex_r1 (s1 s2 : Nat) : readS ⟨1, 1, 0, [onePt 1 s1 s2]⟩ [31] = .ok [[zB]] := by kernel_rfl
theorem ex_r2 (s1 s2 : Nat) : readS ⟨1, 1, 0, [onePt 1 s1 s2]⟩ [63] = .error 0 := by kernel_rfl
theorem ex_r3 (s1 s2 : Nat) : readS ⟨1, 1, 0, [onePt 1 s1 s2]⟩ [] = .error 0 := by kernel_rfl
theorem ex_m2 (s1 s2 : Nat) : mayS ⟨2, 1, 0, [onePt 2 s1 s2, onePt 1 s1 s2]⟩ = true := by kernel_rfl
theorem ex_o (s1 s2 : Nat) : orderS ⟨2, 1, 0, [onePt 2 s1 s2, onePt 1 s1 s2]⟩ = [0, 0, 0, 1, 1, 0, 0, 2, 0, 3, 1, 1] := by kernel_rfl
end Go.Proofs.Ytpjopeojeglogaa
