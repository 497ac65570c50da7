/- Chapter 11: a number put behind zeros: the program. -/
import Derived.Test.YtpjopeojeglogaaCs12
namespace Go.Proofs.Ytpjopeojeglogaa
open Go.RowKit Tt
set_option linter.unusedVariables false
set_option linter.unusedSimpArgs false

def codC (l : List Cod) : List Value := (l.map fun x => ints .i64 (cdL x)).flatten
theorem codC_app (l m : List Cod) : codC (l ++ m) = codC l ++ codC m := by simp [codC]
theorem codC_len (l : List Cod) : (codC l).length = l.length * 4 := flat_len _ 4 l fun _ _ => rfl
theorem infoCod : (Try.prog.info? 133).map (fun i => (i.zero, i.size, i.bytes)) = some (some (.agg #[.int .i64 0, .int .i64 0, .int .i64 0, .int .i64 0]), 4, 32) := by kernel_rfl
/-- a coder: what it has told, how many zeros wait, whether a number was too great -/
structure Cs (B : Nat) (w : World) (gc : Nat) (o : List Cod) (z : Nat) (f : Bool) : Prop where
  ex : ∃ a c, Blk w gc 245 #[.slice a o.length c, .int .i64 z, .bool f] ∧ w.ownsRow B 133 4 (.slice a o.length c) o.length (codC o)
  gB : B ≤ gc
theorem Cs.late {B : Nat} {w w' : World} {gc : Nat} {o : List Cod} {z : Nat} {f : Bool} (h : Cs B w gc o z f) (hb : Below w.heap.size w w') : Cs B w' gc o z f := by
  obtain ⟨a, c, h1, h2⟩ := h.ex; exact ⟨⟨a, c, h1.late hb, own_later h2 hb⟩, h.gB⟩
theorem Cs.lt {B : Nat} {w : World} {gc : Nat} {o : List Cod} {z : Nat} {f : Bool} (h : Cs B w gc o z f) : gc < w.heap.size := by obtain ⟨a, c, h1, _⟩ := h.ex; exact h1.lt
theorem own_neK {w : World} {B : Nat} {v : Value} {n : Nat} {xs : List Value} {g : Nat} {cs : Array Value} (h : w.ownsRow B 133 4 v n xs) (hb : Blk w g 245 cs) : v.ownBlock ≠ some g := own_neB h hb (by decide)
/-- all cells stay but rows of symbols and coders -/
def Kc (w w' : World) : Prop := ∀ (k : Nat) (cs : Array Value) (T : TypeId), w.heap[k]? = some (Obj.cells cs T) → T ≠ 133 → T ≠ 245 → w'.heap[k]? = some (Obj.cells cs T)
theorem Kc.trans {w w' w'' : World} (h : Kc w w') (k : Kc w' w'') : Kc w w'' := fun i cs T h1 h2 h3 => k i cs T (h i cs T h1 h2 h3) h2 h3
theorem Kc.of_below {w w' : World} (h : Below w.heap.size w w') : Kc w w' := fun i cs T h1 _ _ => by rw [h.block i (Array.getElem?_eq_some_iff.1 h1).1]; exact h1
theorem Kc.of_but {w w' : World} {g : Nat} {ds : Array Value} (hb : Blk w g 245 ds) (h : But g w w') : Kc w w' := fun i cs T h1 _ h3 => by
  rw [h.block i (Array.getElem?_eq_some_iff.1 h1).1 (fun e => ?_)]
  · exact h1
  · subst e
    have h4 : w.heap[i]? = some (.cells ds 245) := hb; rw [h1] at h4; injection h4 with h4; injection h4 with _ h5; exact h3 h5
theorem Kc.of_grown {w w' : World} {B n : Nat} {v : Value} {xs : List Value} (ho : w.ownsRow B 133 4 v n xs) (h : w.grownBy w' v.ownBlock) : Kc w w' := fun i cs T h1 h2 _ => by
  rw [h.block i (Array.getElem?_eq_some_iff.1 h1).1 (fun e => ?_)]
  · exact h1
  · rcases ho.2 with ⟨rfl, _⟩ | ⟨g, cap, cur, rfl, _, hg, _⟩
    · cases e
    · injection e with e
      subst e; rw [h1] at hg; injection hg with hg; injection hg with _ h5; exact h2 h5
theorem Kc.blk {w w' : World} {g : Nat} {T : TypeId} {cs : Array Value} (h : Kc w w') (hb : Blk w g T cs) (h1 : T ≠ 133) (h2 : T ≠ 245) : Blk w' g T cs := h g cs T hb h1 h2
set_option maxRecDepth 20000 in
set_option maxHeartbeats 2000000 in
theorem cput_any (B gc : Nat) (o : List Cod) (z : Nat) (f : Bool) (ac v : Int) (most : Nat) (w : World) (h : Cs B w gc o z f) (hv : (Lit.int .i64 v).wf = true) (hm : most ≤ 11) (hz : z ≤ 1000) (ho : o.length ≤ 100000) :
    Calls Try.prog 182 #[.pointer (some ⟨gc, 0, none⟩), .int .i64 ac, .int .i64 v, .int .i64 most] w fun e w' => e = .returned (.tuple #[]) ∧ Below B w w' ∧ Kc w w' ∧
      (if bitLen v.natAbs ≤ most then Cs B w' gc (o ++ List.replicate (z / 16) (ac, 240, 0, 0) ++ [codOf ac (z % 16 : Nat) v]) 0 f else Cs B w' gc o z true) := by
  obtain ⟨i1, hi, hz0, hz1, hz2⟩ := info_parts infoCod; have hE := cextra_any v w hv; have hgB := h.gB; have hglt := h.lt; obtain ⟨M, hM⟩ : ∃ M, bitLen v.natAbs = M := ⟨_, rfl⟩; obtain ⟨X, hX⟩ : ∃ X, extraV v = X := ⟨_, rfl⟩; have hq : extraQ v = if M ≤ 15 then some (X, M) else none := by unfold extraQ; rw [hM, hX]
  rw [hq] at hE; rw [hM]; clear hq
  by_cases hok : M ≤ most
  · simp only [if_pos hok]
    simp only [if_pos (show M ≤ 15 by omega)] at hE; have hcod : codOf ac (z % 16 : Nat) v = (ac, 16 * ((z % 16 : Nat) : Int) + M, X, (M : Int)) := by unfold codOf; rw [hM, hX]
    rw [hcod]; unfold codR bitA at hE; simp only [Option.getD_some, Option.isSome_some] at hE; have d1 : decide ((most : Int) < M) = false := by simp; omega
    have d1b : decide (most < M) = false := by simp; omega
    have hE' := Lib.hid hE; have h' := Lib.hid h; have hgB' := Lib.hid hgB; have hM' := Lib.hid hM; have hX' := Lib.hid hX; have hcod' := Lib.hid hcod; clear hE h hgB hM hX hcod
    go_enter Try.func182, Try.ntmps182
    go_wp2_with fail
    refine hE'.out.mono ?_; rintro e w1 ⟨rfl, hb1⟩; have hal := (Below.refl w1.heap.size w1).alloc (Nat.le_refl _) (.cells #[.int .i64 X, .int .i64 M] 102); have hB2 := Blk.new w1 102 #[.int .i64 X, .int .i64 M]; have hd := hb1.trans (hal.mono hb1.size); obtain ⟨w2, hw2⟩ : ∃ W, w1.alloc (.cells #[.int .i64 X, .int .i64 M] 102) = W := ⟨_, rfl⟩; rw [hw2] at hd hB2; obtain ⟨g2, hg2⟩ : ∃ x, w1.heap.size = x := ⟨_, rfl⟩; rw [hg2] at hB2; have k0 : w2.cell? ⟨g2, 0, none⟩ = some (.int .i64 X) := hB2.cell rfl; have k1 : w2.cell? ⟨g2, 1, none⟩ = some (.int .i64 M) := hB2.cell rfl; have h2 := h'.out.late hd; clear hal; have hb1' := Lib.hid hb1; have hd' := Lib.hid hd; have hw2' := Lib.hid hw2; have hg2' := Lib.hid hg2; have hB2' := Lib.hid hB2; have h2' := Lib.hid h2; clear hb1 hd hw2 hg2 hB2 h2
    go_upto_region 1 with fail
    rw [hw2'.out, hg2'.out]; obtain ⟨a0, c0, hbk, hrow⟩ := h2'.out.ex; have hB0 : B ≤ w.heap.size := by have h1 := hgB'.out; omega
    have hd0 : Below B w w2 := hd'.out.mono hB0; have kc0 := Kc.of_below hd'.out; have hbk' := Lib.hid hbk; have hrow' := Lib.hid hrow; have hd0' := Lib.hid hd0; have kc0' := Lib.hid kc0; clear hbk hrow hd0 kc0
    go_wp2_with fail
    go_loopw [30] (fun _ wr => ∃ (q : Nat) (a2 : Option Addr) (c2 : Nat), 16 * q ≤ z ∧ Hid (Blk wr gc 245 #[.slice a2 (o.length + q) c2, .int .i64 (z - 16 * q : Nat), .bool f]) ∧ Hid (wr.ownsRow B 133 4 (.slice a2 (o.length + q) c2) (o.length + q) (codC (o ++ List.replicate q (ac, 240, 0, 0)))) ∧ Hid (Blk wr g2 102 #[.int .i64 X, .int .i64 M]) ∧ Hid (Below B w wr) ∧ Hid (Kc w wr)) (fun _ wr => numAt wr ⟨gc, 1, none⟩)
    case atStart => exact ⟨0, a0, c0, by omega, hbk', Lib.hid (by simpa using hrow'.out), hB2', hd0', kc0'⟩
    case round =>
      obtain ⟨q, a2, c2, hq, hbR, hoR, hxR, hdR, kcR⟩ := hrel; obtain ⟨y, hy⟩ : ∃ y, z - 16 * q = y := ⟨_, rfl⟩; have hbR2 := hbR.out; rw [hy] at hbR2
      by_cases hlt : 15 < y
      · obtain ⟨y, rfl⟩ : ∃ y2, y = y2 + 16 := ⟨y - 16, by omega⟩
        have q0 : wr.cell? ⟨gc, 0, none⟩ = some (.slice a2 (o.length + q) c2) := hbR2.cell rfl; have q1 : wr.cell? ⟨gc, 1, none⟩ = some (.int .i64 ((y : Int) + 16)) := hbR2.cell (by simp); have d3 : decide ((15 : Int) < (y : Int) + 16) = true := by simp; omega
        have hyb : y ≤ 1000 := by omega
        have hqb : q ≤ 1000 := by omega
        have hal := (Below.refl wr.heap.size wr).alloc (Nat.le_refl _) (.cells #[.int .i64 ac, .int .i64 240, .int .i64 0, .int .i64 0] 133); have o4 := own_later hoR.out hal; have b4 := hbR2.late hal; have x4 := hxR.out.late hal; have s4 := Sl.new wr 133 4 1 #[.int .i64 ac, .int .i64 240, .int .i64 0, .int .i64 0] (0, 0) (by decide) rfl; have d4 : Below B w (wr.alloc (.cells #[.int .i64 ac, .int .i64 240, .int .i64 0, .int .i64 0] 133)) := hdR.out.trans (hal.mono (Nat.le_trans hB0 hdR.out.size))
        have hrow5 : codC (o ++ List.replicate q (ac, 240, 0, 0)) ++ [.int .i64 ac, .int .i64 240, .int .i64 0, .int .i64 0] = codC (o ++ List.replicate (q + 1) (ac, 240, 0, 0)) := by
          rw [List.replicate_succ', ← List.append_assoc, codC_app _ [_]]; rfl
        have kc4 := kcR.out.trans (Kc.of_below hal); clear hal; have hbR2' := Lib.hid hbR2; have hy' := Lib.hid hy; have o4' := Lib.hid o4; have b4' := Lib.hid b4; have x4' := Lib.hid x4; have s4' := Lib.hid s4; have d4' := Lib.hid d4; have hrow5' := Lib.hid hrow5; have kc4' := Lib.hid kc4; clear hbR2 hy o4 b4 x4 s4 d4 hrow5 kc4
        go_wp2_with (at_builtin; refine wpList_app2 rfl _ _ 146 rfl B 133 i1 _ 4 32 Try.underlying146 hi hz0 hz1 hz2 rfl (by decide) _ (o.length + q) _ rfl o4'.out ⟨wr.heap.size, 0, none⟩ 1 1 [.int .i64 ac, .int .i64 240, .int .i64 0, .int .i64 0] rfl s4'.out (by simp [Value.oneCell']) (by omega) (by decide) (by have h1 := d4'.out.size; omega) ?_; intro a5 c5 w5 ho5 hg5 hn5; have g5 : Mo (fun j => (Value.slice a2 (o.length + q) c2).ownBlock = some j) _ w5 := Mo.of_grown hg5 (fun _ e => e); have b5 := b4'.out.mo g5 (own_neK o4'.out b4'.out); have x5 := x4'.out.mo g5 (own_neB o4'.out x4'.out (by decide)); have y5 := b5.frozen 0; have e5 : w5.cell? ⟨gc, 0, none⟩ = some (.slice a2 (o.length + q) c2) := b5.cell rfl; have y6 := b5.frozen 1; have e6 : w5.cell? ⟨gc, 1, none⟩ = some (.int .i64 ((y : Int) + 16)) := b5.cell (by simp); have hd5 := d4'.out.trans (Mo.below (S := fun j => j ≥ B ∧ True) (Mo.of_grown hg5 (fun k e => ⟨(o4'.out.lt k e).1, trivial⟩)) (show B ≤ _ by have h1 := d4'.out.size; omega) (fun k hk h => by omega)); have Hd5 := Lib.hid hd5; clear hd5; have Kc5 := Lib.hid (kc4'.out.trans (Kc.of_grown o4'.out hg5)); have Ho5 := Lib.hid ho5; have Hg5 := Lib.hid g5; have B5 := Lib.hid b5; have X5 := Lib.hid x5; clear ho5 hg5 hn5 g5 b5 x5)
        have b6 := ((B5.out.set 0 (.slice a5 (o.length + q + 1) c5)).set 1 (.int .i64 y)); have bt6 := ((But.refl gc w5).set 0 (.slice a5 (o.length + q + 1) c5)).set 1 (.int .i64 y); have x6 := X5.out.but bt6 (by have h1 := hglt; have h2 := hb1'.out.size; have h3 := hg2'.out; omega); have o6 := own_but Ho5.out bt6 (own_neK Ho5.out B5.out); have d6 := Hd5.out.trans (bt6.below hgB'.out (by have h1 := Hd5.out.size; omega)); have kc6 := Kc5.out.trans (Kc.of_but B5.out bt6); clear y5 y6 e5 e6; have b6' := Lib.hid b6; have x6' := Lib.hid x6; have o6' := Lib.hid o6; have d6' := Lib.hid d6; have kc6' := Lib.hid kc6; clear b6 x6 o6 d6 kc6
        go_roundw
        case rel => exact ⟨q + 1, a5, c5, by have := hy'.out; omega, Lib.hid (by rw [show z - 16 * (q + 1) = y by have := hy'.out; omega]; exact b6'.out), Lib.hid (by rw [← hrow5'.out]; exact o6'.out), x6', d6', kc6'⟩
        case measure =>
          rw [numAt_of (b6'.out.cell (i := 1) rfl), numAt_of (hbR.out.cell (i := 1) rfl)]; have := hy'.out
          simp
          omega
      · have hq16 : q = z / 16 := by omega
        have hy16 : y = z % 16 := by omega
        have p1 : wr.cell? ⟨gc, 1, none⟩ = some (.int .i64 y) := hbR2.cell rfl; have d3 : decide ((15 : Int) < y) = false := by simp; omega
        have hor := or16 (a := (y : Int)) (b := (M : Int)) (by omega) (by omega) (by omega) (by omega); have hqb : q ≤ 1000 := by omega
        obtain ⟨Ty, ff, hnn, hbel, hsurj⟩ := pr_worlds (fun W => Blk W gc 245 #[.slice a2 (o.length + q) c2, .int .i64 y, .bool f] ∧ Blk W g2 102 #[.int .i64 X, .int .i64 M]) wr ⟨hbR2, hxR.out⟩; have hdr := (Below.refl wr.heap.size wr).drew; have b3 := hbR2.late hdr; have x3 := hxR.out.late hdr; have o3 := own_later hoR.out hdr; have d3b : Below B w wr.drew := hdR.out.trans (hdr.mono (Nat.le_trans hB0 hdR.out.size)); have kc3 := kcR.out.trans (Kc.of_below hdr); have HS := Lib.hid (hsurj wr.drew ⟨b3, x3⟩); have j0 : ∀ s, (ff s).cell? ⟨gc, 0, none⟩ = some (.slice a2 (o.length + q) c2) := fun s => (hbel s).1.cell rfl; have j1 : ∀ s, (ff s).cell? ⟨gc, 1, none⟩ = some (.int .i64 y) := fun s => (hbel s).1.cell rfl; have j2 : ∀ s, (ff s).cell? ⟨g2, 0, none⟩ = some (.int .i64 X) := fun s => (hbel s).2.cell rfl; have j3 : ∀ s, (ff s).cell? ⟨g2, 1, none⟩ = some (.int .i64 M) := fun s => (hbel s).2.cell rfl; have hbR2' := Lib.hid hbR2; have hy' := Lib.hid hy; have hq16' := Lib.hid hq16; have hy16' := Lib.hid hy16; have hbel' := Lib.hid hbel; have hsurj' := Lib.hid hsurj; have b3' := Lib.hid b3; have x3' := Lib.hid x3; have o3' := Lib.hid o3; have d3b' := Lib.hid d3b; have kc3' := Lib.hid kc3; clear hbR2 hy hq16 hy16 hbel hsurj b3 x3 o3 d3b kc3
        go_upto_region 6 with fail
        clear p1 d3; refine wp_noP ?_; refine till_begin (t := 20) (C := fun W => ∃ s, W = ff s) (by kernel_rfl) 21 rfl ?_; obtain ⟨x, hx⟩ : ∃ W, wr.drew = W := ⟨_, rfl⟩; rw [hx] at HS b3' x3' o3' d3b' kc3' ⊢; clear hx; refine till_take [0, 1, 2, 3, 4, 5, 6, 7, 8, 9, 10, 11, 12, 13, 14, 15] 5 (by kernel_rfl) noP_put (by kernel_rfl) (by kernel_rfl) (by kernel_rfl) HS.out ?_; simp only [pickL, List.map_cons, List.map_nil, List.getD_cons_succ, List.getD_cons_zero]
        iterate 16 (go_big_quiet_step (fail))
        refine wpQuiet_nil ?_; have hal := (Below.refl x.heap.size x).alloc (Nat.le_refl _) (.cells #[.int .i64 ac, .int .i64 (16 * (y : Int) + M), .int .i64 X, .int .i64 M] 133); have o4 := own_later o3'.out hal; have b4 := b3'.out.late hal; have x4 := x3'.out.late hal; have s4 := Sl.new x 133 4 1 #[.int .i64 ac, .int .i64 (16 * (y : Int) + M), .int .i64 X, .int .i64 M] (0, 0) (by decide) rfl; have d4 := d3b'.out.trans (hal.mono (Nat.le_trans hB0 d3b'.out.size)); have HS4 := Lib.hid (hsurj'.out _ ⟨b4, x4⟩); obtain ⟨x5, hx5⟩ : ∃ W, x.alloc (.cells #[.int .i64 ac, .int .i64 (16 * (y : Int) + M), .int .i64 X, .int .i64 M] 133) = W := ⟨_, rfl⟩; have kc4 := kc3'.out.trans (Kc.of_below hal); rw [hx5] at o4 b4 x4 s4 d4 HS4 kc4; clear hal; have o4' := Lib.hid o4; have b4' := Lib.hid b4; have x4' := Lib.hid x4; have s4' := Lib.hid s4; have d4' := Lib.hid d4; have hx5' := Lib.hid hx5; have kc4' := Lib.hid kc4; clear o4 b4 x4 s4 d4 hx5 kc4; refine till_one 16 4 (by kernel_rfl) (by kernel_rfl) ?_; simp only [pickL, List.map_cons, List.map_nil, List.getD_cons_succ, List.getD_cons_zero]
        go_wp2_with fail
        rw [hx5'.out]; refine Mid.mk ⟨fun _ => HS4.out, ?_⟩; refine till_one 17 3 (by kernel_rfl) (by kernel_rfl) ?_; simp only [pickL, List.map_cons, List.map_nil, List.getD_cons_succ, List.getD_cons_zero]
        go_wp2_with (at_builtin; refine wpList_app2 rfl _ _ 146 rfl B 133 i1 _ 4 32 Try.underlying146 hi hz0 hz1 hz2 rfl (by decide) _ (o.length + q) _ rfl o4'.out ⟨x.heap.size, 0, none⟩ 1 1 [.int .i64 ac, .int .i64 (16 * (y : Int) + M), .int .i64 X, .int .i64 M] rfl s4'.out (by simp [Value.oneCell']) (by omega) (by decide) (by have h1 := d4'.out.size; omega) ?_; intro a5 c5 w5 ho5 hg5 hn5; have Ho5 := Lib.hid ho5; have Hg5 := Lib.hid hg5; clear ho5 hg5 hn5)
        have g5 : Mo (fun j => (Value.slice a2 (o.length + q) c2).ownBlock = some j) x5 w5 := Mo.of_grown Hg5.out (fun _ e => e); have b5 := b4'.out.mo g5 (own_neK o4'.out b4'.out); have xx5 := x4'.out.mo g5 (own_neB o4'.out x4'.out (by decide)); have d5 := d4'.out.trans (Mo.below (S := fun j => B ≤ j) (Mo.of_grown Hg5.out (fun k e => (o4'.out.lt k e).1)) (show B ≤ x5.heap.size by have h1 := d4'.out.size; omega) (fun k hk h => by omega)); have HS5 := Lib.hid (hsurj'.out _ ⟨b5, xx5⟩); have kc5 := kc4'.out.trans (Kc.of_grown o4'.out Hg5.out); have y5 := b5.frozen 0; have e5 : w5.cell? ⟨gc, 0, none⟩ = some (.slice a2 (o.length + q) c2) := b5.cell rfl; have g5' := Lib.hid g5; have b5' := Lib.hid b5; have xx5' := Lib.hid xx5; have d5' := Lib.hid d5; have kc5' := Lib.hid kc5; clear g5 b5 xx5 d5 kc5; refine Mid.mk ⟨fun _ => HS5.out, ?_⟩; refine till_one 18 2 (by kernel_rfl) (by kernel_rfl) ?_; simp only [pickL, List.map_cons, List.map_nil, List.getD_cons_succ, List.getD_cons_zero]
        go_wp2_with fail
        refine Mid.mk ⟨fun _ => HS5.out, ?_⟩; refine till_one 19 1 (by kernel_rfl) (by kernel_rfl) ?_; simp only [pickL, List.map_cons, List.map_nil, List.getD_cons_succ, List.getD_cons_zero]
        go_wp2_with fail
        refine Mid.mk ⟨fun _ => HS5.out, ?_⟩; refine till_one 20 0 (by kernel_rfl) (by kernel_rfl) ?_; simp only [pickL, List.map_cons, List.map_nil, List.getD_cons_succ, List.getD_cons_zero]
        go_wp2_with fail
        refine ⟨fun h => Bool.noConfusion (show true = false from h), ⟨by kernel_rfl, noP_normal ?_⟩⟩; have b6 := b5'.out.set 0 (.slice a5 (o.length + q + 1) c5); have bt6 := (But.refl gc w5).set 0 (.slice a5 (o.length + q + 1) c5); have o6 := own_but Ho5.out bt6 (own_neK Ho5.out b5'.out); have d6 := d5'.out.trans (bt6.below hgB'.out (by have h1 := d5'.out.size; omega)); obtain ⟨w6, hw6⟩ : ∃ W, w5.setCell ⟨gc, 0, none⟩ (.slice a5 (o.length + q + 1) c5) = W := ⟨_, rfl⟩; have kc6 := kc5'.out.trans (Kc.of_but b5'.out bt6); rw [hw6] at b6 bt6 o6 d6 kc6 ⊢; have y6 := b6.frozen 1; have e6 : w6.cell? ⟨gc, 1, none⟩ = some (.int .i64 y) := b6.cell rfl; have b7 := b6.set 1 (.int .i64 0); have bt7 := (But.refl gc w6).set 1 (.int .i64 0); have o7 := own_but o6 bt7 (own_neK o6 b6); have d7 := d6.trans (bt7.below hgB'.out (by have h1 := d6.size; omega)); have hrow7 : codC (o ++ List.replicate q (ac, 240, 0, 0)) ++ [.int .i64 ac, .int .i64 (16 * (y : Int) + M), .int .i64 X, .int .i64 M] = codC (o ++ List.replicate q (ac, 240, 0, 0) ++ [(ac, 16 * (y : Int) + M, X, (M : Int))]) := by rw [codC_app _ [_]]; rfl
        clear y5 e5 j0 j1 j2 j3 HS HS4 HS5; rw [hrow7] at o7; have kc7 := kc6.trans (Kc.of_but b6 bt7); clear bt6 o6 d6 b6 kc6; have bt7' := Lib.hid bt7; have b7' := Lib.hid b7; have o7' := Lib.hid o7; have d7' := Lib.hid d7; have kc7' := Lib.hid kc7; clear bt7 b7 o7 d7 kc7
        go_wp2_with fail
        go_end0
        have hln : (o ++ List.replicate q (ac, 240, 0, 0) ++ [(ac, 16 * (y : Int) + M, X, (M : Int))]).length = o.length + q + 1 := by simp; omega
        refine ⟨rfl, d7'.out, kc7'.out, ⟨⟨a5, c5, ?_, ?_⟩, hgB'.out⟩⟩
        · rw [← hq16'.out, ← hy16'.out, hln]; exact b7'.out
        · rw [← hq16'.out, ← hy16'.out, hln]; exact o7'.out
  · simp only [if_neg hok]
    by_cases h15 : M ≤ 15
    · simp only [if_pos h15] at hE
      have d1 : decide ((most : Int) < M) = true := by simp; omega
      unfold codR bitA at hE; simp only [Option.getD_some, Option.isSome_some] at hE; obtain ⟨a0, c0, hbk, hrow⟩ := h.ex; have hB0 : B ≤ w.heap.size := by omega
      have hE' := Lib.hid hE; have h' := Lib.hid h; have hgB' := Lib.hid hgB; have hM' := Lib.hid hM; have hX' := Lib.hid hX; have hbk' := Lib.hid hbk; have hrow' := Lib.hid hrow; clear hE h hgB hM hX hbk hrow
      go_enter Try.func182, Try.ntmps182
      go_wp2_with fail
      refine hE'.out.mono ?_; rintro e w1 ⟨rfl, hb1⟩; have hal := (Below.refl w1.heap.size w1).alloc (Nat.le_refl _) (.cells #[.int .i64 X, .int .i64 (M : Int)] 102); have hB2 := Blk.new w1 102 #[.int .i64 X, .int .i64 (M : Int)]; have hd := hb1.trans (hal.mono hb1.size); obtain ⟨w2, hw2⟩ : ∃ W, w1.alloc (.cells #[.int .i64 X, .int .i64 (M : Int)] 102) = W := ⟨_, rfl⟩; rw [hw2] at hd hB2; obtain ⟨g2, hg2⟩ : ∃ x, w1.heap.size = x := ⟨_, rfl⟩; rw [hg2] at hB2; have k0 : w2.cell? ⟨g2, 0, none⟩ = some (.int .i64 X) := hB2.cell rfl; have k1 : w2.cell? ⟨g2, 1, none⟩ = some (.int .i64 (M : Int)) := hB2.cell rfl; have b2 := hbk'.out.late hd; have o2 := own_later hrow'.out hd; have hd0 : Below B w w2 := hd.mono hB0; have y2 := b2.frozen 2; have e2 : w2.cell? ⟨gc, 2, none⟩ = some (.bool f) := b2.cell rfl; have b3 := b2.set 2 (.bool true); have bt3 := (But.refl gc w2).set 2 (.bool true); have o3 := own_but o2 bt3 (own_neK o2 b2); have d3 := hd0.trans (bt3.below hgB'.out (by have h1 := hd0.size; omega)); have kc3 := (Kc.of_below hd).trans (Kc.of_but b2 bt3); have hw2z : w1.alloc (.cells #[.int .i64 X, .int .i64 (M : Int)] 102) = w2 := hw2; clear hal b2 o2 bt3; have hb1' := Lib.hid hb1; have hd' := Lib.hid hd; have hw2' := Lib.hid hw2; have hg2' := Lib.hid hg2; have hB2' := Lib.hid hB2; have hd0' := Lib.hid hd0; have b3' := Lib.hid b3; have o3' := Lib.hid o3; have d3' := Lib.hid d3; have hw2z' := Lib.hid hw2z; have kc3' := Lib.hid kc3; clear hb1 hd hw2 hg2 hB2 hd0 b3 o3 d3 hw2z kc3
      go_upto_region 1 with fail
      first | rw [hw2'.out] | skip
      try simp only [Int.natCast_zero] at *
      try rw [hw2'.out]
      try rw [hg2'.out]
      go_wp2_with fail
      refine bodyPost_ret (results_none rfl _ _ _) rfl ?_; exact ⟨rfl, d3'.out, kc3'.out, ⟨⟨a0, c0, b3'.out, o3'.out⟩, hgB'.out⟩⟩
    · simp only [if_neg h15] at hE
      unfold codR bitA at hE; simp only [Option.getD_none, Option.isSome_none] at hE; obtain ⟨a0, c0, hbk, hrow⟩ := h.ex; have hB0 : B ≤ w.heap.size := by omega
      have hE' := Lib.hid hE; have h' := Lib.hid h; have hgB' := Lib.hid hgB; have hM' := Lib.hid hM; have hX' := Lib.hid hX; have hbk' := Lib.hid hbk; have hrow' := Lib.hid hrow; clear hE h hgB hM hX hbk hrow
      go_enter Try.func182, Try.ntmps182
      go_wp2_with fail
      refine hE'.out.mono ?_; rintro e w1 ⟨rfl, hb1⟩; have hal := (Below.refl w1.heap.size w1).alloc (Nat.le_refl _) (.cells #[.int .i64 0, .int .i64 ((0 : Nat) : Int)] 102); have hB2 := Blk.new w1 102 #[.int .i64 0, .int .i64 ((0 : Nat) : Int)]; have hd := hb1.trans (hal.mono hb1.size); obtain ⟨w2, hw2⟩ : ∃ W, w1.alloc (.cells #[.int .i64 0, .int .i64 ((0 : Nat) : Int)] 102) = W := ⟨_, rfl⟩; rw [hw2] at hd hB2; obtain ⟨g2, hg2⟩ : ∃ x, w1.heap.size = x := ⟨_, rfl⟩; rw [hg2] at hB2; have k0 : w2.cell? ⟨g2, 0, none⟩ = some (.int .i64 0) := hB2.cell rfl; have k1 : w2.cell? ⟨g2, 1, none⟩ = some (.int .i64 ((0 : Nat) : Int)) := hB2.cell rfl; have b2 := hbk'.out.late hd; have o2 := own_later hrow'.out hd; have hd0 : Below B w w2 := hd.mono hB0; have y2 := b2.frozen 2; have e2 : w2.cell? ⟨gc, 2, none⟩ = some (.bool f) := b2.cell rfl; have b3 := b2.set 2 (.bool true); have bt3 := (But.refl gc w2).set 2 (.bool true); have o3 := own_but o2 bt3 (own_neK o2 b2); have d3 := hd0.trans (bt3.below hgB'.out (by have h1 := hd0.size; omega)); have kc3 := (Kc.of_below hd).trans (Kc.of_but b2 bt3); have hw2z : w1.alloc (.cells #[.int .i64 0, .int .i64 ((0 : Nat) : Int)] 102) = w2 := hw2; clear hal b2 o2 bt3; have hb1' := Lib.hid hb1; have hd' := Lib.hid hd; have hw2' := Lib.hid hw2; have hg2' := Lib.hid hg2; have hB2' := Lib.hid hB2; have hd0' := Lib.hid hd0; have b3' := Lib.hid b3; have o3' := Lib.hid o3; have d3' := Lib.hid d3; have hw2z' := Lib.hid hw2z; have kc3' := Lib.hid kc3; clear hb1 hd hw2 hg2 hB2 hd0 b3 o3 d3 hw2z kc3
      go_upto_region 1 with fail
      first | rw [hw2'.out] | skip
      try simp only [Int.natCast_zero] at *
      try rw [hw2'.out]
      try rw [hg2'.out]
      go_wp2_with fail
      refine bodyPost_ret (results_none rfl _ _ _) rfl ?_; exact ⟨rfl, d3'.out, kc3'.out, ⟨⟨a0, c0, b3'.out, o3'.out⟩, hgB'.out⟩⟩
end Go.Proofs.Ytpjopeojeglogaa
