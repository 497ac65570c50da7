/- Chapter 22: the entries of a directory that point somewhere, and those that don't. | Chapter 22: entries that are the same; what is kept while a directory is read. -/
import Derived.Test.YtilennmeiaehnaaGreatCa30
import Derived.Test.YtilennmeiaehnaaGreatCa34
import Derived.Laws.StructEq
namespace Tt
open Go Go.RowKit
/-- two rows lie in different blocks -/
def Ap (v u : Value) : Prop := ∀ k, v.ownBlock = some k → u.ownBlock ≠ some k
theorem Ap.symm {v u : Value} (h : Ap v u) : Ap u v := fun k e e' => h k e' e
theorem Ap.grown {v v' u : Value} {w : World} {B : Nat} {E : TypeId} {sz n : Nat} {xs : List Value} (h : Ap v u) (ho : ∀ k, v'.ownBlock = some k → v.ownBlock = some k ∨ w.heap.size ≤ k) (hu : w.ownsRow B E sz u n xs) : Ap v' u := fun k e e' => by
  rcases ho k e with h1 | h1
  · exact h k h1 e'
  · have := (hu.lt k e').2; omega
theorem Ap.nil (u : Value) : Ap (.slice none 0 0) u := fun k e => by cases e
end Tt
namespace Go.Proofs.YtilennmeiaehnaaGreat
open Go.RowKit Tt
set_option linter.unusedVariables false
set_option linter.unusedSimpArgs false

theorem links1_any (x : Lk) (g : Nat) (tg : Int) (w : World) (hc : w.cell? ⟨g, 0, none⟩ = some (.int .i64 tg)) (hg : g < w.heap.size) :
    Calls Tryz.prog 182 #[.agg #[.int .i64 x.1, .int .i64 x.2], .pointer (some ⟨g, 0, none⟩)] w fun e w' => e = .returned (.bool (x.1 == tg)) ∧ Below w.heap.size w w' := by
  have hc2 : (w.alloc (.cells #[.int .i64 x.1, .int .i64 x.2] 47)).cell? ⟨g, 0, none⟩ = some (.int .i64 tg) := late ((Below.refl w.heap.size w).alloc (Nat.le_refl _) _) hg hc
  go_enter Tryz.func182, Tryz.ntmps182
  go_wp2
  go_ret
  exact ⟨rfl, (Below.refl _ _).alloc (Nat.le_refl _) _⟩
theorem dir1_any (x : Lk) (g : Nat) (tg : Int) (w : World) (hc : w.cell? ⟨g, 0, none⟩ = some (.int .i64 tg)) (hg : g < w.heap.size) :
    Calls Tryz.prog 162 #[.agg #[.int .i64 x.1, .int .i64 x.2], .pointer (some ⟨g, 0, none⟩)] w fun e w' => e = .returned (.bool (x.1 == tg)) ∧ Below w.heap.size w w' := by
  have hc2 : (w.alloc (.cells #[.int .i64 x.1, .int .i64 x.2] 47)).cell? ⟨g, 0, none⟩ = some (.int .i64 tg) := late ((Below.refl w.heap.size w).alloc (Nat.le_refl _) _) hg hc
  go_enter Tryz.func162, Tryz.ntmps162
  go_wp2
  go_ret
  exact ⟨rfl, (Below.refl _ _).alloc (Nat.le_refl _) _⟩
def toE (s : Shp) (l : List Ent) : List Ent := l.filter fun x => linkP s x.1
def pairE (s : Shp) (l : List Ent) : List Ent := l.filter fun x => !linkP s x.1 && pairP s x.1
def restE (s : Shp) (l : List Ent) : List Ent := l.filter fun x => !ownP s x.1
theorem filter_take_succ {α : Type} {l : List α} {i : Nat} {d : α} (p : α → Bool) (h : i < l.length) : (l.take (i + 1)).filter p = (l.take i).filter p ++ (if p (l.getD i d) = true then [l.getD i d] else []) := by
  rw [List.take_succ_eq_append_getElem h, List.filter_append, getD_el h]
  congr 1
  by_cases hp : p l[i] = true <;> simp [hp]
structure Three (B : Nat) (w : World) (v1 v2 v3 : Value) (l1 l2 l3 : List Ent) : Prop where
  r1 : w.ownsRow B 62 4 v1 l1.length (fl entC l1)
  r2 : w.ownsRow B 62 4 v2 l2.length (fl entC l2)
  r3 : w.ownsRow B 62 4 v3 l3.length (fl entC l3)
  a12 : Ap v1 v2
  a13 : Ap v1 v3
  a23 : Ap v2 v3
theorem Three.later {B : Nat} {w w' : World} {v1 v2 v3 : Value} {l1 l2 l3 : List Ent} (h : Three B w v1 v2 v3 l1 l2 l3) (hb : Below w.heap.size w w') : Three B w' v1 v2 v3 l1 l2 l3 :=
  ⟨own_later h.r1 hb, own_later h.r2 hb, own_later h.r3 hb, h.a12, h.a13, h.a23⟩
theorem Three.app1 {B : Nat} {w w' : World} {v1 v2 v3 v1' : Value} {l1 l2 l3 : List Ent} {x : Ent} (h : Three B w v1 v2 v3 l1 l2 l3) (hg : w.grownBy w' v1.ownBlock) (ho : ∀ k, v1'.ownBlock = some k → v1.ownBlock = some k ∨ w.heap.size ≤ k)
    (ob : w'.ownsRow B 62 4 v1' (l1.length + 1) (fl entC l1 ++ entC x)) : Three B w' v1' v2 v3 (l1 ++ [x]) l2 l3 :=
  ⟨by rw [List.length_append, fl_snoc]; exact ob, own_grown h.r2 hg (fun i e => h.a12.symm i e), own_grown h.r3 hg (fun i e => h.a13.symm i e), h.a12.grown ho h.r2, h.a13.grown ho h.r3, h.a23⟩
theorem Three.app2 {B : Nat} {w w' : World} {v1 v2 v3 v2' : Value} {l1 l2 l3 : List Ent} {x : Ent} (h : Three B w v1 v2 v3 l1 l2 l3) (hg : w.grownBy w' v2.ownBlock) (ho : ∀ k, v2'.ownBlock = some k → v2.ownBlock = some k ∨ w.heap.size ≤ k)
    (ob : w'.ownsRow B 62 4 v2' (l2.length + 1) (fl entC l2 ++ entC x)) : Three B w' v1 v2' v3 l1 (l2 ++ [x]) l3 :=
  ⟨own_grown h.r1 hg (fun i e => h.a12 i e), by rw [List.length_append, fl_snoc]; exact ob, own_grown h.r3 hg (fun i e => h.a23.symm i e), (Ap.grown h.a12.symm ho h.r1).symm, h.a13, h.a23.grown ho h.r3⟩
theorem Three.app3 {B : Nat} {w w' : World} {v1 v2 v3 v3' : Value} {l1 l2 l3 : List Ent} {x : Ent} (h : Three B w v1 v2 v3 l1 l2 l3) (hg : w.grownBy w' v3.ownBlock) (ho : ∀ k, v3'.ownBlock = some k → v3.ownBlock = some k ∨ w.heap.size ≤ k)
    (ob : w'.ownsRow B 62 4 v3' (l3.length + 1) (fl entC l3 ++ entC x)) : Three B w' v1 v2 v3' l1 l2 (l3 ++ [x]) :=
  ⟨own_grown h.r1 hg (fun i e => h.a13 i e), own_grown h.r2 hg (fun i e => h.a23 i e), by rw [List.length_append, fl_snoc]; exact ob, h.a12, (Ap.grown h.a13.symm ho h.r1).symm, (Ap.grown h.a23.symm ho h.r2).symm⟩
theorem own_v {w : World} {B : Nat} {E : TypeId} {sz : Nat} {v : Value} {n : Nat} {xs : List Value} (h : w.ownsRow B E sz v n xs) : ∃ a c, v = .slice a n c := by
  rcases h.2 with ⟨rfl, h0⟩ | ⟨g, cap, cur, rfl, _⟩
  · exact ⟨none, 0, by rw [h0]⟩
  · exact ⟨_, _, rfl⟩
set_option maxRecDepth 20000 in
set_option maxHeartbeats 8000000 in
theorem links_any (a : Option Addr) (n c : Nat) (es : List Ent) (z : Shz) (w : World) (hs : Sl w a n c 4 (fl entC es)) (hl : Sl w z.1.1 z.1.2.1 z.1.2.2 2 (fl lkc z.2.1)) (hn : n ≤ 1000000) :
    Calls Tryz.prog 160 #[.slice a n c, .agg #[.slice z.1.1 z.1.2.1 z.1.2.2, .int .i64 z.2.2.1, .int .i64 z.2.2.2.1, .int .i64 z.2.2.2.2]] w fun e w' => ∃ v1 v2 v3, e = .returned (.tuple #[v1, v2, v3]) ∧ Three w.heap.size w' v1 v2 v3 (toE z.2 es) (pairE z.2 es) (restE z.2 es) ∧ Below w.heap.size w w' := by
  obtain ⟨⟨la, ln, lc⟩, sh⟩ := z; obtain ⟨lks, sat, slong, snx⟩ := sh; simp only at hl ⊢; have hmf : ∀ (fn : Fn) (first cap : Array Value) (w : World), (Instr.makeFunc fn first cap).run Tryz.prog w = .ok (.func fn first cap) w := fun _ _ _ _ => rfl; have hel := hs.flen entC_len (by decide); have hle := hs.le; have hmx := hs.max; obtain ⟨i0, z0, hi0, hz, hz1, hz2, hz3⟩ := info_sz infoEn infoEnz; obtain ⟨sh, hsh⟩ : ∃ sh : Shp, (lks, sat, slong, snx) = sh := ⟨_, rfl⟩; have hlk : ∀ t, linkP sh t = lks.any fun y => y.1 == t := fun t => by rw [← hsh]; rfl
  have hpr : ∀ t, pairP sh t = (decide (0 < sat) && (decide (t = sat) || decide (t = slong))) := fun t => by rw [← hsh]; rfl
  rw [hsh]; have b1 := Blk.new w 50 #[.slice la ln lc, .int .i64 sat, .int .i64 slong, .int .i64 snx]; have hb1 := (Below.refl w.heap.size w).alloc (Nat.le_refl _) (.cells #[.slice la ln lc, .int .i64 sat, .int .i64 slong, .int .i64 snx] 50); clear hsh; have hs' := Lib.hid hs; have hl' := Lib.hid hl; have hel' := Lib.hid hel; have hlk' := Lib.hid hlk; have hpr' := Lib.hid hpr; clear hs hl hel hlk hpr
  go_enter Tryz.func160, Tryz.ntmps160
  go_upto_region 1 with fail
  obtain ⟨w1, hw1⟩ : ∃ w1, w.alloc (.cells #[.slice la ln lc, .int .i64 sat, .int .i64 slong, .int .i64 snx] 50) = w1 := ⟨_, rfl⟩; rw [hw1] at b1 hb1
  try rw [hw1]
  clear hw1; have b1' := Lib.hid b1; have hb1' := Lib.hid hb1; clear b1 hb1
  go_wp2_with fail
  go_loopw [4, 5, 6, 11] (fun tv pv rv iv wr => ∃ i : Nat, i ≤ n ∧ iv = .int .i64 i ∧ Hid (Three w.heap.size wr tv pv rv (toE sh (es.take i)) (pairE sh (es.take i)) (restE sh (es.take i))) ∧ Hid (Blk wr w.heap.size 50 #[.slice la ln lc, .int .i64 sat, .int .i64 slong, .int .i64 snx]) ∧ Hid (Below w.heap.size w wr)) (fun _ _ _ iv _ => n - (intOf iv).toNat)
  case atStart => exact ⟨0, by omega, rfl, Lib.hid ⟨own_nil _ _ _ _, own_nil _ _ _ _, own_nil _ _ _ _, Ap.nil _, Ap.nil _, Ap.nil _⟩, b1', hb1'⟩
  case round =>
    obtain ⟨i, hi, rfl, H, hbS, hb⟩ := hrel
    by_cases hlt : i < n
    · obtain ⟨bb, oo, rfl, hbb, fe⟩ := (hs'.out.mono hb.out).elem entC_len (by decide) (0, 0, 0, 0) hlt
      obtain ⟨⟨x1, x2, x3, x4⟩, hx⟩ : ∃ x, es.getD i (0, 0, 0, 0) = x := ⟨_, rfl⟩; rw [hx] at fe; have f0 := fe 0 _ rfl; have f1 := fe 1 _ rfl; have f2 := fe 2 _ rfl; have f3 := fe 3 _ rfl; simp only [Nat.add_zero] at f0 f1 f2 f3; clear fe; have hin : (i : Int) < n := by omega
      have htoS := filter_take_succ (l := es) (i := i) (d := (0, 0, 0, 0)) (fun x => linkP sh x.1) (by rw [hel'.out]; exact hlt); have hpaS := filter_take_succ (l := es) (i := i) (d := (0, 0, 0, 0)) (fun x => !linkP sh x.1 && pairP sh x.1) (by rw [hel'.out]; exact hlt); have hreS := filter_take_succ (l := es) (i := i) (d := (0, 0, 0, 0)) (fun x => !ownP sh x.1) (by rw [hel'.out]; exact hlt); rw [hx] at htoS hpaS hreS; simp only [ownP] at htoS hpaS hreS; obtain ⟨a1, c1, rfl⟩ := own_v H.out.r1; obtain ⟨a2, c2, rfl⟩ := own_v H.out.r2; obtain ⟨a3, c3, rfl⟩ := own_v H.out.r3; have hn1 : (toE sh (es.take i)).length ≤ i := by unfold toE; have := List.length_filter_le (fun x : Ent => linkP sh x.1) (es.take i); rw [List.length_take] at this; omega
      have hn2 : (pairE sh (es.take i)).length ≤ i := by unfold pairE; have := List.length_filter_le (fun x : Ent => !linkP sh x.1 && pairP sh x.1) (es.take i); rw [List.length_take] at this; omega
      have hn3 : (restE sh (es.take i)).length ≤ i := by unfold restE; have := List.length_filter_le (fun x : Ent => !ownP sh x.1) (es.take i); rw [List.length_take] at this; omega
      change toE sh (es.take (i + 1)) = toE sh (es.take i) ++ _ at htoS
      change pairE sh (es.take (i + 1)) = pairE sh (es.take i) ++ _ at hpaS
      have hreS' : restE sh (es.take (i + 1)) = restE sh (es.take i) ++ (if (!(linkP sh x1 || pairP sh x1)) = true then [(x1, x2, x3, x4)] else []) := hreS; clear hreS; rw [hlk'.out, hpr'.out] at hpaS hreS'; rw [hlk'.out] at htoS; clear hx; have htoS' := Lib.hid htoS; have hpaS' := Lib.hid hpaS; have hreS'' := Lib.hid hreS'; clear htoS hpaS hreS'
      go_upto_region 5 with fail
      have b8 := Blk.new wr 62 #[.int .i64 x1, .int .i64 x2, .int .i64 x3, .int .i64 x4]; have hal := (Below.refl wr.heap.size wr).alloc (Nat.le_refl _) (.cells #[.int .i64 x1, .int .i64 x2, .int .i64 x3, .int .i64 x4] 62); have bS := hbS.out.late hal; have H5 := H.out.later hal; have hb5 := hb.out.trans (hal.mono hb.out.size); clear f0 f1 f2 f3 hal
      generalize wr.alloc (.cells #[.int .i64 x1, .int .i64 x2, .int .i64 x3, .int .i64 x4] 62) = w5 at *
      generalize wr.heap.size = g8 at *
      have c0 : w5.cell? ⟨w.heap.size, 0, none⟩ = some (.slice la ln lc) := bS.cell rfl; have hlt8 := b8.lt; have HC := lhas_any 182 (.inl rfl) (.pointer (some ⟨g8, 0, none⟩)) la ln lc lks (fun y => y.1 == x1) w5 (hl'.out.mono hb5) (fun W y hW => links1_any y g8 x1 W (late hW hlt8 (b8.cell rfl)) (Nat.lt_of_lt_of_le hlt8 hW.size)); obtain ⟨r, hr⟩ : ∃ r, (lks.any fun y => y.1 == x1) = r := ⟨_, rfl⟩; rw [hr] at HC
      replace htoS' := Lib.hid (by have h := htoS'.out; rw [hr] at h; exact h)
      replace hpaS' := Lib.hid (by have h := hpaS'.out; rw [hr] at h; exact h)
      replace hreS'' := Lib.hid (by have h := hreS''.out; rw [hr] at h; exact h)
      have HC' := Lib.hid HC; have b8' := Lib.hid b8; have bS' := Lib.hid bS; have H5' := Lib.hid H5; have hb5' := Lib.hid hb5; have hr' := Lib.hid hr; clear HC b8 bS H5 hb5 hr
      go_wp2_with fail
      refine HC'.out.mono ?_; rintro e w8 ⟨rfl, hb8⟩; have b88 := b8'.out.late hb8; have bS8 := bS'.out.late hb8; have H8 := Lib.hid (H5'.out.later hb8); have HB8 := Lib.hid (hb5'.out.trans (hb8.mono hb5'.out.size)); clear c0 hb8 b8' bS' H5' hb5' HC'; have q0 : w8.cell? ⟨g8, 0, none⟩ = some (.int .i64 x1) := b88.cell rfl; have q1 : w8.cell? ⟨g8, 1, none⟩ = some (.int .i64 x2) := b88.cell rfl; have q2 : w8.cell? ⟨g8, 2, none⟩ = some (.int .i64 x3) := b88.cell rfl; have q3 : w8.cell? ⟨g8, 3, none⟩ = some (.int .i64 x4) := b88.cell rfl; have s1 : w8.cell? ⟨w.heap.size, 1, none⟩ = some (.int .i64 sat) := bS8.cell rfl; have s2 : w8.cell? ⟨w.heap.size, 2, none⟩ = some (.int .i64 slong) := bS8.cell rfl; have b88' := Lib.hid b88; have bS8' := Lib.hid bS8; clear b88 bS8
      cases r with
      | true =>
        have h1 : toE sh (es.take (i + 1)) = toE sh (es.take i) ++ [(x1, x2, x3, x4)] := by rw [htoS'.out]; simp [*]
        have h2 : pairE sh (es.take (i + 1)) = pairE sh (es.take i) := by rw [hpaS'.out]; simp [*]
        have h3 : restE sh (es.take (i + 1)) = restE sh (es.take i) := by rw [hreS''.out]; simp [*]
        go_wp2_with (at_builtin; refine wpList_app2 rfl _ _ 136 rfl w.heap.size 62 i0 z0 4 32 Tryz.underlying136 hi0 hz hz1 hz2 hz3 (by decide) _ _ _ rfl (H8.out.later ((Below.refl w8.heap.size w8).alloc (Nat.le_refl _) (.cells #[.int .i64 x1, .int .i64 x2, .int .i64 x3, .int .i64 x4] 62))).r1 ⟨w8.heap.size, 0, none⟩ 1 1 (entC (x1, x2, x3, x4)) rfl (Sl.new w8 62 4 1 #[.int .i64 x1, .int .i64 x2, .int .i64 x3, .int .i64 x4] (0, 0) (by omega) rfl) (entC_one _) (by omega) (by decide) (by have := HB8.out.size; simp; omega) ?_; intro a5 c5 wa ob hga hoa; have Ob := Lib.hid ob; have Hga := Lib.hid hga; have Hoa := Lib.hid hoa; clear ob hga hoa)
        have hal := (Below.refl w8.heap.size w8).alloc (Nat.le_refl _) (.cells #[.int .i64 x1, .int .i64 x2, .int .i64 x3, .int .i64 x4] 62); have H9 := (H8.out.later hal).app1 Hga.out Hoa.out Ob.out; have bS9 := (bS8'.out.late hal).grown Hga.out (own_ne_blk (H8.out.later hal).r1 (bS8'.out.late hal) (by decide)); have hb9 := below_grown (HB8.out.trans (hal.mono HB8.out.size)) Hga.out (Nat.le_trans HB8.out.size hal.size) (H8.out.later hal).r1; clear q0 q1 q2 q3 s1 s2 hal; rw [← h1, ← h2, ← h3] at H9; have H9' := Lib.hid H9; have bS9' := Lib.hid bS9; have hb9' := Lib.hid hb9; clear H9 bS9 hb9
        go_roundw
        case rel => exact ⟨i + 1, by omega, by go_num, by first | exact H9' | (have h := H9'; simpa [*] using h), bS9', hb9'⟩
        case measure => simp [intOf]; omega
      | false =>
        by_cases hp0 : 0 < sat
        · have d1 : decide (0 < sat) = true := by simp; omega
          by_cases hp1 : x1 = sat
          · have d2 : (x1 == sat) = true := by simp [hp1]
            have h1 : toE sh (es.take (i + 1)) = toE sh (es.take i) := by rw [htoS'.out]; simp [*]
            have h2 : pairE sh (es.take (i + 1)) = pairE sh (es.take i) ++ [(x1, x2, x3, x4)] := by rw [hpaS'.out]; simp [*]
            have h3 : restE sh (es.take (i + 1)) = restE sh (es.take i) := by rw [hreS''.out]; simp [*]
            clear hp1 hp0
            go_wp2_with (at_builtin; refine wpList_app2 rfl _ _ 136 rfl w.heap.size 62 i0 z0 4 32 Tryz.underlying136 hi0 hz hz1 hz2 hz3 (by decide) _ _ _ rfl (H8.out.later ((Below.refl w8.heap.size w8).alloc (Nat.le_refl _) (.cells #[.int .i64 x1, .int .i64 x2, .int .i64 x3, .int .i64 x4] 62))).r2 ⟨w8.heap.size, 0, none⟩ 1 1 (entC (x1, x2, x3, x4)) rfl (Sl.new w8 62 4 1 #[.int .i64 x1, .int .i64 x2, .int .i64 x3, .int .i64 x4] (0, 0) (by omega) rfl) (entC_one _) (by omega) (by decide) (by have := HB8.out.size; simp; omega) ?_; intro a5 c5 wa ob hga hoa; have Ob := Lib.hid ob; have Hga := Lib.hid hga; have Hoa := Lib.hid hoa; clear ob hga hoa)
            have hal := (Below.refl w8.heap.size w8).alloc (Nat.le_refl _) (.cells #[.int .i64 x1, .int .i64 x2, .int .i64 x3, .int .i64 x4] 62); have H9 := (H8.out.later hal).app2 Hga.out Hoa.out Ob.out; have bS9 := (bS8'.out.late hal).grown Hga.out (own_ne_blk (H8.out.later hal).r2 (bS8'.out.late hal) (by decide)); have hb9 := below_grown (HB8.out.trans (hal.mono HB8.out.size)) Hga.out (Nat.le_trans HB8.out.size hal.size) (H8.out.later hal).r2; clear q0 q1 q2 q3 s1 s2 hal; rw [← h1, ← h2, ← h3] at H9; have H9' := Lib.hid H9; have bS9' := Lib.hid bS9; have hb9' := Lib.hid hb9; clear H9 bS9 hb9
            go_roundw
            case rel => exact ⟨i + 1, by omega, by go_num, by first | exact H9' | (have h := H9'; simpa [*] using h), bS9', hb9'⟩
            case measure => simp [intOf]; omega
          · have d2 : (x1 == sat) = false := by simp [hp1]
            by_cases hp2 : x1 = slong
            · have d3 : (x1 == slong) = true := by simp [hp2]
              have h1 : toE sh (es.take (i + 1)) = toE sh (es.take i) := by rw [htoS'.out]; simp [*]
              have h2 : pairE sh (es.take (i + 1)) = pairE sh (es.take i) ++ [(x1, x2, x3, x4)] := by rw [hpaS'.out]; simp [*]
              have h3 : restE sh (es.take (i + 1)) = restE sh (es.take i) := by rw [hreS''.out]; simp [*]
              clear hp1 hp0 hp2
              go_wp2_with (at_builtin; refine wpList_app2 rfl _ _ 136 rfl w.heap.size 62 i0 z0 4 32 Tryz.underlying136 hi0 hz hz1 hz2 hz3 (by decide) _ _ _ rfl (H8.out.later ((Below.refl w8.heap.size w8).alloc (Nat.le_refl _) (.cells #[.int .i64 x1, .int .i64 x2, .int .i64 x3, .int .i64 x4] 62))).r2 ⟨w8.heap.size, 0, none⟩ 1 1 (entC (x1, x2, x3, x4)) rfl (Sl.new w8 62 4 1 #[.int .i64 x1, .int .i64 x2, .int .i64 x3, .int .i64 x4] (0, 0) (by omega) rfl) (entC_one _) (by omega) (by decide) (by have := HB8.out.size; simp; omega) ?_; intro a5 c5 wa ob hga hoa; have Ob := Lib.hid ob; have Hga := Lib.hid hga; have Hoa := Lib.hid hoa; clear ob hga hoa)
              have hal := (Below.refl w8.heap.size w8).alloc (Nat.le_refl _) (.cells #[.int .i64 x1, .int .i64 x2, .int .i64 x3, .int .i64 x4] 62); have H9 := (H8.out.later hal).app2 Hga.out Hoa.out Ob.out; have bS9 := (bS8'.out.late hal).grown Hga.out (own_ne_blk (H8.out.later hal).r2 (bS8'.out.late hal) (by decide)); have hb9 := below_grown (HB8.out.trans (hal.mono HB8.out.size)) Hga.out (Nat.le_trans HB8.out.size hal.size) (H8.out.later hal).r2; clear q0 q1 q2 q3 s1 s2 hal; rw [← h1, ← h2, ← h3] at H9; have H9' := Lib.hid H9; have bS9' := Lib.hid bS9; have hb9' := Lib.hid hb9; clear H9 bS9 hb9
              go_roundw
              case rel => exact ⟨i + 1, by omega, by go_num, by first | exact H9' | (have h := H9'; simpa [*] using h), bS9', hb9'⟩
              case measure => simp [intOf]; omega
            · have d3 : (x1 == slong) = false := by simp [hp2]
              have h1 : toE sh (es.take (i + 1)) = toE sh (es.take i) := by rw [htoS'.out]; simp [*]
              have h2 : pairE sh (es.take (i + 1)) = pairE sh (es.take i) := by rw [hpaS'.out]; simp [*]
              have h3 : restE sh (es.take (i + 1)) = restE sh (es.take i) ++ [(x1, x2, x3, x4)] := by rw [hreS''.out]; simp [*]
              clear hp1 hp0 hp2
              go_wp2_with (at_builtin; refine wpList_app2 rfl _ _ 136 rfl w.heap.size 62 i0 z0 4 32 Tryz.underlying136 hi0 hz hz1 hz2 hz3 (by decide) _ _ _ rfl (H8.out.later ((Below.refl w8.heap.size w8).alloc (Nat.le_refl _) (.cells #[.int .i64 x1, .int .i64 x2, .int .i64 x3, .int .i64 x4] 62))).r3 ⟨w8.heap.size, 0, none⟩ 1 1 (entC (x1, x2, x3, x4)) rfl (Sl.new w8 62 4 1 #[.int .i64 x1, .int .i64 x2, .int .i64 x3, .int .i64 x4] (0, 0) (by omega) rfl) (entC_one _) (by omega) (by decide) (by have := HB8.out.size; simp; omega) ?_; intro a5 c5 wa ob hga hoa; have Ob := Lib.hid ob; have Hga := Lib.hid hga; have Hoa := Lib.hid hoa; clear ob hga hoa)
              have hal := (Below.refl w8.heap.size w8).alloc (Nat.le_refl _) (.cells #[.int .i64 x1, .int .i64 x2, .int .i64 x3, .int .i64 x4] 62); have H9 := (H8.out.later hal).app3 Hga.out Hoa.out Ob.out; have bS9 := (bS8'.out.late hal).grown Hga.out (own_ne_blk (H8.out.later hal).r3 (bS8'.out.late hal) (by decide)); have hb9 := below_grown (HB8.out.trans (hal.mono HB8.out.size)) Hga.out (Nat.le_trans HB8.out.size hal.size) (H8.out.later hal).r3; clear q0 q1 q2 q3 s1 s2 hal; rw [← h1, ← h2, ← h3] at H9; have H9' := Lib.hid H9; have bS9' := Lib.hid bS9; have hb9' := Lib.hid hb9; clear H9 bS9 hb9
              go_roundw
              case rel => exact ⟨i + 1, by omega, by go_num, by first | exact H9' | (have h := H9'; simpa [*] using h), bS9', hb9'⟩
              case measure => simp [intOf]; omega
        · have d1 : decide (0 < sat) = false := by simp; omega
          have h1 : toE sh (es.take (i + 1)) = toE sh (es.take i) := by rw [htoS'.out]; simp [*]
          have h2 : pairE sh (es.take (i + 1)) = pairE sh (es.take i) := by rw [hpaS'.out]; simp [*]
          have h3 : restE sh (es.take (i + 1)) = restE sh (es.take i) ++ [(x1, x2, x3, x4)] := by rw [hreS''.out]; simp [*]
          clear hp0
          go_wp2_with (at_builtin; refine wpList_app2 rfl _ _ 136 rfl w.heap.size 62 i0 z0 4 32 Tryz.underlying136 hi0 hz hz1 hz2 hz3 (by decide) _ _ _ rfl (H8.out.later ((Below.refl w8.heap.size w8).alloc (Nat.le_refl _) (.cells #[.int .i64 x1, .int .i64 x2, .int .i64 x3, .int .i64 x4] 62))).r3 ⟨w8.heap.size, 0, none⟩ 1 1 (entC (x1, x2, x3, x4)) rfl (Sl.new w8 62 4 1 #[.int .i64 x1, .int .i64 x2, .int .i64 x3, .int .i64 x4] (0, 0) (by omega) rfl) (entC_one _) (by omega) (by decide) (by have := HB8.out.size; simp; omega) ?_; intro a5 c5 wa ob hga hoa; have Ob := Lib.hid ob; have Hga := Lib.hid hga; have Hoa := Lib.hid hoa; clear ob hga hoa)
          have hal := (Below.refl w8.heap.size w8).alloc (Nat.le_refl _) (.cells #[.int .i64 x1, .int .i64 x2, .int .i64 x3, .int .i64 x4] 62); have H9 := (H8.out.later hal).app3 Hga.out Hoa.out Ob.out; have bS9 := (bS8'.out.late hal).grown Hga.out (own_ne_blk (H8.out.later hal).r3 (bS8'.out.late hal) (by decide)); have hb9 := below_grown (HB8.out.trans (hal.mono HB8.out.size)) Hga.out (Nat.le_trans HB8.out.size hal.size) (H8.out.later hal).r3; clear q0 q1 q2 q3 s1 s2 hal; rw [← h1, ← h2, ← h3] at H9; have H9' := Lib.hid H9; have bS9' := Lib.hid bS9; have hb9' := Lib.hid hb9; clear H9 bS9 hb9
          go_roundw
          case rel => exact ⟨i + 1, by omega, by go_num, by first | exact H9' | (have h := H9'; simpa [*] using h), bS9', hb9'⟩
          case measure => simp [intOf]; omega
    · obtain rfl : i = n := by omega
      have H2 := H.out; rw [List.take_of_length_le (by rw [hel'.out]; exact Nat.le_refl _)] at H2; have H2' := Lib.hid H2; clear H2
      go_wp2_with fail
      refine bodyPost_ret (results_tmp3 rfl _ _ _) rfl ?_; exact ⟨_, _, _, rfl, H2'.out, hb.out⟩
end Go.Proofs.YtilennmeiaehnaaGreat

namespace Go.Proofs.YtilennmeiaehnaaGreat
open Go.RowKit Tt
set_option linter.unusedVariables false
set_option linter.unusedSimpArgs false
def fs4 (fs : Array Field) : List (String × TypeId × Nat) := fs.toList.map fun f => (f.name, f.type, f.offset)
theorem fx : fs4 (Tryz.prog.fieldsOf 62) = [("Tag", 3, 0), ("Type", 3, 1), ("Count", 3, 2), ("Slot", 3, 3)] := by kernel_rfl
theorem fs_int {P : Program} {d : Nat} {T : TypeId} {kk : IntKind} (hT : P.underlying T = some (.int kk)) (hA : ∀ W, (isAgg T).run P W = .ok false W) (xs ys : Array Value) (W : World) : ∀ (fs : List Field) (l : List (String × Nat × Int × Int)), fs.map (fun f => (f.name, f.type, f.offset)) = l.map (fun q => (q.1, T, q.2.1)) → (∀ q ∈ l, q.1 ≠ "_" ∧ xs[q.2.1]? = some (.int .i64 q.2.2.1) ∧ ys[q.2.1]? = some (.int .i64 q.2.2.2)) →
    (Op.eqFields (d + 1) xs ys fs).run P W = .ok (l.all fun q => q.2.2.1 == q.2.2.2) W
  | [], l, h, _ => by
    cases l with
    | nil => rfl
    | cons q l => simp at h
  | f :: fs, [], h, _ => by simp at h
  | f :: fs, q :: l, h, hq => by
    simp only [List.map_cons, List.cons.injEq, Prod.mk.injEq] at h; obtain ⟨⟨h1, h2, h3⟩, h4⟩ := h; obtain ⟨g1, g2, g3⟩ := hq q (by simp); have ih := fs_int (d := d) hT hA xs ys W fs l h4 (fun q hq' => hq q (List.mem_cons_of_mem _ hq')); simp only [Op.eqFields]; rw [h1, if_pos g1, h2, h3]; simp only [Sem.run_bind, part, hA, Result.andThen_ok, g2, g3, Bool.false_eq_true, if_false, Sem.run_pure, run_equalIn_int W d T .i64 kk q.2.2.1 q.2.2.2 hT, List.all_cons]
    cases hb : (q.2.2.1 == q.2.2.2)
    · simp
    · simp [ih]
theorem ent_eql (x y : Ent) (W : World) : (binOp .eql 62 (.agg #[.int .i64 x.1, .int .i64 x.2.1, .int .i64 x.2.2.1, .int .i64 x.2.2.2]) (.agg #[.int .i64 y.1, .int .i64 y.2.1, .int .i64 y.2.2.1, .int .i64 y.2.2.2])).run Tryz.prog W = .ok (.bool (decide (x = y))) W := by
  have hfx := fx; unfold fs4 at hfx; rw [run_eql_struct, run_equalIn_agg W 9999 _ _ _ (by kernel_rfl) (by kernel_rfl), fs_int (T := 3) (kk := .i64) Tryz.underlying3 (fun W => by kernel_rfl) _ _ W _ [("Tag", 0, x.1, y.1), ("Type", 1, x.2.1, y.2.1), ("Count", 2, x.2.2.1, y.2.2.1), ("Slot", 3, x.2.2.2, y.2.2.2)] hfx (by simp)]; simp only [Result.andThen]; refine congrArg (fun b => Result.ok (Value.bool b) W) ?_; rw [Bool.eq_iff_iff]; obtain ⟨a, b, c, d⟩ := x; obtain ⟨a', b', c', d'⟩ := y
  simp
theorem kp_but {X : Nat → Prop} {B g : Nat} {w w' : World} (h : But g w w') (hg : g < B) : Kp X X B w w' := ⟨h.size, fun k hB hk hx => ⟨h.block k hk (by omega), hx⟩⟩
/-- a row that is read, in a block from B to B' that X does not name -/
structure Sk (X : Nat → Prop) (B B' : Nat) (w : World) (v : Value) (sz n : Nat) (cs : List Value) : Prop where
  at_ : ∃ a c, v = .slice a n c ∧ Sl w a n c sz cs ∧ ∀ x, a = some x → B ≤ x.block ∧ x.block < B' ∧ ¬ X x.block
theorem sl_heap {w w' : World} {a : Option Addr} {n c sz : Nat} {cs : List Value} (h : Sl w a n c sz cs) (hs : w.heap.size ≤ w'.heap.size) (hb : ∀ x, a = some x → x.block < w.heap.size → w'.heap[x.block]? = w.heap[x.block]?) : Sl w' a n c sz cs :=
  ⟨h.len, h.le, h.max, fun i hi => by
    obtain ⟨g, off, e, hlt, hc⟩ := h.lies i hi; refine ⟨g, off, e, Nat.lt_of_lt_of_le hlt hs, fun j v hv => ?_⟩; have h1 := hc j v hv; have h2 := hb _ e hlt; unfold World.cell? at h1 ⊢; rw [h2]; exact h1, h.fit⟩
theorem Sk.keep {X X' : Nat → Prop} {B B' : Nat} {w w' : World} {v : Value} {sz n : Nat} {cs : List Value} (h : Sk X B B' w v sz n cs) (k : Kp X X' B w w') (hB : B' ≤ w.heap.size) : Sk X' B B' w' v sz n cs := by
  obtain ⟨a, c, rfl, h1, h2⟩ := h.at_; exact ⟨a, c, rfl, sl_heap h1 k.size (fun x hx hlt => (k.block x.block (h2 x hx).1 hlt (h2 x hx).2.2).1), fun x hx => ⟨(h2 x hx).1, (h2 x hx).2.1, (k.block x.block (h2 x hx).1 (by have := (h2 x hx).2.1; omega) (h2 x hx).2.2).2⟩⟩
/-- another row, from B' on, has grown -/
theorem Sk.grown {X : Nat → Prop} {B B' : Nat} {w w' : World} {v : Value} {sz n : Nat} {cs : List Value} {row : Option Nat} (h : Sk X B B' w v sz n cs) (hg : w.grownBy w' row) (hr : ∀ k, row = some k → B' ≤ k) : Sk X B B' w' v sz n cs := by
  obtain ⟨a, c, rfl, h1, h2⟩ := h.at_; exact ⟨a, c, rfl, sl_heap h1 hg.size (fun x hx hlt => hg.block _ hlt (fun e => by have := hr _ e.symm; have := (h2 x hx).2.1; omega)), h2⟩
theorem Sk.of_own {X : Nat → Prop} {B B' : Nat} {w : World} {v : Value} {E : TypeId} {sz n : Nat} {xs : List Value} (h : w.ownsRow B E sz v n xs) (hB : w.heap.size ≤ B') (hX : ∀ k, v.ownBlock = some k → ¬ X k) : Sk X B B' w v sz n xs := by
  have hlt := h.lt
  rcases h.2 with ⟨rfl, h0⟩ | ⟨g, cap, cur, rfl, hr⟩
  · subst h0
    exact ⟨none, 0, rfl, (Sl.of_own h).1, fun x hx => by cases hx⟩
  · exact ⟨_, _, rfl, (Sl.of_own h).1, fun x hx => by
      injection hx with hx; subst hx; have := hlt g rfl; exact ⟨this.1, by show g < B'; omega, hX g rfl⟩⟩
end Go.Proofs.YtilennmeiaehnaaGreat
