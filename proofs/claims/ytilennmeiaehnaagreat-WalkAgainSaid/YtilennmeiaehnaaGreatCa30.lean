/- Chapter 21: the chapter's examples. | Chapters 20, 22: sub-directories in memory of their own. | Chapter 21: are two trees the same: the program. -/
import Derived.Test.YtilennmeiaehnaaGreatCa29
import Derived.Test.YtilennmeiaehnaaGreatCa08
import Derived.Test.YtilennmeiaehnaaGreatCa16
import Derived.Test.YtilennmeiaehnaaGreatCa11
namespace Go.Proofs.YtilennmeiaehnaaGreat
open Go.RowKit Tt
set_option linter.unusedVariables false
set_option linter.unusedSimpArgs false

def xT (n : Int) : Tgs := (256, 3, 1, putS n 2 2)
def xD : DirT 2 := ([xT 258], [], [])
theorem xc2 : checkS 2 2 [xD, xD] shp1 = 1 := by decide +kernel
theorem two_tg {w : World} {a a2 : Option Addr} {c c2 : Nat} (n : Int) (hs : Sl w a 2 c 1 (ints .u8 (putS n 2 2))) (hs2 : Sl w a2 2 c2 1 (ints .u8 (putS n 2 2))) :
    Tgr (w.alloc (.cells #[.int .i64 256, .int .i64 3, .int .i64 1, .slice a 2 c, .int .i64 256, .int .i64 3, .int .i64 1, .slice a2 2 c2] 78)) (some ⟨w.heap.size, 0, none⟩) 2 2 [((256, 3, 1, a, 2, c), putS n 2 2), ((256, 3, 1, a2, 2, c2), putS n 2 2)] := by
  have hal := (Below.refl w.heap.size w).alloc (Nat.le_refl _) (.cells #[.int .i64 256, .int .i64 3, .int .i64 1, .slice a 2 c, .int .i64 256, .int .i64 3, .int .i64 1, .slice a2 2 c2] 78); refine ⟨Sl.new w 78 4 2 _ (0, 0) (by omega) rfl, fun z hz => ?_⟩; simp only [List.mem_cons, List.not_mem_nil, or_false] at hz
  rcases hz with rfl | rfl
  · exact hs.mono hal
  · exact hs2.mono hal
end Go.Proofs.YtilennmeiaehnaaGreat

namespace Tt
open Go Go.RowKit
set_option linter.unusedVariables false
theorem own_grown {w w' : World} {row : Option Nat} {B : Nat} {E : TypeId} {sz : Nat} {v : Value} {n : Nat} {xs : List Value} (h : w.ownsRow B E sz v n xs) (hg : w.grownBy w' row) (hne : ∀ k, v.ownBlock = some k → row ≠ some k) : w'.ownsRow B E sz v n xs := by
  obtain ⟨hl, hr⟩ := h; refine ⟨hl, ?_⟩
  rcases hr with hn | ⟨g, cap, cur, rfl, hB, hgg, r⟩
  · exact .inl hn
  · exact .inr ⟨g, cap, cur, rfl, hB, (hg.block g (Array.getElem?_eq_some_iff.1 hgg).1 (Ne.symm (hne g rfl))).trans hgg, r⟩
theorem own_ne_blk {w : World} {B : Nat} {E T : TypeId} {sz : Nat} {v : Value} {n g : Nat} {xs : List Value} {cs : Array Value} (h : w.ownsRow B E sz v n xs) (hb : Blk w g T cs) (hE : E ≠ T) : v.ownBlock ≠ some g := fun e => by
  rcases h.2 with ⟨rfl, _⟩ | ⟨g', cap, cur, rfl, _, hg, _⟩
  · cases e
  · obtain rfl : g' = g := by injection e
    unfold Blk at hb; rw [hb] at hg; injection hg with hg; injection hg with h1 h2; exact hE h2.symm
theorem own_v' {w : World} {B : Nat} {E : TypeId} {sz : Nat} {v : Value} {n : Nat} {xs : List Value} (h : w.ownsRow B E sz v n xs) : ∃ a c, v = .slice a n c := by
  rcases h.2 with ⟨rfl, h0⟩ | ⟨g, cap, cur, rfl, _⟩
  · exact ⟨none, 0, by rw [h0]⟩
  · exact ⟨_, _, rfl⟩
theorem own_inj {w : World} {B B' : Nat} {E : TypeId} {sz : Nat} {v : Value} {n : Nat} {xs ys : List Value} (h : w.ownsRow B E sz v n xs) (k : w.ownsRow B' E sz v n ys) : xs = ys := by
  have e : xs.length = ys.length := h.1.trans k.1.symm; obtain ⟨a, c, rfl⟩ := own_v' h; have hs := (Sl.of_own h).1; have ks := (Sl.of_own k).1; refine List.ext_getElem e (fun j h1 h2 => ?_)
  have hn : 0 < n := by
    rcases Nat.eq_zero_or_pos n with h0 | h0
    · have := h.1; rw [h0] at this; omega
    · exact h0
  obtain ⟨g, off, e1, _, hc⟩ := hs.lies 0 hn; obtain ⟨g', off', e2, _, kc⟩ := ks.lies 0 hn; rw [e1] at e2; injection e2 with e2; injection e2 with e3 e4 _; subst e3 e4; have q1 := hc j _ (List.getElem?_eq_getElem h1); have q2 := kc j _ (List.getElem?_eq_getElem h2); rw [q1] at q2; injection q2
end Tt
namespace Go.Proofs.YtilennmeiaehnaaGreat
open Go.RowKit Tt
set_option linter.unusedVariables false
set_option linter.unusedSimpArgs false

theorem kp_or {X X' Y : Nat → Prop} {B : Nat} {w w' : World} (h : Kp X X' B w w') : Kp (fun k => X k ∨ Y k) (fun k => X' k ∨ Y k) B w w' :=
  ⟨h.size, fun k hB hk hx => ⟨(h.block k hB hk (fun e => hx (.inl e))).1, fun e => e.elim (h.block k hB hk (fun e => hx (.inl e))).2 (fun e => hx (.inr e))⟩⟩
theorem own_tags_ne {X : Nat → Prop} {B B2 : Nat} {w w' : World} {v u : Value} {ts : List Tgs} {E : TypeId} {sz n : Nat} {xs : List Value} (h : TagsAt X B w v ts) (hu : w.ownsRow B2 E sz u n xs) (hg : w.grownBy w' u.ownBlock) (h1 : 78 ≠ E) (h2 : 5 ≠ E) : TagsAt X B w' v ts := by
  obtain ⟨zs, e, h3, h4⟩ := h
  have key : ∀ {T : TypeId} {v' : Value} {s n : Nat} {ys : List Value}, w.ownsRow B T s v' n ys → T ≠ E → w'.ownsRow B T s v' n ys := fun h hT => own_grown h hg (fun k hk hk2 => by
    rcases own_apart h hu hT with h5 | h5
    · rw [h5] at hk; cases hk
    · exact h5 (hk.trans hk2.symm))
  exact ⟨zs, e, ⟨key h3.1 h1, h3.2⟩, fun z hz => ⟨key (h4 z hz).1 h2, (h4 z hz).2⟩⟩
/-- sub-directories in memory -/
def SubsAt (X : Nat → Prop) (B : Nat) (w : World) (f : Nat) (v : Value) (subs : List (Int × DirT f)) : Prop :=
  ∃ ds : List (Int × Dz), ds.length = subs.length ∧ Ck X B w v 44 4 ds.length (fl sbC ds) ∧ (∀ d ∈ ds, oneZ d.2) ∧ ∀ i (h : i < ds.length) (h' : i < subs.length), ds[i].1 = subs[i].1 ∧ DirAt (fun k => X k ∨ v.ownBlock = some k) B w f subs[i].2 ds[i].2
theorem SubsAt.keep {X X' : Nat → Prop} {B f : Nat} {w w' : World} {v : Value} {subs : List (Int × DirT f)} (h : SubsAt X B w f v subs) (k : Kp X X' B w w') : SubsAt X' B w' f v subs := by
  obtain ⟨ds, h1, h2, h0, h3⟩ := h; exact ⟨ds, h1, h2.keep k, h0, fun i hi hi' => ⟨(h3 i hi hi').1, (h3 i hi hi').2.keep (kp_or k)⟩⟩
theorem SubsAt.snoc {X : Nat → Prop} {B f : Nat} {w w' : World} {v v' : Value} {subs : List (Int × DirT f)} {t : Int} {d : DirT f} {dz : Dz} {n : Nat} (h : SubsAt X B w f v subs) (hn : subs.length = n) (hg : w.grownBy w' v.ownBlock) (ho : ∀ k, v'.ownBlock = some k → v.ownBlock = some k ∨ w.heap.size ≤ k)
    (ob : ∀ ds : List (Int × Dz), w.ownsRow B 44 4 v n (fl sbC ds) → w'.ownsRow B 44 4 v' (n + 1) (fl sbC ds ++ sbC (t, dz))) (hX : ∀ k, v'.ownBlock = some k → ¬ X k) (h1 : oneZ dz) (hd : DirAt (fun k => X k ∨ v.ownBlock = some k) B w f d dz) : SubsAt X B w' f v' (subs ++ [(t, d)]) := by
  obtain ⟨ds, h2, h3, h0, h4⟩ := h; have hk : Kp (fun k => X k ∨ v.ownBlock = some k) (fun k => X k ∨ v'.ownBlock = some k) B w w' := ⟨hg.size, fun k hB hk hx => ⟨hg.block k hk (fun e => hx (.inr e.symm)), fun e => e.elim (fun e => hx (.inl e)) (fun e => by rcases ho k e with e' | e' <;> first | exact hx (.inr e') | omega)⟩⟩; have hdn : ds.length = n := h2.trans hn; refine ⟨ds ++ [(t, dz)], by simp [h2], ⟨?_, hX⟩, ?_, fun i hi hi' => ?_⟩
  · rw [List.length_append, fl_snoc, List.length_singleton, hdn]
    exact ob ds (by rw [← hdn]; exact h3.1)
  · intro d' hd'
    rcases List.mem_append.1 hd' with h | h
    · exact h0 d' h
    · rw [List.mem_singleton.1 h]; exact h1
  · by_cases hi2 : i < ds.length
    · rw [List.getElem_append_left hi2, List.getElem_append_left (by omega)]
      exact ⟨(h4 i hi2 (by omega)).1, (h4 i hi2 (by omega)).2.keep hk⟩
    · have hie : i = ds.length := by simp at hi; omega
      subst hie; rw [List.getElem_append_right (Nat.le_refl _), List.getElem_append_right (by omega)]; simp only [Nat.sub_self, List.getElem_cons_zero, h2]; exact ⟨trivial, hd.keep hk⟩
theorem TagsAt.own {X : Nat → Prop} {B : Nat} {w : World} {v : Value} {ts : List Tgs} (h : TagsAt X B w v ts) : ∃ zs : List Tz, ts = zs.map tagz ∧ w.ownsRow B 78 4 v ts.length (fl tzc zs) := by
  obtain ⟨zs, h1, h2, _⟩ := h; exact ⟨zs, h1, by rw [h1, List.length_map]; exact h2.1⟩
theorem sbC_sl (t : Int) (a1 a2 a3 : Option Addr) (n1 n2 n3 c1 c2 c3 : Nat) : ∀ u ∈ sbC (t, (.slice a1 n1 c1, .slice a2 n2 c2, .slice a3 n3 c3)), u.oneCell' = true := by
  intro u hu; simp only [sbC, List.mem_cons, List.not_mem_nil, or_false] at hu
  rcases hu with rfl | rfl | rfl | rfl <;> rfl
theorem dvC_sl (a1 a2 a3 : Option Addr) (n1 n2 n3 c1 c2 c3 : Nat) : oneZ (.slice a1 n1 c1, .slice a2 n2 c2, .slice a3 n3 c3) := by
  intro u hu; simp only [dvC, List.mem_cons, List.not_mem_nil, or_false] at hu
  rcases hu with rfl | rfl | rfl <;> rfl
theorem dir_at {X : Nat → Prop} {A B2 B3 f : Nat} {w : World} {vt vs vb : Value} {tags : List Tgs} {subs : List (Int × DirT f)} {blob : List Int} (ht : TagsAt X B2 w vt tags) (hs : SubsAt X B2 w f vs subs) (hb : Ck X B3 w vb 5 1 blob.length (ints .u8 blob)) (h1 : A ≤ B2) (h2 : A ≤ B3) : DirAt X A w (f + 1) (tags, subs, blob) (vt, vs, vb) := by
  obtain ⟨ds, e1, e2, _, e3⟩ := hs; refine ⟨?_, ht.mono h1, ⟨ds, e1, e2.mono h1, fun i hi hi' => ⟨(e3 i hi hi').1, ((e3 i hi hi').2.keep (Kp.same (fun k _ _ hx e => hx (.inl e)))).mono h1⟩⟩, hb.mono h2⟩; obtain ⟨zs, _, h5⟩ := ht.own; obtain ⟨a1, c1, rfl⟩ := own_v' h5; obtain ⟨a2, c2, rfl⟩ := own_v' e2.1; obtain ⟨a3, c3, rfl⟩ := own_v' hb.1; exact dvC_sl _ _ _ _ _ _ _ _ _
theorem ck_butT {X : Nat → Prop} {B : Nat} {w w' : World} {v : Value} {E T : TypeId} {sz n g : Nat} {xs : List Value} {cs : Array Value} (h : Ck X B w v E sz n xs) (b : But g w w') (hb : Blk w g T cs) (hE : E ≠ T) : Ck X B w' v E sz n xs := ⟨own_but h.1 b (own_ne_blk h.1 hb hE), h.2⟩
theorem TagsAt.nil (X : Nat → Prop) (B : Nat) (w : World) : TagsAt X B w (.slice none 0 0) [] := ⟨[], rfl, ⟨own_nil _ _ _ _, fun k e => by cases e⟩, fun z hz => by cases hz⟩
theorem TagsAt.snoc {X : Nat → Prop} {B : Nat} {w w' : World} {v v' : Value} {ts : List Tgs} {t : Tgs} {z : Tz} (h : TagsAt X B w v ts) (hz : tagz z = t) (hg : w.grownBy w' v.ownBlock) (hX : ∀ k, v'.ownBlock = some k → ¬ X k)
    (ob : ∀ zs : List Tz, w.ownsRow B 78 4 v ts.length (fl tzc zs) → w'.ownsRow B 78 4 v' (ts.length + 1) (fl tzc zs ++ tzc z)) (hd : Ck X B w (tzd z) 5 1 z.2.length (ints .u8 z.2)) : TagsAt X B w' v' (ts ++ [t]) := by
  obtain ⟨zs, h1, h2, h3⟩ := h; have hn : zs.length = ts.length := by rw [h1, List.length_map]
  have key : ∀ z', Ck X B w (tzd z') 5 1 z'.2.length (ints .u8 z'.2) → Ck X B w' (tzd z') 5 1 z'.2.length (ints .u8 z'.2) := fun z' hc => ⟨own_grown hc.1 hg (fun k hk hk2 => by
    rcases own_apart hc.1 h2.1 (by decide) with h5 | h5
    · rw [h5] at hk; cases hk
    · exact h5 (hk.trans hk2.symm)), hc.2⟩
  refine ⟨zs ++ [z], by rw [List.map_append, h1, ← hz]; rfl, ⟨?_, hX⟩, fun z' hz' => ?_⟩
  · rw [List.length_append, fl_snoc, List.length_singleton, hn]
    exact ob zs (by rw [← hn]; exact h2.1)
  · rcases List.mem_append.1 hz' with h | h
    · exact key z' (h3 z' h)
    · rw [List.mem_singleton.1 h]; exact key z hd
theorem TagsAt.butT {X : Nat → Prop} {B g : Nat} {w w' : World} {v : Value} {ts : List Tgs} {cs : Array Value} (h : TagsAt X B w v ts) (b : But g w w') (hb : Blk w g 42 cs) : TagsAt X B w' v ts := by
  obtain ⟨zs, h1, h2, h3⟩ := h; exact ⟨zs, h1, ck_butT h2 b hb (by decide), fun z hz => ck_butT (h3 z hz) b hb (by decide)⟩
theorem DirAt.butT {X : Nat → Prop} {B g : Nat} {w w' : World} {cs : Array Value} (b : But g w w') (hb : Blk w g 42 cs) : ∀ {f : Nat} {d : DirT f} {v : Dz}, DirAt X B w f d v → DirAt X B w' f d v
  | 0, _, _, h => h.elim
  | f + 1, d, v, h => by
    obtain ⟨h0, h1, ⟨ds, h2, h3, h4⟩, h5⟩ := h; exact ⟨h0, h1.butT b hb, ⟨ds, h2, ck_butT h3 b hb (by decide), fun i hi hi' => ⟨(h4 i hi hi').1, (h4 i hi hi').2.butT b hb⟩⟩, ck_butT h5 b hb (by decide)⟩
theorem SubsAt.butT {X : Nat → Prop} {B g f : Nat} {w w' : World} {v : Value} {subs : List (Int × DirT f)} {cs : Array Value} (h : SubsAt X B w f v subs) (b : But g w w') (hb : Blk w g 42 cs) : SubsAt X B w' f v subs := by
  obtain ⟨ds, h1, h2, h0, h3⟩ := h; exact ⟨ds, h1, ck_butT h2 b hb (by decide), h0, fun i hi hi' => ⟨(h3 i hi hi').1, (h3 i hi hi').2.butT b hb⟩⟩
end Go.Proofs.YtilennmeiaehnaaGreat

namespace Go.Proofs.YtilennmeiaehnaaGreat
open Go.RowKit Tt
set_option linter.unusedVariables false
set_option linter.unusedSimpArgs false

theorem bequal_any (a a' : Option Addr) (n n' c c' : Nat) (x y : List Int) (w : World) (hx : Sl w a n c 1 (ints .u8 x)) (hy : Sl w a' n' c' 1 (ints .u8 y)) (hbx : Byt x) (hby : Byt y) :
    Calls Tryz.prog 103 #[.slice a n c, .slice a' n' c'] w fun e w' => e = .returned (.bool (x == y)) ∧ w = w' := by
  have e1 := conv_run (P := Tryz.prog) hx 30 5 9 Tryz.underlying30 Tryz.underlying5 Tryz.underlying9; have e2 := conv_run (P := Tryz.prog) hy 30 5 9 Tryz.underlying30 Tryz.underlying5 Tryz.underlying9; have e3 := str_beq hbx hby
  generalize (x == y) = r at *
  have hx' := Lib.hid hx; have hy' := Lib.hid hy; have hbx' := Lib.hid hbx; have hby' := Lib.hid hby
  clear hx hy hbx hby
  go_enter Tryz.func103, Tryz.ntmps103
  go_wp2
  go_ret
  exact ⟨rfl, rfl⟩
set_option maxHeartbeats 1000000 in
theorem tsame_any (y k y2 k2 : Int) (a a' : Option Addr) (n c n' c' : Nat) (d d2 : List Int) (w : World) (hs : Sl w a n c 1 (ints .u8 d)) (hs2 : Sl w a' n' c' 1 (ints .u8 d2)) (hd : Byt d) (hd2 : Byt d2) :
    Calls Tryz.prog 63 #[.agg #[.int .i64 y, .int .i64 k, .slice a n c], .agg #[.int .i64 y2, .int .i64 k2, .slice a' n' c']] w fun e w' => e = .returned (.bool (y == y2 && k == k2 && d == d2)) ∧ Below w.heap.size w w' := by
  have hb0 := ((Below.refl w.heap.size w).alloc (Nat.le_refl _) (.cells #[.int .i64 y, .int .i64 k, .slice a n c] 76)).alloc (by simp) (.cells #[.int .i64 y2, .int .i64 k2, .slice a' n' c'] 76); have HC := bequal_any a a' n n' c c' d d2 _ (hs.mono hb0) (hs2.mono hb0) hd hd2; obtain ⟨b3, h3⟩ : ∃ b, (d == d2) = b := ⟨_, rfl⟩; rw [h3] at HC; rw [h3]; have hs' := Lib.hid hs; have hs2' := Lib.hid hs2; have HC' := Lib.hid HC; have h3' := Lib.hid h3; have hb0' := Lib.hid hb0; have hd' := Lib.hid hd; have hd2' := Lib.hid hd2; clear hs hs2 HC h3 hb0 hd hd2
  go_enter Tryz.func63, Tryz.ntmps63
  cases h1 : (y == y2) with
  | false =>
    go_wp2_with fail
    go_ret
    exact ⟨rfl, hb0'.out⟩
  | true =>
    cases h2 : (k == k2) with
    | false =>
      go_wp2_with fail
      go_ret
      exact ⟨rfl, hb0'.out⟩
    | true =>
      go_wp2_with fail
      refine HC'.out.mono ?_; rintro e w2 ⟨rfl, rfl⟩
      go_wp2_with fail
      go_ret
      exact ⟨by cases b3 <;> rfl, hb0'.out⟩
set_option maxHeartbeats 1000000 in
theorem dirs1t_any (y t k y2 t2 k2 : Int) (a a' : Option Addr) (n c n' c' : Nat) (d d2 : List Int) (w : World) (hs : Sl w a n c 1 (ints .u8 d)) (hs2 : Sl w a' n' c' 1 (ints .u8 d2)) (hd : Byt d) (hd2 : Byt d2) :
    Calls Tryz.prog 100 #[.agg #[.int .i64 y, .int .i64 t, .int .i64 k, .slice a n c], .agg #[.int .i64 y2, .int .i64 t2, .int .i64 k2, .slice a' n' c']] w fun e w' => e = .returned (.bool (y == y2 && (t == t2 && k == k2 && d == d2))) ∧ Below w.heap.size w w' := by
  have hb0 := ((Below.refl w.heap.size w).alloc (Nat.le_refl _) (.cells #[.int .i64 y, .int .i64 t, .int .i64 k, .slice a n c] 78)).alloc (by simp) (.cells #[.int .i64 y2, .int .i64 t2, .int .i64 k2, .slice a' n' c'] 78); have HC := tsame_any t k t2 k2 a a' n c n' c' d d2 _ (hs.mono hb0) (hs2.mono hb0) hd hd2; obtain ⟨b3, h3⟩ : ∃ b, (t == t2 && k == k2 && d == d2) = b := ⟨_, rfl⟩; rw [h3] at HC; rw [h3]; have hs' := Lib.hid hs; have hs2' := Lib.hid hs2; have HC' := Lib.hid HC; have h3' := Lib.hid h3; have hb0' := Lib.hid hb0; have hd' := Lib.hid hd; have hd2' := Lib.hid hd2; clear hs hs2 HC h3 hb0 hd hd2
  go_enter Tryz.func100, Tryz.ntmps100
  cases h1 : (y == y2) with
  | false =>
    go_wp2_with fail
    go_ret
    exact ⟨rfl, hb0'.out⟩
  | true =>
    go_wp2_with fail
    refine HC'.out.mono ?_; rintro e w2 ⟨rfl, hb2⟩; have hb := hb0'.out.trans (hb2.mono hb0'.out.size); have hb' := Lib.hid hb; have hb2' := Lib.hid hb2; clear hb hb2
    go_wp2_with fail
    go_ret
    exact ⟨rfl, hb'.out⟩
set_option maxRecDepth 20000 in
set_option maxHeartbeats 4000000 in
theorem eqtags_any (a a' : Option Addr) (n c n' c' : Nat) (xs ys : List Tz) (w : World) (hx : Tgr w a n c xs) (hy : Tgr w a' n' c' ys) (hbx : ∀ z ∈ xs, Byt z.2) (hby : ∀ z ∈ ys, Byt z.2) :
    Calls Tryz.prog 99 #[.slice a n c, .slice a' n' c', .func (.func 100) #[] #[]] w fun e w' => e = .returned (.bool (xs.map tagz == ys.map tagz)) ∧ Below w.heap.size w w' := by
  have hxl : (xs.map tagz).length = n := by rw [List.length_map]; exact hx.len
  have hyl : (ys.map tagz).length = n' := by rw [List.length_map]; exact hy.len
  have hmx := hx.row.max; have hle := hx.row.le; have hmy := hy.row.max; have hley := hy.row.le; have hxl0 := hx.len; have hyl0 := hy.len; obtain ⟨r, hr⟩ : ∃ r, (xs.map tagz == ys.map tagz) = r := ⟨_, rfl⟩; rw [hr]; have hr' := Lib.hid hr; clear hr; have hx' := Lib.hid hx; have hy' := Lib.hid hy; have hxl' := Lib.hid hxl; have hyl' := Lib.hid hyl; have hbx' := Lib.hid hbx; have hby' := Lib.hid hby
  have hxl0' := Lib.hid hxl0; have hyl0' := Lib.hid hyl0; clear hx hy hxl hyl hbx hby hxl0 hyl0
  by_cases hnn : n = n'
  · subst hnn
    have hne : ((n : Int) != (n : Int)) = false := by simp
    go_enter Tryz.func99, Tryz.ntmps99
    go_wp2_with fail
    go_loopw [17] (fun iv wr => ∃ (i : Nat), i ≤ n ∧ iv = .int .i64 i ∧ Hid ((xs.map tagz).take i = (ys.map tagz).take i) ∧ Hid (Below w.heap.size w wr)) (fun iv _ => n - (intOf iv).toNat)
    case atStart => exact ⟨0, by omega, rfl, Lib.hid rfl, Lib.hid (Below.refl _ _)⟩
    case round =>
      obtain ⟨i, hin, rfl, htk, hb⟩ := hrel
      by_cases hi : i < n
      · have hil : (i : Int) < (n : Int) := by omega
        have hw1 : IntKind.i64.wrap ((i : Int) + 1) = i + 1 := by rw [IntKind.wrap_i64]; omega
        obtain ⟨b, o, rfl, hblt, f0, f1, f2, f3, hrd⟩ := (hx'.out.mono hb.out).at hi; obtain ⟨b2, o2, rfl, hblt2, g0, g1, g2, g3, hrd2⟩ := (hy'.out.mono hb.out).at hi; have hmx := map_getD tagz xs tz0 i; have hmy := map_getD tagz ys tz0 i; have hd1 : Byt (xs.getD i tz0).2 := by rw [getD_el (by rw [hxl0'.out]; exact hi)]; exact hbx'.out _ (List.getElem_mem _)
        have hd2 : Byt (ys.getD i tz0).2 := by rw [getD_el (by rw [hyl0'.out]; exact hi)]; exact hby'.out _ (List.getElem_mem _)
        obtain ⟨⟨⟨y, t, k, xa, xn, xc⟩, d⟩, hzi⟩ : ∃ z, xs.getD i tz0 = z := ⟨_, rfl⟩; obtain ⟨⟨⟨y2, t2, k2, xa2, xn2, xc2⟩, d2⟩, hzi2⟩ : ∃ z, ys.getD i tz0 = z := ⟨_, rfl⟩; rw [hzi] at f0 f1 f2 f3 hrd hmx hd1; rw [hzi2] at g0 g1 g2 g3 hrd2 hmy hd2; simp only [tagz] at f0 f1 f2 f3 g0 g1 g2 g3 hrd hrd2 hmx hmy hd1 hd2; have hal := ((Below.refl wr.heap.size wr).alloc (Nat.le_refl _) (.cells #[.int .i64 y, .int .i64 t, .int .i64 k, .slice xa xn xc] 78)).alloc (by simp) (.cells #[.int .i64 y2, .int .i64 t2, .int .i64 k2, .slice xa2 xn2 xc2] 78); have HC := dirs1t_any y t k y2 t2 k2 xa xa2 xn xc xn2 xc2 d d2 _ (hrd.mono hal) (hrd2.mono hal) hd1 hd2
        have hq : (y == y2 && (t == t2 && k == k2 && d == d2)) = true ↔ (xs.map tagz).getD i (0, 0, 0, []) = (ys.map tagz).getD i (0, 0, 0, []) := by
          have e1 : (xs.map tagz).getD i (0, 0, 0, []) = (y, t, k, d) := hmx; have e2 : (ys.map tagz).getD i (0, 0, 0, []) = (y2, t2, k2, d2) := hmy; rw [e1, e2]; simp only [Bool.and_eq_true, beq_iff_eq, Prod.mk.injEq]
          constructor
          · rintro ⟨h1, ⟨h2, h3⟩, h4⟩; exact ⟨h1, h2, h3, h4⟩
          · rintro ⟨h1, h2, h3, h4⟩; exact ⟨h1, ⟨h2, h3⟩, h4⟩
        obtain ⟨q, hqq⟩ : ∃ q, (y == y2 && (t == t2 && k == k2 && d == d2)) = q := ⟨_, rfl⟩; rw [hqq] at HC hq; clear hmx hmy; have hrd' := Lib.hid hrd; have hrd2' := Lib.hid hrd2; have hzi' := Lib.hid hzi; have hzi2' := Lib.hid hzi2; have hal' := Lib.hid hal; have HC' := Lib.hid HC; have hq' := Lib.hid hq; have hqq' := Lib.hid hqq; have hd1' := Lib.hid hd1; have hd2' := Lib.hid hd2; clear hrd hrd2 hzi hzi2 hal HC hq hqq hd1 hd2
        go_wp2_with fail
        refine HC'.out.mono ?_; rintro e w3 ⟨rfl, hb3⟩; have hbw := hb.out.trans ((hal'.out.trans (hb3.mono hal'.out.size)).mono hb.out.size); clear f0 f1 f2 f3 g0 g1 g2 g3; have hbw' := Lib.hid hbw; have hb3' := Lib.hid hb3; clear hbw hb3
        cases q with
        | true =>
          have hnext : Hid ((xs.map tagz).take (i + 1) = (ys.map tagz).take (i + 1)) := Lib.hid (takeG_succ hxl'.out hyl'.out hi htk.out (hq'.out.1 rfl))
          go_wp2_with fail
          go_roundw
          case rel => exact ⟨i + 1, by omega, by go_num, hnext, hbw'⟩
          case measure => simp [intOf]; omega
        | false =>
          obtain rfl : r = false := by
            rw [← hr'.out]; exact neG_of_at (k := i) (d := (0, 0, 0, [])) (fun e => by have := hq'.out.2 e; cases this)
          go_wp2_with fail
          go_ret
          exact ⟨rfl, hbw'.out⟩
      · obtain rfl : i = n := by omega
        obtain rfl : r = true := by rw [← hr'.out]; exact eqG_of_take hxl'.out hyl'.out (by omega) htk.out
        go_wp2
        go_ret
        exact ⟨rfl, hb.out⟩
  · have hne : ((n : Int) != (n' : Int)) = true := by simp; omega
    obtain rfl : r = false := by
      rw [← hr'.out, beq_eq_false_iff_ne]; intro e; exact hnn (hxl'.out.symm.trans (e ▸ hyl'.out))
    go_enter Tryz.func99, Tryz.ntmps99
    go_wp2
    go_ret
    exact ⟨rfl, Below.refl _ _⟩
def PSame (f : Nat) : Prop := ∀ (w0 w : World) (d d2 : DirT f) (v v2 : Dz), DirR w0 f d v → DirR w0 f d2 v2 → Below w0.heap.size w0 w → bytD f d → bytD f d2 → ∀ b : Bool, (b = true ↔ d = d2) →
  Calls Tryz.prog 56 #[.agg #[v.1, v.2.1, v.2.2], .agg #[v2.1, v2.2.1, v2.2.2]] w fun e w' => e = .returned (.bool b) ∧ Below w.heap.size w w'
set_option maxHeartbeats 1000000 in
theorem dirs2t_any (f : Nat) (ih : PSame f) (w0 w : World) (y y2 : Int) (d d2 : DirT f) (v v2 : Dz) (h : DirR w0 f d v) (h2 : DirR w0 f d2 v2) (hb : Below w0.heap.size w0 w) (hd : bytD f d) (hd2 : bytD f d2) (b : Bool) (hq : b = true ↔ y = y2 ∧ d = d2) :
    Calls Tryz.prog 102 #[.agg #[.int .i64 y, v.1, v.2.1, v.2.2], .agg #[.int .i64 y2, v2.1, v2.2.1, v2.2.2]] w fun e w' => e = .returned (.bool b) ∧ Below w.heap.size w w' := by
  obtain ⟨ta, tn, tc, sa, sn, sc, ba, bn, bc, rfl⟩ := h.v; obtain ⟨ta2, tn2, tc2, sa2, sn2, sc2, ba2, bn2, bc2, rfl⟩ := h2.v; have hb0 := ((Below.refl w.heap.size w).alloc (Nat.le_refl _) (.cells #[.int .i64 y, .slice ta tn tc, .slice sa sn sc, .slice ba bn bc] 44)).alloc (by simp) (.cells #[.int .i64 y2, .slice ta2 tn2 tc2, .slice sa2 sn2 sc2, .slice ba2 bn2 bc2] 44); have HC := ih w0 _ d d2 _ _ h h2 (hb.trans (hb0.mono hb.size)) hd hd2; simp only at HC ⊢
  by_cases he : y = y2
  · subst he
    have h1 : (y == y) = true := by simp
    have HC := HC b (by rw [hq]; exact ⟨fun h => h.2, fun h => ⟨rfl, h⟩⟩); clear hq; have h' := Lib.hid h; have h2' := Lib.hid h2; have hb' := Lib.hid hb; have hd' := Lib.hid hd; have hd2' := Lib.hid hd2; have hb0' := Lib.hid hb0; have HC' := Lib.hid HC; have ih' := Lib.hid ih; clear h h2 hb hd hd2 hb0 HC ih
    go_enter Tryz.func102, Tryz.ntmps102
    go_wp2_with fail
    refine HC'.out.mono ?_; rintro e w2 ⟨rfl, hb2⟩; have hb := hb0'.out.trans (hb2.mono hb0'.out.size); have hb' := Lib.hid hb; have hb2' := Lib.hid hb2; clear hb hb2
    go_wp2_with fail
    go_ret
    exact ⟨rfl, hb'.out⟩
  · have h1 : (y == y2) = false := by simp [he]
    obtain rfl : b = false := by
      cases b
      · rfl
      · exact absurd (hq.1 rfl).1 he
    clear HC hq; have h' := Lib.hid h; have h2' := Lib.hid h2; have hb' := Lib.hid hb; have hd' := Lib.hid hd; have hd2' := Lib.hid hd2; have hb0' := Lib.hid hb0; have ih' := Lib.hid ih; clear h h2 hb hd hd2 hb0 ih
    go_enter Tryz.func102, Tryz.ntmps102
    go_wp2_with fail
    go_ret
    exact ⟨rfl, hb0'.out⟩
theorem take_eq_succ {α : Type} {x y : List α} {i : Nat} (hx : i < x.length) (hy : i < y.length) (h : x.take i = y.take i) (he : x[i] = y[i]) : x.take (i + 1) = y.take (i + 1) := by
  rw [List.take_add_one, List.take_add_one, h, List.getElem?_eq_getElem hx, List.getElem?_eq_getElem hy, he]
theorem take_eq_all {α : Type} {x y : List α} {n : Nat} (hx : x.length = n) (hy : y.length = n) (h : x.take n = y.take n) : x = y := by
  rw [List.take_of_length_le (by omega), List.take_of_length_le (by omega)] at h; exact h
set_option maxRecDepth 20000 in
set_option maxHeartbeats 4000000 in
theorem eqsubs_any (f : Nat) (ih : PSame f) (a a' : Option Addr) (n c n' c' : Nat) (ss ss2 : List (Int × DirT f)) (ds ds2 : List (Int × Dz)) (w0 w : World) (hb0 : Below w0.heap.size w0 w) (hx : Sl w0 a n c 4 (fl sbC ds)) (hy : Sl w0 a' n' c' 4 (fl sbC ds2)) (hxl : ds.length = ss.length) (hyl : ds2.length = ss2.length)
    (hsx : ∀ i (h : i < ds.length) (h' : i < ss.length), ds[i].1 = ss[i].1 ∧ DirR w0 f ss[i].2 ds[i].2) (hsy : ∀ i (h : i < ds2.length) (h' : i < ss2.length), ds2[i].1 = ss2[i].1 ∧ DirR w0 f ss2[i].2 ds2[i].2)
    (hbx : ∀ s ∈ ss, bytD f s.2) (hby : ∀ s ∈ ss2, bytD f s.2) (r : Bool) (hr : r = true ↔ ss = ss2) :
    Calls Tryz.prog 101 #[.slice a n c, .slice a' n' c', .func (.func 102) #[] #[]] w fun e w' => e = .returned (.bool r) ∧ Below w.heap.size w w' := by
  have hxn : ss.length = n := by rw [← hxl]; exact hx.flen sbC_len (by decide)
  have hyn : ss2.length = n' := by rw [← hyl]; exact hy.flen sbC_len (by decide)
  have hmx := hx.max; have hle := hx.le; have hmy := hy.max; have hley := hy.le; have hx' := Lib.hid hx; have hy' := Lib.hid hy; have hxl' := Lib.hid hxl; have hyl' := Lib.hid hyl; have hbx' := Lib.hid hbx; have hby' := Lib.hid hby
  have hsx' := Lib.hid hsx; have hsy' := Lib.hid hsy; have hxn' := Lib.hid hxn; have hyn' := Lib.hid hyn; have hr' := Lib.hid hr; have hb0' := Lib.hid hb0; have ih' := Lib.hid ih; clear hx hy hxl hyl hbx hby hsx hsy hxn hyn hr hb0 ih
  by_cases hnn : n = n'
  · subst hnn
    have hne : ((n : Int) != (n : Int)) = false := by simp
    go_enter Tryz.func101, Tryz.ntmps101
    go_wp2_with fail
    go_loopw [17] (fun iv wr => ∃ (i : Nat), i ≤ n ∧ iv = .int .i64 i ∧ Hid (ss.take i = ss2.take i) ∧ Hid (Below w.heap.size w wr)) (fun iv _ => n - (intOf iv).toNat)
    case atStart => exact ⟨0, by omega, rfl, Lib.hid rfl, Lib.hid (Below.refl _ _)⟩
    case round =>
      obtain ⟨i, hin, rfl, htk, hb⟩ := hrel
      by_cases hi : i < n
      · have hil : (i : Int) < (n : Int) := by omega
        have hw1 : IntKind.i64.wrap ((i : Int) + 1) = i + 1 := by rw [IntKind.wrap_i64]; omega
        have hbr := hb0'.out.trans (hb.out.mono hb0'.out.size); have hi1 : i < ss.length := by rw [hxn'.out]; exact hi
        have hi2 : i < ss2.length := by rw [hyn'.out]; exact hi
        have hj1 : i < ds.length := by rw [hxl'.out]; exact hi1
        have hj2 : i < ds2.length := by rw [hyl'.out]; exact hi2
        obtain ⟨b, o, rfl, hblt, fe⟩ := (hx'.out.mono hbr).elem sbC_len (by decide) dz0 hi; obtain ⟨b2, o2, rfl, hblt2, ge⟩ := (hy'.out.mono hbr).elem sbC_len (by decide) dz0 hi; rw [getD_el hj1] at fe; rw [getD_el hj2] at ge; obtain ⟨e1, hd1⟩ := hsx'.out i hj1 hi1; obtain ⟨e2, hd2⟩ := hsy'.out i hj2 hi2; obtain ⟨ta, tn, tc, sa, sn, sc, ba, bn, bc, hv1⟩ := hd1.v; obtain ⟨ta2, tn2, tc2, sa2, sn2, sc2, ba2, bn2, bc2, hv2⟩ := hd2.v; have f0 := fe 0 _ rfl; have f1 := fe 1 _ rfl; have f2 := fe 2 _ rfl; have f3 := fe 3 _ rfl; have g0 := ge 0 _ rfl; have g1 := ge 1 _ rfl; have g2 := ge 2 _ rfl; have g3 := ge 3 _ rfl; simp only [Nat.add_zero] at f0 f1 f2 f3 g0 g1 g2 g3; clear fe ge; rw [e1] at f0; rw [e2] at g0; rw [hv1] at hd1 f1 f2 f3; rw [hv2] at hd2 g1 g2 g3; simp only at f1 f2 f3 g1 g2 g3; have hal := ((Below.refl wr.heap.size wr).alloc (Nat.le_refl _) (.cells #[.int .i64 ss[i].1, .slice ta tn tc, .slice sa sn sc, .slice ba bn bc] 44)).alloc (by simp) (.cells #[.int .i64 ss2[i].1, .slice ta2 tn2 tc2, .slice sa2 sn2 sc2, .slice ba2 bn2 bc2] 44)
        obtain ⟨q, hq⟩ : ∃ q : Bool, q = true ↔ ss[i].1 = ss2[i].1 ∧ ss[i].2 = ss2[i].2 := by
          by_cases h : ss[i].1 = ss2[i].1 ∧ ss[i].2 = ss2[i].2
          · exact ⟨true, by simp [h]⟩
          · exact ⟨false, by simp [h]⟩
        have HC := dirs2t_any f ih'.out w0 _ ss[i].1 ss2[i].1 ss[i].2 ss2[i].2 _ _ hd1 hd2 (hbr.trans (hal.mono hbr.size)) (hbx'.out _ (List.getElem_mem hi1)) (hby'.out _ (List.getElem_mem hi2)) q hq; have hqe : q = true ↔ ss[i] = ss2[i] := hq.trans (by rw [Prod.ext_iff]); clear hq; have hqe' := Lib.hid hqe; clear hqe; simp only at HC
        generalize ss[i].1 = y at *
        generalize ss2[i].1 = y2 at *
        have hbr' := Lib.hid hbr; have hd1' := Lib.hid hd1; have hd2' := Lib.hid hd2; have hv1' := Lib.hid hv1; have hv2' := Lib.hid hv2; have hal' := Lib.hid hal; have HC' := Lib.hid HC; clear hbr hd1 hd2 hv1 hv2 hal HC; clear e1 e2
        go_wp2_with fail
        refine HC'.out.mono ?_; rintro e w3 ⟨rfl, hb3⟩; have hbw := hb.out.trans ((hal'.out.trans (hb3.mono hal'.out.size)).mono hb.out.size); clear f0 f1 f2 f3 g0 g1 g2 g3; have hbw' := Lib.hid hbw; have hb3' := Lib.hid hb3; clear hbw hb3
        cases q with
        | true =>
          have hnext : Hid (ss.take (i + 1) = ss2.take (i + 1)) := Lib.hid (take_eq_succ hi1 hi2 htk.out (hqe'.out.1 rfl))
          go_wp2_with fail
          go_roundw
          case rel => exact ⟨i + 1, by omega, by go_num, hnext, hbw'⟩
          case measure => simp [intOf]; omega
        | false =>
          obtain rfl : r = false := by
            cases r
            · rfl
            · have e := hr'.out.1 rfl
              have : ss[i] = ss2[i] := by simp only [e]
              have := hqe'.out.2 this
              cases this
          go_wp2_with fail
          go_ret
          exact ⟨rfl, hbw'.out⟩
      · obtain rfl : i = n := by omega
        obtain rfl : r = true := hr'.out.2 (take_eq_all hxn'.out hyn'.out htk.out)
        go_wp2
        go_ret
        exact ⟨rfl, hb.out⟩
  · have hne : ((n : Int) != (n' : Int)) = true := by simp; omega
    obtain rfl : r = false := by
      cases r
      · rfl
      · have e := hr'.out.1 rfl
        exact absurd (hxn'.out.symm.trans (e ▸ hyn'.out)) hnn
    go_enter Tryz.func101, Tryz.ntmps101
    go_wp2
    go_ret
    exact ⟨rfl, Below.refl _ _⟩
set_option maxRecDepth 20000 in
set_option maxHeartbeats 4000000 in
theorem psame_step (f : Nat) (ih : PSame f) : PSame (f + 1) := by
  intro w0 w d d2 v v2 h h2 hb0 hd hd2 b hb; obtain ⟨ta, tn, tc, xs, sa, sn, sc, ds, ba, bn, bc, rfl, htg, hdt, hsl, hdl, hsub, hbl⟩ := h; obtain ⟨ta2, tn2, tc2, ys, sa2, sn2, sc2, ds2, ba2, bn2, bc2, rfl, htg2, hdt2, hsl2, hdl2, hsub2, hbl2⟩ := h2; obtain ⟨d_t, d_s, d_b⟩ := d; obtain ⟨e_t, e_s, e_b⟩ := d2; simp only at hdt hdl hsub hbl hdt2 hdl2 hsub2 hbl2
  have hbz : ∀ z ∈ xs, Byt z.2 := fun z hz => by
    have := hd.1 (tagz z) (by show _ ∈ d_t; rw [hdt]; exact List.mem_map_of_mem hz); exact this
  have hbz2 : ∀ z ∈ ys, Byt z.2 := fun z hz => by
    have := hd2.1 (tagz z) (by show _ ∈ e_t; rw [hdt2]; exact List.mem_map_of_mem hz); exact this
  obtain ⟨WC, hWC, bA, bB, hbC, sC⟩ := two_boxes w 42 #[.slice ta tn tc, .slice sa sn sc, .slice ba bn bc] 42 #[.slice ta2 tn2 tc2, .slice sa2 sn2 sc2, .slice ba2 bn2 bc2]; have hb0C := hb0.trans (hbC.mono hb0.size); have HT := eqtags_any ta ta2 tn tc tn2 tc2 xs ys WC (htg.mono hb0C) (htg2.mono hb0C) hbz hbz2; rw [← hdt, ← hdt2] at HT
  obtain ⟨qs, hqs⟩ : ∃ q : Bool, q = true ↔ d_s = e_s := by
    by_cases hh : d_s = e_s
    · exact ⟨true, by simp [hh]⟩
    · exact ⟨false, by simp [hh]⟩
  have HS := fun W (hW : Below WC.heap.size WC W) => eqsubs_any f ih sa sa2 sn sc sn2 sc2 d_s e_s ds ds2 w0 W (hb0C.trans (hW.mono hb0C.size)) hsl hsl2 hdl hdl2 hsub hsub2 hd.2.1 hd2.2.1 qs hqs; have HB := fun W (hW : Below WC.heap.size WC W) => bequal_any ba ba2 bn bn2 bc bc2 d_b e_b W (hbl.mono (hb0C.trans (hW.mono hb0C.size))) (hbl2.mono (hb0C.trans (hW.mono hb0C.size))) hd.2.2 hd2.2.2; obtain ⟨qt, hqt⟩ : ∃ q, (d_t == e_t) = q := ⟨_, rfl⟩; obtain ⟨qb, hqb⟩ : ∃ q, (d_b == e_b) = q := ⟨_, rfl⟩; rw [hqt] at HT; simp only [hqb] at HB
  have hbv : b = (qt && qs && qb) := by
    rw [Bool.eq_iff_iff, hb]; simp only [Bool.and_eq_true]; rw [hqs, ← hqt, ← hqb, beq_iff_eq, beq_iff_eq]
    constructor
    · intro e
      obtain ⟨h1, h2, h3⟩ := dir_inj e; exact ⟨⟨h1, h2⟩, h3⟩
    · rintro ⟨⟨rfl, rfl⟩, rfl⟩; rfl
  subst hbv; have c0 := bA.cell (i := 0) rfl; have c1 := bB.cell (i := 0) rfl; rw [← hWC] at c0 c1; simp only; have htg' := Lib.hid htg; have hdt' := Lib.hid hdt; have hsl' := Lib.hid hsl; have hdl' := Lib.hid hdl; have hsub' := Lib.hid hsub; have hbl' := Lib.hid hbl; have htg2' := Lib.hid htg2; have hdt2' := Lib.hid hdt2; have hsl2' := Lib.hid hsl2; have hdl2' := Lib.hid hdl2; have hsub2' := Lib.hid hsub2; have hbl2' := Lib.hid hbl2; have hd' := Lib.hid hd; have hd2' := Lib.hid hd2; have hb' := Lib.hid hb; have hbz' := Lib.hid hbz; have hbz2' := Lib.hid hbz2; have bA' := Lib.hid bA; have bB' := Lib.hid bB; have hbC' := Lib.hid hbC; have sC' := Lib.hid sC; have hWC' := Lib.hid hWC; have hb0' := Lib.hid hb0; have hb0C' := Lib.hid hb0C; have HT' := Lib.hid HT; have HS' := Lib.hid HS; have HB' := Lib.hid HB; have hqs' := Lib.hid hqs; have hqt' := Lib.hid hqt; have hqb' := Lib.hid hqb; have ih' := Lib.hid ih; clear htg hdt hsl hdl hsub hbl htg2 hdt2 hsl2 hdl2 hsub2 hbl2 hd hd2 hb hbz hbz2 bA bB hbC sC hWC hb0 hb0C HT HS HB hqs hqt hqb ih
  go_enter Tryz.func56, Tryz.ntmps56
  go_wp2_with fail
  rw [hWC'.out]; refine HT'.out.mono ?_; rintro e w2 ⟨rfl, hb2⟩; have bA2 := bA'.out.late hb2; have bB2 := bB'.out.late hb2; have hbw2 := hbC'.out.trans (hb2.mono hbC'.out.size); clear c0 c1
  cases qt with
  | false =>
    have hb2' := Lib.hid hb2; have bA2' := Lib.hid bA2; have bB2' := Lib.hid bB2; have hbw2' := Lib.hid hbw2; clear hb2 bA2 bB2 hbw2
    go_wp2_with fail
    go_ret
    exact ⟨rfl, hbw2'.out⟩
  | true =>
    have c1 : w2.cell? ⟨w.heap.size, 1, none⟩ = some (.slice sa sn sc) := bA2.cell rfl; have c2 : w2.cell? ⟨w.heap.size + 1, 1, none⟩ = some (.slice sa2 sn2 sc2) := bB2.cell rfl; have HS2 := HS'.out w2 hb2; have hb2' := Lib.hid hb2; have bA2' := Lib.hid bA2; have bB2' := Lib.hid bB2; have hbw2' := Lib.hid hbw2; have HS2' := Lib.hid HS2; clear hb2 bA2 bB2 hbw2 HS2
    go_wp2_with fail
    refine HS2'.out.mono ?_; rintro e w3 ⟨rfl, hb3⟩; have bA3 := bA2'.out.late hb3; have bB3 := bB2'.out.late hb3; have hbw3 := hbw2'.out.trans (hb3.mono hbw2'.out.size); clear c1 c2
    cases qs with
    | false =>
      have hb3' := Lib.hid hb3; have bA3' := Lib.hid bA3; have bB3' := Lib.hid bB3; have hbw3' := Lib.hid hbw3; clear hb3 bA3 bB3 hbw3
      go_wp2_with fail
      go_ret
      exact ⟨rfl, hbw3'.out⟩
    | true =>
      have c1 : w3.cell? ⟨w.heap.size, 2, none⟩ = some (.slice ba bn bc) := bA3.cell rfl; have c2 : w3.cell? ⟨w.heap.size + 1, 2, none⟩ = some (.slice ba2 bn2 bc2) := bB3.cell rfl; have HB2 := HB'.out w3 (hb2'.out.trans (hb3.mono hb2'.out.size)); have hb3' := Lib.hid hb3; have bA3' := Lib.hid bA3; have bB3' := Lib.hid bB3; have hbw3' := Lib.hid hbw3; have HB2' := Lib.hid HB2; clear hb3 bA3 bB3 hbw3 HB2
      go_wp2_with fail
      refine HB2'.out.mono ?_; rintro e w4 ⟨rfl, rfl⟩
      go_wp2_with fail
      go_ret
      exact ⟨rfl, hbw3'.out⟩
theorem psame_any : ∀ f, PSame f := by
  intro f
  induction f with
  | zero => intro w0 w d d2 v v2 h; exact h.elim
  | succ f ih => exact psame_step f ih
end Go.Proofs.YtilennmeiaehnaaGreat
