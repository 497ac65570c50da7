/- Chapter 21: the chapter's examples. | Chapters 20, 22: sub-directories in memory of their own. | Chapter 20: values, tags and directories in memory of their own: the document. | Chapter 21: the law's own functions: many, vast, huge. -/
import Derived.Test.YtilennmeiaehnaaGreatCb28
import Derived.Test.YtilennmeiaehnaaGreatCb08
import Derived.Test.YtilennmeiaehnaaGreatCb09
import Derived.Test.YtilennmeiaehnaaGreatCb11
import Derived.Test.YtilennmeiaehnaaGreatCb01
import Derived.Test.YtilennmeiaehnaaGreatCb10
namespace Go.Proofs.YtilennmeiaehnaaGreat
open Go.RowKit Tt
set_option linter.unusedVariables false
set_option linter.unusedSimpArgs false

def xT (n : Int) : Tgs := (256, 3, 1, putS n 2 2)
def xD : DirT 2 := ([xT 258], [], [])
theorem xc2 : checkS 2 2 [xD, xD] shp1 = 1 := by decide +kernel
theorem two_tg {w : World} {a a2 : Option Addr} {c c2 : Nat} (n : Int) (hs : Sl w a 2 c 1 (ints .u8 (putS n 2 2))) (hs2 : Sl w a2 2 c2 1 (ints .u8 (putS n 2 2))) :
    Tgr (w.alloc (.cells #[.int .i64 256, .int .i64 3, .int .i64 1, .slice a 2 c, .int .i64 256, .int .i64 3, .int .i64 1, .slice a2 2 c2] 78)) (some ⟨w.heap.size, 0, none⟩) 2 2 [((256, 3, 1, a, 2, c), putS n 2 2), ((256, 3, 1, a2, 2, c2), putS n 2 2)] := by
  have hal := (Below.refl w.heap.size w).alloc (Nat.le_refl _) (.cells #[.int .i64 256, .int .i64 3, .int .i64 1, .slice a 2 c, .int .i64 256, .int .i64 3, .int .i64 1, .slice a2 2 c2] 78); refine ⟨Sl.new w 78 4 2 _ (0, 0) (by omega) rfl, fun z hz => ?_⟩; simp only [List.mem_cons, List.not_mem_nil, or_false] at hz
  rcases hz with rfl | rfl
  · exact hs.mono hal
  · exact hs2.mono hal
end Go.Proofs.YtilennmeiaehnaaGreat

namespace Tt
open Go Go.RowKit
set_option linter.unusedVariables false
theorem own_grown {w w' : World} {row : Option Nat} {B : Nat} {E : TypeId} {sz : Nat} {v : Value} {n : Nat} {xs : List Value} (h : w.ownsRow B E sz v n xs) (hg : w.grownBy w' row) (hne : ∀ k, v.ownBlock = some k → row ≠ some k) : w'.ownsRow B E sz v n xs := by
  obtain ⟨hl, hr⟩ := h; refine ⟨hl, ?_⟩
  rcases hr with hn | ⟨g, cap, cur, rfl, hB, hgg, r⟩
  · exact .inl hn
  · exact .inr ⟨g, cap, cur, rfl, hB, (hg.block g (Array.getElem?_eq_some_iff.1 hgg).1 (Ne.symm (hne g rfl))).trans hgg, r⟩
theorem own_ne_blk {w : World} {B : Nat} {E T : TypeId} {sz : Nat} {v : Value} {n g : Nat} {xs : List Value} {cs : Array Value} (h : w.ownsRow B E sz v n xs) (hb : Blk w g T cs) (hE : E ≠ T) : v.ownBlock ≠ some g := fun e => by
  rcases h.2 with ⟨rfl, _⟩ | ⟨g', cap, cur, rfl, _, hg, _⟩
  · cases e
  · obtain rfl : g' = g := by injection e
    unfold Blk at hb; rw [hb] at hg; injection hg with hg; injection hg with h1 h2; exact hE h2.symm
theorem own_v' {w : World} {B : Nat} {E : TypeId} {sz : Nat} {v : Value} {n : Nat} {xs : List Value} (h : w.ownsRow B E sz v n xs) : ∃ a c, v = .slice a n c := by
  rcases h.2 with ⟨rfl, h0⟩ | ⟨g, cap, cur, rfl, _⟩
  · exact ⟨none, 0, by rw [h0]⟩
  · exact ⟨_, _, rfl⟩
theorem own_inj {w : World} {B B' : Nat} {E : TypeId} {sz : Nat} {v : Value} {n : Nat} {xs ys : List Value} (h : w.ownsRow B E sz v n xs) (k : w.ownsRow B' E sz v n ys) : xs = ys := by
  have e : xs.length = ys.length := h.1.trans k.1.symm; obtain ⟨a, c, rfl⟩ := own_v' h; have hs := (Sl.of_own h).1; have ks := (Sl.of_own k).1; refine List.ext_getElem e (fun j h1 h2 => ?_)
  have hn : 0 < n := by
    rcases Nat.eq_zero_or_pos n with h0 | h0
    · have := h.1; rw [h0] at this; omega
    · exact h0
  obtain ⟨g, off, e1, _, hc⟩ := hs.lies 0 hn; obtain ⟨g', off', e2, _, kc⟩ := ks.lies 0 hn; rw [e1] at e2; injection e2 with e2; injection e2 with e3 e4 _; subst e3 e4; have q1 := hc j _ (List.getElem?_eq_getElem h1); have q2 := kc j _ (List.getElem?_eq_getElem h2); rw [q1] at q2; injection q2
end Tt
namespace Go.Proofs.YtilennmeiaehnaaGreat
open Go.RowKit Tt
set_option linter.unusedVariables false
set_option linter.unusedSimpArgs false

theorem kp_or {X X' Y : Nat → Prop} {B : Nat} {w w' : World} (h : Kp X X' B w w') : Kp (fun k => X k ∨ Y k) (fun k => X' k ∨ Y k) B w w' :=
  ⟨h.size, fun k hB hk hx => ⟨(h.block k hB hk (fun e => hx (.inl e))).1, fun e => e.elim (h.block k hB hk (fun e => hx (.inl e))).2 (fun e => hx (.inr e))⟩⟩
theorem own_tags_ne {X : Nat → Prop} {B B2 : Nat} {w w' : World} {v u : Value} {ts : List Tgs} {E : TypeId} {sz n : Nat} {xs : List Value} (h : TagsAt X B w v ts) (hu : w.ownsRow B2 E sz u n xs) (hg : w.grownBy w' u.ownBlock) (h1 : 78 ≠ E) (h2 : 5 ≠ E) : TagsAt X B w' v ts := by
  obtain ⟨zs, e, h3, h4⟩ := h
  have key : ∀ {T : TypeId} {v' : Value} {s n : Nat} {ys : List Value}, w.ownsRow B T s v' n ys → T ≠ E → w'.ownsRow B T s v' n ys := fun h hT => own_grown h hg (fun k hk hk2 => by
    rcases own_apart h hu hT with h5 | h5
    · rw [h5] at hk; cases hk
    · exact h5 (hk.trans hk2.symm))
  exact ⟨zs, e, ⟨key h3.1 h1, h3.2⟩, fun z hz => ⟨key (h4 z hz).1 h2, (h4 z hz).2⟩⟩
/-- sub-directories in memory -/
def SubsAt (X : Nat → Prop) (B : Nat) (w : World) (f : Nat) (v : Value) (subs : List (Int × DirT f)) : Prop :=
  ∃ ds : List (Int × Dz), ds.length = subs.length ∧ Ck X B w v 44 4 ds.length (fl sbC ds) ∧ (∀ d ∈ ds, oneZ d.2) ∧ ∀ i (h : i < ds.length) (h' : i < subs.length), ds[i].1 = subs[i].1 ∧ DirAt (fun k => X k ∨ v.ownBlock = some k) B w f subs[i].2 ds[i].2
theorem SubsAt.keep {X X' : Nat → Prop} {B f : Nat} {w w' : World} {v : Value} {subs : List (Int × DirT f)} (h : SubsAt X B w f v subs) (k : Kp X X' B w w') : SubsAt X' B w' f v subs := by
  obtain ⟨ds, h1, h2, h0, h3⟩ := h; exact ⟨ds, h1, h2.keep k, h0, fun i hi hi' => ⟨(h3 i hi hi').1, (h3 i hi hi').2.keep (kp_or k)⟩⟩
theorem SubsAt.snoc {X : Nat → Prop} {B f : Nat} {w w' : World} {v v' : Value} {subs : List (Int × DirT f)} {t : Int} {d : DirT f} {dz : Dz} {n : Nat} (h : SubsAt X B w f v subs) (hn : subs.length = n) (hg : w.grownBy w' v.ownBlock) (ho : ∀ k, v'.ownBlock = some k → v.ownBlock = some k ∨ w.heap.size ≤ k)
    (ob : ∀ ds : List (Int × Dz), w.ownsRow B 44 4 v n (fl sbC ds) → w'.ownsRow B 44 4 v' (n + 1) (fl sbC ds ++ sbC (t, dz))) (hX : ∀ k, v'.ownBlock = some k → ¬ X k) (h1 : oneZ dz) (hd : DirAt (fun k => X k ∨ v.ownBlock = some k) B w f d dz) : SubsAt X B w' f v' (subs ++ [(t, d)]) := by
  obtain ⟨ds, h2, h3, h0, h4⟩ := h; have hk : Kp (fun k => X k ∨ v.ownBlock = some k) (fun k => X k ∨ v'.ownBlock = some k) B w w' := ⟨hg.size, fun k hB hk hx => ⟨hg.block k hk (fun e => hx (.inr e.symm)), fun e => e.elim (fun e => hx (.inl e)) (fun e => by rcases ho k e with e' | e' <;> first | exact hx (.inr e') | omega)⟩⟩; have hdn : ds.length = n := h2.trans hn; refine ⟨ds ++ [(t, dz)], by simp [h2], ⟨?_, hX⟩, ?_, fun i hi hi' => ?_⟩
  · rw [List.length_append, fl_snoc, List.length_singleton, hdn]
    exact ob ds (by rw [← hdn]; exact h3.1)
  · intro d' hd'
    rcases List.mem_append.1 hd' with h | h
    · exact h0 d' h
    · rw [List.mem_singleton.1 h]; exact h1
  · by_cases hi2 : i < ds.length
    · rw [List.getElem_append_left hi2, List.getElem_append_left (by omega)]
      exact ⟨(h4 i hi2 (by omega)).1, (h4 i hi2 (by omega)).2.keep hk⟩
    · have hie : i = ds.length := by simp at hi; omega
      subst hie; rw [List.getElem_append_right (Nat.le_refl _), List.getElem_append_right (by omega)]; simp only [Nat.sub_self, List.getElem_cons_zero, h2]; exact ⟨trivial, hd.keep hk⟩
theorem TagsAt.own {X : Nat → Prop} {B : Nat} {w : World} {v : Value} {ts : List Tgs} (h : TagsAt X B w v ts) : ∃ zs : List Tz, ts = zs.map tagz ∧ w.ownsRow B 78 4 v ts.length (fl tzc zs) := by
  obtain ⟨zs, h1, h2, _⟩ := h; exact ⟨zs, h1, by rw [h1, List.length_map]; exact h2.1⟩
theorem sbC_sl (t : Int) (a1 a2 a3 : Option Addr) (n1 n2 n3 c1 c2 c3 : Nat) : ∀ u ∈ sbC (t, (.slice a1 n1 c1, .slice a2 n2 c2, .slice a3 n3 c3)), u.oneCell' = true := by
  intro u hu; simp only [sbC, List.mem_cons, List.not_mem_nil, or_false] at hu
  rcases hu with rfl | rfl | rfl | rfl <;> rfl
theorem dvC_sl (a1 a2 a3 : Option Addr) (n1 n2 n3 c1 c2 c3 : Nat) : oneZ (.slice a1 n1 c1, .slice a2 n2 c2, .slice a3 n3 c3) := by
  intro u hu; simp only [dvC, List.mem_cons, List.not_mem_nil, or_false] at hu
  rcases hu with rfl | rfl | rfl <;> rfl
theorem dir_at {X : Nat → Prop} {A B2 B3 f : Nat} {w : World} {vt vs vb : Value} {tags : List Tgs} {subs : List (Int × DirT f)} {blob : List Int} (ht : TagsAt X B2 w vt tags) (hs : SubsAt X B2 w f vs subs) (hb : Ck X B3 w vb 5 1 blob.length (ints .u8 blob)) (h1 : A ≤ B2) (h2 : A ≤ B3) : DirAt X A w (f + 1) (tags, subs, blob) (vt, vs, vb) := by
  obtain ⟨ds, e1, e2, _, e3⟩ := hs; refine ⟨?_, ht.mono h1, ⟨ds, e1, e2.mono h1, fun i hi hi' => ⟨(e3 i hi hi').1, ((e3 i hi hi').2.keep (Kp.same (fun k _ _ hx e => hx (.inl e)))).mono h1⟩⟩, hb.mono h2⟩; obtain ⟨zs, _, h5⟩ := ht.own; obtain ⟨a1, c1, rfl⟩ := own_v' h5; obtain ⟨a2, c2, rfl⟩ := own_v' e2.1; obtain ⟨a3, c3, rfl⟩ := own_v' hb.1; exact dvC_sl _ _ _ _ _ _ _ _ _
theorem ck_butT {X : Nat → Prop} {B : Nat} {w w' : World} {v : Value} {E T : TypeId} {sz n g : Nat} {xs : List Value} {cs : Array Value} (h : Ck X B w v E sz n xs) (b : But g w w') (hb : Blk w g T cs) (hE : E ≠ T) : Ck X B w' v E sz n xs := ⟨own_but h.1 b (own_ne_blk h.1 hb hE), h.2⟩
theorem TagsAt.nil (X : Nat → Prop) (B : Nat) (w : World) : TagsAt X B w (.slice none 0 0) [] := ⟨[], rfl, ⟨own_nil _ _ _ _, fun k e => by cases e⟩, fun z hz => by cases hz⟩
theorem TagsAt.snoc {X : Nat → Prop} {B : Nat} {w w' : World} {v v' : Value} {ts : List Tgs} {t : Tgs} {z : Tz} (h : TagsAt X B w v ts) (hz : tagz z = t) (hg : w.grownBy w' v.ownBlock) (hX : ∀ k, v'.ownBlock = some k → ¬ X k)
    (ob : ∀ zs : List Tz, w.ownsRow B 78 4 v ts.length (fl tzc zs) → w'.ownsRow B 78 4 v' (ts.length + 1) (fl tzc zs ++ tzc z)) (hd : Ck X B w (tzd z) 5 1 z.2.length (ints .u8 z.2)) : TagsAt X B w' v' (ts ++ [t]) := by
  obtain ⟨zs, h1, h2, h3⟩ := h; have hn : zs.length = ts.length := by rw [h1, List.length_map]
  have key : ∀ z', Ck X B w (tzd z') 5 1 z'.2.length (ints .u8 z'.2) → Ck X B w' (tzd z') 5 1 z'.2.length (ints .u8 z'.2) := fun z' hc => ⟨own_grown hc.1 hg (fun k hk hk2 => by
    rcases own_apart hc.1 h2.1 (by decide) with h5 | h5
    · rw [h5] at hk; cases hk
    · exact h5 (hk.trans hk2.symm)), hc.2⟩
  refine ⟨zs ++ [z], by rw [List.map_append, h1, ← hz]; rfl, ⟨?_, hX⟩, fun z' hz' => ?_⟩
  · rw [List.length_append, fl_snoc, List.length_singleton, hn]
    exact ob zs (by rw [← hn]; exact h2.1)
  · rcases List.mem_append.1 hz' with h | h
    · exact key z' (h3 z' h)
    · rw [List.mem_singleton.1 h]; exact key z hd
theorem TagsAt.butT {X : Nat → Prop} {B g : Nat} {w w' : World} {v : Value} {ts : List Tgs} {cs : Array Value} (h : TagsAt X B w v ts) (b : But g w w') (hb : Blk w g 42 cs) : TagsAt X B w' v ts := by
  obtain ⟨zs, h1, h2, h3⟩ := h; exact ⟨zs, h1, ck_butT h2 b hb (by decide), fun z hz => ck_butT (h3 z hz) b hb (by decide)⟩
theorem DirAt.butT {X : Nat → Prop} {B g : Nat} {w w' : World} {cs : Array Value} (b : But g w w') (hb : Blk w g 42 cs) : ∀ {f : Nat} {d : DirT f} {v : Dz}, DirAt X B w f d v → DirAt X B w' f d v
  | 0, _, _, h => h.elim
  | f + 1, d, v, h => by
    obtain ⟨h0, h1, ⟨ds, h2, h3, h4⟩, h5⟩ := h; exact ⟨h0, h1.butT b hb, ⟨ds, h2, ck_butT h3 b hb (by decide), fun i hi hi' => ⟨(h4 i hi hi').1, (h4 i hi hi').2.butT b hb⟩⟩, ck_butT h5 b hb (by decide)⟩
theorem SubsAt.butT {X : Nat → Prop} {B g f : Nat} {w w' : World} {v : Value} {subs : List (Int × DirT f)} {cs : Array Value} (h : SubsAt X B w f v subs) (b : But g w w') (hb : Blk w g 42 cs) : SubsAt X B w' f v subs := by
  obtain ⟨ds, h1, h2, h0, h3⟩ := h; exact ⟨ds, h1, ck_butT h2 b hb (by decide), h0, fun i hi hi' => ⟨(h3 i hi hi').1, (h3 i hi hi').2.butT b hb⟩⟩
end Go.Proofs.YtilennmeiaehnaaGreat

namespace Go.Proofs.YtilennmeiaehnaaGreat
open Go.RowKit Tt
set_option linter.unusedVariables false
set_option linter.unusedSimpArgs false

def dataD : (f : Nat) → DirT f → Prop
  | 0, _ => True
  | f + 1, d => (∀ t ∈ d.1, t.2.2.2.length ≤ 600) ∧ ∀ s ∈ d.2.1, dataD f s.2
end Go.Proofs.YtilennmeiaehnaaGreat

namespace Go.Proofs.YtilennmeiaehnaaGreat
open Go.RowKit Tt
set_option linter.unusedVariables false
set_option linter.unusedSimpArgs false

set_option maxRecDepth 20000 in
set_option maxHeartbeats 4000000 in
theorem rdirs2_any (f : Nat) (o : Int) (sa : Option Addr) (sn sc : Nat) (ds : List (DirT f)) (w : World) (h : DirsR f w sa sn sc ds) (hN : (flatT f ds).length < 3000000) (hE : ∀ d ∈ ds, (flatS f d).length < 1000000) :
    Calls Tryz.prog 36 #[.agg #[.int .i64 o, .slice sa sn sc]] w fun e w' => ∃ (a : Option Addr) (c : Nat) (vs : List Dz), e = .returned (.slice a (flatT f ds).length c) ∧ w'.ownsRow w.heap.size 42 3 (.slice a (flatT f ds).length c) (flatT f ds).length (fl dvC vs) ∧ FlsR w (flatT f ds) vs ∧ Below w.heap.size w w' := by
  obtain ⟨i0, z0, hi0, hz, hz1, hz2, hz3⟩ := info_of dirI1 dirI2; obtain ⟨dvs, hdl, hsl, hsub⟩ := h; have hsn : ds.length = sn := by rw [← hdl]; exact hsl.flen dvC_len (by decide)
  have hsmax := hsl.max; have hsle := hsl.le; have hb1 := (Below.refl w.heap.size w).alloc (Nat.le_refl _) (.cells #[.int .i64 o, .slice sa sn sc] 24); have bk := Blk.new w 24 #[.int .i64 o, .slice sa sn sc]; obtain ⟨W1, hW1⟩ : ∃ W1, w.alloc (.cells #[.int .i64 o, .slice sa sn sc] 24) = W1 := ⟨_, rfl⟩; have hsz1 : W1.heap.size = w.heap.size + 1 := by rw [← hW1]; simp
  rw [hW1] at hb1 bk; have hsl' := Lib.hid hsl; have hsub' := Lib.hid hsub; have hb1' := Lib.hid hb1; have bk' := Lib.hid bk; have hsn' := Lib.hid hsn; clear hsl hsub hb1 bk hsn
  go_enter Tryz.func36, Tryz.ntmps36
  go_wp2_with fail
  go_loopw [3, 4] (fun r0 iv wr => ∃ (i : Nat) (a : Option Addr) (c : Nat) (vs : List Dz), i ≤ sn ∧ iv = .int .i64 i ∧ r0 = .slice a (flatT f (ds.take i)).length c ∧ Hid (wr.ownsRow (w.heap.size + 1) 42 3 (.slice a (flatT f (ds.take i)).length c) (flatT f (ds.take i)).length (fl dvC vs)) ∧ Hid (FlsR w (flatT f (ds.take i)) vs) ∧ Hid (Below W1.heap.size W1 wr)) (fun _ iv _ => sn - (intOf iv).toNat)
  case atStart => exact ⟨0, none, 0, [], by omega, rfl, rfl, Lib.hid (own_nil _ _ _ _), Lib.hid trivial, Lib.hid (Below.refl _ _)⟩
  case round =>
    obtain ⟨i, a, c, vs, hin, rfl, rfl, hown, hfls, hbr⟩ := hrel; have bkr := bk'.out.late hbr.out; have q1 : wr.cell? ⟨w.heap.size, 1, none⟩ = some (.slice sa sn sc) := bkr.cell rfl
    by_cases hi : i < sn
    · have hil : (i : Int) < (sn : Int) := by omega
      have hw5 : IntKind.i64.wrap ((i : Int) + 1) = i + 1 := by rw [IntKind.wrap_i64]; omega
      have hb0r := hb1'.out.trans (hbr.out.mono hb1'.out.size); have hid : i < ds.length := by rw [hsn'.out]; exact hi
      have hids : i < dvs.length := by rw [hdl]; exact hid
      obtain ⟨b, o', rfl, hblt, fe⟩ := (hsl'.out.mono hb0r).elem dvC_len (by decide) (.slice none 0 0, .slice none 0 0, .slice none 0 0) hi; rw [getD_el hids] at fe; have hq2 := hsub'.out i hids hid; obtain ⟨ua, un, uc, pa, pn, pc, ra, rn, rc, hv⟩ := hq2.v; have g0 := fe 0 _ rfl; have g1 := fe 1 _ rfl; have g2 := fe 2 _ rfl; clear fe; rw [hv] at hq2 g0 g1 g2; simp only [Nat.add_zero] at g0 g1 g2; have hft2 := flatT_next f ds hid; have hft := congrArg List.length hft2; rw [List.length_append] at hft; have hftl := flatT_take_le f ds (i + 1); have hI := rwithin_any f w wr ds[i] _ hq2 hb0r (by have := hE _ (List.getElem_mem hid); omega); simp only at hI
      generalize ds[i] = dd at hft hft2 hI
      clear hq2 hv; have hft' := Lib.hid hft; have hftl' := Lib.hid hftl; have hft2' := Lib.hid hft2; have hI' := Lib.hid hI; have hb0r' := Lib.hid hb0r; have bkr' := Lib.hid bkr; clear hft hftl hft2 hI hb0r bkr
      go_wp2_with fail
      refine hI'.out.mono ?_; rintro e w6 ⟨a6, c6, us, rfl, ho6, hfl6, hb6⟩; have hownr := own_later hown.out hb6; have hsl6 := (Sl.of_own ho6).1; have hbr6 := hbr.out.trans (hb6.mono hbr.out.size); have hsz6 := hbr6.size; clear g0 g1 g2 q1; have hownr' := Lib.hid hownr; have hsl6' := Lib.hid hsl6; have hbr6' := Lib.hid hbr6; have ho6' := Lib.hid ho6; have hb6' := Lib.hid hb6; have hfl6' := Lib.hid hfl6; clear hownr hsl6 hbr6 ho6 hb6 hfl6
      go_wp2_with (at_builtin; refine wpList_app2 rfl _ _ 22 rfl (w.heap.size + 1) 42 i0 z0 3 72 Tryz.underlying22 hi0 hz hz1 hz2 hz3 (by decide) (.slice a (flatT f (ds.take i)).length c) (flatT f (ds.take i)).length _ rfl hownr'.out a6 (flatS f dd).length c6 (fl dvC us) rfl hsl6'.out hfl6'.out.one (by have := hft'.out; have := hftl'.out; omega) (by decide) (by omega) ?_; intro a8 c8 w8 ob hg8 hown8; have Ob := Lib.hid ob; have Hg8 := Lib.hid hg8; have Ho8 := Lib.hid hown8; clear ob hg8 hown8)
      have hnm : (flatT f (ds.take i)).length + (flatS f dd).length = (flatT f (ds.take (i + 1))).length := hft'.out.symm; have ho8 := Ob.out; rw [hnm, ← fl_append] at ho8; have hbr8 : Below W1.heap.size W1 w8 := below_grown hbr6'.out Hg8.out hbr6'.out.size (by rw [hsz1]; exact hownr'.out); have hfl8 := hfls.out.append hfl6'.out; rw [← hft2'.out] at hfl8; have ho8' := Lib.hid ho8; have hbr8' := Lib.hid hbr8; have hfl8' := Lib.hid hfl8; clear ho8 hbr8 hfl8
      go_wp2_with fail
      go_roundw
      case rel => exact ⟨i + 1, a8, c8, vs ++ us, by omega, by go_num, by rw [hnm], ho8', hfl8', hbr8'⟩
      case measure => simp [intOf]; omega
    · obtain rfl : i = sn := by omega
      have hfull : ds.take i = ds := List.take_of_length_le (by rw [hsn'.out]; omega); rw [hfull] at hown hfls; have hbw := hb1'.out.trans (hbr.out.mono hb1'.out.size); have hbw' := Lib.hid hbw; clear hbw; rw [hfull]
      go_wp2_with fail
      go_ret
      exact ⟨a, c, vs, rfl, own_mono hown.out (by omega), hfls.out, hbw'.out⟩

def capV : Nat → Nat
  | 0 => 0
  | n + 1 => 1 + 6 * capV n
theorem flats_le (f c : Nat) : ∀ (ss : List (Int × DirT f)), (∀ s ∈ ss, (flatS f s.2).length ≤ c) → (flats f ss).length ≤ ss.length * c
  | [], _ => by simp [flats]
  | s :: ss, h => by
    have h1 := h s (List.mem_cons_self ..); have h2 := flats_le f c ss (fun x hx => h x (List.mem_cons_of_mem _ hx)); have e : (flats f (s :: ss)).length = (flatS f s.2).length + (flats f ss).length := by simp [flats]
    rw [e, List.length_cons, Nat.add_mul, Nat.one_mul]
    omega
/-- no more than is gone through -/
def okVt (f n : Nat) (d : DirT f) : Prop := smallD f d ∧ dataD f d ∧ (flatS f d).length ≤ capV n
end Go.Proofs.YtilennmeiaehnaaGreat
