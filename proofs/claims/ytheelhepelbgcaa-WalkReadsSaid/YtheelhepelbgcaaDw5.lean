/- Chapter 22, the document's walk: all within a directory. | Chapter 22, the document's walk: a directory. | Chapter 22, the document's walk: a directory. -/
import Derived.Test.YtheelhepelbgcaaDw1
namespace Go.Proofs.Ytheelhepelbgcaa
open Go.RowKit Tt
set_option linter.unusedVariables false
set_option linter.unusedSimpArgs false

/-- how a part of the document's walk ends: the state, the first error -/
def DU {α : Type} (K : DwS) (sv : Value) (w : World) (R : Except Int (α × St)) (w' : World) (good : α → Value → Prop) : Prop :=
  ∃ s' sv' tk' E', DwOk K s' sv' tk' E' w' ∧ Mv K.g K.gt sv sv' w w' ∧ (E' = 0 → ∃ v, R = .ok (v, s') ∧ good v sv') ∧ (E' ≠ 0 → R = .error E')
/-- how a directory is handed back by the document -/
def DirU (K : DwS) (f : Nat) (sv : Value) (w : World) (R : Except Int ((DirT f × Int) × St)) (e : Ending) (w' : World) : Prop :=
  ∃ (a1 a2 a3 : Option Addr) (n1 c1 n2 c2 n3 c3 : Nat) (nx : Int), e = .returned (.tuple #[.agg #[.slice a1 n1 c1, .slice a2 n2 c2, .slice a3 n3 c3], .int .i64 nx]) ∧
    DU K sv w R w' fun d sv' => d.2 = nx ∧ DirAt (Xv sv') w.heap.size w' f d.1 (.slice a1 n1 c1, .slice a2 n2 c2, .slice a3 n3 c3)
def WithU (K : DwS) (f : Nat) (sv : Value) (w : World) (R : Except Int (DirT f × St)) (e : Ending) (w' : World) : Prop :=
  ∃ (a1 a2 a3 : Option Addr) (n1 c1 n2 c2 n3 c3 : Nat), e = .returned (.agg #[.slice a1 n1 c1, .slice a2 n2 c2, .slice a3 n3 c3]) ∧
    DU K sv w R w' fun d sv' => DirAt (Xv sv') w.heap.size w' f d (.slice a1 n1 c1, .slice a2 n2 c2, .slice a3 n3 c3)
/-- what stands while a directory's entries are gone through -/
structure Pq (K : DwS) (A : Nat) (w : World) (sv : Value) (zc : Array Value) (s : St) (svi : Value) (tk : List Int) (E : Int) (vt vs vb : Value) (wr : World) : Prop where
  ok : DwOk K s svi tk E wr
  mv : Mv K.g K.gt sv svi w wr
  nb : ∀ k, svi.ownBlock = some k → k < A ∨ A + 3 ≤ k
  bS : Blk wr A 35 zc
  bR : Blk wr (A + 1) 48 #[.slice none 0 0, .slice none 0 0, .slice none 0 0]
  bD : Blk wr (A + 1 + 1) 48 #[vt, vs, vb]
  sz : A + 3 ≤ wr.heap.size
section
variable {K : DwS} {A : Nat} {w : World} {sv : Value} {zc : Array Value} {s : St} {svi : Value} {tk : List Int} {E : Int} {vt vs vb : Value} {wr wr' : World}
theorem Pq.later (h : Pq K A w sv zc s svi tk E vt vs vb wr) (hb : Below wr.heap.size wr wr') : Pq K A w sv zc s svi tk E vt vs vb wr' :=
  ⟨h.ok.later hb, h.mv.later hb, h.nb, h.bS.late hb, h.bR.late hb, h.bD.late hb, Nat.le_trans h.sz hb.size⟩
theorem Pq.mv2 {s' : St} {sv' : Value} {tk' : List Int} {E' : Int} (h : Pq K A w sv zc s svi tk E vt vs vb wr) (hg : K.g < A) (hgt : K.gt < A) (m : Mv K.g K.gt svi sv' wr wr') (ok' : DwOk K s' sv' tk' E' wr') : Pq K A w sv zc s' sv' tk' E' vt vs vb wr' :=
  have hsz := h.sz
  ⟨ok', h.mv.trans m, fun k e => by rcases m.own k e with h1 | h1 <;> first | exact h.nb k h1 | omega,
   h.bS.mv m (by omega) (by omega) (fun e => by have := h.nb _ e; omega), h.bR.mv m (by omega) (by omega) (fun e => by have := h.nb _ e; omega), h.bD.mv m (by omega) (by omega) (fun e => by have := h.nb _ e; omega), Nat.le_trans hsz m.size⟩
theorem Pq.app {w9 w10 : World} {vt' vs' vb' : Value} {row : Option Nat} (h : Pq K A w sv zc s svi tk E vt vs vb wr) (hg : K.g < A) (hgt : K.gt < A) (h0 : K.w0.heap.size ≤ A) (hw : w.heap.size = A) (hgr : wr.grownBy w9 row) (hr : ∀ r, row = some r → A + 3 ≤ r ∧ svi.ownBlock ≠ some r)
    (hb : But (A + 1 + 1) w9 w10) (bD' : Blk w10 (A + 1 + 1) 48 #[vt', vs', vb']) : Pq K A w sv zc s svi tk E vt' vs' vb' w10 := by
  have hsz := h.sz
  have hnd : svi.ownBlock ≠ some (A + 1 + 1) := fun e => by have := h.nb _ e; omega
  cases row with
  | none =>
    have hbl := grown_below hgr
    have h9 := h.later hbl
    exact ⟨h9.ok.but hb (by omega) (by omega) hnd (by omega), h9.mv.new_set (by omega) hb, h.nb, h9.bS.but hb (by omega), h9.bR.but hb (by omega), bD', Nat.le_trans h9.sz hb.size⟩
  | some r =>
    have hr := hr r rfl
    have hbr := grown_but hgr
    exact ⟨(h.ok.but hbr (by omega) (by omega) hr.2 (by omega)).but hb (by omega) (by omega) hnd (by omega), (h.mv.new_set (by omega) hbr).new_set (by omega) hb, h.nb, (h.bS.but hbr (by omega)).but hb (by omega), (h.bR.but hbr (by omega)).but hb (by omega), bD', Nat.le_trans hsz (Nat.le_trans hbr.size hb.size)⟩
theorem Pq.grown {w9 : World} {row : Option Nat} (h : Pq K A w sv zc s svi tk E vt vs vb wr) (hg : K.g < A) (hgt : K.gt < A) (h0 : K.w0.heap.size ≤ A) (hw : w.heap.size = A) (hgr : wr.grownBy w9 row) (hr : ∀ r, row = some r → A + 3 ≤ r ∧ svi.ownBlock ≠ some r) : Pq K A w sv zc s svi tk E vt vs vb w9 := by
  have hsz := h.sz
  cases row with
  | none => exact h.later (grown_below hgr)
  | some r =>
    have hr := hr r rfl
    have hbr := grown_but hgr
    exact ⟨h.ok.but hbr (by omega) (by omega) hr.2 (by omega), h.mv.new_set (by omega) hbr, h.nb, h.bS.but hbr (by omega), h.bR.but hbr (by omega), h.bD.but hbr (by omega), Nat.le_trans hsz hbr.size⟩
theorem Pq.setD {vt' vs' vb' : Value} (h : Pq K A w sv zc s svi tk E vt vs vb wr) (hg : K.g < A) (hgt : K.gt < A) (h0 : K.w0.heap.size ≤ A) (hw : w.heap.size = A) (hb : But (A + 1 + 1) wr wr') (bD' : Blk wr' (A + 1 + 1) 48 #[vt', vs', vb']) : Pq K A w sv zc s svi tk E vt' vs' vb' wr' :=
  have hnd : svi.ownBlock ≠ some (A + 1 + 1) := fun e => by have := h.nb _ e; omega
  ⟨h.ok.but hb (by omega) (by omega) hnd (by omega), h.mv.new_set (by omega) hb, h.nb, h.bS.but hb (by omega), h.bR.but hb (by omega), bD', Nat.le_trans h.sz hb.size⟩
/-- a block of the call's own turns -/
theorem Pq.butHi {r : Nat} (h : Pq K A w sv zc s svi tk E vt vs vb wr) (hg : K.g < A) (hgt : K.gt < A) (h0 : K.w0.heap.size ≤ A) (hw : w.heap.size = A) (hb : But r wr wr') (hr : A + 3 ≤ r) (hx : svi.ownBlock ≠ some r) : Pq K A w sv zc s svi tk E vt vs vb wr' :=
  ⟨h.ok.but hb (by omega) (by omega) hx (by omega), h.mv.new_set (by omega) hb, h.nb, h.bS.but hb (by omega), h.bR.but hb (by omega), h.bD.but hb (by omega), Nat.le_trans h.sz hb.size⟩
end
theorem DPost.tag {K : DwS} {sv : Value} {w w' : World} {R : Except Int (Tgs × St)} {e : Ending} (h : DPost K sv w R BadTag (TagIs w) e w') :
    ∃ (t1 t2 t3 : Int) (a : Option Addr) (m c : Nat), e = .returned (.agg #[.int .i64 t1, .int .i64 t2, .int .i64 t3, .slice a m c]) ∧ DU K sv w R w' fun v sv' => v.1 = t1 ∧ v.2.1 = t2 ∧ v.2.2.1 = t3 ∧ v.2.2.2.length = m ∧ Ck (Xv sv') w.heap.size w' (.slice a m c) 5 1 m (ints .u8 v.2.2.2) := by
  cases R with
  | error y =>
    obtain ⟨h0, s', sv', tk', h1, h2, t1, t2, t3, a, m, c, h3⟩ := h
    exact ⟨t1, t2, t3, a, m, c, h3, s', sv', tk', y, h1, h2, fun e => absurd e h0, fun _ => rfl⟩
  | ok r =>
    obtain ⟨v, s'⟩ := r
    obtain ⟨sv', tk', h1, h2, a, m, c, h3, h4⟩ := h
    have hm : m = v.2.2.2.length := by have h := h4.sl.ilen; exact h.symm
    refine ⟨v.1, v.2.1, v.2.2.1, a, m, c, h3, s', sv', tk', 0, h1, h2, fun _ => ⟨v, rfl, rfl, rfl, rfl, hm.symm, ?_⟩, fun e => absurd rfl e⟩
    rw [hm] at h4 ⊢
    exact h4
theorem DPost.unit {K : DwS} {sv : Value} {w w' : World} {R : Except Int (Unit × St)} {e : Ending} (h : DPost K sv w R (fun e => e = .returned (.tuple #[])) (fun _ _ e _ => e = .returned (.tuple #[])) e w') : e = .returned (.tuple #[]) ∧ DU K sv w R w' fun _ _ => True := by
  cases R with
  | error y =>
    obtain ⟨h0, s', sv', tk', h1, h2, h3⟩ := h
    exact ⟨h3, s', sv', tk', y, h1, h2, fun e => absurd e h0, fun _ => rfl⟩
  | ok r =>
    obtain ⟨v, s'⟩ := r
    obtain ⟨sv', tk', h1, h2, h3⟩ := h
    exact ⟨h3, s', sv', tk', 0, h1, h2, fun _ => ⟨v, rfl, trivial⟩, fun e => absurd rfl e⟩
theorem fail_du {K : DwS} (t : DwT K) {s : St} {sv : Value} {tk : List Int} {E e : Int} {w : World} (hok : DwOk K s sv tk E w) (he : e ≠ 0) :
    Calls Try.prog 36 #[.pointer (some ⟨K.g, 0, none⟩), .int .i64 e] w fun x w' => x = .returned (.tuple #[]) ∧ DwOk K s sv tk (firstE E e) w' ∧ Mv K.g K.gt sv sv w w' :=
  (fail_any K t s sv tk E e w hok).mono fun x w' ⟨h1, h2, h3⟩ => ⟨h1, h2, Mv.of_but h3 (.inl rfl)⟩
theorem infoTa' : (Try.prog.info? 59).map (fun i => (i.size, i.bytes)) = some (4, 48) := by kernel_rfl
theorem infoTaz' : (Try.prog.info? 59).map (fun i => i.zero.map (fun z => z.cells.size)) = some (some 4) := by kernel_rfl
theorem infoSu' : (Try.prog.info? 90).map (fun i => (i.size, i.bytes)) = some (4, 80) := by kernel_rfl
theorem infoSuz' : (Try.prog.info? 90).map (fun i => i.zero.map (fun z => z.cells.size)) = some (some 4) := by kernel_rfl
theorem drop_cons_el {es : List Ent} {i : Nat} {x : Ent} (h : i < es.length) (hx : es.getD i (0, 0, 0, 0) = x) : es.drop i = x :: es.drop (i + 1) := by
  rw [← hx, List.drop_eq_getElem_cons h, getD_el h]
theorem take_succ_el {es : List Ent} {i : Nat} {x : Ent} (h : i < es.length) (hx : es.getD i (0, 0, 0, 0) = x) : es.take (i + 1) = es.take i ++ [x] := by
  rw [← hx, List.take_succ_eq_append_getElem h, getD_el h]
theorem frD_not {n i : Nat} {s : Shp} (h : shapeB n i s = true) {x : Ent} (ho : ownP s x.1 = false) (l : List Ent) : frD s s.2.1 (l ++ [x]) = frD s s.2.1 l ∧ frD s s.2.2.1 (l ++ [x]) = frD s s.2.2.1 l := by
  unfold shapeB at h
  simp only [Bool.and_eq_true] at h
  have h2 := h.2
  unfold blobB at h2
  simp only [Bool.or_eq_true, Bool.and_eq_true, decide_eq_true_eq] at h2
  unfold ownP pairP at ho
  simp at ho
  rw [frD_snoc, frD_snoc, if_neg, if_neg]
  · exact ⟨rfl, rfl⟩
  all_goals
    rintro ⟨h3, h4⟩
    have := ho.2 (by omega)
    omega
theorem sbC_sl2 (t : Int) (a1 a2 a3 : Option Addr) (n1 n2 n3 c1 c2 c3 : Nat) : ∀ u ∈ sbC (t, (.slice a1 n1 c1, .slice a2 n2 c2, .slice a3 n3 c3)), u.oneCell' = true := by
  intro u hu
  simp only [sbC, List.mem_cons, List.not_mem_nil, or_false] at hu
  rcases hu with rfl | rfl | rfl | rfl <;> rfl
theorem dvC_sl2 (a1 a2 a3 : Option Addr) (n1 n2 n3 c1 c2 c3 : Nat) : oneZ (.slice a1 n1 c1, .slice a2 n2 c2, .slice a3 n3 c3) := by
  intro u hu
  simp only [dvC, List.mem_cons, List.not_mem_nil, or_false] at hu
  rcases hu with rfl | rfl | rfl <;> rfl
theorem dir_at2 {X : Nat → Prop} {A B2 B3 f : Nat} {w : World} {vt vs vb : Value} {tags : List Tgs} {subs : List (Int × DirT f)} {blob : List Int} (ht : TagsAt X B2 w vt tags) (hs : SubsAt X B2 w f vs subs) (hb : Ck X B3 w vb 5 1 blob.length (ints .u8 blob)) (h1 : A ≤ B2) (h2 : A ≤ B3) : DirAt X A w (f + 1) (tags, subs, blob) (vt, vs, vb) := by
  obtain ⟨ds, e1, e2, _, e3⟩ := hs
  refine ⟨?_, ht.mono h1, ⟨ds, e1, e2.mono h1, fun i hi hi' => ⟨(e3 i hi hi').1, ((e3 i hi hi').2.keep (Kp.same (fun k _ _ hx e => hx (.inl e)))).mono h1⟩⟩, hb.mono h2⟩
  obtain ⟨zs, _, h5⟩ := ht.own
  obtain ⟨a1, c1, rfl⟩ := own_v' h5
  obtain ⟨a2, c2, rfl⟩ := own_v' e2.1
  obtain ⟨a3, c3, rfl⟩ := own_v' hb.1
  exact dvC_sl2 _ _ _ _ _ _ _ _ _
theorem blobS_two2 {z : List Int} {sh : Shp} {l : List Ent} {x y : Ent} {no : Int} {s : St} (h : pairE sh l = [x, y]) : blobS z sh l no s = if 0 < y.2.2.2 then
      match takeS z.length (4, no, 0, x.2.2.2, y.2.2.2) s with
      | .error e => .error e
      | .ok s' => .ok ((z.drop x.2.2.2.toNat).take y.2.2.2.toNat, s')
    else .error 6 := by
  unfold blobS
  rw [show l.filter (fun x => !linkP sh x.1 && pairP sh x.1) = [x, y] from h]
  rfl
theorem blobS_not2 {z : List Int} {sh : Shp} {l : List Ent} {no : Int} {s : St} (h : pairE sh l = []) : blobS z sh l no s = .ok ([], s) := by
  unfold blobS
  rw [show l.filter (fun x => !linkP sh x.1 && pairP sh x.1) = [] from h]
/-- a cell of the entries, as long as the walk reads -/
theorem ent_cell {K : DwS} {sv svi : Value} {C i : Nat} {w W : World} {be oe ce : Nat} {es : List Ent} (hen : Sk (Xv sv) C w.heap.size w (.slice (some ⟨be, oe, none⟩) es.length ce) 4 es.length (fl entC es)) (m : Mv K.g K.gt sv svi w W) (hC1 : K.g < C) (hC2 : K.gt < C) (hi : i < es.length) :
    be < W.heap.size ∧ ∀ j v, (entC (es.getD i (0, 0, 0, 0)))[j]? = some v → W.cell? ⟨be, oe + i * 4 + j, none⟩ = some v := by
  have h := (hen.keep (Kp.mv m hC1 hC2) (Nat.le_refl _)).sl.2
  obtain ⟨be', oe', e, hb, hf⟩ := h.elem entC_len (by decide) (0, 0, 0, 0) hi
  injection e with e
  injection e with e1 e2 _
  subst e1 e2
  exact ⟨hb, fun j v hv => hf j v hv⟩
/-- what is left of a directory: links, from an entry on; the blob -/
def tlS (z : List Int) (o : Int) (L : List Shp) (f : Nat) (shp : Shp) (no : Int) (es : List Ent) (tags : List Tgs) (subs : List (Int × DirT f)) (s : St) (l : List Ent) : Except Int (DirT (f + 1) × St) :=
  match loopS (stepD (dirS z o L f) shp) l (subs, s) with
  | .error e => .error e
  | .ok (subs, s3) =>
    match blobS z shp es no s3 with
    | .error e => .error e
    | .ok (blob, s4) => .ok ((tags, subs, blob), s4)
def PairF (s : Shp) (es : List Ent) (F G : Int) : Prop := (pairE s es = [] ∧ G = -1) ∨ ∃ x ∈ es, ∃ y ∈ es, pairE s es = [x, y] ∧ F = x.2.2.2 ∧ G = y.2.2.2
def aftS (z : List Int) (o : Int) (L : List Shp) (f : Nat) (shp : Shp) (no : Int) (es : List Ent) (RT : Except Int (List Tgs × St)) : Except Int (DirT (f + 1) × St) :=
  match RT with
  | .error e => .error e
  | .ok (tags, s2) =>
    if (es.filter (fun x => !linkP shp x.1 && pairP shp x.1)).length = 1 then .error 6 else tlS z o L f shp no es tags [] s2 es
theorem whS_aft (z : List Int) (o : Int) (L : List Shp) (f : Nat) (shp : Shp) (no : Int) (es : List Ent) (s : St) : whS z o L f shp no es s = aftS z o L f shp no es (loopS (stepT z o shp no) es ([], s)) := by
  unfold whS aftS
  cases loopS (stepT z o shp no) es ([], s) with
  | error e => rfl
  | ok r => rfl
theorem aft_pair {z : List Int} {o : Int} {L : List Shp} {f : Nat} {shp : Shp} {no : Int} {es : List Ent} {tags : List Tgs} {si : St} {R : Except Int (DirT (f + 1) × St)} {n i : Nat} (h : shapeB n i shp = true) (hr : risesE es = true) (hm : ∀ x ∈ es, 0 ≤ x.2.2.2)
    {F G : Int} (hF : F = frD shp shp.2.1 es) (hG : G = frD shp shp.2.2.1 es) (hR : aftS z o L f shp no es (.ok (tags, si)) = R) :
    ((decide (F < 0) != decide (G < 0)) = true → R = .error 6) ∧ ((decide (F < 0) != decide (G < 0)) = false → PairF shp es F G ∧ tlS z o L f shp no es tags [] si es = R) := by
  subst hF hG
  have hl := pair_law h hr hm
  simp only [aftS] at hR
  change (if (pairE shp es).length = 1 then _ else _) = R at hR
  rcases hl with ⟨e1, e2, e3⟩ | ⟨e1, e2⟩ | ⟨x, hx, y, hy, e1, e2, e3⟩
  · rw [e2, e3]
    rw [e1] at hR
    exact ⟨fun h => by simp at h, fun _ => ⟨.inl ⟨e1, rfl⟩, hR⟩⟩
  · rw [if_pos e1] at hR
    refine ⟨fun _ => hR.symm, fun h => ?_⟩
    by_cases h1 : frD shp shp.2.1 es < 0
    · have := e2.1 h1
      simp [h1, this] at h
    · have : frD shp shp.2.2.1 es < 0 := by
        by_cases h2 : frD shp shp.2.2.1 es < 0
        · exact h2
        · exact absurd (e2.2 h2) h1
      simp [h1, this] at h
  · have h1 := hm x hx
    have h2 := hm y hy
    rw [e2, e3]
    rw [e1] at hR
    refine ⟨fun h => ?_, fun _ => ⟨.inr ⟨x, hx, y, hy, e1, rfl, rfl⟩, hR⟩⟩
    rw [decide_eq_false (by omega), decide_eq_false (by omega)] at h
    simp at h
set_option maxRecDepth 30000 in
set_option maxHeartbeats 40000000 in
theorem within_any (K : DwS) (t : DwT K) (ho : K.o = 1 ∨ K.o = 2) (f : Nat)
    (IH : ∀ (p : Int) (sh : Nat) (s : St) (sv : Value) (tk : List Int) (w : World), DwOk K s sv tk 0 w → Inv K.n s → 0 ≤ p → p ≤ 4294967295 → sh < K.sn → K.sn ≤ sh + f →
      Calls Try.prog 37 #[.pointer (some ⟨K.g, 0, none⟩), .int .i64 p, .int .i64 sh] w (DirU K f sv w (dirS K.z K.o (shps K.zs) f p sh s)))
    (la : Option Addr) (ln lc : Nat) (lks : List Lk) (sat slong snx : Int) (hlk : Sl K.w0 la ln lc 2 (fl lkc lks)) (ni ii : Nat) (hshp : shapeB ni ii (lks, sat, slong, snx) = true)
    (hlks : ∀ j, j < lks.length → ∃ sh' : Nat, (lks.getD j (0, 0)).2 = sh' ∧ sh' < K.sn ∧ K.sn ≤ sh' + f)
    (es : List Ent) (hes : risesE es = true) (hmem : ∀ i, i < es.length → 0 ≤ (es.getD i (0, 0, 0, 0)).2.2.2 ∧ (es.getD i (0, 0, 0, 0)).2.2.2 ≤ 4294967295) (hnl : es.length < 65536)
    (no : Int) (s : St) (sv : Value) (tk : List Int) (w : World) (hok : DwOk K s sv tk 0 w) (hinv : Inv K.n s)
    (ae : Option Addr) (ce C : Nat) (hen : Sk (Xv sv) C w.heap.size w (.slice ae es.length ce) 4 es.length (fl entC es)) (hC1 : K.g < C) (hC2 : K.gt < C) :
    Calls Try.prog 58 #[.pointer (some ⟨K.g, 0, none⟩), .slice ae es.length ce, .int .i64 no, .agg #[.slice la ln lc, .int .i64 sat, .int .i64 slong, .int .i64 snx]] w
      (WithU K (f + 1) sv w (whS K.z K.o (shps K.zs) f (lks, sat, slong, snx) no es s)) := by
  have hn := t.n1
  have hzl := t.hs.ilen
  obtain ⟨R, hR⟩ : ∃ R, whS K.z K.o (shps K.zs) f (lks, sat, slong, snx) no es s = R := ⟨_, rfl⟩
  rw [hR]
  rw [whS_aft] at hR
  obtain ⟨A, hA⟩ : ∃ A, w.heap.size = A := ⟨_, rfl⟩
  have hgA : K.g < A := by rw [← hA]; exact hok.blk.lt
  have hgtA : K.gt < A := by rw [← hA]; exact Blk.lt (T := 3) hok.tak
  have h0A : K.w0.heap.size ≤ A := by rw [← hA]; exact hok.old.size
  obtain ⟨W, hW⟩ : ∃ W, ((w.alloc (.cells #[.slice la ln lc, .int .i64 sat, .int .i64 slong, .int .i64 snx] 35)).alloc (.cells #[.slice none 0 0, .slice none 0 0, .slice none 0 0] 48)).alloc (.cells #[.slice none 0 0, .slice none 0 0, .slice none 0 0] 48) = W := ⟨_, rfl⟩
  have bS : Blk W A 35 #[.slice la ln lc, .int .i64 sat, .int .i64 slong, .int .i64 snx] := by rw [← hW, ← hA]; exact ((Blk.new w _ _).alloc _).alloc _
  have bR : Blk W (A + 1) 48 #[.slice none 0 0, .slice none 0 0, .slice none 0 0] := by rw [← hW]; exact Blk.alloc (show Blk _ (A + 1) 48 #[.slice none 0 0, .slice none 0 0, .slice none 0 0] from heap_new' _ _ (by rw [World.size_alloc, hA])) _
  have bD : Blk W (A + 1 + 1) 48 #[.slice none 0 0, .slice none 0 0, .slice none 0 0] := by rw [← hW]; exact heap_new' _ _ (by rw [World.size_alloc, World.size_alloc, hA])
  have hbW : Below w.heap.size w W := by rw [← hW]; exact ((((Below.refl w.heap.size w).alloc (Nat.le_refl _) _).alloc (by simp) _).alloc (by simp; omega) _)
  have hszW : W.heap.size = A + 3 := by rw [← hW, ← hA]; simp
  have hsvA : ∀ k, sv.ownBlock = some k → k < A := fun k e => by rw [← hA]; exact (hok.spot.lt k e).2
  have hpq : Pq K A w sv #[.slice la ln lc, .int .i64 sat, .int .i64 slong, .int .i64 snx] s sv tk 0 (.slice none 0 0) (.slice none 0 0) (.slice none 0 0) W :=
    ⟨hok.later hbW, Mv.of_below hbW, fun k e => .inl (hsvA k e), bS, bR, bD, Nat.le_of_eq hszW.symm⟩
  have e0 : W.cell? ⟨A + 1 + 1, 0, none⟩ = some (.slice none 0 0) := bD.cell rfl
  have e1 : W.cell? ⟨A + 1 + 1, 1, none⟩ = some (.slice none 0 0) := bD.cell rfl
  have e2 : W.cell? ⟨A + 1 + 1, 2, none⟩ = some (.slice none 0 0) := bD.cell rfl
  have y0 := bD.frozen 0
  have y1 := bD.frozen 1
  have y2 := bD.frozen 2
  have hA' := Lib.hid hA
  have IH' := Lib.hid IH
  have t' := Lib.hid t
  have hok' := Lib.hid hok
  have hzl' := Lib.hid hzl
  have hR' := Lib.hid hR
  have bS' := Lib.hid bS
  have bR' := Lib.hid bR
  have bD' := Lib.hid bD
  have hbW' := Lib.hid hbW
  have hlk' := Lib.hid hlk
  have hlks' := Lib.hid hlks
  have hshp' := Lib.hid hshp
  have hes' := Lib.hid hes
  have hmem' := Lib.hid hmem
  have hen' := Lib.hid hen
  have hinv' := Lib.hid hinv
  have hpq' := Lib.hid hpq
  have hsvA' := Lib.hid hsvA
  clear IH t hok hzl hR bS bR bD hbW hlk hlks hshp hes hmem hen hinv hpq hsvA
  go_enter Try.func58, Try.ntmps58
  go_upto_region 3 with fail
  try rw [bD'.out.set3_same]
  clear e0 e1 e2 y0 y1 y2 hW hA
  obtain ⟨RT, hRT⟩ : ∃ RT, loopS (stepT K.z K.o (lks, sat, slong, snx) no) es ([], s) = RT := ⟨_, rfl⟩
  have hR1 := hR'.out
  rw [hRT] at hR1
  clear hR' bS' bR' bD' hbW'
  obtain ⟨i0, z0, hi0, hz, hz1, hz2, hz3⟩ := info_sz infoTa' infoTaz'
  obtain ⟨i1, z1, hi1, hy, hy1, hy2, hy3⟩ := info_sz infoSu' infoSuz'
  have hR1' := Lib.hid hR1
  have hRT' := Lib.hid hRT
  clear hR1 hRT
  go_wp2_with fail
  go_loopw [10, 11, 12] (fun fv lv iv wr => ∃ (i : Nat) (F G : Int) (si : St) (svi : Value) (tki : List Int) (E : Int) (vt : Value), i ≤ es.length ∧ fv = .int .i64 F ∧ lv = .int .i64 G ∧ iv = .int .i64 i ∧ Hid (Pq K A w sv #[.slice la ln lc, .int .i64 sat, .int .i64 slong, .int .i64 snx] si svi tki E vt (.slice none 0 0) (.slice none 0 0) wr) ∧ Hid (∃ a k c, vt = .slice a k c) ∧ Hid (E = 0 → Inv K.n si ∧ F = frD (lks, sat, slong, snx) sat (es.take i) ∧ G = frD (lks, sat, slong, snx) slong (es.take i) ∧ ∃ tags, loopS (stepT K.z K.o (lks, sat, slong, snx) no) (es.drop i) (tags, si) = RT ∧ TagsAt (Xv svi) (A + 3) wr vt tags ∧ tags.length ≤ i) ∧ Hid (E ≠ 0 → R = .error E)) (fun _ _ iv _ => es.length - (intOf iv).toNat)
  case atStart => exact ⟨0, -1, -1, s, sv, tk, 0, _, by omega, rfl, rfl, rfl, hpq', Lib.hid ⟨_, _, _, rfl⟩, Lib.hid (fun _ => ⟨hinv'.out, (frD_nil _ _).symm, (frD_nil _ _).symm, [], by rw [List.drop_zero]; exact hRT'.out, TagsAt.nil _ _ _, by simp⟩), Lib.hid (fun h => absurd rfl h)⟩
  case round =>
    obtain ⟨i, F, G, si, svi, tki, E, vt, hi, rfl, rfl, rfl, hpq, hvt, hgood, hbad⟩ := hrel
    have k7 : wr.cell? ⟨K.g, 7, none⟩ = some (.int .i64 E) := hpq.out.ok.blk.cell rfl
    by_cases hgo : i < es.length ∧ E = 0
    case pos =>
      obtain ⟨hlt, rfl⟩ := hgo
      obtain ⟨hinvi, hF, hG, tags, hlp, htg, htl⟩ := hgood.out rfl
      have hin : (i : Int) < es.length := by omega
      have henr := (hen'.out.keep (Kp.mv hpq.out.mv hC1 hC2) (Nat.le_refl _)).sl.2
      obtain ⟨be, oe, rfl, hbe, fe⟩ := henr.elem entC_len (by decide) (0, 0, 0, 0) hlt
      have hsl0 := hmem'.out i hlt
      obtain ⟨⟨x1, x2, x3, x4⟩, hx⟩ : ∃ x, es.getD i (0, 0, 0, 0) = x := ⟨_, rfl⟩
      have hdc := drop_cons_el hlt hx
      have htk := take_succ_el hlt hx
      rw [hx] at fe hsl0
      rw [hdc] at hlp
      have f0 := fe 0 _ rfl
      have f1 := fe 1 _ rfl
      have f2 := fe 2 _ rfl
      have f3 := fe 3 _ rfl
      simp only [Nat.add_zero] at f0 f1 f2 f3
      simp only at hsl0
      clear fe henr hx
      have hinvi' := Lib.hid hinvi
      have hF' := Lib.hid hF
      have hG' := Lib.hid hG
      have hlp' := Lib.hid hlp
      have htg' := Lib.hid htg
      have hdc' := Lib.hid hdc
      have htk' := Lib.hid htk
      clear hinvi hF hG hlp htg hdc htk
      go_upto_region 7 with fail
      have be5 := Blk.new wr 105 #[.int .i64 x1, .int .i64 x2, .int .i64 x3, .int .i64 x4]
      have hal := (Below.refl wr.heap.size wr).alloc (Nat.le_refl _) (.cells #[.int .i64 x1, .int .i64 x2, .int .i64 x3, .int .i64 x4] 105)
      have hpq5 := hpq.out.later hal
      have htg5 := htg'.out.keep (Kp.later hal)
      have hszge : A + 3 ≤ wr.heap.size := hpq.out.sz
      clear f0 f1 f2 f3 hal k7 htg'
      generalize wr.alloc (.cells #[.int .i64 x1, .int .i64 x2, .int .i64 x3, .int .i64 x4] 105) = w5 at *
      generalize wr.heap.size = ge at *
      have c0 : w5.cell? ⟨A, 0, none⟩ = some (.slice la ln lc) := hpq5.bS.cell rfl
      have c1 : w5.cell? ⟨A, 1, none⟩ = some (.int .i64 sat) := hpq5.bS.cell rfl
      have c2 : w5.cell? ⟨A, 2, none⟩ = some (.int .i64 slong) := hpq5.bS.cell rfl
      have c3 : w5.cell? ⟨A, 3, none⟩ = some (.int .i64 snx) := hpq5.bS.cell rfl
      have g0 : w5.cell? ⟨ge, 0, none⟩ = some (.int .i64 x1) := be5.cell rfl
      have HO := own_any la ln lc lks sat slong snx x1 w5 (hlk'.out.mono hpq5.ok.old)
      have hod := ownD_eq hshp'.out x1
      simp only at hod
      rw [hod] at HO
      obtain ⟨ob, hob⟩ : ∃ b, ownP (lks, sat, slong, snx) x1 = b := ⟨_, rfl⟩
      rw [hob] at HO
      clear hod
      have be5' := Lib.hid be5
      have hpq5' := Lib.hid hpq5
      have htg5' := Lib.hid htg5
      have HO' := Lib.hid HO
      have hob' := Lib.hid hob
      clear be5 hpq5 htg5 HO hob
      go_wp2_with fail
      refine HO'.out.mono ?_
      rintro e w6 ⟨rfl, hb6⟩
      have be6 := be5'.out.late hb6
      have hpq6 := hpq5'.out.later hb6
      have htg6 := htg5'.out.keep (Kp.later hb6)
      clear c0 c1 c2 c3 g0 hb6 be5' hpq5' htg5' HO' hpq hgood hbad
      have be6' := Lib.hid be6
      have hpq6' := Lib.hid hpq6
      have htg6' := Lib.hid htg6
      clear be6 hpq6 htg6
      cases ob with
      | false =>
        skip
        -- DEV{T8
        have hstep : stepT K.z K.o (lks, sat, slong, snx) no (tags, si) (x1, x2, x3, x4) = match valueS K.z K.o (x1, x2, x3, x4) no si with
            | .error e => .error e
            | .ok (v, s') => .ok (tags ++ [v], s') := by
          unfold stepT
          rw [if_neg (by rw [hob'.out]; simp)]
          rfl
        obtain ⟨zs0, hzs0, hown0⟩ := htg6'.out.own
        obtain ⟨av, cv, rfl⟩ := own_v' hown0
        have hdrewb := (Below.refl w6.heap.size w6).drew
        have HV := dvalue_any K t'.out ho si svi tki w6.drew (x1, x2, x3, x4) no (hpq6'.out.ok.later hdrewb) hsl0.1 hsl0.2 (by have := hinvi'.out.le; omega)
        unfold entV at HV
        simp only at HV
        obtain ⟨RV, hRV⟩ : ∃ RV, valueS K.z K.o (x1, x2, x3, x4) no si = RV := ⟨_, rfl⟩
        rw [hRV] at HV hstep
        have hinvV : ∀ v s', RV = .ok (v, s') → Inv K.n s' := fun v s' e => by
          have h := valueS_inv (hRV.trans e) (by rw [hzl'.out]; exact hinvi'.out)
          rw [hzl'.out] at h
          exact h
        obtain ⟨Ty2, f2, hne2, hp2, hsurj2⟩ := prop_worlds (fun W => Blk W (A + 1 + 1) 48 #[.slice av tags.length cv, .slice none 0 0, .slice none 0 0] ∧ Blk W ge 105 #[.int .i64 x1, .int .i64 x2, .int .i64 x3, .int .i64 x4]) w6 ⟨hpq6'.out.bD, be6'.out⟩
        have d0 : ∀ s, (f2 s).cell? ⟨A + 1 + 1, 0, none⟩ = some (.slice av tags.length cv) := fun s => (hp2 s).1.cell rfl
        have g0 : ∀ s, (f2 s).cell? ⟨ge, 0, none⟩ = some (.int .i64 x1) := fun s => (hp2 s).2.cell rfl
        have g1 : ∀ s, (f2 s).cell? ⟨ge, 1, none⟩ = some (.int .i64 x2) := fun s => (hp2 s).2.cell rfl
        have g2 : ∀ s, (f2 s).cell? ⟨ge, 2, none⟩ = some (.int .i64 x3) := fun s => (hp2 s).2.cell rfl
        have g3 : ∀ s, (f2 s).cell? ⟨ge, 3, none⟩ = some (.int .i64 x4) := fun s => (hp2 s).2.cell rfl
        have HS := Lib.hid (hsurj2 w6.drew ⟨hpq6'.out.bD, be6'.out⟩)
        have hpqd := hpq6'.out.later hdrewb
        have htgd := htg6'.out.keep (Kp.later hdrewb)
        have bed : Blk w6.drew ge 105 #[.int .i64 x1, .int .i64 x2, .int .i64 x3, .int .i64 x4] := be6'.out
        have hszd : w6.drew.heap.size = w6.heap.size := rfl
        have hge6 : ge < w6.heap.size := be6'.out.lt
        clear hown0 hzs0 hdrewb hRV hpq6' htg6' be6' hinvi'
        have HV' := Lib.hid HV
        have hstep' := Lib.hid hstep
        have hinvV' := Lib.hid hinvV
        have hp2' := Lib.hid hp2
        have hsurj2' := Lib.hid hsurj2
        have hpqd' := Lib.hid hpqd
        have htgd' := Lib.hid htgd
        have bed' := Lib.hid bed
        clear HV hstep hinvV hp2 hsurj2 hpqd htgd bed
        go_wp2_with fail
        refine till_begin (t := 9) (C := fun W => ∃ s, W = f2 s) (by kernel_rfl) 10 rfl ?_
        refine till_free [0, 2, 4] 7 (by kernel_rfl) (fun d _ _ _ _ h => by cases d <;> exact h) (by kernel_rfl) (by kernel_rfl) (by kernel_rfl) HS.out ?_
        simp only [pickL, List.map_cons, List.map_nil, List.getD_cons_succ, List.getD_cons_zero]
        iterate 3 (go_big_quiet_step (fail))
        refine wpQuiet_nil ?_
        refine till_take [1, 3] 5 (by kernel_rfl) (fun d _ _ _ _ h => by cases d <;> exact h) (by kernel_rfl) (by kernel_rfl) (by kernel_rfl) HS.out ?_
        simp only [pickL, List.map_cons, List.map_nil, List.getD_cons_succ, List.getD_cons_zero]
        iterate 2 (go_big_quiet_step (fail))
        refine wpQuiet_nil ?_
        clear d0 g0 g1 g2 g3
        refine till_one 5 4 (by kernel_rfl) (by kernel_rfl) ?_
        simp only [pickL, List.map_cons, List.map_nil, List.getD_cons_succ, List.getD_cons_zero]
        go_wp2_with fail
        refine HV'.out.mono ?_
        rintro e w7 hpost
        obtain ⟨t1, t2, t3, a7, m7, c7, rfl, s7, sv7, tk7, E7, hok7, hmv7, hgd7, hbd7⟩ := hpost.tag
        clear hpost
        have hpq7 := hpqd'.out.mv2 hgA hgtA hmv7 hok7
        have htg7 := htgd'.out.keep (Kp.mv hmv7 (show K.g < A + 3 by omega) (show K.gt < A + 3 by omega))
        have be7 := bed'.out.mv hmv7 (show ge ≠ K.g by omega) (show ge ≠ K.gt by omega) (fun e => own_ne_blk hpqd'.out.ok.spot bed'.out (by decide) e)
        have hgood7 : E7 = 0 → ∃ v : Tgs, v.1 = t1 ∧ v.2.1 = t2 ∧ v.2.2.1 = t3 ∧ v.2.2.2.length = m7 ∧ Ck (Xv sv7) (A + 3) w7 (.slice a7 m7 c7) 5 1 m7 (ints .u8 v.2.2.2) ∧ Inv K.n s7 ∧ loopS (stepT K.z K.o (lks, sat, slong, snx) no) (es.drop (i + 1)) (tags ++ [v], s7) = RT := fun h => by
          obtain ⟨v, e1, e2, e3, e4, e5, e6⟩ := hgd7 h
          refine ⟨v, e2, e3, e4, e5, e6.mono (by show A + 3 ≤ w6.heap.size; omega), hinvV'.out _ _ e1, ?_⟩
          have h2 := hstep'.out
          rw [e1] at h2
          rw [← hlp'.out, loopS_cons_ok h2]
        have hbad7 : E7 ≠ 0 → R = .error E7 := fun h => by
          have h2 := hstep'.out
          rw [hbd7 h] at h2
          have h3 := hlp'.out
          rw [loopS_cons_err h2] at h3
          rw [← hR1'.out, ← h3]
          rfl
        have hsv76 : ∀ k, sv7.ownBlock = some k → k < w7.heap.size := fun k e => (hok7.spot.lt k e).2
        have HS := Lib.hid (hsurj2'.out w7 ⟨hpq7.bD, be7⟩)
        have hsz7 := hpq7.sz
        clear hmv7 hok7 hgd7 hbd7 HV' hstep' hinvV' hpqd' htgd' bed'
        have hpq7' := Lib.hid hpq7
        have htg7' := Lib.hid htg7
        have be7' := Lib.hid be7
        have hgood7' := Lib.hid hgood7
        have hbad7' := Lib.hid hbad7
        have hsv76' := Lib.hid hsv76
        clear hpq7 htg7 be7 hgood7 hbad7 hsv76
        go_wp2_with fail
        first | refine Mid.mk ⟨fun _ => HS.out, ?_⟩ | refine Mid.mk ?_
        refine till_one 6 3 (by kernel_rfl) (by kernel_rfl) ?_
        simp only [pickL, List.map_cons, List.map_nil, List.getD_cons_succ, List.getD_cons_zero]
        go_wp2_with fail
        have hal := (Below.refl w7.heap.size w7).alloc (Nat.le_refl _) (.cells #[.int .i64 t1, .int .i64 t2, .int .i64 t3, .slice a7 m7 c7] 59)
        have hpq8 := hpq7'.out.later hal
        have be8 := be7'.out.late hal
        have htg8 := htg7'.out.keep (Kp.later hal)
        have hgood8 : E7 = 0 → ∃ v : Tgs, v.1 = t1 ∧ v.2.1 = t2 ∧ v.2.2.1 = t3 ∧ v.2.2.2.length = m7 ∧ Ck (Xv sv7) (A + 3) (w7.alloc (.cells #[.int .i64 t1, .int .i64 t2, .int .i64 t3, .slice a7 m7 c7] 59)) (.slice a7 m7 c7) 5 1 m7 (ints .u8 v.2.2.2) ∧ Inv K.n s7 ∧ loopS (stepT K.z K.o (lks, sat, slong, snx) no) (es.drop (i + 1)) (tags ++ [v], s7) = RT := fun h => by
          obtain ⟨v, e2, e3, e4, e5, e6, e7⟩ := hgood7'.out h
          exact ⟨v, e2, e3, e4, e5, e6.keep (Kp.later hal), e7⟩
        have hnew : Sl (w7.alloc (.cells #[.int .i64 t1, .int .i64 t2, .int .i64 t3, .slice a7 m7 c7] 59)) (some ⟨w7.heap.size, 0, none⟩) 1 1 4 (tzc ((t1, t2, t3, a7, m7, c7), [])) := Sl.new w7 59 4 1 #[.int .i64 t1, .int .i64 t2, .int .i64 t3, .slice a7 m7 c7] (0, 0) (by omega) rfl
        obtain ⟨w8, hw8⟩ : ∃ w8, w7.alloc (.cells #[.int .i64 t1, .int .i64 t2, .int .i64 t3, .slice a7 m7 c7] 59) = w8 := ⟨_, rfl⟩
        rw [hw8] at hpq8 be8 htg8 hnew hgood8
        rw [hw8]
        obtain ⟨gn, hgn⟩ : ∃ gn, w7.heap.size = gn := ⟨_, rfl⟩
        rw [hgn] at hnew
        rw [hgn]
        have HS := Lib.hid (hsurj2'.out w8 ⟨hpq8.bD, be8⟩)
        obtain ⟨zs, hzs, hown⟩ := htg8.own
        have hB8 := hpq8.sz
        have hsv8 : ∀ k, sv7.ownBlock = some k → k < w8.heap.size := fun k e => (hpq8.ok.spot.lt k e).2
        clear hal hw8 hgn hpq7' be7' htg7' hgood7' hsv76'
        have hpq8' := Lib.hid hpq8
        have be8' := Lib.hid be8
        have htg8' := Lib.hid htg8
        have hnew' := Lib.hid hnew
        have hown' := Lib.hid hown
        have hzs' := Lib.hid hzs
        have hgood8' := Lib.hid hgood8
        have hsv8' := Lib.hid hsv8
        clear hpq8 be8 htg8 hnew hown hzs hgood8 hsv8
        first | refine Mid.mk ⟨fun _ => HS.out, ?_⟩ | refine Mid.mk ?_
        refine till_one 7 2 (by kernel_rfl) (by kernel_rfl) ?_
        simp only [pickL, List.map_cons, List.map_nil, List.getD_cons_succ, List.getD_cons_zero]
        go_wp2_with (at_builtin; refine wpList_app2 rfl _ _ 45 rfl (A + 3) 59 i0 z0 4 48 Try.underlying45 hi0 hz hz1 hz2 hz3 (by decide) (.slice av tags.length cv) tags.length _ rfl hown'.out ⟨gn, 0, none⟩ 1 1 (tzc ((t1, t2, t3, a7, m7, c7), [])) rfl hnew'.out (tzc_one _) (by omega) (by decide) hB8 ?_; intro a9 c9 w9 ob hg9 ho9; have Ob := Lib.hid ob; have Hg9 := Lib.hid hg9; have Ho9 := Lib.hid ho9; clear ob hg9 ho9)
        have hvtX : ∀ k, (Value.slice av tags.length cv).ownBlock = some k → ¬ Xv sv7 k := by
          obtain ⟨_, _, h2, _⟩ := htg8'.out
          exact h2.2
        have hgtd : (Value.slice av tags.length cv).ownBlock ≠ some (A + 1 + 1) := own_ne_blk hown'.out hpq8'.out.bD (by decide)
        have hgte : (Value.slice av tags.length cv).ownBlock ≠ some ge := own_ne_blk hown'.out be8'.out (by decide)
        have bD9 := hpq8'.out.bD.grown Hg9.out hgtd
        have be9 := be8'.out.grown Hg9.out hgte
        have hX9 : ∀ k, (Value.slice a9 (tags.length + 1) c9).ownBlock = some k → ¬ Xv sv7 k := fun k e h => by
          rcases Ho9.out k e with h1 | h1
          · exact hvtX k h1 h
          · have := hsv8'.out k h; omega
        have HS := Lib.hid (hsurj2'.out w9 ⟨bD9, be9⟩)
        have p0 : w9.cell? ⟨A + 1 + 1, 0, none⟩ = some (.slice av tags.length cv) := bD9.cell rfl
        have y0 := bD9.frozen 0
        have hbt := (But.refl (A + 1 + 1) w9).set 0 (.slice a9 (tags.length + 1) c9)
        have hpq10 := hpq8'.out.app hgA hgtA h0A hA'.out Hg9.out (fun r e => ⟨(hown'.out.lt r e).1, fun h => hvtX r e h⟩) hbt (bD9.set 0 (.slice a9 (tags.length + 1) c9))
        have hgood10 : E7 = 0 → Inv K.n s7 ∧ ∃ v : Tgs, loopS (stepT K.z K.o (lks, sat, slong, snx) no) (es.drop (i + 1)) (tags ++ [v], s7) = RT ∧ TagsAt (Xv sv7) (A + 3) (w9.setCell ⟨A + 1 + 1, 0, none⟩ (.slice a9 (tags.length + 1) c9)) (.slice a9 (tags.length + 1) c9) (tags ++ [v]) := fun h => by
          obtain ⟨v, e2, e3, e4, e5, e6, e7, e8⟩ := hgood8'.out h
          refine ⟨e7, v, e8, ?_⟩
          have hz : tagz (((t1, t2, t3, a7, m7, c7), v.2.2.2) : Tz) = v := by subst e2 e3 e4; rfl
          have h9 := htg8'.out.snoc (v' := .slice a9 (tags.length + 1) c9) (t := v) (z := ((t1, t2, t3, a7, m7, c7), v.2.2.2)) hz Hg9.out hX9 (fun zs2 h2 => by rw [own_inj h2 hown'.out]; exact Ob.out) (by simp only [tzd]; rw [e5]; exact e6)
          exact h9.keep (kp_but hbt (by omega))
        clear hvtX hgtd hgte hX9 be9 bD9
        have hpq10' := Lib.hid hpq10
        have hgood10' := Lib.hid hgood10
        have hbt' := Lib.hid hbt
        clear hpq10 hgood10 hbt
        first | refine Mid.mk ⟨fun _ => HS.out, ?_⟩ | refine Mid.mk ?_
        refine till_free [8] 1 (by kernel_rfl) (fun d _ _ _ _ h => by cases d <;> exact h) (by kernel_rfl) (by kernel_rfl) (by kernel_rfl) HS.out ?_
        simp only [pickL, List.map_cons, List.map_nil, List.getD_cons_succ, List.getD_cons_zero]
        iterate 1 (go_big_quiet_step (fail))
        refine wpQuiet_nil ?_
        refine till_one 9 0 (by kernel_rfl) (by kernel_rfl) ?_
        simp only [pickL, List.map_cons, List.map_nil, List.getD_cons_succ, List.getD_cons_zero]
        go_wp2_with fail
        first | refine Mid.mk ⟨fun h => (by simp [segL] at h), ?_⟩ | refine Mid.mk ?_
        refine till_last (by kernel_rfl) ?_
        clear p0 y0
        go_wp2_with fail
        go_roundw
        case rel =>
          have hnf := frD_not hshp'.out (x := (x1, x2, x3, x4)) hob'.out (es.take i)
          rw [← htk'.out] at hnf
          exact ⟨i + 1, F, G, s7, sv7, tk7, E7, .slice a9 (tags.length + 1) c9, by omega, rfl, rfl, by go_num, hpq10', Lib.hid ⟨_, _, _, rfl⟩, Lib.hid (fun h => by
            obtain ⟨e1, v, e2, e3⟩ := hgood10'.out h
            exact ⟨e1, hF'.out.trans hnf.1.symm, hG'.out.trans hnf.2.symm, _, e2, e3, by simp; omega⟩), hbad7'⟩
        case measure => simp [intOf]; omega
        -- }DEV
      | true =>
        skip
        -- DEV{T9
        have hstep : stepT K.z K.o (lks, sat, slong, snx) no (tags, si) (x1, x2, x3, x4) = if x2 = 4 ∧ x3 = 1 then .ok (tags, si) else .error 6 := by
          unfold stepT
          rw [if_pos hob'.out]
        have g1 : w6.cell? ⟨ge, 1, none⟩ = some (.int .i64 x2) := be6'.out.cell rfl
        have g2 : w6.cell? ⟨ge, 2, none⟩ = some (.int .i64 x3) := be6'.out.cell rfl
        by_cases hx2 : x2 = 4
        · have d1 : (x2 != 4) = false := by simp [hx2]
          by_cases hx3 : x3 = 1
          · have d2 : (x3 != 1) = false := by simp [hx3]
            rw [if_pos ⟨hx2, hx3⟩] at hstep
            have hgood9 : loopS (stepT K.z K.o (lks, sat, slong, snx) no) (es.drop (i + 1)) (tags, si) = RT := by rw [← hlp'.out, loopS_cons_ok hstep]
            have hpq9' := hpq6'
            have be9' := be6'
            have htg9' := htg6'
            clear hx2 hx3 hstep hpq6' be6' htg6'
            have hgood9' := Lib.hid hgood9
            clear hgood9
            have c1 : w6.cell? ⟨A, 1, none⟩ = some (.int .i64 sat) := hpq9'.out.bS.cell rfl
            have c2 : w6.cell? ⟨A, 2, none⟩ = some (.int .i64 slong) := hpq9'.out.bS.cell rfl
            have g0 : w6.cell? ⟨ge, 0, none⟩ = some (.int .i64 x1) := be9'.out.cell rfl
            have g3 : w6.cell? ⟨ge, 3, none⟩ = some (.int .i64 x4) := be9'.out.cell rfl
            obtain ⟨q1, hq1⟩ : ∃ q, (sat != 0) = q := ⟨_, rfl⟩
            obtain ⟨q2, hq2⟩ : ∃ q, (x1 == sat) = q := ⟨_, rfl⟩
            obtain ⟨q3, hq3⟩ : ∃ q, (x1 == slong) = q := ⟨_, rfl⟩
            have hFn : frD (lks, sat, slong, snx) sat (es.take (i + 1)) = if (q1 && q2) = true then x4 else F := by
              rw [htk'.out, frD_snoc, ← hq1, ← hq2, hF'.out]; simp
            have hGn : frD (lks, sat, slong, snx) slong (es.take (i + 1)) = if (q1 && q3) = true then x4 else G := by
              rw [htk'.out, frD_snoc, ← hq1, ← hq3, hG'.out]; simp
            have hFn' := Lib.hid hFn
            have hGn' := Lib.hid hGn
            clear hFn hGn
            cases q1 <;> cases q2 <;> cases q3
            all_goals
              go_wp2_with fail
              go_roundw
              case rel => exact ⟨i + 1, _, _, si, svi, tki, 0, vt, by omega, rfl, rfl, by go_num, hpq9', hvt, Lib.hid (fun h => ⟨hinvi'.out, hFn'.out.symm, hGn'.out.symm, tags, (fun _ => hgood9'.out) h, htg9'.out, by omega⟩), Lib.hid (fun h => absurd rfl h)⟩
              case measure => simp [intOf]; omega
          · have d2 : (x3 != 1) = true := by simp [hx3]
            rw [if_neg (fun h => hx3 h.2)] at hstep
            clear hx2 hx3
            have hstep' := Lib.hid hstep
            clear hstep
            go_wp2_with fail
            refine (fail_du t'.out hpq6'.out.ok (by decide)).mono ?_
            rintro e w9 ⟨rfl, hok9, hmv9⟩
            replace hok9 : DwOk K si svi tki 6 w9 := hok9
            have hpq9 := hpq6'.out.mv2 hgA hgtA hmv9 hok9
            have htg9 := htg6'.out.keep (Kp.mv hmv9 (show K.g < A + 3 by omega) (show K.gt < A + 3 by omega))
            have be9 := be6'.out.mv hmv9 (show ge ≠ K.g by omega) (show ge ≠ K.gt by omega) (fun e => own_ne_blk hpq6'.out.ok.spot be6'.out (by decide) e)
            have hbad9 : R = .error 6 := by
              have h3 := hlp'.out
              rw [loopS_cons_err hstep'.out] at h3
              rw [← hR1'.out, ← h3]
              rfl
            clear hok9 hmv9 g1 g2 hstep'
            have hpq9' := Lib.hid hpq9
            have htg9' := Lib.hid htg9
            have be9' := Lib.hid be9
            have hbad9' := Lib.hid hbad9
            clear hpq9 htg9 be9 hbad9
            have c1 : w9.cell? ⟨A, 1, none⟩ = some (.int .i64 sat) := hpq9'.out.bS.cell rfl
            have c2 : w9.cell? ⟨A, 2, none⟩ = some (.int .i64 slong) := hpq9'.out.bS.cell rfl
            have g0 : w9.cell? ⟨ge, 0, none⟩ = some (.int .i64 x1) := be9'.out.cell rfl
            have g3 : w9.cell? ⟨ge, 3, none⟩ = some (.int .i64 x4) := be9'.out.cell rfl
            obtain ⟨q1, hq1⟩ : ∃ q, (sat != 0) = q := ⟨_, rfl⟩
            obtain ⟨q2, hq2⟩ : ∃ q, (x1 == sat) = q := ⟨_, rfl⟩
            obtain ⟨q3, hq3⟩ : ∃ q, (x1 == slong) = q := ⟨_, rfl⟩
            have hFn : frD (lks, sat, slong, snx) sat (es.take (i + 1)) = if (q1 && q2) = true then x4 else F := by
              rw [htk'.out, frD_snoc, ← hq1, ← hq2, hF'.out]; simp
            have hGn : frD (lks, sat, slong, snx) slong (es.take (i + 1)) = if (q1 && q3) = true then x4 else G := by
              rw [htk'.out, frD_snoc, ← hq1, ← hq3, hG'.out]; simp
            have hFn' := Lib.hid hFn
            have hGn' := Lib.hid hGn
            clear hFn hGn
            cases q1 <;> cases q2 <;> cases q3
            all_goals
              go_wp2_with fail
              go_roundw
              case rel => exact ⟨i + 1, _, _, si, svi, tki, 6, vt, by omega, rfl, rfl, by go_num, hpq9', hvt, Lib.hid (fun h => ⟨hinvi'.out, hFn'.out.symm, hGn'.out.symm, tags, (fun h => absurd h (by decide)) h, htg9'.out, by omega⟩), Lib.hid (fun _ => hbad9'.out)⟩
              case measure => simp [intOf]; omega
        · have d1 : (x2 != 4) = true := by simp [hx2]
          rw [if_neg (fun h => hx2 h.1)] at hstep
          clear hx2
          have hstep' := Lib.hid hstep
          clear hstep
          go_wp2_with fail
          refine (fail_du t'.out hpq6'.out.ok (by decide)).mono ?_
          rintro e w9 ⟨rfl, hok9, hmv9⟩
          replace hok9 : DwOk K si svi tki 6 w9 := hok9
          have hpq9 := hpq6'.out.mv2 hgA hgtA hmv9 hok9
          have htg9 := htg6'.out.keep (Kp.mv hmv9 (show K.g < A + 3 by omega) (show K.gt < A + 3 by omega))
          have be9 := be6'.out.mv hmv9 (show ge ≠ K.g by omega) (show ge ≠ K.gt by omega) (fun e => own_ne_blk hpq6'.out.ok.spot be6'.out (by decide) e)
          have hbad9 : R = .error 6 := by
            have h3 := hlp'.out
            rw [loopS_cons_err hstep'.out] at h3
            rw [← hR1'.out, ← h3]
            rfl
          clear hok9 hmv9 g1 g2 hstep'
          have hpq9' := Lib.hid hpq9
          have htg9' := Lib.hid htg9
          have be9' := Lib.hid be9
          have hbad9' := Lib.hid hbad9
          clear hpq9 htg9 be9 hbad9
          have c1 : w9.cell? ⟨A, 1, none⟩ = some (.int .i64 sat) := hpq9'.out.bS.cell rfl
          have c2 : w9.cell? ⟨A, 2, none⟩ = some (.int .i64 slong) := hpq9'.out.bS.cell rfl
          have g0 : w9.cell? ⟨ge, 0, none⟩ = some (.int .i64 x1) := be9'.out.cell rfl
          have g3 : w9.cell? ⟨ge, 3, none⟩ = some (.int .i64 x4) := be9'.out.cell rfl
          obtain ⟨q1, hq1⟩ : ∃ q, (sat != 0) = q := ⟨_, rfl⟩
          obtain ⟨q2, hq2⟩ : ∃ q, (x1 == sat) = q := ⟨_, rfl⟩
          obtain ⟨q3, hq3⟩ : ∃ q, (x1 == slong) = q := ⟨_, rfl⟩
          have hFn : frD (lks, sat, slong, snx) sat (es.take (i + 1)) = if (q1 && q2) = true then x4 else F := by
            rw [htk'.out, frD_snoc, ← hq1, ← hq2, hF'.out]; simp
          have hGn : frD (lks, sat, slong, snx) slong (es.take (i + 1)) = if (q1 && q3) = true then x4 else G := by
            rw [htk'.out, frD_snoc, ← hq1, ← hq3, hG'.out]; simp
          have hFn' := Lib.hid hFn
          have hGn' := Lib.hid hGn
          clear hFn hGn
          cases q1 <;> cases q2 <;> cases q3
          all_goals
            go_wp2_with fail
            go_roundw
            case rel => exact ⟨i + 1, _, _, si, svi, tki, 6, vt, by omega, rfl, rfl, by go_num, hpq9', hvt, Lib.hid (fun h => ⟨hinvi'.out, hFn'.out.symm, hGn'.out.symm, tags, (fun h => absurd h (by decide)) h, htg9'.out, by omega⟩), Lib.hid (fun _ => hbad9'.out)⟩
            case measure => simp [intOf]; omega
        -- }DEV
    case neg =>
      have hE : E = 0 → i = es.length := by omega
      have hE' := Lib.hid hE
      clear hE
      go_upto_region 4 with fail
      go_cut [29] from 19 to 83 (fun v wx => v = .bool false ∧ wr = wx)
      case first =>
        by_cases hlt : i < es.length
        · have hin : (i : Int) < es.length := by omega
          have dE : (E == 0) = false := by simp; omega
          clear hgo
          go_wp2_with fail
          go_meet
          exact ⟨rfl, rfl⟩
        · obtain rfl : i = es.length := by omega
          clear hgo
          go_wp2_with fail
          go_meet
          exact ⟨rfl, rfl⟩
      case rest =>
      obtain ⟨rfl, rfl⟩ := hcut
      clear k7 hgo
      obtain ⟨p1, hp1⟩ : ∃ p, decide (F < 0) = p := ⟨_, rfl⟩
      obtain ⟨p2, hp2⟩ : ∃ p, decide (G < 0) = p := ⟨_, rfl⟩
      go_upto_region 15 with fail
      go_cut [88] from 84 (fun v wx => v = .bool (p1 != p2) ∧ wr = wx)
      case first =>
        cases p1 <;> cases p2
        all_goals
          go_wp2_with fail
          go_meet
          exact ⟨rfl, rfl⟩
      case rest =>
      obtain ⟨rfl, rfl⟩ := hcut
      have hgd : E = 0 → Inv K.n si ∧ ∃ tags, TagsAt (Xv svi) (A + 3) wr vt tags ∧ ((decide (F < 0) != decide (G < 0)) = true → R = .error 6) ∧ ((decide (F < 0) != decide (G < 0)) = false → PairF (lks, sat, slong, snx) es F G ∧ tlS K.z K.o (shps K.zs) f (lks, sat, slong, snx) no es tags [] si es = R) := fun h => by
        obtain ⟨e1, e2, e3, tags, e4, e5, _⟩ := hgood.out h
        have hi2 := hE'.out h
        rw [hi2, List.take_length] at e2 e3
        rw [hi2, List.drop_length] at e4
        simp only [loopS] at e4
        have h1 := hR1'.out
        rw [← e4] at h1
        have hm : ∀ x ∈ es, 0 ≤ x.2.2.2 := fun x hx => by
          obtain ⟨k, hk, rfl⟩ := List.getElem_of_mem hx
          rw [← getD_el (d := (0, 0, 0, 0)) hk]
          exact (hmem'.out k hk).1
        exact ⟨e1, tags, e5, aft_pair hshp'.out hes'.out hm e2 e3 h1⟩
      rw [hp1, hp2] at hgd
      obtain ⟨pp, hpp⟩ : ∃ b, (p1 != p2) = b := ⟨_, rfl⟩
      rw [hpp] at hgd
      rw [hpp]
      clear hgood hp1 hp2 hE' hpp
      have hgd' := Lib.hid hgd
      clear hgd
      go_upto_if 88 with fail
      go_cut [] from 89 (fun wx => ∃ E', Hid (Pq K A w sv #[.slice la ln lc, .int .i64 sat, .int .i64 slong, .int .i64 snx] si svi tki E' vt (.slice none 0 0) (.slice none 0 0) wx) ∧ Hid (E' = 0 → Inv K.n si ∧ PairF (lks, sat, slong, snx) es F G ∧ ∃ tags, TagsAt (Xv svi) (A + 3) wx vt tags ∧ tlS K.z K.o (shps K.zs) f (lks, sat, slong, snx) no es tags [] si es = R) ∧ Hid (E' ≠ 0 → R = .error E'))
      case first =>
        cases pp
        · go_wp2_with fail
          go_meet
          exact ⟨E, hpq, Lib.hid (fun h => by
            obtain ⟨e1, tags, e2, e3, e4⟩ := hgd'.out h
            exact ⟨e1, (e4 (by simp)).1, tags, e2, (e4 (by simp)).2⟩), hbad⟩
        · go_wp2_with fail
          refine (fail_du t'.out hpq.out.ok (by decide)).mono ?_
          rintro e w9 ⟨rfl, hok9, hmv9⟩
          have hpq9 := hpq.out.mv2 hgA hgtA hmv9 hok9
          have hne9 : firstE E 6 ≠ 0 ∧ R = .error (firstE E 6) := by
            unfold firstE
            split
            · rename_i h
              obtain ⟨e1, tags, e2, e3, e4⟩ := hgd'.out h
              exact ⟨by decide, e3 (by simp)⟩
            · rename_i h
              exact ⟨h, hbad.out h⟩
          clear hok9 hmv9
          have hpq9' := Lib.hid hpq9
          have hne9' := Lib.hid hne9
          clear hpq9 hne9
          go_wp2_with fail
          go_meet
          exact ⟨firstE E 6, hpq9', Lib.hid (fun h => absurd h hne9'.out.1), Lib.hid (fun _ => hne9'.out.2)⟩
      case rest =>
      obtain ⟨E1, hpq1, hgd1, hbd1⟩ := hcut
      clear hpq hbad hgd'
      rename World => wL
      go_wp2_with fail
      go_loopw [14] (fun iv wr => ∃ (i : Nat) (si : St) (svi : Value) (tki : List Int) (E : Int) (vs : Value), i ≤ es.length ∧ iv = .int .i64 i ∧ Hid (Pq K A w sv #[.slice la ln lc, .int .i64 sat, .int .i64 slong, .int .i64 snx] si svi tki E vt vs (.slice none 0 0) wr) ∧ Hid (∃ a k c, vs = .slice a k c) ∧ Hid (E = 0 → Inv K.n si ∧ PairF (lks, sat, slong, snx) es F G ∧ ∃ tags subs, TagsAt (Xv svi) (A + 3) wr vt tags ∧ SubsAt (Xv svi) (A + 3) wr f vs subs ∧ tlS K.z K.o (shps K.zs) f (lks, sat, slong, snx) no es tags subs si (es.drop i) = R ∧ subs.length ≤ i) ∧ Hid (E ≠ 0 → R = .error E)) (fun iv _ => es.length - (intOf iv).toNat)
      case atStart => exact ⟨0, si, svi, tki, E1, _, by omega, rfl, hpq1, Lib.hid ⟨_, _, _, rfl⟩, Lib.hid (fun h => by
        obtain ⟨e1, e2, tags, e3, e4⟩ := hgd1.out h
        exact ⟨e1, e2, tags, [], e3, ⟨[], rfl, ⟨own_nil _ _ _ _, fun k e => by cases e⟩, (fun d hd => by cases hd), fun i hi => by cases hi⟩, by rw [List.drop_zero]; exact e4, by simp⟩), hbd1⟩
      case round =>
        clear hpq1 hgd1 hbd1
        obtain ⟨i, si, svi, tki, E, vs, hi, rfl, hpq, hvs, hgood, hbad⟩ := hrel
        have k7 : wr.cell? ⟨K.g, 7, none⟩ = some (.int .i64 E) := hpq.out.ok.blk.cell rfl
        by_cases hgo : i < es.length ∧ E = 0
        case pos =>
          skip
          -- DEV{RND
          obtain ⟨hlt, rfl⟩ := hgo
          obtain ⟨hinvi, hPF, tags, subs, htg, hsu, htl, hsl⟩ := hgood.out rfl
          have hin : (i : Int) < es.length := by omega
          have henr := (hen'.out.keep (Kp.mv hpq.out.mv hC1 hC2) (Nat.le_refl _)).sl.2
          obtain ⟨be, oe, rfl, _, _⟩ := henr.elem entC_len (by decide) (0, 0, 0, 0) hlt
          obtain ⟨hbe, fe⟩ := ent_cell hen'.out hpq.out.mv hC1 hC2 hlt
          have hsl0 := hmem'.out i hlt
          obtain ⟨⟨x1, x2, x3, x4⟩, hx⟩ : ∃ x, es.getD i (0, 0, 0, 0) = x := ⟨_, rfl⟩
          have hdc := drop_cons_el hlt hx
          rw [hx] at fe hsl0
          rw [hdc] at htl
          have f0 := fe 0 _ rfl
          simp only [Nat.add_zero] at f0
          simp only at hsl0
          obtain ⟨as_, cs, rfl⟩ : ∃ a c, vs = .slice a subs.length c := by
            obtain ⟨dsz, hds1, hds2, _, _⟩ := hsu
            rw [hds1] at hds2
            exact own_v' hds2.1
          obtain ⟨Ty, ff, hne, hbel, hsurj⟩ := later_worlds wr
          have q0 : ∀ s, (ff s).cell? ⟨be, oe + i * 4, none⟩ = some (.int .i64 x1) := fun s => late (hbel s) hbe f0
          have r0 : ∀ s, (ff s).cell? ⟨A, 0, none⟩ = some (.slice la ln lc) := fun s => (Blk.late hpq.out.bS (hbel s)).cell rfl
          have r1 : ∀ s, (ff s).cell? ⟨A, 1, none⟩ = some (.int .i64 sat) := fun s => (Blk.late hpq.out.bS (hbel s)).cell rfl
          have r2 : ∀ s, (ff s).cell? ⟨A, 2, none⟩ = some (.int .i64 slong) := fun s => (Blk.late hpq.out.bS (hbel s)).cell rfl
          have r3 : ∀ s, (ff s).cell? ⟨A, 3, none⟩ = some (.int .i64 snx) := fun s => (Blk.late hpq.out.bS (hbel s)).cell rfl
          have HS := Lib.hid (hsurj _ ((Below.refl _ _).drew))
          have HLk := Lib.hid (fun s => link_any la ln lc lks sat slong snx x1 (ff s) (hlk'.out.mono (hpq.out.ok.old.trans ((hbel s).mono hpq.out.ok.old.size))))
          obtain ⟨kv, hkv⟩ : ∃ k, fst (fun (y : Lk) => y.1 == x1) lks = k := ⟨_, rfl⟩
          rw [hkv] at HLk
          clear fe f0 henr hgood hbad
          have hinvi' := Lib.hid hinvi
          have hPF' := Lib.hid hPF
          have htg' := Lib.hid htg
          have htl' := Lib.hid htl
          have hdc' := Lib.hid hdc
          have hx' := Lib.hid hx
          have hkv' := Lib.hid hkv
          have hbel' := Lib.hid hbel
          have hsurj' := Lib.hid hsurj
          clear hinvi hPF htg htl hdc hx hkv hbel hsurj
          go_upto_region 20 with fail
          refine wp_quiet_in ff (by kernel_rfl) (by kernel_rfl) HS.out ?_
          iterate 8 (go_big_quiet_step ((go_at_call 74; refine (HLk.out _).mono ?_; rintro e w3 ⟨rfl, hb3⟩; exact ⟨rfl, hsurj'.out _ ((hbel'.out _).trans (hb3.mono (hbel'.out _).size))⟩)))
          refine wpQuiet_nil ?_
          intro sW
          have hbW := hbel'.out sW
          generalize ff sW = w6 at *
          have hpq6 := hpq.out.later hbW
          have htg6 := htg'.out.keep (Kp.later hbW)
          have hsu6 := hsu.keep (Kp.later hbW)
          clear q0 r0 r1 r2 r3 HS HLk hbel' hsurj' k7 hpq htg' hsu hbW
          have hfa : decide (0 ≤ kv) = linkP (lks, sat, slong, snx) x1 := by
            have h1 : decide (0 ≤ fst (fun (y : Lk) => y.1 == x1) lks) = lks.any (fun y => y.1 == x1) := fst_any
            rw [hkv'.out] at h1
            exact h1
          by_cases hlb : linkP (lks, sat, slong, snx) x1 = true
          case neg =>
            have hk : ¬ 0 ≤ kv := fun h => hlb (by rw [← hfa]; exact decide_eq_true h)
            have dk : decide (kv < 0) = true := by simp; omega
            have htl2 : tlS K.z K.o (shps K.zs) f (lks, sat, slong, snx) no es tags subs si (es.drop (i + 1)) = R := by
              have h := htl'.out
              unfold tlS at h ⊢
              rw [loopS_cons_ok (show stepD _ _ (subs, si) (x1, x2, x3, x4) = .ok (subs, si) from by unfold stepD; rw [if_neg hlb])] at h
              exact h
            clear hk hlb hfa
            have hpq6' := Lib.hid hpq6
            have htg6' := Lib.hid htg6
            have hsu6' := Lib.hid hsu6
            have htl2' := Lib.hid htl2
            clear hpq6 htg6 hsu6 htl2
            go_wp2_with fail
            go_roundw
            case rel => exact ⟨i + 1, si, svi, tki, 0, .slice as_ subs.length cs, by omega, by go_num, hpq6', Lib.hid ⟨_, _, _, rfl⟩, Lib.hid (fun _ => ⟨hinvi'.out, hPF'.out, tags, subs, htg6'.out, hsu6'.out, htl2'.out, by omega⟩), Lib.hid (fun h => absurd rfl h)⟩
            case measure => simp [intOf]; omega
          case pos =>
            have hfp : 0 ≤ kv := by rw [hlb] at hfa; exact of_decide_eq_true hfa
            obtain ⟨kk, rfl⟩ : ∃ kk : Nat, kv = kk := ⟨kv.toNat, by omega⟩
            have hfl : kk < lks.length := by
              have h := hkv'.out
              unfold fst at h
              cases h3 : lks.findIdx? (fun (y : Lk) => y.1 == x1) with
              | none =>
                rw [h3] at h
                have h4 : (-1 : Int) = kk := h
                omega
              | some j =>
                rw [h3] at h
                obtain ⟨hj, _⟩ := List.findIdx?_eq_some_iff_getElem.1 h3
                have h4 : (j : Int) = kk := h
                omega
            have hlnl := hlk'.out.flen lkc_len (by decide)
            have hkl : kk < ln := by omega
            obtain ⟨sh', hsh', hshn', hshf'⟩ := hlks'.out kk hfl
            obtain ⟨bl, ol, hlae, hbl, fl0⟩ := hlk'.out.elem lkc_len (by decide) (0, 0) hkl
            have fl1 := fl0 1 _ rfl
            rw [hsh'] at fl1
            have hkli : (kk : Int) < ln := by omega
            have dk : decide ((kk : Int) < 0) = false := by simp
            have hstep : stepD (dirS K.z K.o (shps K.zs) f) (lks, sat, slong, snx) (subs, si) (x1, x2, x3, x4) = match dirS K.z K.o (shps K.zs) f x4 (sh' : Int) si with
                | .error e => .error e
                | .ok ((d, next), s') => if next = 0 then .ok (subs ++ [(x1, d)], s') else .error 2 := by
              unfold stepD
              rw [if_pos hlb]
              have e : (lks.getD (fst (fun (y : Lk) => y.1 == x1) lks).toNat (0, 0)).2 = (sh' : Int) := by rw [hkv'.out, Int.toNat_natCast, hsh']
              show (match dirS K.z K.o (shps K.zs) f x4 (lks.getD (fst (fun (y : Lk) => y.1 == x1) lks).toNat (0, 0)).2 si with | .error e => _ | .ok ((d, next), s') => _) = _
              rw [e]
            obtain ⟨RI, hRI⟩ : ∃ RI, dirS K.z K.o (shps K.zs) f x4 (sh' : Int) si = RI := ⟨_, rfl⟩
            rw [hRI] at hstep
            have hinvI : ∀ r s', RI = .ok (r, s') → Inv K.n s' := fun r s' e => by
              have h := dirS_inv (hRI.trans e) (by rw [hzl'.out]; exact hinvi'.out)
              rw [hzl'.out] at h
              exact h
            have hIH := IH'.out x4 sh' si svi tki
            rw [hRI] at hIH
            have entW : ∀ (sv2 : Value) (W : World), Mv K.g K.gt sv sv2 w W → W.cell? ⟨be, oe + i * 4 + 3, none⟩ = some (.int .i64 x4) := fun _ _ h => by
              obtain ⟨_, h2⟩ := ent_cell hen'.out h hC1 hC2 hlt
              rw [hx'.out] at h2
              exact h2 3 _ rfl
            have hdrewb := (Below.refl w6.heap.size w6).drew
            have hpqd := hpq6.later hdrewb
            have htgd := htg6.keep (Kp.later hdrewb)
            have hsud := hsu6.keep (Kp.later hdrewb)
            have hszd : w6.drew.heap.size = w6.heap.size := rfl
            have hB26 : A + 3 ≤ w6.heap.size := hpq6.sz
            have hvs2 : ∀ k, (Value.slice as_ subs.length cs).ownBlock = some k → k < w6.heap.size := fun k e => by
              obtain ⟨_, _, h, _⟩ := hsu6
              exact (h.1.lt k e).2
            obtain ⟨Ty3, f3, hne3, hp3, hsurj3⟩ := prop_worlds (fun W => Below K.w0.heap.size K.w0 W ∧ Blk W A 35 #[.slice la ln lc, .int .i64 sat, .int .i64 slong, .int .i64 snx] ∧ W.cell? ⟨be, oe + i * 4 + 3, none⟩ = some (.int .i64 x4)) w6 ⟨hpq6.ok.old, hpq6.bS, entW _ _ hpq6.mv⟩
            have d0 : ∀ s, (f3 s).cell? ⟨A, 0, none⟩ = some (.slice (some ⟨bl, ol, none⟩) ln lc) := fun s => by rw [← hlae]; exact (hp3 s).2.1.cell rfl
            have d3 : ∀ s, (f3 s).cell? ⟨be, oe + i * 4 + 3, none⟩ = some (.int .i64 x4) := fun s => (hp3 s).2.2
            have d4 : ∀ s, (f3 s).cell? ⟨bl, ol + kk * 2 + 1, none⟩ = some (.int .i64 sh') := fun s => by have h := (hp3 s).1; exact late (h.mono (Nat.le_refl _)) hbl fl1
            have HS := Lib.hid (hsurj3 w6.drew ⟨hpqd.ok.old, hpqd.bS, entW _ _ hpqd.mv⟩)
            clear hfa hfl hlnl hsh' fl0 hRI hlb hdrewb hpq6 htg6 hsu6 fl1 hlae
            have hstep' := Lib.hid hstep
            have hinvI' := Lib.hid hinvI
            have hIH' := Lib.hid hIH
            have entW' := Lib.hid entW
            have hpqd' := Lib.hid hpqd
            have htgd' := Lib.hid htgd
            have hsud' := Lib.hid hsud
            have hvs2' := Lib.hid hvs2
            have hp3' := Lib.hid hp3
            have hsurj3' := Lib.hid hsurj3
            clear hstep hinvI hIH entW hpqd htgd hsud hvs2 hp3 hsurj3
            go_upto_region 22 with fail
            go_cut [16, 17] from 91 to 144 (fun v u wx => ∃ (g16 : Nat) (a1 a2 a3 : Option Addr) (n1 c1 n2 c2 n3 c3 : Nat) (nx : Int) (s7 : St) (sv7 : Value) (tk7 : List Int) (E7 : Int), v = .pointer (some ⟨g16, 0, none⟩) ∧ u = .int .i64 nx ∧ Hid (Pq K A w sv #[.slice la ln lc, .int .i64 sat, .int .i64 slong, .int .i64 snx] s7 sv7 tk7 E7 vt (.slice as_ subs.length cs) (.slice none 0 0) wx) ∧ Hid (TagsAt (Xv sv7) (A + 3) wx vt tags) ∧ Hid (SubsAt (Xv sv7) (A + 3) wx f (.slice as_ subs.length cs) subs) ∧ Hid (Blk wx g16 48 #[.slice a1 n1 c1, .slice a2 n2 c2, .slice a3 n3 c3]) ∧ Hid (E7 = 0 → Inv K.n s7 ∧ ∃ d, DirAt (fun k => Xv sv7 k ∨ (Value.slice as_ subs.length cs).ownBlock = some k) (A + 3) wx f d (.slice a1 n1 c1, .slice a2 n2 c2, .slice a3 n3 c3) ∧ (nx ≠ 0 → R = .error 2) ∧ (nx = 0 → tlS K.z K.o (shps K.zs) f (lks, sat, slong, snx) no es tags (subs ++ [(x1, d)]) s7 (es.drop (i + 1)) = R)) ∧ Hid (E7 ≠ 0 → R = .error E7))
            case first =>
              skip
              -- DEV{R22
              refine held_begin (S := fun W => ∃ s, W = f3 s) (by kernel_rfl) 19 rfl ?_
              refine held_take [0, 1, 2, 3, 4, 5, 6, 7, 8, 9, 10, 11] 7 (by kernel_rfl) (fun d _ _ _ _ h => by cases d <;> exact h) (by kernel_rfl) (by kernel_rfl) (by kernel_rfl) HS.out ?_
              simp only [pickL, List.map_cons, List.map_nil, List.getD_cons_succ, List.getD_cons_zero]
              iterate 12 (go_big_quiet_step (fail))
              refine wpQuiet_nil ?_
              refine held_two 12 16 6 (by kernel_rfl) (by kernel_rfl) ?_ ?_
              all_goals simp only [pickL, List.map_cons, List.map_nil, List.getD_cons_succ, List.getD_cons_zero]
              case refine_1 =>
                clear d0 d3 d4
                go_wp2_with fail
                refine (hIH'.out w6.drew hpqd'.out.ok hinvi'.out hsl0.1 hsl0.2 hshn' hshf').mono ?_
                rintro e w7 hpost
                obtain ⟨a1, a2, a3, n1, c1, n2, c2, n3, c3, nx, rfl, s7, sv7, tk7, E7, hok7, hmv7, hgd7, hbd7⟩ := hpost
                have hpq7 := hpqd'.out.mv2 hgA hgtA hmv7 hok7
                have htg7 := htgd'.out.keep (Kp.mv hmv7 (show K.g < A + 3 by omega) (show K.gt < A + 3 by omega))
                have hsu7 := hsud'.out.keep (Kp.mv hmv7 (show K.g < A + 3 by omega) (show K.gt < A + 3 by omega))
                have hdg7 : E7 = 0 → Inv K.n s7 ∧ ∃ d, DirAt (fun k => Xv sv7 k ∨ (Value.slice as_ subs.length cs).ownBlock = some k) (A + 3) w7 f d (.slice a1 n1 c1, .slice a2 n2 c2, .slice a3 n3 c3) ∧ (nx ≠ 0 → R = .error 2) ∧ (nx = 0 → tlS K.z K.o (shps K.zs) f (lks, sat, slong, snx) no es tags (subs ++ [(x1, d)]) s7 (es.drop (i + 1)) = R) := fun h => by
                  obtain ⟨⟨d, nx'⟩, e1, e2, e3⟩ := hgd7 h
                  simp only at e2 e3
                  subst e2
                  refine ⟨hinvI'.out _ _ e1, d, (e3.keep (Kp.same (fun k hB hk hx e => e.elim hx (fun e => by have := hvs2'.out k e; omega)))).mono (by omega), fun hn => ?_, fun hn => ?_⟩
                  · have h2 := hstep'.out
                    rw [e1] at h2
                    simp only [if_neg hn] at h2
                    have h3 := htl'.out
                    unfold tlS at h3
                    rw [loopS_cons_err h2] at h3
                    exact h3.symm
                  · have h2 := hstep'.out
                    rw [e1] at h2
                    simp only [if_pos hn] at h2
                    have h3 := htl'.out
                    unfold tlS at h3 ⊢
                    rw [loopS_cons_ok h2] at h3
                    exact h3
                have hdb7 : E7 ≠ 0 → R = .error E7 := fun h => by
                  have h2 := hstep'.out
                  rw [hbd7 h] at h2
                  have h3 := htl'.out
                  unfold tlS at h3
                  rw [loopS_cons_err h2] at h3
                  exact h3.symm
                have hmvc := Lib.hid hmv7
                clear hmv7 hok7 hgd7 hbd7
                have HS := Lib.hid (hsurj3'.out w7 ⟨hpq7.ok.old, hpq7.bS, entW'.out _ _ hpq7.mv⟩)
                have hpq7' := Lib.hid hpq7
                have htg7' := Lib.hid htg7
                have hsu7' := Lib.hid hsu7
                have hdg7' := Lib.hid hdg7
                have hdb7' := Lib.hid hdb7
                clear hpq7 htg7 hsu7 hdg7 hdb7
                go_wp2_with fail
                first | refine Mid.mk ⟨HS.out, ?_⟩ | refine Mid.mk ?_
                refine held_take [13, 14, 15] 3 (by kernel_rfl) (fun d _ _ _ _ h => by cases d <;> exact h) (by kernel_rfl) (by kernel_rfl) (by kernel_rfl) HS.out ?_
                simp only [pickL, List.map_cons, List.map_nil, List.getD_cons_succ, List.getD_cons_zero]
                iterate 3 (go_big_quiet_step (fail))
                refine wpQuiet_nil ?_
                refine held_one 16 2 (by kernel_rfl) (by kernel_rfl) ?_
                simp only [pickL, List.map_cons, List.map_nil, List.getD_cons_succ, List.getD_cons_zero]
                go_wp2_with fail
                have hal := (Below.refl w7.heap.size w7).alloc (Nat.le_refl _) (.cells #[.slice none 0 0, .slice none 0 0, .slice none 0 0] 48)
                have hpq8 := hpq7'.out.later hal
                have b16 := Blk.new w7 48 #[.slice none 0 0, .slice none 0 0, .slice none 0 0]
                obtain ⟨w8, hw8⟩ : ∃ w8, w7.alloc (.cells #[.slice none 0 0, .slice none 0 0, .slice none 0 0] 48) = w8 := ⟨_, rfl⟩
                rw [hw8] at hal hpq8 b16
                rw [hw8]
                obtain ⟨g16, hg16⟩ : ∃ g, w7.heap.size = g := ⟨_, rfl⟩
                rw [hg16] at b16
                rw [hg16]
                have HS := Lib.hid (hsurj3'.out w8 ⟨hpq8.ok.old, hpq8.bS, entW'.out _ _ hpq8.mv⟩)
                have p0 : w8.cell? ⟨g16, 0, none⟩ = some (.slice none 0 0) := b16.cell rfl
                have p1 : w8.cell? ⟨g16, 1, none⟩ = some (.slice none 0 0) := b16.cell rfl
                have p2 : w8.cell? ⟨g16, 2, none⟩ = some (.slice none 0 0) := b16.cell rfl
                have y0 := b16.frozen 0
                have y1 := b16.frozen 1
                have y2 := b16.frozen 2
                clear hw8 hpq8
                have hal' := Lib.hid hal
                have b16' := Lib.hid b16
                have hg16' := Lib.hid hg16
                clear hal b16 hg16
                first | refine Mid.mk ⟨HS.out, ?_⟩ | refine Mid.mk ?_
                refine held_one 17 1 (by kernel_rfl) (by kernel_rfl) ?_
                simp only [pickL, List.map_cons, List.map_nil, List.getD_cons_succ, List.getD_cons_zero]
                go_wp2_with fail
                have hb79 := below_set3 hal'.out (Nat.le_of_eq hg16'.out) (.slice a1 n1 c1) (.slice a2 n2 c2) (.slice a3 n3 c3)
                have b169 := b16'.out.set3 (.slice a1 n1 c1) (.slice a2 n2 c2) (.slice a3 n3 c3)
                have hpq9 := hpq7'.out.later hb79
                have htg9 := htg7'.out.keep (Kp.later hb79)
                have hsu9 := hsu7'.out.keep (Kp.later hb79)
                have hdg9 := fun h => (by obtain ⟨e1, d, e2, e3, e4⟩ := hdg7'.out h; exact ⟨e1, d, e2.keep (kp_or (Kp.later hb79)), e3, e4⟩ : Inv K.n s7 ∧ ∃ d, DirAt (fun k => Xv sv7 k ∨ (Value.slice as_ subs.length cs).ownBlock = some k) (A + 3) (((w8.setCell ⟨g16, 0, none⟩ (.slice a1 n1 c1)).setCell ⟨g16, 1, none⟩ (.slice a2 n2 c2)).setCell ⟨g16, 2, none⟩ (.slice a3 n3 c3)) f d (.slice a1 n1 c1, .slice a2 n2 c2, .slice a3 n3 c3) ∧ (nx ≠ 0 → R = .error 2) ∧ (nx = 0 → tlS K.z K.o (shps K.zs) f (lks, sat, slong, snx) no es tags (subs ++ [(x1, d)]) s7 (es.drop (i + 1)) = R))
                have HS := Lib.hid (hsurj3'.out _ ⟨hpq9.ok.old, hpq9.bS, entW'.out _ _ hpq9.mv⟩)
                clear p0 p1 p2 y0 y1 y2 hb79
                have b169' := Lib.hid b169
                have hpq9' := Lib.hid hpq9
                have htg9' := Lib.hid htg9
                have hsu9' := Lib.hid hsu9
                have hdg9' := Lib.hid hdg9
                clear b169 hpq9 htg9 hsu9 hdg9
                refine Mid.mk ⟨HS.out, ?_⟩
                refine held_take [18] 0 (by kernel_rfl) (fun d _ _ _ _ h => by cases d <;> exact h) (by kernel_rfl) (by kernel_rfl) (by kernel_rfl) HS.out ?_
                simp only [pickL, List.map_cons, List.map_nil, List.getD_cons_succ, List.getD_cons_zero]
                iterate 1 (go_big_quiet_step (fail))
                refine wpQuiet_nil ?_
                refine held_last (by kernel_rfl) ?_
                go_wp2_with fail
                go_meet
                exact ⟨g16, a1, a2, a3, n1, c1, n2, c2, n3, c3, nx, s7, sv7, tk7, E7, rfl, rfl, hpq9', htg9', hsu9', b169', hdg9', hdb7'⟩
              case refine_2 =>
                clear d0 d3 d4
                go_wp2_with fail
                have hal : Below w6.drew.heap.size w6.drew (w6.alloc (.cells #[.slice none 0 0, .slice none 0 0, .slice none 0 0] 48)).drew := (Below.refl w6.drew.heap.size w6.drew).alloc (Nat.le_refl _) (.cells #[.slice none 0 0, .slice none 0 0, .slice none 0 0] 48)
                have b16 : Blk (w6.alloc (.cells #[.slice none 0 0, .slice none 0 0, .slice none 0 0] 48)).drew w6.heap.size 48 #[.slice none 0 0, .slice none 0 0, .slice none 0 0] := Blk.new w6 _ _
                have hpqa := hpqd'.out.later hal
                have htga := htgd'.out.keep (Kp.later hal)
                have hsua := hsud'.out.keep (Kp.later hal)
                have hsva : ∀ k, svi.ownBlock = some k → k < w6.heap.size := fun k e => (hpqd'.out.ok.spot.lt k e).2
                obtain ⟨wa, hwa⟩ : ∃ wa, (w6.alloc (.cells #[.slice none 0 0, .slice none 0 0, .slice none 0 0] 48)).drew = wa := ⟨_, rfl⟩
                rw [hwa] at hal b16 hpqa htga hsua
                rw [hwa]
                have hsz6a : w6.heap.size ≤ wa.heap.size := hal.size
                have HS := Lib.hid (hsurj3'.out wa ⟨hpqa.ok.old, hpqa.bS, entW'.out _ _ hpqa.mv⟩)
                clear hwa hal
                have b16' := Lib.hid b16
                have hpqa' := Lib.hid hpqa
                have htga' := Lib.hid htga
                have hsua' := Lib.hid hsua
                have hsva' := Lib.hid hsva
                clear b16 hpqa htga hsua hsva
                first | refine Mid.mk ⟨HS.out, ?_⟩ | refine Mid.mk ?_
                refine held_one 12 5 (by kernel_rfl) (by kernel_rfl) ?_
                simp only [pickL, List.map_cons, List.map_nil, List.getD_cons_succ, List.getD_cons_zero]
                go_wp2_with fail
                refine (hIH'.out wa hpqa'.out.ok hinvi'.out hsl0.1 hsl0.2 hshn' hshf').mono ?_
                rintro e w7 hpost
                obtain ⟨a1, a2, a3, n1, c1, n2, c2, n3, c3, nx, rfl, s7, sv7, tk7, E7, hok7, hmv7, hgd7, hbd7⟩ := hpost
                have hpq7 := hpqa'.out.mv2 hgA hgtA hmv7 hok7
                have htg7 := htga'.out.keep (Kp.mv hmv7 (show K.g < A + 3 by omega) (show K.gt < A + 3 by omega))
                have hsu7 := hsua'.out.keep (Kp.mv hmv7 (show K.g < A + 3 by omega) (show K.gt < A + 3 by omega))
                have hdg7 : E7 = 0 → Inv K.n s7 ∧ ∃ d, DirAt (fun k => Xv sv7 k ∨ (Value.slice as_ subs.length cs).ownBlock = some k) (A + 3) w7 f d (.slice a1 n1 c1, .slice a2 n2 c2, .slice a3 n3 c3) ∧ (nx ≠ 0 → R = .error 2) ∧ (nx = 0 → tlS K.z K.o (shps K.zs) f (lks, sat, slong, snx) no es tags (subs ++ [(x1, d)]) s7 (es.drop (i + 1)) = R) := fun h => by
                  obtain ⟨⟨d, nx'⟩, e1, e2, e3⟩ := hgd7 h
                  simp only at e2 e3
                  subst e2
                  refine ⟨hinvI'.out _ _ e1, d, (e3.keep (Kp.same (fun k hB hk hx e => e.elim hx (fun e => by have := hvs2'.out k e; omega)))).mono (by omega), fun hn => ?_, fun hn => ?_⟩
                  · have h2 := hstep'.out
                    rw [e1] at h2
                    simp only [if_neg hn] at h2
                    have h3 := htl'.out
                    unfold tlS at h3
                    rw [loopS_cons_err h2] at h3
                    exact h3.symm
                  · have h2 := hstep'.out
                    rw [e1] at h2
                    simp only [if_pos hn] at h2
                    have h3 := htl'.out
                    unfold tlS at h3 ⊢
                    rw [loopS_cons_ok h2] at h3
                    exact h3
                have hdb7 : E7 ≠ 0 → R = .error E7 := fun h => by
                  have h2 := hstep'.out
                  rw [hbd7 h] at h2
                  have h3 := htl'.out
                  unfold tlS at h3
                  rw [loopS_cons_err h2] at h3
                  exact h3.symm
                have hmvc := Lib.hid hmv7
                clear hmv7 hok7 hgd7 hbd7
                have b167 := b16'.out.mv hmvc.out (show w6.heap.size ≠ K.g by omega) (show w6.heap.size ≠ K.gt by omega) (fun e => by have := hsva'.out _ e; omega)
                have HS := Lib.hid (hsurj3'.out w7 ⟨hpq7.ok.old, hpq7.bS, entW'.out _ _ hpq7.mv⟩)
                obtain ⟨g16, hg16⟩ : ∃ g, w6.heap.size = g := ⟨_, rfl⟩
                rw [hg16] at b167
                rw [hg16]
                have p0 : w7.cell? ⟨g16, 0, none⟩ = some (.slice none 0 0) := b167.cell rfl
                have p1 : w7.cell? ⟨g16, 1, none⟩ = some (.slice none 0 0) := b167.cell rfl
                have p2 : w7.cell? ⟨g16, 2, none⟩ = some (.slice none 0 0) := b167.cell rfl
                have y0 := b167.frozen 0
                have y1 := b167.frozen 1
                have y2 := b167.frozen 2
                have hpq7' := Lib.hid hpq7
                have htg7' := Lib.hid htg7
                have hsu7' := Lib.hid hsu7
                have hdg7' := Lib.hid hdg7
                have hdb7' := Lib.hid hdb7
                have b167' := Lib.hid b167
                have hg16' := Lib.hid hg16
                clear hpq7 htg7 hsu7 hdg7 hdb7 b167 hg16
                go_wp2_with fail
                first | refine Mid.mk ⟨HS.out, ?_⟩ | refine Mid.mk ?_
                refine held_take [13, 14, 15] 2 (by kernel_rfl) (fun d _ _ _ _ h => by cases d <;> exact h) (by kernel_rfl) (by kernel_rfl) (by kernel_rfl) HS.out ?_
                simp only [pickL, List.map_cons, List.map_nil, List.getD_cons_succ, List.getD_cons_zero]
                iterate 3 (go_big_quiet_step (fail))
                refine wpQuiet_nil ?_
                refine held_one 17 1 (by kernel_rfl) (by kernel_rfl) ?_
                simp only [pickL, List.map_cons, List.map_nil, List.getD_cons_succ, List.getD_cons_zero]
                go_wp2_with fail
                have hbt := ((((But.refl g16 w7).set 0 (.slice a1 n1 c1)).set 1 (.slice a2 n2 c2)).set 2 (.slice a3 n3 c3))
                have b169 := b167'.out.set3 (.slice a1 n1 c1) (.slice a2 n2 c2) (.slice a3 n3 c3)
                have hpq9 := hpq7'.out.butHi hgA hgtA h0A hA'.out hbt (by have := hg16'.out; omega) (own_ne_blk hpq7'.out.ok.spot b167'.out (by decide))
                have htg9 := htg7'.out.butT hbt b167'.out
                have hsu9 := hsu7'.out.butT hbt b167'.out
                have hdg9 := fun h => (by obtain ⟨e1, d, e2, e3, e4⟩ := hdg7'.out h; exact ⟨e1, d, e2.butT hbt b167'.out, e3, e4⟩ : Inv K.n s7 ∧ ∃ d, DirAt (fun k => Xv sv7 k ∨ (Value.slice as_ subs.length cs).ownBlock = some k) (A + 3) (((w7.setCell ⟨g16, 0, none⟩ (.slice a1 n1 c1)).setCell ⟨g16, 1, none⟩ (.slice a2 n2 c2)).setCell ⟨g16, 2, none⟩ (.slice a3 n3 c3)) f d (.slice a1 n1 c1, .slice a2 n2 c2, .slice a3 n3 c3) ∧ (nx ≠ 0 → R = .error 2) ∧ (nx = 0 → tlS K.z K.o (shps K.zs) f (lks, sat, slong, snx) no es tags (subs ++ [(x1, d)]) s7 (es.drop (i + 1)) = R))
                have HS := Lib.hid (hsurj3'.out _ ⟨hpq9.ok.old, hpq9.bS, entW'.out _ _ hpq9.mv⟩)
                clear p0 p1 p2 y0 y1 y2 hbt
                have b169' := Lib.hid b169
                have hpq9' := Lib.hid hpq9
                have htg9' := Lib.hid htg9
                have hsu9' := Lib.hid hsu9
                have hdg9' := Lib.hid hdg9
                clear b169 hpq9 htg9 hsu9 hdg9
                refine Mid.mk ⟨HS.out, ?_⟩
                refine held_take [18] 0 (by kernel_rfl) (fun d _ _ _ _ h => by cases d <;> exact h) (by kernel_rfl) (by kernel_rfl) (by kernel_rfl) HS.out ?_
                simp only [pickL, List.map_cons, List.map_nil, List.getD_cons_succ, List.getD_cons_zero]
                iterate 1 (go_big_quiet_step (fail))
                refine wpQuiet_nil ?_
                refine held_last (by kernel_rfl) ?_
                go_wp2_with fail
                go_meet
                exact ⟨g16, a1, a2, a3, n1, c1, n2, c2, n3, c3, nx, s7, sv7, tk7, E7, rfl, rfl, hpq9', htg9', hsu9', b169', hdg9', hdb7'⟩
              -- }DEV
            case rest =>
              skip
              -- DEV{R25
              obtain ⟨g16, a1, a2, a3, n1, c1, n2, c2, n3, c3, nx, s7, sv7, tk7, E7, rfl, rfl, hpq7, htg7, hsu7, b16, hdg7, hdb7⟩ := hcut
              clear hIH' hstep' hinvI' hpqd' htgd' hsud' hsurj3' hp3' HS d0 d3 d4 entW' htl'
              rename World => w7
              obtain ⟨bn, hbn⟩ : ∃ b, (nx != 0) = b := ⟨_, rfl⟩
              have hnx : (bn = true → nx ≠ 0) ∧ (bn = false → nx = 0) := by rw [← hbn]; simp
              have hnx' := Lib.hid hnx
              clear hnx
              go_upto_if 130 with fail
              try rw [hbn]
              clear hbn
              go_cut [] from 91 to 144 (fun wx => ∃ E8, Hid (Pq K A w sv #[.slice la ln lc, .int .i64 sat, .int .i64 slong, .int .i64 snx] s7 sv7 tk7 E8 vt (.slice as_ subs.length cs) (.slice none 0 0) wx) ∧ Hid (TagsAt (Xv sv7) (A + 3) wx vt tags) ∧ Hid (SubsAt (Xv sv7) (A + 3) wx f (.slice as_ subs.length cs) subs) ∧ Hid (Blk wx g16 48 #[.slice a1 n1 c1, .slice a2 n2 c2, .slice a3 n3 c3]) ∧ Hid (E8 = 0 → Inv K.n s7 ∧ ∃ d, DirAt (fun k => Xv sv7 k ∨ (Value.slice as_ subs.length cs).ownBlock = some k) (A + 3) wx f d (.slice a1 n1 c1, .slice a2 n2 c2, .slice a3 n3 c3) ∧ tlS K.z K.o (shps K.zs) f (lks, sat, slong, snx) no es tags (subs ++ [(x1, d)]) s7 (es.drop (i + 1)) = R) ∧ Hid (E8 ≠ 0 → R = .error E8))
              case first =>
                cases bn
                · go_wp2_with fail
                  go_meet
                  exact ⟨E7, hpq7, htg7, hsu7, b16, Lib.hid (fun h => by
                    obtain ⟨e1, d, e2, e3, e4⟩ := hdg7.out h
                    exact ⟨e1, d, e2, e4 (hnx'.out.2 (by simp))⟩), hdb7⟩
                · go_wp2_with fail
                  refine (fail_du t'.out hpq7.out.ok (by decide)).mono ?_
                  rintro e w9 ⟨rfl, hok9, hmv9⟩
                  have hne9 : firstE E7 2 ≠ 0 ∧ R = .error (firstE E7 2) := by
                    unfold firstE
                    split
                    · rename_i h
                      obtain ⟨e1, d, e2, e3, e4⟩ := hdg7.out h
                      exact ⟨by decide, e3 (hnx'.out.1 (by simp))⟩
                    · rename_i h
                      exact ⟨h, hdb7.out h⟩
                  have hpq9 := hpq7.out.mv2 hgA hgtA hmv9 hok9
                  have htg9 := htg7.out.keep (Kp.mv hmv9 (show K.g < A + 3 by omega) (show K.gt < A + 3 by omega))
                  have hsu9 := hsu7.out.keep (Kp.mv hmv9 (show K.g < A + 3 by omega) (show K.gt < A + 3 by omega))
                  have hg16 : K.g ≠ g16 ∧ K.gt ≠ g16 := ⟨fun e => by
                    have h1 := hpq7.out.ok.blk
                    rw [e] at h1
                    have h2 := h1.symm.trans b16.out
                    injection h2 with h2
                    injection h2 with _ h3
                    exact absurd h3 (by decide), fun e => by
                    have h1 : w7.heap[K.gt]? = _ := hpq7.out.ok.tak
                    rw [e] at h1
                    have h2 := h1.symm.trans b16.out
                    injection h2 with h2
                    injection h2 with _ h3
                    exact absurd h3 (by decide)⟩
                  have b169 := b16.out.mv hmv9 (Ne.symm hg16.1) (Ne.symm hg16.2) (own_ne_blk hpq7.out.ok.spot b16.out (by decide))
                  clear hok9 hmv9 hg16
                  have hpq9' := Lib.hid hpq9
                  have htg9' := Lib.hid htg9
                  have hsu9' := Lib.hid hsu9
                  have b169' := Lib.hid b169
                  have hne9' := Lib.hid hne9
                  clear hpq9 htg9 hsu9 b169 hne9
                  go_wp2_with fail
                  go_meet
                  exact ⟨firstE E7 2, hpq9', htg9', hsu9', b169', Lib.hid (fun h => absurd h hne9'.out.1), Lib.hid (fun _ => hne9'.out.2)⟩
              case rest =>
              obtain ⟨E8, hpq8, htg8, hsu8, b168, hdg8, hdb8⟩ := hcut
              clear hpq7 htg7 hsu7 b16 hdg7 hdb7 hnx'
              rename World => w8
              have hck : ∃ ds, Ck (Xv sv7) (A + 3) w8 (.slice as_ subs.length cs) 90 4 subs.length (fl sbC ds) := by
                obtain ⟨ds, h1, h2, _⟩ := hsu8.out
                exact ⟨ds, h1 ▸ h2⟩
              obtain ⟨ds8, hck8⟩ := hck
              have entW : ∀ (sv2 : Value) (W : World), Mv K.g K.gt sv sv2 w W → W.cell? ⟨be, oe + i * 4, none⟩ = some (.int .i64 x1) := fun _ _ h => by
                obtain ⟨_, h2⟩ := ent_cell hen'.out h hC1 hC2 hlt
                rw [hx'.out] at h2
                have h3 := h2 0 _ rfl
                simp only [Nat.add_zero] at h3
                exact h3
              have hdrewb := (Below.refl w8.heap.size w8).drew
              have hpqd := hpq8.out.later hdrewb
              have htgd := htg8.out.keep (Kp.later hdrewb)
              have hsud := hsu8.out.keep (Kp.later hdrewb)
              have hckd := hck8.keep (Kp.later hdrewb)
              have bd := b168.out.late hdrewb
              have hdgd := fun h => (by obtain ⟨e1, d, e2, e3⟩ := hdg8.out h; exact ⟨e1, d, e2.keep (kp_or (Kp.later hdrewb)), e3⟩ : Inv K.n s7 ∧ ∃ d, DirAt (fun k => Xv sv7 k ∨ (Value.slice as_ subs.length cs).ownBlock = some k) (A + 3) w8.drew f d (.slice a1 n1 c1, .slice a2 n2 c2, .slice a3 n3 c3) ∧ tlS K.z K.o (shps K.zs) f (lks, sat, slong, snx) no es tags (subs ++ [(x1, d)]) s7 (es.drop (i + 1)) = R)
              obtain ⟨Ty4, f4, hne4, hp4, hsurj4⟩ := prop_worlds (fun W => Blk W (A + 1 + 1) 48 #[vt, .slice as_ subs.length cs, .slice none 0 0] ∧ Blk W g16 48 #[.slice a1 n1 c1, .slice a2 n2 c2, .slice a3 n3 c3] ∧ W.cell? ⟨be, oe + i * 4, none⟩ = some (.int .i64 x1)) w8 ⟨hpq8.out.bD, b168.out, entW _ _ hpq8.out.mv⟩
              have d1 : ∀ s, (f4 s).cell? ⟨A + 1 + 1, 1, none⟩ = some (.slice as_ subs.length cs) := fun s => (hp4 s).1.cell rfl
              have e0 : ∀ s, (f4 s).cell? ⟨g16, 0, none⟩ = some (.slice a1 n1 c1) := fun s => (hp4 s).2.1.cell rfl
              have e1 : ∀ s, (f4 s).cell? ⟨g16, 1, none⟩ = some (.slice a2 n2 c2) := fun s => (hp4 s).2.1.cell rfl
              have e2 : ∀ s, (f4 s).cell? ⟨g16, 2, none⟩ = some (.slice a3 n3 c3) := fun s => (hp4 s).2.1.cell rfl
              have d3 : ∀ s, (f4 s).cell? ⟨be, oe + i * 4, none⟩ = some (.int .i64 x1) := fun s => (hp4 s).2.2
              have HS := Lib.hid (hsurj4 w8.drew ⟨hpqd.bD, bd, entW _ _ hpqd.mv⟩)
              clear hdrewb hck8 hpq8 htg8 hsu8 b168 hdg8
              have entW' := Lib.hid entW
              have hpqd' := Lib.hid hpqd
              have htgd' := Lib.hid htgd
              have hsud' := Lib.hid hsud
              have hckd' := Lib.hid hckd
              have bd' := Lib.hid bd
              have hdgd' := Lib.hid hdgd
              have hp4' := Lib.hid hp4
              have hsurj4' := Lib.hid hsurj4
              clear entW hpqd htgd hsud hckd bd hdgd hp4 hsurj4
              go_upto_region 25 with fail
              refine till_begin (t := 12) (C := fun W => ∃ s, W = f4 s) (by kernel_rfl) 13 rfl ?_
              refine till_free [0, 2, 3, 4, 5] 8 (by kernel_rfl) (fun d _ _ _ _ h => by cases d <;> exact h) (by kernel_rfl) (by kernel_rfl) (by kernel_rfl) HS.out ?_
              simp only [pickL, List.map_cons, List.map_nil, List.getD_cons_succ, List.getD_cons_zero]
              iterate 5 (go_big_quiet_step (fail))
              refine wpQuiet_nil ?_
              refine till_take [1, 6, 7, 8] 4 (by kernel_rfl) (fun d _ _ _ _ h => by cases d <;> exact h) (by kernel_rfl) (by kernel_rfl) (by kernel_rfl) HS.out ?_
              simp only [pickL, List.map_cons, List.map_nil, List.getD_cons_succ, List.getD_cons_zero]
              iterate 4 (go_big_quiet_step (fail))
              refine wpQuiet_nil ?_
              clear d1 e0 e1 e2 d3
              refine till_one 9 3 (by kernel_rfl) (by kernel_rfl) ?_
              simp only [pickL, List.map_cons, List.map_nil, List.getD_cons_succ, List.getD_cons_zero]
              go_wp2_with fail
              have hal : Below w8.drew.heap.size w8.drew (w8.alloc (.cells #[.int .i64 x1, .slice a1 n1 c1, .slice a2 n2 c2, .slice a3 n3 c3] 90)).drew := (Below.refl w8.drew.heap.size w8.drew).alloc (Nat.le_refl _) (.cells #[.int .i64 x1, .slice a1 n1 c1, .slice a2 n2 c2, .slice a3 n3 c3] 90)
              have hnew : Sl (w8.alloc (.cells #[.int .i64 x1, .slice a1 n1 c1, .slice a2 n2 c2, .slice a3 n3 c3] 90)).drew (some ⟨w8.heap.size, 0, none⟩) 1 1 4 (sbC (x1, (.slice a1 n1 c1, .slice a2 n2 c2, .slice a3 n3 c3))) := (Sl.new w8 90 4 1 #[.int .i64 x1, .slice a1 n1 c1, .slice a2 n2 c2, .slice a3 n3 c3] (0, 0) (by omega) rfl).mono ((Below.refl _ _).drew)
              have hpq9 := hpqd'.out.later hal
              have htg9 := htgd'.out.keep (Kp.later hal)
              have hsu9 := hsud'.out.keep (Kp.later hal)
              have hck9 := hckd'.out.keep (Kp.later hal)
              have bd9 := bd'.out.late hal
              have hdg9 := fun h => (by obtain ⟨e1, d, e2, e3⟩ := hdgd'.out h; exact ⟨e1, d, e2.keep (kp_or (Kp.later hal)), e3⟩ : Inv K.n s7 ∧ ∃ d, DirAt (fun k => Xv sv7 k ∨ (Value.slice as_ subs.length cs).ownBlock = some k) (A + 3) (w8.alloc (.cells #[.int .i64 x1, .slice a1 n1 c1, .slice a2 n2 c2, .slice a3 n3 c3] 90)).drew f d (.slice a1 n1 c1, .slice a2 n2 c2, .slice a3 n3 c3) ∧ tlS K.z K.o (shps K.zs) f (lks, sat, slong, snx) no es tags (subs ++ [(x1, d)]) s7 (es.drop (i + 1)) = R)
              obtain ⟨w9, hw9⟩ : ∃ w9, (w8.alloc (.cells #[.int .i64 x1, .slice a1 n1 c1, .slice a2 n2 c2, .slice a3 n3 c3] 90)).drew = w9 := ⟨_, rfl⟩
              rw [hw9] at hnew hpq9 htg9 hsu9 hck9 bd9 hdg9
              rw [hw9]
              obtain ⟨gn, hgn⟩ : ∃ gn, w8.heap.size = gn := ⟨_, rfl⟩
              rw [hgn] at hnew
              rw [hgn]
              have HS := Lib.hid (hsurj4'.out w9 ⟨hpq9.bD, bd9, entW'.out _ _ hpq9.mv⟩)
              have hB9 := hpq9.sz
              have hsv9 : ∀ k, sv7.ownBlock = some k → k < w9.heap.size := fun k e => (hpq9.ok.spot.lt k e).2
              have hown := hck9.1
              have hvsX := hck9.2
              clear hal hw9 hgn hpqd' htgd' hsud' hckd' bd' hdgd' hck9
              have hpq9' := Lib.hid hpq9
              have htg9' := Lib.hid htg9
              have hsu9' := Lib.hid hsu9
              have bd9' := Lib.hid bd9
              have hdg9' := Lib.hid hdg9
              have hnew' := Lib.hid hnew
              have hown' := Lib.hid hown
              have hvsX' := Lib.hid hvsX
              have hsv9' := Lib.hid hsv9
              clear hpq9 htg9 hsu9 bd9 hdg9 hnew hown hvsX hsv9
              first | refine Mid.mk ⟨fun _ => HS.out, ?_⟩ | refine Mid.mk ?_
              refine till_one 10 2 (by kernel_rfl) (by kernel_rfl) ?_
              simp only [pickL, List.map_cons, List.map_nil, List.getD_cons_succ, List.getD_cons_zero]
              go_wp2_with (at_builtin; refine wpList_app2 rfl _ _ 46 rfl (A + 3) 90 i1 z1 4 80 Try.underlying46 hi1 hy hy1 hy2 hy3 (by decide) (.slice as_ subs.length cs) subs.length _ rfl hown'.out ⟨gn, 0, none⟩ 1 1 (sbC (x1, (.slice a1 n1 c1, .slice a2 n2 c2, .slice a3 n3 c3))) rfl hnew'.out (sbC_sl2 _ _ _ _ _ _ _ _ _ _) (by omega) (by decide) hB9 ?_; intro a9 c9 w10 ob hg9 ho9; have Ob := Lib.hid ob; have Hg9 := Lib.hid hg9; have Ho9 := Lib.hid ho9; clear ob hg9 ho9)
              have hgt16 : (Value.slice as_ subs.length cs).ownBlock ≠ some g16 := own_ne_blk hown'.out bd9'.out (by decide)
              have hpq10 := hpq9'.out.grown hgA hgtA h0A hA'.out Hg9.out (fun r e => ⟨(hown'.out.lt r e).1, fun h => hvsX'.out r e h⟩)
              have bd10 := bd9'.out.grown Hg9.out hgt16
              have HS := Lib.hid (hsurj4'.out w10 ⟨hpq10.bD, bd10, entW'.out _ _ hpq10.mv⟩)
              have hX9 : ∀ k, (Value.slice a9 (subs.length + 1) c9).ownBlock = some k → ¬ Xv sv7 k := fun k e h => by
                rcases Ho9.out k e with h1 | h1
                · exact hvsX'.out k h1 h
                · have := hsv9'.out k h; omega
              have p1 : w10.cell? ⟨A + 1 + 1, 1, none⟩ = some (.slice as_ subs.length cs) := hpq10.bD.cell rfl
              have y1 := hpq10.bD.frozen 1
              have hbt := (But.refl (A + 1 + 1) w10).set 1 (.slice a9 (subs.length + 1) c9)
              have hpq11 := hpq10.setD hgA hgtA h0A hA'.out hbt (hpq10.bD.set 1 (.slice a9 (subs.length + 1) c9))
              have htg11 := (own_tags_ne htg9'.out hown'.out Hg9.out (by decide) (by decide)).butT hbt hpq10.bD
              have hgood11 : E8 = 0 → Inv K.n s7 ∧ ∃ d, SubsAt (Xv sv7) (A + 3) (w10.setCell ⟨A + 1 + 1, 1, none⟩ (.slice a9 (subs.length + 1) c9)) f (.slice a9 (subs.length + 1) c9) (subs ++ [(x1, d)]) ∧ tlS K.z K.o (shps K.zs) f (lks, sat, slong, snx) no es tags (subs ++ [(x1, d)]) s7 (es.drop (i + 1)) = R := fun h => by
                obtain ⟨e1, d, e2, e3⟩ := hdg9'.out h
                refine ⟨e1, d, ?_, e3⟩
                have h9 := SubsAt.snoc (t := x1) (v' := .slice a9 (subs.length + 1) c9) hsu9'.out rfl Hg9.out Ho9.out (fun ds2 h2 => by rw [own_inj h2 hown'.out]; exact Ob.out) hX9 (dvC_sl2 _ _ _ _ _ _ _ _ _) e2
                exact h9.butT hbt hpq10.bD
              clear hgt16 hpq10 bd10 hX9 hpq9' htg9' hsu9' bd9' hdg9' hown' hnew'
              have hpq11' := Lib.hid hpq11
              have htg11' := Lib.hid htg11
              have hgood11' := Lib.hid hgood11
              have hbt' := Lib.hid hbt
              clear hpq11 htg11 hgood11 hbt
              first | refine Mid.mk ⟨fun _ => HS.out, ?_⟩ | refine Mid.mk ?_
              refine till_free [11] 1 (by kernel_rfl) (fun d _ _ _ _ h => by cases d <;> exact h) (by kernel_rfl) (by kernel_rfl) (by kernel_rfl) HS.out ?_
              simp only [pickL, List.map_cons, List.map_nil, List.getD_cons_succ, List.getD_cons_zero]
              iterate 1 (go_big_quiet_step (fail))
              refine wpQuiet_nil ?_
              refine till_one 12 0 (by kernel_rfl) (by kernel_rfl) ?_
              simp only [pickL, List.map_cons, List.map_nil, List.getD_cons_succ, List.getD_cons_zero]
              go_wp2_with fail
              first | refine Mid.mk ⟨fun h => (by simp [segL] at h), ?_⟩ | refine Mid.mk ?_
              refine till_last (by kernel_rfl) ?_
              clear p1 y1
              go_wp2_with fail
              go_roundw
              case rel => exact ⟨i + 1, s7, sv7, tk7, E8, .slice a9 (subs.length + 1) c9, by omega, by go_num, hpq11', Lib.hid ⟨_, _, _, rfl⟩, Lib.hid (fun h => by
                obtain ⟨e1, d, e2, e3⟩ := hgood11'.out h
                exact ⟨e1, hPF'.out, tags, _, htg11'.out, e2, e3, by simp; omega⟩), hdb8⟩
              case measure => simp [intOf]; omega
              -- }DEV
          -- }DEV
        case neg =>
          skip
          -- DEV{END
          have hE : E = 0 → i = es.length := by omega
          have hE' := Lib.hid hE
          clear hE
          go_upto_region 18 with fail
          go_cut [101] from 91 to 144 (fun v wx => v = .bool false ∧ wr = wx)
          case first =>
            by_cases hlt : i < es.length
            · have hin : (i : Int) < es.length := by omega
              have dE : (E == 0) = false := by simp; omega
              clear hgo
              go_wp2_with fail
              go_meet
              exact ⟨rfl, rfl⟩
            · obtain rfl : i = es.length := by omega
              clear hgo
              go_wp2_with fail
              go_meet
              exact ⟨rfl, rfl⟩
          case rest =>
          obtain ⟨rfl, rfl⟩ := hcut
          clear k7 hgo
          obtain ⟨av, nv, cv, rfl⟩ := hvt.out
          obtain ⟨as_, ns, cs, rfl⟩ := hvs.out
          by_cases hE0 : E = 0
          case neg =>
            have dE : (E != 0) = true := by simp; exact hE0
            have hRb := hbad.out hE0
            clear hgood hbad hE'
            obtain ⟨b0, hb0⟩ : ∃ b, (G == 0) = b := ⟨_, rfl⟩
            obtain ⟨b1, hb1⟩ : ∃ b, decide (G < 1) = b := ⟨_, rfl⟩
            have hRb' := Lib.hid hRb
            clear hRb
            cases b0
            · have k7 : wr.cell? ⟨K.g, 7, none⟩ = some (.int .i64 E) := hpq.out.ok.blk.cell rfl
              have hpqE' := hpq
              cases b1
              all_goals
                have e0 : wr.cell? ⟨A + 1 + 1, 0, none⟩ = some (.slice av nv cv) := hpqE'.out.bD.cell rfl
                have e1 : wr.cell? ⟨A + 1 + 1, 1, none⟩ = some (.slice as_ ns cs) := hpqE'.out.bD.cell rfl
                have e2 : wr.cell? ⟨A + 1 + 1, 2, none⟩ = some (.slice none 0 0) := hpqE'.out.bD.cell rfl
                have q0 : wr.cell? ⟨A + 1, 0, none⟩ = some (.slice none 0 0) := hpqE'.out.bR.cell rfl
                have q1 : wr.cell? ⟨A + 1, 1, none⟩ = some (.slice none 0 0) := hpqE'.out.bR.cell rfl
                have q2 : wr.cell? ⟨A + 1, 2, none⟩ = some (.slice none 0 0) := hpqE'.out.bR.cell rfl
                have y0 := hpqE'.out.bR.frozen 0
                have y1 := hpqE'.out.bR.frozen 1
                have y2 := hpqE'.out.bR.frozen 2
                go_wp2_with fail
                have hbt := (((But.refl (A + 1) wr).set 0 (.slice av nv cv)).set 1 (.slice as_ ns cs)).set 2 (.slice none 0 0)
                have hsvR := hpqE'.out.nb
                have hokR := hpqE'.out.ok.but hbt (show A + 1 ≠ K.g by omega) (show A + 1 ≠ K.gt by omega) (fun e => by have := hsvR _ e; omega) (by omega)
                have hmvR := hpqE'.out.mv.new_set (show w.heap.size ≤ A + 1 by have := hA'.out; omega) hbt
                refine bodyPost_ret (results_cell_row rfl _ _ (A + 1) 48 #[.slice av nv cv, .slice as_ ns cs, .slice none 0 0] (0, 0) _ rfl (hpqE'.out.bR.set3 _ _ _) Try.underlying48 rfl (by kernel_rfl)) rfl ?_
                refine ⟨_, _, _, _, _, _, _, _, _, rfl, ?_⟩
                exact ⟨si, svi, tki, E, hokR, hmvR, fun h => absurd h hE0, fun _ => hRb'.out⟩
            · go_wp2_with fail
              refine (fail_du t'.out hpq.out.ok (by decide)).mono ?_
              rintro e w9 ⟨rfl, hok9, hmv9⟩
              have hpqE := hpq.out.mv2 hgA hgtA hmv9 hok9
              rw [show firstE E 6 = E by unfold firstE; rw [if_neg hE0]] at hpqE
              have k7 : w9.cell? ⟨K.g, 7, none⟩ = some (.int .i64 E) := hpqE.ok.blk.cell rfl
              clear hok9 hmv9
              have hpqE' := Lib.hid hpqE
              clear hpqE
              cases b1
              all_goals
                have e0 : w9.cell? ⟨A + 1 + 1, 0, none⟩ = some (.slice av nv cv) := hpqE'.out.bD.cell rfl
                have e1 : w9.cell? ⟨A + 1 + 1, 1, none⟩ = some (.slice as_ ns cs) := hpqE'.out.bD.cell rfl
                have e2 : w9.cell? ⟨A + 1 + 1, 2, none⟩ = some (.slice none 0 0) := hpqE'.out.bD.cell rfl
                have q0 : w9.cell? ⟨A + 1, 0, none⟩ = some (.slice none 0 0) := hpqE'.out.bR.cell rfl
                have q1 : w9.cell? ⟨A + 1, 1, none⟩ = some (.slice none 0 0) := hpqE'.out.bR.cell rfl
                have q2 : w9.cell? ⟨A + 1, 2, none⟩ = some (.slice none 0 0) := hpqE'.out.bR.cell rfl
                have y0 := hpqE'.out.bR.frozen 0
                have y1 := hpqE'.out.bR.frozen 1
                have y2 := hpqE'.out.bR.frozen 2
                go_wp2_with fail
                have hbt := (((But.refl (A + 1) w9).set 0 (.slice av nv cv)).set 1 (.slice as_ ns cs)).set 2 (.slice none 0 0)
                have hsvR := hpqE'.out.nb
                have hokR := hpqE'.out.ok.but hbt (show A + 1 ≠ K.g by omega) (show A + 1 ≠ K.gt by omega) (fun e => by have := hsvR _ e; omega) (by omega)
                have hmvR := hpqE'.out.mv.new_set (show w.heap.size ≤ A + 1 by have := hA'.out; omega) hbt
                refine bodyPost_ret (results_cell_row rfl _ _ (A + 1) 48 #[.slice av nv cv, .slice as_ ns cs, .slice none 0 0] (0, 0) _ rfl (hpqE'.out.bR.set3 _ _ _) Try.underlying48 rfl (by kernel_rfl)) rfl ?_
                refine ⟨_, _, _, _, _, _, _, _, _, rfl, ?_⟩
                exact ⟨si, svi, tki, E, hokR, hmvR, fun h => absurd h hE0, fun _ => hRb'.out⟩
          case pos =>
            subst hE0
            obtain ⟨hinvi, hPF, tags, subs, htg, hsu, htl, _⟩ := hgood.out rfl
            rw [hE'.out rfl, List.drop_length] at htl
            simp only [tlS, loopS] at htl
            have hpqs := hpq.out.sz
            rcases hPF with ⟨hp, hG⟩ | ⟨X, hX, Y, hY, hp, hF, hG⟩
            · have hR8 := htl
              rw [blobS_not2 hp] at hR8
              simp only at hR8
              subst hG
              have hpqE' := hpq
              clear hgood hbad hE' htl
              have htg' := Lib.hid htg
              have hsu' := Lib.hid hsu
              have hR8' := Lib.hid hR8
              clear htg hsu hR8
              have e0 : wr.cell? ⟨A + 1 + 1, 0, none⟩ = some (.slice av nv cv) := hpqE'.out.bD.cell rfl
              have e1 : wr.cell? ⟨A + 1 + 1, 1, none⟩ = some (.slice as_ ns cs) := hpqE'.out.bD.cell rfl
              have e2 : wr.cell? ⟨A + 1 + 1, 2, none⟩ = some (.slice none 0 0) := hpqE'.out.bD.cell rfl
              have q0 : wr.cell? ⟨A + 1, 0, none⟩ = some (.slice none 0 0) := hpqE'.out.bR.cell rfl
              have q1 : wr.cell? ⟨A + 1, 1, none⟩ = some (.slice none 0 0) := hpqE'.out.bR.cell rfl
              have q2 : wr.cell? ⟨A + 1, 2, none⟩ = some (.slice none 0 0) := hpqE'.out.bR.cell rfl
              have y0 := hpqE'.out.bR.frozen 0
              have y1 := hpqE'.out.bR.frozen 1
              have y2 := hpqE'.out.bR.frozen 2
              go_wp2_with fail
              have hbt := (((But.refl (A + 1) wr).set 0 (.slice av nv cv)).set 1 (.slice as_ ns cs)).set 2 (.slice none 0 0)
              have hsvR := hpqE'.out.nb
              have hokR := hpqE'.out.ok.but hbt (show A + 1 ≠ K.g by omega) (show A + 1 ≠ K.gt by omega) (fun e => by have := hsvR _ e; omega) (by omega)
              have hmvR := hpqE'.out.mv.new_set (show w.heap.size ≤ A + 1 by have := hA'.out; omega) hbt
              refine bodyPost_ret (results_cell_row rfl _ _ (A + 1) 48 #[.slice av nv cv, .slice as_ ns cs, .slice none 0 0] (0, 0) _ rfl (hpqE'.out.bR.set3 _ _ _) Try.underlying48 rfl (by kernel_rfl)) rfl ?_
              refine ⟨_, _, _, _, _, _, _, _, _, rfl, ?_⟩
              refine ⟨si, svi, tki, 0, hokR, hmvR, fun _ => ⟨_, hR8'.out.symm, ?_⟩, fun h => absurd rfl h⟩
              exact dir_at2 (B3 := A + 3) (htg'.out.butT hbt hpqE'.out.bR) (hsu'.out.butT hbt hpqE'.out.bR) ⟨own_nil _ _ _ _, fun k e => by cases e⟩ (by rw [hA'.out]; omega) (by rw [hA'.out]; omega)
            · have hXm : 0 ≤ X.2.2.2 ∧ X.2.2.2 ≤ 4294967295 := by
                obtain ⟨k, hk, rfl⟩ := List.getElem_of_mem hX
                rw [← getD_el (d := (0, 0, 0, 0)) hk]
                exact hmem'.out k hk
              have hYm : 0 ≤ Y.2.2.2 ∧ Y.2.2.2 ≤ 4294967295 := by
                obtain ⟨k, hk, rfl⟩ := List.getElem_of_mem hY
                rw [← getD_el (d := (0, 0, 0, 0)) hk]
                exact hmem'.out k hk
              have hbs := blobS_two2 (z := K.z) (no := no) (s := si) hp
              rw [hzl'.out, ← hF, ← hG] at hbs
              rw [← hF] at hXm
              rw [← hG] at hYm
              rw [hbs] at htl
              clear hp hF hG hX hY hbs hgood hbad hE'
              obtain ⟨XN, rfl⟩ : ∃ n : Nat, F = n := ⟨F.toNat, by omega⟩
              obtain ⟨YN, rfl⟩ : ∃ n : Nat, G = n := ⟨G.toNat, by omega⟩
              by_cases hy0 : YN = 0
              · subst hy0
                rw [if_neg (by simp)] at htl
                obtain rfl : R = .error 6 := htl.symm
                clear htl
                have htg' := Lib.hid htg
                have hsu' := Lib.hid hsu
                have hinvi' := Lib.hid hinvi
                clear htg hsu hinvi
                go_wp2_with fail
                refine (fail_du t'.out hpq.out.ok (by decide)).mono ?_
                rintro e w9 ⟨rfl, hok9, hmv9⟩
                replace hok9 : DwOk K si svi tki 6 w9 := hok9
                have hpqE := hpq.out.mv2 hgA hgtA hmv9 hok9
                clear hok9 hmv9
                have hpqE' := Lib.hid hpqE
                clear hpqE
                have e0 : w9.cell? ⟨A + 1 + 1, 0, none⟩ = some (.slice av nv cv) := hpqE'.out.bD.cell rfl
                have e1 : w9.cell? ⟨A + 1 + 1, 1, none⟩ = some (.slice as_ ns cs) := hpqE'.out.bD.cell rfl
                have e2 : w9.cell? ⟨A + 1 + 1, 2, none⟩ = some (.slice none 0 0) := hpqE'.out.bD.cell rfl
                have q0 : w9.cell? ⟨A + 1, 0, none⟩ = some (.slice none 0 0) := hpqE'.out.bR.cell rfl
                have q1 : w9.cell? ⟨A + 1, 1, none⟩ = some (.slice none 0 0) := hpqE'.out.bR.cell rfl
                have q2 : w9.cell? ⟨A + 1, 2, none⟩ = some (.slice none 0 0) := hpqE'.out.bR.cell rfl
                have y0 := hpqE'.out.bR.frozen 0
                have y1 := hpqE'.out.bR.frozen 1
                have y2 := hpqE'.out.bR.frozen 2
                go_wp2_with fail
                have hbt := (((But.refl (A + 1) w9).set 0 (.slice av nv cv)).set 1 (.slice as_ ns cs)).set 2 (.slice none 0 0)
                have hsvR := hpqE'.out.nb
                have hokR := hpqE'.out.ok.but hbt (show A + 1 ≠ K.g by omega) (show A + 1 ≠ K.gt by omega) (fun e => by have := hsvR _ e; omega) (by omega)
                have hmvR := hpqE'.out.mv.new_set (show w.heap.size ≤ A + 1 by have := hA'.out; omega) hbt
                refine bodyPost_ret (results_cell_row rfl _ _ (A + 1) 48 #[.slice av nv cv, .slice as_ ns cs, .slice none 0 0] (0, 0) _ rfl (hpqE'.out.bR.set3 _ _ _) Try.underlying48 rfl (by kernel_rfl)) rfl ?_
                refine ⟨_, _, _, _, _, _, _, _, _, rfl, ?_⟩
                exact ⟨si, svi, tki, 6, hokR, hmvR, fun h => absurd h (by decide), fun _ => rfl⟩
              · have dy0 : ((YN : Int) == 0) = false := by simp; omega
                have dy1 : decide ((YN : Int) < 1) = false := by simp; omega
                rw [if_pos (by omega)] at htl
                have k7 : wr.cell? ⟨K.g, 7, none⟩ = some (.int .i64 0) := hpq.out.ok.blk.cell rfl
                have HT := dtake_any K t'.out si svi tki wr (4, no, 0, (XN : Int), (YN : Int)) hpq.out.ok XN YN rfl rfl (by omega) (by omega) (by have := hinvi.le; omega)
                obtain ⟨T, hT⟩ : ∃ T, takeS K.n (4, no, 0, (XN : Int), (YN : Int)) si = T := ⟨_, rfl⟩
                rw [hT] at HT htl
                clear hy0
                have HT' := Lib.hid HT
                have hT' := Lib.hid hT
                have htl' := Lib.hid htl
                have htg' := Lib.hid htg
                have hsu' := Lib.hid hsu
                have hinvi' := Lib.hid hinvi
                clear HT hT htl htg hsu hinvi
                go_wp2_with fail
                refine HT'.out.mono ?_
                rintro e w8 hpost
                cases T with
                | error y =>
                  obtain ⟨hy0, s8, sv8, tk8, hok8, hmv8, rfl⟩ := hpost
                  obtain rfl : R = .error y := htl'.out.symm
                  have hpqE := hpq.out.mv2 hgA hgtA hmv8 hok8
                  have k7 : w8.cell? ⟨K.g, 7, none⟩ = some (.int .i64 y) := hok8.blk.cell rfl
                  have dy : (y == 0) = false := by simp; exact hy0
                  clear hok8 hmv8 HT' hT' htl'
                  have hpqE' := Lib.hid hpqE
                  clear hpqE
                  have e0 : w8.cell? ⟨A + 1 + 1, 0, none⟩ = some (.slice av nv cv) := hpqE'.out.bD.cell rfl
                  have e1 : w8.cell? ⟨A + 1 + 1, 1, none⟩ = some (.slice as_ ns cs) := hpqE'.out.bD.cell rfl
                  have e2 : w8.cell? ⟨A + 1 + 1, 2, none⟩ = some (.slice none 0 0) := hpqE'.out.bD.cell rfl
                  have q0 : w8.cell? ⟨A + 1, 0, none⟩ = some (.slice none 0 0) := hpqE'.out.bR.cell rfl
                  have q1 : w8.cell? ⟨A + 1, 1, none⟩ = some (.slice none 0 0) := hpqE'.out.bR.cell rfl
                  have q2 : w8.cell? ⟨A + 1, 2, none⟩ = some (.slice none 0 0) := hpqE'.out.bR.cell rfl
                  have y0 := hpqE'.out.bR.frozen 0
                  have y1 := hpqE'.out.bR.frozen 1
                  have y2 := hpqE'.out.bR.frozen 2
                  go_wp2_with fail
                  have hbt := (((But.refl (A + 1) w8).set 0 (.slice av nv cv)).set 1 (.slice as_ ns cs)).set 2 (.slice none 0 0)
                  have hsvR := hpqE'.out.nb
                  have hokR := hpqE'.out.ok.but hbt (show A + 1 ≠ K.g by omega) (show A + 1 ≠ K.gt by omega) (fun e => by have := hsvR _ e; omega) (by omega)
                  have hmvR := hpqE'.out.mv.new_set (show w.heap.size ≤ A + 1 by have := hA'.out; omega) hbt
                  refine bodyPost_ret (results_cell_row rfl _ _ (A + 1) 48 #[.slice av nv cv, .slice as_ ns cs, .slice none 0 0] (0, 0) _ rfl (hpqE'.out.bR.set3 _ _ _) Try.underlying48 rfl (by kernel_rfl)) rfl ?_
                  refine ⟨_, _, _, _, _, _, _, _, _, rfl, ?_⟩
                  exact ⟨s8, sv8, tk8, y, hokR, hmvR, fun h => absurd h hy0, fun _ => rfl⟩
                | ok s8 =>
                  obtain ⟨sv8, tk8, hok8, hmv8, rfl⟩ := hpost
                  have hfit : XN + YN ≤ K.n := by
                    have := takeS_fit hT'.out
                    unfold fitB roomB at this
                    simp at this
                    omega
                  have hpq8 := hpq.out.mv2 hgA hgtA hmv8 hok8
                  have htg8 := htg'.out.keep (Kp.mv hmv8 (show K.g < A + 3 by omega) (show K.gt < A + 3 by omega))
                  have hsu8 := hsu'.out.keep (Kp.mv hmv8 (show K.g < A + 3 by omega) (show K.gt < A + 3 by omega))
                  have hR8 := htl'.out
                  simp only [Int.toNat_natCast] at hR8
                  have hb8 := hok8.byts t'.out
                  have hle8 := hb8.le
                  obtain ⟨a7, hsl, hs7, hin7⟩ := sub_lh (P := Try.prog) (T := 24) (E := 5) (sz := 1) Try.underlying24 (fun W => by kernel_rfl) hb8 (XN : Int) ((XN : Int) + YN) (by omega) (by omega) (by omega) YN (K.c - XN) (by omega) (by omega)
                  rw [Nat.mul_one, Nat.mul_one, Int.toNat_natCast, show ((ints .u8 K.z).drop XN).take YN = ints .u8 ((K.z.drop XN).take YN) by simp [ints, List.map_take, List.map_drop]] at hs7
                  have hwa : IntKind.i64.wrap ((XN : Int) + YN) = XN + YN := by rw [IntKind.wrap_i64]; omega
                  have k0 : w8.cell? ⟨K.g, 0, none⟩ = some (.slice K.a K.n K.c) := hok8.blk.cell rfl
                  have k7 : w8.cell? ⟨K.g, 7, none⟩ = some (.int .i64 0) := hok8.blk.cell rfl
                  have hbl : ((K.z.drop XN).take YN).length = YN := by rw [List.length_take, List.length_drop, hzl'.out]; omega
                  obtain ⟨bz, hbz⟩ : ∃ l, (K.z.drop XN).take YN = l := ⟨_, rfl⟩
                  rw [hbz] at hs7 hR8 hbl
                  have HCl := own01_any a7 YN (K.c - XN) bz w8 hs7 (by omega)
                  clear hbz hs7 hin7 hok8 hmv8 hb8 htl' hT' HT' htg' hsu'
                  have hpq8' := Lib.hid hpq8
                  have htg8' := Lib.hid htg8
                  have hsu8' := Lib.hid hsu8
                  have hR8' := Lib.hid hR8
                  have HCl' := Lib.hid HCl
                  have hbl' := Lib.hid hbl
                  clear hpq8 htg8 hsu8 hR8 HCl hbl
                  go_wp2_with fail
                  refine HCl'.out.mono ?_
                  rintro e w9 ⟨a9, c9, rfl, hown9, hb9⟩
                  have hpq9 := hpq8'.out.later hb9
                  have htg9 := htg8'.out.keep (Kp.later hb9)
                  have hsu9 := hsu8'.out.keep (Kp.later hb9)
                  have hsz8 : A + 3 ≤ w8.heap.size := hpq8'.out.sz
                  have hck9 : Ck (Xv sv8) (A + 3) w9 (.slice a9 YN c9) 5 1 YN (ints .u8 bz) := ⟨own_mono hown9 hsz8, fun k e h => by have h1 := (hown9.lt k e).1; have h2 := (hpq8'.out.ok.spot.lt k h).2; omega⟩
                  have hbt := (But.refl (A + 1 + 1) w9).set 2 (.slice a9 YN c9)
                  have q2 : w9.cell? ⟨A + 1 + 1, 2, none⟩ = some (.slice none 0 0) := hpq9.bD.cell rfl
                  have y2 := hpq9.bD.frozen 2
                  have hpqE := hpq9.setD hgA hgtA h0A hA'.out hbt (hpq9.bD.set 2 (.slice a9 YN c9))
                  have htgE := htg9.butT hbt hpq9.bD
                  have hsuE := hsu9.butT hbt hpq9.bD
                  have hckE := ck_butT hck9 hbt hpq9.bD (by decide)
                  replace hckE : Ck (Xv sv8) (A + 3) (w9.setCell ⟨A + 1 + 1, 2, none⟩ (.slice a9 YN c9)) (.slice a9 YN c9) 5 1 bz.length (ints .u8 bz) := by rw [hbl'.out]; exact hckE
                  clear hown9 hb9 hpq9 htg9 hsu9 hck9 hbt k0 k7 HCl' hpq8' htg8' hsu8'
                  have hpqE' := Lib.hid hpqE
                  have htgE' := Lib.hid htgE
                  have hsuE' := Lib.hid hsuE
                  have hckE' := Lib.hid hckE
                  clear hpqE htgE hsuE hckE
                  go_upto_region 33 with fail
                  clear q2 y2
                  generalize w9.setCell ⟨A + 1 + 1, 2, none⟩ (.slice a9 YN c9) = wE at *
                  have e0 : wE.cell? ⟨A + 1 + 1, 0, none⟩ = some (.slice av nv cv) := hpqE'.out.bD.cell rfl
                  have e1 : wE.cell? ⟨A + 1 + 1, 1, none⟩ = some (.slice as_ ns cs) := hpqE'.out.bD.cell rfl
                  have e2 : wE.cell? ⟨A + 1 + 1, 2, none⟩ = some (.slice a9 YN c9) := hpqE'.out.bD.cell rfl
                  have q0 : wE.cell? ⟨A + 1, 0, none⟩ = some (.slice none 0 0) := hpqE'.out.bR.cell rfl
                  have q1 : wE.cell? ⟨A + 1, 1, none⟩ = some (.slice none 0 0) := hpqE'.out.bR.cell rfl
                  have q2 : wE.cell? ⟨A + 1, 2, none⟩ = some (.slice none 0 0) := hpqE'.out.bR.cell rfl
                  have y0 := hpqE'.out.bR.frozen 0
                  have y1 := hpqE'.out.bR.frozen 1
                  have y2 := hpqE'.out.bR.frozen 2
                  go_wp2_with fail
                  have hbt := (((But.refl (A + 1) wE).set 0 (.slice av nv cv)).set 1 (.slice as_ ns cs)).set 2 (.slice a9 YN c9)
                  have hsvR := hpqE'.out.nb
                  have hokR := hpqE'.out.ok.but hbt (show A + 1 ≠ K.g by omega) (show A + 1 ≠ K.gt by omega) (fun e => by have := hsvR _ e; omega) (by omega)
                  have hmvR := hpqE'.out.mv.new_set (show w.heap.size ≤ A + 1 by have := hA'.out; omega) hbt
                  refine bodyPost_ret (results_cell_row rfl _ _ (A + 1) 48 #[.slice av nv cv, .slice as_ ns cs, .slice a9 YN c9] (0, 0) _ rfl (hpqE'.out.bR.set3 _ _ _) Try.underlying48 rfl (by kernel_rfl)) rfl ?_
                  refine ⟨_, _, _, _, _, _, _, _, _, rfl, ?_⟩
                  refine ⟨s8, sv8, tk8, 0, hokR, hmvR, fun _ => ⟨_, hR8'.out.symm, ?_⟩, fun h => absurd rfl h⟩
                  exact dir_at2 (B3 := A + 3) (htgE'.out.butT hbt hpqE'.out.bR) (hsuE'.out.butT hbt hpqE'.out.bR) (ck_butT hckE'.out hbt hpqE'.out.bR (by decide)) (by rw [hA'.out]; omega) (by rw [hA'.out]; omega)
          -- }DEV
end Go.Proofs.Ytheelhepelbgcaa

namespace Go.Proofs.Ytheelhepelbgcaa
open Go.RowKit Tt
set_option linter.unusedVariables false
set_option linter.unusedSimpArgs false

theorem rises_step : ∀ {l : List Ent} {i : Nat}, i + 1 < l.length → risesE (l.take (i + 2)) = (risesE (l.take (i + 1)) && decide ((l.getD i (0, 0, 0, 0)).1 < (l.getD (i + 1) (0, 0, 0, 0)).1))
  | [], i, h => by simp at h
  | [x], i, h => by simp at h
  | x :: y :: r, 0, h => by simp [risesE]
  | x :: y :: r, i + 1, h => by
    have ih := rises_step (l := y :: r) (i := i) (by simp at h ⊢; omega)
    show risesE (x :: (y :: r).take (i + 2)) = (risesE (x :: (y :: r).take (i + 1)) && decide (((y :: r).getD i (0, 0, 0, 0)).1 < ((y :: r).getD (i + 1) (0, 0, 0, 0)).1))
    show (decide (x.1 < y.1) && risesE (y :: r.take (i + 1))) = ((decide (x.1 < y.1) && risesE (y :: r.take i)) && _)
    rw [Bool.and_assoc]
    congr 1
theorem rises_zero (l : List Ent) : risesE (l.take 0) = true := by simp [risesE]
theorem rises_one (l : List Ent) : risesE (l.take 1) = true := by
  cases l with
  | nil => rfl
  | cons x r => rfl
theorem DwOk.num {K : DwS} {s : St} {sv : Value} {tk : List Int} {E : Int} {w : World} (h : DwOk K s sv tk E w) (t : DwT K) (n : Int) : DwOk K { s with no := n } sv tk E (w.setCell ⟨K.g, 5, none⟩ (.int .i64 n)) :=
  ⟨h.old.setCell (p := ⟨K.g, 5, none⟩) t.gB _, h.blk.set 5 _, (Below.heap_setCell _ ⟨K.g, 5, none⟩ _ K.gt (Ne.symm t.ne)).trans h.tak, h.tkl, h.bits, own_but h.spot ((But.refl K.g w).set 5 _) h.sg, h.sg, h.sgt⟩
set_option maxRecDepth 30000 in
set_option maxHeartbeats 8000000 in
/-- with an error nothing is read -/
theorem within_err (K : DwS) (t : DwT K) (E : Int) (hE : E ≠ 0) (la : Option Addr) (ln lc : Nat) (sat slong snx : Int) (ae : Option Addr) (n ce : Nat)
    (no : Int) (s : St) (sv : Value) (tk : List Int) (w : World) (hok : DwOk K s sv tk E w) :
    Calls Try.prog 58 #[.pointer (some ⟨K.g, 0, none⟩), .slice ae n ce, .int .i64 no, .agg #[.slice la ln lc, .int .i64 sat, .int .i64 slong, .int .i64 snx]] w
      fun e w' => e = .returned (.agg #[.slice none 0 0, .slice none 0 0, .slice none 0 0]) ∧ DwOk K s sv tk E w' ∧ Mv K.g K.gt sv sv w w' := by
  obtain ⟨A, hA⟩ : ∃ A, w.heap.size = A := ⟨_, rfl⟩
  have hgA : K.g < A := by rw [← hA]; exact hok.blk.lt
  have hgtA : K.gt < A := by rw [← hA]; exact Blk.lt (T := 3) hok.tak
  have h0A : K.w0.heap.size ≤ A := by rw [← hA]; exact hok.old.size
  obtain ⟨W, hW⟩ : ∃ W, ((w.alloc (.cells #[.slice la ln lc, .int .i64 sat, .int .i64 slong, .int .i64 snx] 35)).alloc (.cells #[.slice none 0 0, .slice none 0 0, .slice none 0 0] 48)).alloc (.cells #[.slice none 0 0, .slice none 0 0, .slice none 0 0] 48) = W := ⟨_, rfl⟩
  have bR : Blk W (A + 1) 48 #[.slice none 0 0, .slice none 0 0, .slice none 0 0] := by rw [← hW]; exact Blk.alloc (show Blk _ (A + 1) 48 #[.slice none 0 0, .slice none 0 0, .slice none 0 0] from heap_new' _ _ (by rw [World.size_alloc, hA])) _
  have bD : Blk W (A + 1 + 1) 48 #[.slice none 0 0, .slice none 0 0, .slice none 0 0] := by rw [← hW]; exact heap_new' _ _ (by rw [World.size_alloc, World.size_alloc, hA])
  have hbW : Below w.heap.size w W := by rw [← hW]; exact ((((Below.refl w.heap.size w).alloc (Nat.le_refl _) _).alloc (by simp) _).alloc (by simp; omega) _)
  have hokW := hok.later hbW
  have hsvA : ∀ k, sv.ownBlock = some k → k < A := fun k e => by rw [← hA]; exact (hok.spot.lt k e).2
  have dE : (E == 0) = false := by simp; exact hE
  have k7 : W.cell? ⟨K.g, 7, none⟩ = some (.int .i64 E) := hokW.blk.cell rfl
  have e0 : W.cell? ⟨A + 1 + 1, 0, none⟩ = some (.slice none 0 0) := bD.cell rfl
  have e1 : W.cell? ⟨A + 1 + 1, 1, none⟩ = some (.slice none 0 0) := bD.cell rfl
  have e2 : W.cell? ⟨A + 1 + 1, 2, none⟩ = some (.slice none 0 0) := bD.cell rfl
  have y0 := bD.frozen 0
  have y1 := bD.frozen 1
  have y2 := bD.frozen 2
  have hA' := Lib.hid hA
  have t' := Lib.hid t
  have hok' := Lib.hid hok
  have bR' := Lib.hid bR
  have bD' := Lib.hid bD
  have hbW' := Lib.hid hbW
  have hokW' := Lib.hid hokW
  have hsvA' := Lib.hid hsvA
  have hE' := Lib.hid hE
  clear t hok bR bD hbW hokW hsvA hE
  go_enter Try.func58, Try.ntmps58
  go_upto_region 3 with fail
  try rw [bD'.out.set3_same]
  clear hW hA
  go_wp2_with fail
  go_loopw [10, 11, 12] (fun fv lv iv wr => fv = .int .i64 (-1) ∧ lv = .int .i64 (-1) ∧ iv = .int .i64 0 ∧ W = wr) (fun _ _ _ _ => 0)
  case atStart => exact ⟨rfl, rfl, rfl, rfl⟩
  case round =>
    obtain ⟨rfl, rfl, rfl, rfl⟩ := hrel
    go_upto_region 4 with fail
    go_cut [29] from 19 to 83 (fun v wx => v = .bool false ∧ W = wx)
    case first =>
      by_cases hn : 0 < n
      · have hn2 : (0 : Int) < n := by omega
        go_wp2_with fail
        go_meet
        exact ⟨rfl, rfl⟩
      · obtain rfl : n = 0 := by omega
        go_wp2_with fail
        go_meet
        exact ⟨rfl, rfl⟩
    case rest =>
    obtain ⟨rfl, rfl⟩ := hcut
    go_wp2_with fail
    go_loopw [14] (fun iv wr => iv = .int .i64 0 ∧ W = wr) (fun _ _ => 0)
    case atStart => exact ⟨rfl, rfl⟩
    case round =>
      obtain ⟨rfl, rfl⟩ := hrel
      go_upto_region 18 with fail
      go_cut [101] from 91 to 144 (fun v wx => v = .bool false ∧ W = wx)
      case first =>
        by_cases hn : 0 < n
        · have hn2 : (0 : Int) < n := by omega
          go_wp2_with fail
          go_meet
          exact ⟨rfl, rfl⟩
        · obtain rfl : n = 0 := by omega
          go_wp2_with fail
          go_meet
          exact ⟨rfl, rfl⟩
      case rest =>
      obtain ⟨rfl, rfl⟩ := hcut
      have q0 : W.cell? ⟨A + 1, 0, none⟩ = some (.slice none 0 0) := bR'.out.cell rfl
      have q1 : W.cell? ⟨A + 1, 1, none⟩ = some (.slice none 0 0) := bR'.out.cell rfl
      have q2 : W.cell? ⟨A + 1, 2, none⟩ = some (.slice none 0 0) := bR'.out.cell rfl
      have x0 := bR'.out.frozen 0
      have x1 := bR'.out.frozen 1
      have x2 := bR'.out.frozen 2
      go_wp2_with fail
      first | rw [bR'.out.set3_same] | skip
      refine bodyPost_ret (results_cell_row rfl _ _ (A + 1) 48 #[.slice none 0 0, .slice none 0 0, .slice none 0 0] (0, 0) _ rfl bR'.out Try.underlying48 rfl (by kernel_rfl)) rfl ?_
      exact ⟨rfl, hokW'.out, Mv.of_below hbW'.out⟩
end Go.Proofs.Ytheelhepelbgcaa

namespace Go.Proofs.Ytheelhepelbgcaa
open Go.RowKit Tt
set_option linter.unusedVariables false
set_option linter.unusedSimpArgs false

theorem infoEn' : (Try.prog.info? 105).map (fun i => (i.size, i.bytes)) = some (4, 32) := by kernel_rfl
theorem infoEnz' : (Try.prog.info? 105).map (fun i => i.zero.map (fun z => z.cells.size)) = some (some 4) := by kernel_rfl
/-- what stands while a directory's entries are read -/
structure Pe (K : DwS) (A : Nat) (w : World) (sv : Value) (s : St) (svi : Value) (tk : List Int) (E : Int) (wr : World) : Prop where
  ok : DwOk K s svi tk E wr
  mv : Mv K.g K.gt sv svi w wr
  nb : ∀ k, svi.ownBlock = some k → k < A ∨ A + 1 ≤ k
  bR : Blk wr A 48 #[.slice none 0 0, .slice none 0 0, .slice none 0 0]
  sz : A + 1 ≤ wr.heap.size
section
variable {K : DwS} {A : Nat} {w : World} {sv : Value} {s : St} {svi : Value} {tk : List Int} {E : Int} {wr wr' : World}
theorem Pe.later (h : Pe K A w sv s svi tk E wr) (hb : Below wr.heap.size wr wr') : Pe K A w sv s svi tk E wr' :=
  ⟨h.ok.later hb, h.mv.later hb, h.nb, h.bR.late hb, Nat.le_trans h.sz hb.size⟩
theorem Pe.mv2 {s' : St} {sv' : Value} {tk' : List Int} {E' : Int} (h : Pe K A w sv s svi tk E wr) (hg : K.g < A) (hgt : K.gt < A) (m : Mv K.g K.gt svi sv' wr wr') (ok' : DwOk K s' sv' tk' E' wr') : Pe K A w sv s' sv' tk' E' wr' :=
  have hsz := h.sz
  ⟨ok', h.mv.trans m, fun k e => by rcases m.own k e with h1 | h1 <;> first | exact h.nb k h1 | omega,
   h.bR.mv m (by omega) (by omega) (fun e => by have := h.nb _ e; omega), Nat.le_trans hsz m.size⟩
end
theorem own_rows_grown {w w' : World} {B : Nat} {E : TypeId} {sz n : Nat} {v : Value} {xs : List Value} (K : DwS) {s : St} {sv : Value} {tk : List Int} {Er : Int} (h : w.ownsRow B E sz v n xs) (hE : 105 = E) (ok : DwOk K s sv tk Er w) (hg : w.grownBy w' v.ownBlock) (hB : K.g < B) (hB2 : K.gt < B) (hB0 : K.w0.heap.size ≤ B) (hX : ∀ k, v.ownBlock = some k → sv.ownBlock ≠ some k) : DwOk K s sv tk Er w' := by
  cases hv : v.ownBlock with
  | none =>
    rw [hv] at hg
    exact ok.later (grown_below hg)
  | some r =>
    rw [hv] at hg
    have := (h.lt r hv).1
    exact ok.but (grown_but hg) (by omega) (by omega) (hX r hv) (by omega)
theorem Pe.grown {K : DwS} {A : Nat} {w : World} {sv : Value} {s : St} {svi : Value} {tk : List Int} {E : Int} {wr w9 : World} {row : Option Nat} (h : Pe K A w sv s svi tk E wr) (hg : K.g < A) (hgt : K.gt < A) (h0 : K.w0.heap.size ≤ A) (hw : w.heap.size = A) (hgr : wr.grownBy w9 row) (hr : ∀ r, row = some r → A + 1 ≤ r ∧ svi.ownBlock ≠ some r) : Pe K A w sv s svi tk E w9 := by
  have hsz := h.sz
  cases row with
  | none => exact h.later (grown_below hgr)
  | some r =>
    have hr := hr r rfl
    have hbr := grown_but hgr
    exact ⟨h.ok.but hbr (by omega) (by omega) hr.2 (by omega), h.mv.new_set (by omega) hbr, h.nb, h.bR.but hbr (by omega), Nat.le_trans hsz hbr.size⟩
set_option maxRecDepth 30000 in
set_option maxHeartbeats 40000000 in
theorem ddir_step (K : DwS) (t : DwT K) (ho : K.o = 1 ∨ K.o = 2) (hval : shapesB (shps K.zs) = true) (f : Nat)
    (IH : ∀ (p : Int) (sh : Nat) (s : St) (sv : Value) (tk : List Int) (w : World), DwOk K s sv tk 0 w → Inv K.n s → 0 ≤ p → p ≤ 4294967295 → sh < K.sn → K.sn ≤ sh + f →
      Calls Try.prog 37 #[.pointer (some ⟨K.g, 0, none⟩), .int .i64 p, .int .i64 sh] w (DirU K f sv w (dirS K.z K.o (shps K.zs) f p sh s)))
    (p : Int) (sh : Nat) (s : St) (sv : Value) (tk : List Int) (w : World) (hok : DwOk K s sv tk 0 w) (hinv : Inv K.n s) (h0 : 0 ≤ p) (h1 : p ≤ 4294967295) (hshn : sh < K.sn) (hshf : K.sn ≤ sh + (f + 1)) :
    Calls Try.prog 37 #[.pointer (some ⟨K.g, 0, none⟩), .int .i64 p, .int .i64 sh] w (DirU K (f + 1) sv w (dirS K.z K.o (shps K.zs) (f + 1) p sh s)) := by
  have hn := t.n1
  have hzl := t.hs.ilen
  have hsl := t.hsh.len
  obtain ⟨R, hR⟩ : ∃ R, dirS K.z K.o (shps K.zs) (f + 1) p sh s = R := ⟨_, rfl⟩
  rw [hR]
  rw [dirS_wh, Int.toNat_natCast, shps_get (by rw [hsl]; exact hshn)] at hR
  obtain ⟨zz, hzz⟩ : ∃ z, K.zs.getD sh shz0 = z := ⟨_, rfl⟩
  have hlk0 := t.hsh.at hshn
  rw [hzz] at hR hlk0
  obtain ⟨⟨la, ln, lc⟩, ⟨lks, sat, slong, snx⟩⟩ := zz
  simp only at hR hlk0
  have hshp : shapeB K.sn sh (lks, sat, slong, snx) = true := by
    have hv := hval
    unfold shapesB at hv
    simp only [Bool.and_eq_true, decide_eq_true_eq] at hv
    have h1 := List.all_eq_true.1 hv.2 sh (List.mem_range.2 (by simp [shps]; rw [hsl]; exact hshn))
    rw [shps_get (by rw [hsl]; exact hshn), hzz] at h1
    simp only [shps, List.length_map, hsl] at h1
    exact h1
  have hlks : ∀ j, j < lks.length → ∃ sh' : Nat, (lks.getD j (0, 0)).2 = sh' ∧ sh' < K.sn ∧ K.sn ≤ sh' + f := fun j hj => by
    have h1 := hshp
    unfold shapeB at h1
    simp only [Bool.and_eq_true] at h1
    have h2 := List.all_eq_true.1 h1.1.1 j (List.mem_range.2 hj)
    unfold linkB at h2
    simp only [Bool.and_eq_true] at h2
    have h3 := h2.1.2
    unfold lateB at h3
    simp only [Bool.and_eq_true, decide_eq_true_eq] at h3
    exact ⟨(lks.getD j (0, 0)).2.toNat, by omega, by omega, by omega⟩
  obtain ⟨no1, hno1⟩ : ∃ n1, IntKind.i64.wrap (s.no + 1) = n1 := ⟨_, rfl⟩
  rw [hno1] at hR
  obtain ⟨A, hA⟩ : ∃ A, w.heap.size = A := ⟨_, rfl⟩
  have hgA : K.g < A := by rw [← hA]; exact hok.blk.lt
  have hgtA : K.gt < A := by rw [← hA]; exact Blk.lt (T := 3) hok.tak
  have h0A : K.w0.heap.size ≤ A := by rw [← hA]; exact hok.old.size
  obtain ⟨W, hW⟩ : ∃ W, w.alloc (.cells #[.slice none 0 0, .slice none 0 0, .slice none 0 0] 48) = W := ⟨_, rfl⟩
  have bR : Blk W A 48 #[.slice none 0 0, .slice none 0 0, .slice none 0 0] := by rw [← hW, ← hA]; exact Blk.new w _ _
  have hbW : Below w.heap.size w W := by rw [← hW]; exact (Below.refl w.heap.size w).alloc (Nat.le_refl _) _
  have hszW : W.heap.size = A + 1 := by rw [← hW, ← hA]; simp
  have hokW := hok.later hbW
  have hsvA : ∀ k, sv.ownBlock = some k → k < A := fun k e => by rw [← hA]; exact (hok.spot.lt k e).2
  have c5 : W.cell? ⟨K.g, 5, none⟩ = some (.int .i64 s.no) := hokW.blk.cell rfl
  have y5 := hokW.blk.frozen 5
  have hbt := (But.refl K.g W).set 5 (.int .i64 no1)
  have hpe2 : Pe K A w sv { s with no := no1 } sv tk 0 (W.setCell ⟨K.g, 5, none⟩ (.int .i64 no1)) :=
    ⟨hokW.num t no1, (Mv.of_below hbW).trans (Mv.of_but hbt (.inl rfl)), fun k e => .inl (hsvA k e), bR.but hbt (by omega), by show A + 1 ≤ _; rw [← hszW]; exact hbt.size⟩
  have hinv2 : Inv K.n { s with no := no1 } := hinv.of_spots rfl
  have hA' := Lib.hid hA
  clear hbt
  have IH' := Lib.hid IH
  have t' := Lib.hid t
  have hok' := Lib.hid hok
  have hinv' := Lib.hid hinv
  have hzl' := Lib.hid hzl
  have hsl' := Lib.hid hsl
  have hR' := Lib.hid hR
  have hzz' := Lib.hid hzz
  have hlk0' := Lib.hid hlk0
  have hshp' := Lib.hid hshp
  have hlks' := Lib.hid hlks
  have bR' := Lib.hid bR
  have hbW' := Lib.hid hbW
  have hokW' := Lib.hid hokW
  have hsvA' := Lib.hid hsvA
  have hpe2' := Lib.hid hpe2
  have hinv2' := Lib.hid hinv2
  have hval' := Lib.hid hval
  clear IH t hok hinv hzl hsl hR hzz hlk0 hshp hlks bR hbW hokW hsvA hpe2 hinv2 hval
  go_enter Try.func37, Try.ntmps37
  go_upto_region 3 with fail
  try rw [hno1]
  try rw [hW]
  try rw [hA]
  clear hW c5 y5 hA hno1
  generalize W.setCell ⟨K.g, 5, none⟩ (.int .i64 no1) = w2 at *
  have hR1 := hR'.out
  unfold entriesS at hR1
  rw [hzl'.out] at hR1
  have hRm := fun W => rroom_any p 2 K.n W (by omega) (by omega)
  have htm : Int.tmod p 2 = p % 2 := Int.tmod_eq_emod_of_nonneg h0
  have k0 : w2.cell? ⟨K.g, 0, none⟩ = some (.slice K.a K.n K.c) := hpe2'.out.ok.blk.cell rfl
  clear hR'
  have hRm' := Lib.hid hRm
  clear hRm
  by_cases hev : p % 2 = 0
  case neg =>
    have d1 : (p % 2 != 0) = true := by simp [hev]
    obtain rfl : R = .error 4 := by rw [← hR1, decide_eq_false hev]; simp
    clear hR1 hev
    go_wp2_with (go_at_call 56; refine (hRm'.out _).mono ?_; rintro e w3 ⟨rfl, rfl⟩)
    refine (fail_du t'.out hpe2'.out.ok (by decide)).mono ?_
    rintro e w9 ⟨rfl, hok9, hmv9⟩
    replace hok9 : DwOk K { s with no := no1 } sv tk 4 w9 := hok9
    have hpeE := hpe2'.out.mv2 hgA hgtA hmv9 hok9
    clear hok9 hmv9
    obtain ⟨s9, hs9⟩ : ∃ s9 : St, { s with no := no1 } = s9 := ⟨_, rfl⟩
    rw [hs9] at hpeE
    have hpeE' := Lib.hid hpeE
    clear hpeE
    have p0 : w9.cell? ⟨A, 0, none⟩ = some (.slice none 0 0) := hpeE'.out.bR.cell rfl
    have p1 : w9.cell? ⟨A, 1, none⟩ = some (.slice none 0 0) := hpeE'.out.bR.cell rfl
    have p2 : w9.cell? ⟨A, 2, none⟩ = some (.slice none 0 0) := hpeE'.out.bR.cell rfl
    have y0 := hpeE'.out.bR.frozen 0
    have y1 := hpeE'.out.bR.frozen 1
    have y2 := hpeE'.out.bR.frozen 2
    go_wp2_with fail
    first | rw [hpeE'.out.bR.set3_same] | skip
    refine bodyPost_ret (results_blk_tmp rfl _ _ A 48 #[.slice none 0 0, .slice none 0 0, .slice none 0 0] _ rfl hpeE'.out.bR Try.underlying48 rfl (by kernel_rfl)) rfl ?_
    exact ⟨_, _, _, _, _, _, _, _, _, _, rfl, s9, sv, tk, 4, hpeE'.out.ok, hpeE'.out.mv, fun h => absurd h (by first | decide | exact hy0), fun _ => rfl⟩
  have d1 : (p % 2 != 0) = false := by simp [hev]
  rw [decide_eq_true hev, Bool.true_and] at hR1
  obtain ⟨r, hr⟩ : ∃ r, roomB p 2 K.n = r := ⟨_, rfl⟩
  rw [hr] at hR1 hRm'
  cases r
  case false =>
    obtain rfl : R = .error 4 := by rw [← hR1]; simp
    clear hR1 hev hr
    go_wp2_with (go_at_call 56; refine (hRm'.out _).mono ?_; rintro e w3 ⟨rfl, rfl⟩)
    refine (fail_du t'.out hpe2'.out.ok (by decide)).mono ?_
    rintro e w9 ⟨rfl, hok9, hmv9⟩
    replace hok9 : DwOk K { s with no := no1 } sv tk 4 w9 := hok9
    have hpeE := hpe2'.out.mv2 hgA hgtA hmv9 hok9
    clear hok9 hmv9
    obtain ⟨s9, hs9⟩ : ∃ s9 : St, { s with no := no1 } = s9 := ⟨_, rfl⟩
    rw [hs9] at hpeE
    have hpeE' := Lib.hid hpeE
    clear hpeE
    have p0 : w9.cell? ⟨A, 0, none⟩ = some (.slice none 0 0) := hpeE'.out.bR.cell rfl
    have p1 : w9.cell? ⟨A, 1, none⟩ = some (.slice none 0 0) := hpeE'.out.bR.cell rfl
    have p2 : w9.cell? ⟨A, 2, none⟩ = some (.slice none 0 0) := hpeE'.out.bR.cell rfl
    have y0 := hpeE'.out.bR.frozen 0
    have y1 := hpeE'.out.bR.frozen 1
    have y2 := hpeE'.out.bR.frozen 2
    go_wp2_with fail
    first | rw [hpeE'.out.bR.set3_same] | skip
    refine bodyPost_ret (results_blk_tmp rfl _ _ A 48 #[.slice none 0 0, .slice none 0 0, .slice none 0 0] _ rfl hpeE'.out.bR Try.underlying48 rfl (by kernel_rfl)) rfl ?_
    exact ⟨_, _, _, _, _, _, _, _, _, _, rfl, s9, sv, tk, 4, hpeE'.out.ok, hpeE'.out.mv, fun h => absurd h (by first | decide | exact hy0), fun _ => rfl⟩
  rw [if_pos rfl] at hR1
  clear hev hr
  have hkv := getV_lt t'.out.byt p 2 K.o
  rw [show ((2 : Nat) : Int) = 2 from rfl] at hkv
  have HN := dnum_any K t'.out { s with no := no1 } sv tk 0 p 2 w2 hpe2'.out.ok
  obtain ⟨k, hk⟩ : ∃ k : Nat, getV K.z p 2 K.o = k := ⟨(getV K.z p 2 K.o).toNat, by omega⟩
  rw [hk] at hR1 hkv HN
  have hk6 : k < 65536 := by have h := hkv.2; rw [show (256 : Int) ^ 2 = 65536 by decide] at h; omega
  clear hkv hk
  rw [Int.toNat_natCast] at hR1
  have HN' := Lib.hid HN
  clear HN
  go_wp2_with (go_at_call 56; refine (hRm'.out _).mono ?_; rintro e w3 ⟨rfl, rfl⟩)
  refine HN'.out.mono ?_
  rintro e w3 ⟨rfl, hb3⟩
  have hpe3 := hpe2'.out.later hb3
  clear hb3 HN' k0
  have hpe3' := Lib.hid hpe3
  clear hpe3
  by_cases hk0 : 0 < k
  case neg =>
    obtain rfl : k = 0 := by omega
    obtain rfl : R = .error 2 := by rw [← hR1, if_neg (by simp)]
    clear hR1 hk0
    go_wp2_with (go_at_call 56; refine (hRm'.out _).mono ?_; rintro e w3 ⟨rfl, rfl⟩)
    refine (fail_du t'.out hpe3'.out.ok (by decide)).mono ?_
    rintro e w9 ⟨rfl, hok9, hmv9⟩
    replace hok9 : DwOk K { s with no := no1 } sv tk 2 w9 := hok9
    have hpeE := hpe3'.out.mv2 hgA hgtA hmv9 hok9
    clear hok9 hmv9
    obtain ⟨s9, hs9⟩ : ∃ s9 : St, { s with no := no1 } = s9 := ⟨_, rfl⟩
    rw [hs9] at hpeE
    have hpeE' := Lib.hid hpeE
    clear hpeE
    have p0 : w9.cell? ⟨A, 0, none⟩ = some (.slice none 0 0) := hpeE'.out.bR.cell rfl
    have p1 : w9.cell? ⟨A, 1, none⟩ = some (.slice none 0 0) := hpeE'.out.bR.cell rfl
    have p2 : w9.cell? ⟨A, 2, none⟩ = some (.slice none 0 0) := hpeE'.out.bR.cell rfl
    have y0 := hpeE'.out.bR.frozen 0
    have y1 := hpeE'.out.bR.frozen 1
    have y2 := hpeE'.out.bR.frozen 2
    go_wp2_with fail
    first | rw [hpeE'.out.bR.set3_same] | skip
    refine bodyPost_ret (results_blk_tmp rfl _ _ A 48 #[.slice none 0 0, .slice none 0 0, .slice none 0 0] _ rfl hpeE'.out.bR Try.underlying48 rfl (by kernel_rfl)) rfl ?_
    exact ⟨_, _, _, _, _, _, _, _, _, _, rfl, s9, sv, tk, 2, hpeE'.out.ok, hpeE'.out.mv, fun h => absurd h (by first | decide | exact hy0), fun _ => rfl⟩
  have d2 : ((k : Int) == 0) = false := by simp; omega
  rw [if_pos (by omega)] at hR1
  obtain ⟨P, rfl⟩ : ∃ P : Nat, p = P := ⟨p.toNat, by omega⟩
  have HT := dtake_any K t'.out { s with no := no1 } sv tk w3 (2, s.no, 0, (P : Int), 6 + 12 * (k : Int)) hpe3'.out.ok P (6 + 12 * k) rfl (show (6 + 12 * (k : Int)) = ((6 + 12 * k : Nat) : Int) by omega) (by omega) (by omega) (by have := hinv2'.out.le; omega)
  obtain ⟨T, hT⟩ : ∃ T, takeS K.n (2, s.no, 0, (P : Int), 6 + 12 * (k : Int)) { s with no := no1 } = T := ⟨_, rfl⟩
  rw [hT] at HT hR1
  have HT' := Lib.hid HT
  have hR1' := Lib.hid hR1
  clear HT hR1
  go_wp2_with fail
  refine HT'.out.mono ?_
  rintro e w5 hpost
  cases T with
  | error y =>
    obtain ⟨hy0, s5, sv5, tk5, hok5, hmv5, rfl⟩ := hpost
    obtain rfl : R = .error y := by rw [← hR1'.out]
    have hpeE := hpe3'.out.mv2 hgA hgtA hmv5 hok5
    have d7 : (y != 0) = true := by simp; exact hy0
    have k7 : w5.cell? ⟨K.g, 7, none⟩ = some (.int .i64 y) := hok5.blk.cell rfl
    clear hR1' hT HT' hok5 hmv5
    have hpeE' := Lib.hid hpeE
    clear hpeE
    have p0 : w5.cell? ⟨A, 0, none⟩ = some (.slice none 0 0) := hpeE'.out.bR.cell rfl
    have p1 : w5.cell? ⟨A, 1, none⟩ = some (.slice none 0 0) := hpeE'.out.bR.cell rfl
    have p2 : w5.cell? ⟨A, 2, none⟩ = some (.slice none 0 0) := hpeE'.out.bR.cell rfl
    have y0 := hpeE'.out.bR.frozen 0
    have y1 := hpeE'.out.bR.frozen 1
    have y2 := hpeE'.out.bR.frozen 2
    go_wp2_with fail
    first | rw [hpeE'.out.bR.set3_same] | skip
    refine bodyPost_ret (results_blk_tmp rfl _ _ A 48 #[.slice none 0 0, .slice none 0 0, .slice none 0 0] _ rfl hpeE'.out.bR Try.underlying48 rfl (by kernel_rfl)) rfl ?_
    exact ⟨_, _, _, _, _, _, _, _, _, _, rfl, s5, sv5, tk5, y, hpeE'.out.ok, hpeE'.out.mv, fun h => absurd h (by first | decide | exact hy0), fun _ => rfl⟩
  | ok s1 =>
    obtain ⟨sv1, tk1, hok1, hmv1, rfl⟩ := hpost
    have hfit : P + 6 + 12 * k ≤ K.n := by
      have := takeS_fit hT
      unfold fitB roomB at this
      simp at this
      omega
    have hinv1 : Inv K.n s1 := takeS_inv hT (by show (1 : Int) ≤ 6 + 12 * (k : Int); omega) hinv2'.out
    have hpe5 := hpe3'.out.mv2 hgA hgtA hmv1 hok1
    have hEl := entsS_len K.z K.o P k
    have hEg := fun i (h : i < k) => entsS_get (z := K.z) (o := K.o) (p := (P : Int)) h
    have hEm : ∀ i, i < k → 0 ≤ ((entsS K.z K.o P k).getD i (0, 0, 0, 0)).2.2.2 ∧ ((entsS K.z K.o P k).getD i (0, 0, 0, 0)).2.2.2 ≤ 4294967295 := fun i hi => by
      rw [hEg i hi]
      have := getV_lt t'.out.byt ((P : Int) + 2 + 12 * i + 8) 4 K.o
      rw [show ((4 : Nat) : Int) = 4 from rfl, show (256 : Int) ^ 4 = 4294967296 by decide] at this
      exact ⟨this.1, by have := this.2; show getV K.z ((P : Int) + 2 + 12 * i + 8) 4 K.o ≤ _; omega⟩
    obtain ⟨EE, hE⟩ : ∃ E, entsS K.z K.o P k = E := ⟨_, rfl⟩
    have hR2 := hR1'.out
    simp only at hR2
    rw [hE] at hEl hEg hEm hR2
    have hRW : R = match (if risesE EE = true then whS K.z K.o (shps K.zs) f (lks, sat, slong, snx) s.no EE s1 else .error 2) with
        | .error e => .error e
        | .ok (d, s4) => .ok ((d, getV K.z ((P : Int) + 2 + 12 * k) 4 K.o), s4) := by
      rw [← hR2]
      cases hri : risesE EE with
      | true =>
        simp only [if_true, hEl]
        cases whS K.z K.o (shps K.zs) f (lks, sat, slong, snx) s.no EE s1 <;> rfl
      | false => rfl
    obtain ⟨i0, z0, hi0, hz, hz1, hz2, hz3⟩ := info_sz infoEn' infoEnz'
    have k7 : w5.cell? ⟨K.g, 7, none⟩ = some (.int .i64 0) := hok1.blk.cell rfl
    have hsv5 : ∀ k, sv1.ownBlock = some k → k < w5.heap.size := fun k e => (hok1.spot.lt k e).2
    clear hE hT HT' hmv1 hok1 hR1' hR2
    have hRW' := Lib.hid hRW
    have hEl' := Lib.hid hEl
    have hEg' := Lib.hid hEg
    have hEm' := Lib.hid hEm
    have hpe5' := Lib.hid hpe5
    have hinv1' := Lib.hid hinv1
    have hsv5' := Lib.hid hsv5
    clear hRW hEl hEg hEm hpe5 hinv1 hsv5
    go_wp2_with fail
    clear k7
    go_loopw [10, 11] (fun ov iv wr => ∃ (i : Nat) (a : Option Addr) (c : Nat) (E : Int), i ≤ k ∧ iv = .int .i64 i ∧ ov = .slice a i c ∧ Hid (wr.ownsRow w5.heap.size 105 4 (.slice a i c) i (fl entC (EE.take i))) ∧ Hid (Pe K A w sv s1 sv1 tk1 E wr) ∧ Hid (Mv K.g K.gt sv1 sv1 w5 wr) ∧ Hid (E = if risesE (EE.take i) = true then 0 else 2)) (fun _ iv _ => k - (intOf iv).toNat)
    case atStart => exact ⟨0, none, 0, 0, by omega, rfl, rfl, Lib.hid (own_nil _ _ _ _), hpe5', Lib.hid (Mv.refl _ _ _ _), Lib.hid (by rw [rises_zero, if_pos rfl])⟩
    case round =>
      obtain ⟨i, a, c, E, hi, rfl, rfl, hown, hpe, hmv, hEr⟩ := hrel
      by_cases hlt : i < k
      case pos =>
        skip
        -- DEV{ENT
        have hin : (i : Int) < k := by omega
        obtain ⟨Ty, ff, hne, hbel, hsurj⟩ := later_worlds wr
        have q0 : ∀ s, (ff s).cell? ⟨K.g, 0, none⟩ = some (.slice K.a K.n K.c) := fun s => (Blk.late hpe.out.ok.blk (hbel s)).cell rfl
        have q1 : ∀ s, (ff s).cell? ⟨K.g, 1, none⟩ = some (.int .i64 K.o) := fun s => (Blk.late hpe.out.ok.blk (hbel s)).cell rfl
        have HS := Lib.hid (hsurj _ ((Below.refl _ _).drew))
        have HD := Lib.hid ((Below.refl wr.heap.size wr).drew)
        have hwm : IntKind.i64.wrap (12 * (i : Int)) = 12 * i := by rw [IntKind.wrap_i64]; omega
        have hwp : IntKind.i64.wrap ((P : Int) + 2) = P + 2 := by rw [IntKind.wrap_i64]; omega
        have hwq : IntKind.i64.wrap ((P : Int) + 2 + 12 * i) = P + 2 + 12 * i := by rw [IntKind.wrap_i64]; omega
        have hEi := hEg'.out i hlt
        have HRd := fun W (h : Below wr.heap.size wr W) => rread_any K.a K.n K.c K.z K.o ((P : Int) + 2 + 12 * i) W ((hpe.out.ok.byts t'.out).mono h) t'.out.byt ho (by omega) (by omega) (by omega)
        rw [← hEi] at HRd
        obtain ⟨x, hx⟩ : ∃ x, EE.getD i (0, 0, 0, 0) = x := ⟨_, rfl⟩
        rw [hx] at HRd
        unfold entV at HRd
        obtain ⟨x1, x2, x3, x4⟩ := x
        simp only at HRd
        clear hEi
        have hbel' := Lib.hid hbel
        have hsurj' := Lib.hid hsurj
        have HRd' := Lib.hid HRd
        have hx' := Lib.hid hx
        clear hbel hsurj HRd hx
        go_upto_region 17 with fail
        go_cut [12, 13] from 64 to 104 (fun v u wx => ∃ (g7 : Nat), v = .pointer (some ⟨g7, 0, none⟩) ∧ u = .bool true ∧ Hid (Below wr.heap.size wr wx) ∧ Hid (Blk wx g7 105 #[.int .i64 x1, .int .i64 x2, .int .i64 x3, .int .i64 x4]))
        case first =>
          refine held_begin (S := fun W => ∃ s, W = ff s) (by kernel_rfl) 20 rfl ?_
          refine held_take [0, 1, 2, 3, 4, 5, 6, 7, 8, 9, 10, 11, 12] 7 (by kernel_rfl) (fun d _ _ _ _ h => by cases d <;> exact h) (by kernel_rfl) (by kernel_rfl) (by kernel_rfl) HS.out ?_
          simp only [pickL, List.map_cons, List.map_nil, List.getD_cons_succ, List.getD_cons_zero]
          iterate 13 (go_big_quiet_step (fail))
          refine wpQuiet_nil ?_
          refine held_two 13 17 6 (by kernel_rfl) (by kernel_rfl) ?_ ?_
          all_goals simp only [pickL, List.map_cons, List.map_nil, List.getD_cons_succ, List.getD_cons_zero]
          case refine_1 =>
            go_wp2_with fail
            refine (HRd'.out _ HD.out).mono ?_
            rintro e w6 ⟨rfl, hb6⟩
            have hb6 := HD.out.trans (hb6.mono HD.out.size)
            have HS := Lib.hid (hsurj'.out _ hb6)
            have hb6' := Lib.hid hb6
            clear hb6
            go_wp2_with fail
            first | refine Mid.mk ⟨HS.out, ?_⟩ | refine Mid.mk ?_
            refine held_take [14, 15, 16] 3 (by kernel_rfl) (fun d _ _ _ _ h => by cases d <;> exact h) (by kernel_rfl) (by kernel_rfl) (by kernel_rfl) HS.out ?_
            simp only [pickL, List.map_cons, List.map_nil, List.getD_cons_succ, List.getD_cons_zero]
            iterate 3 (go_big_quiet_step (fail))
            refine wpQuiet_nil ?_
            refine held_one 17 2 (by kernel_rfl) (by kernel_rfl) ?_
            simp only [pickL, List.map_cons, List.map_nil, List.getD_cons_succ, List.getD_cons_zero]
            go_wp2_with fail
            have b7 := Blk.new w6 105 #[.int .i64 0, .int .i64 0, .int .i64 0, .int .i64 0]
            have hb7 := hb6'.out.alloc hb6'.out.size (.cells #[.int .i64 0, .int .i64 0, .int .i64 0, .int .i64 0] 105)
            have hg7 : wr.heap.size ≤ w6.heap.size := hb6'.out.size
            generalize w6.alloc (.cells #[.int .i64 0, .int .i64 0, .int .i64 0, .int .i64 0] 105) = w7 at *
            generalize w6.heap.size = g7 at *
            have HS := Lib.hid (hsurj'.out _ hb7)
            clear hb6'
            have b7' := Lib.hid b7
            have hb7' := Lib.hid hb7
            clear b7 hb7
            first | refine Mid.mk ⟨HS.out, ?_⟩ | refine Mid.mk ?_
            refine held_one 18 1 (by kernel_rfl) (by kernel_rfl) ?_
            simp only [pickL, List.map_cons, List.map_nil, List.getD_cons_succ, List.getD_cons_zero]
            have p0 : w7.cell? ⟨g7, 0, none⟩ = some (.int .i64 0) := b7'.out.cell rfl
            have p1 : w7.cell? ⟨g7, 1, none⟩ = some (.int .i64 0) := b7'.out.cell rfl
            have p2 : w7.cell? ⟨g7, 2, none⟩ = some (.int .i64 0) := b7'.out.cell rfl
            have p3 : w7.cell? ⟨g7, 3, none⟩ = some (.int .i64 0) := b7'.out.cell rfl
            have y0 := b7'.out.frozen 0
            have y1 := b7'.out.frozen 1
            have y2 := b7'.out.frozen 2
            have y3 := b7'.out.frozen 3
            go_wp2_with fail
            have b8 := b7'.out.set4 (.int .i64 x1) (.int .i64 x2) (.int .i64 x3) (.int .i64 x4)
            have hb8 := below_set4 hb7'.out hg7 (.int .i64 x1) (.int .i64 x2) (.int .i64 x3) (.int .i64 x4)
            have HS := Lib.hid (hsurj'.out _ hb8)
            refine Mid.mk ⟨HS.out, ?_⟩
            refine held_take [19] 0 (by kernel_rfl) (fun d _ _ _ _ h => by cases d <;> exact h) (by kernel_rfl) (by kernel_rfl) (by kernel_rfl) HS.out ?_
            simp only [pickL, List.map_cons, List.map_nil, List.getD_cons_succ, List.getD_cons_zero]
            iterate 1 (go_big_quiet_step (fail))
            refine wpQuiet_nil ?_
            refine held_last (by kernel_rfl) ?_
            clear p0 p1 p2 p3 y0 y1 y2 y3 b7' hb7' q0 q1
            have b8' := Lib.hid b8
            have hb8' := Lib.hid hb8
            clear b8 hb8
            go_wp2_with fail
            go_meet
            exact ⟨g7, rfl, rfl, hb8', b8'⟩
          case refine_2 =>
            go_wp2_with fail
            have hb7 := ((Below.refl wr.heap.size wr).alloc (Nat.le_refl _) (.cells #[.int .i64 0, .int .i64 0, .int .i64 0, .int .i64 0] 105)).drew
            have b7 : Blk (wr.alloc (.cells #[.int .i64 0, .int .i64 0, .int .i64 0, .int .i64 0] 105)).drew wr.heap.size 105 #[.int .i64 0, .int .i64 0, .int .i64 0, .int .i64 0] := Blk.new wr _ _
            have HS := Lib.hid (hsurj'.out _ hb7)
            obtain ⟨w3, hw3⟩ : ∃ w3, (wr.alloc (.cells #[.int .i64 0, .int .i64 0, .int .i64 0, .int .i64 0] 105)).drew = w3 := ⟨_, rfl⟩
            rw [hw3] at hb7 b7 HS
            rw [hw3]
            clear hw3
            have b7' := Lib.hid b7
            have hb7' := Lib.hid hb7
            clear b7 hb7
            first | refine Mid.mk ⟨HS.out, ?_⟩ | refine Mid.mk ?_
            refine held_one 13 5 (by kernel_rfl) (by kernel_rfl) ?_
            simp only [pickL, List.map_cons, List.map_nil, List.getD_cons_succ, List.getD_cons_zero]
            go_wp2_with fail
            refine (HRd'.out _ hb7'.out).mono ?_
            rintro e w7 ⟨rfl, hb6⟩
            have b7 := b7'.out.late hb6
            have hb7 := hb7'.out.trans (hb6.mono hb7'.out.size)
            have HS := Lib.hid (hsurj'.out _ hb7)
            obtain ⟨g7, hg7e⟩ : ∃ g, wr.heap.size = g := ⟨_, rfl⟩
            have hg7 : wr.heap.size ≤ g7 := Nat.le_of_eq hg7e
            clear b7' hb7' hb6
            rw [hg7e] at b7
            rw [hg7e]
            have hg7e' := Lib.hid hg7e
            clear hg7e
            have b7' := Lib.hid b7
            have hb7' := Lib.hid hb7
            clear b7 hb7
            go_wp2_with fail
            first | refine Mid.mk ⟨HS.out, ?_⟩ | refine Mid.mk ?_
            refine held_take [14, 15, 16] 2 (by kernel_rfl) (fun d _ _ _ _ h => by cases d <;> exact h) (by kernel_rfl) (by kernel_rfl) (by kernel_rfl) HS.out ?_
            simp only [pickL, List.map_cons, List.map_nil, List.getD_cons_succ, List.getD_cons_zero]
            iterate 3 (go_big_quiet_step (fail))
            refine wpQuiet_nil ?_
            refine held_one 18 1 (by kernel_rfl) (by kernel_rfl) ?_
            simp only [pickL, List.map_cons, List.map_nil, List.getD_cons_succ, List.getD_cons_zero]
            have p0 : w7.cell? ⟨g7, 0, none⟩ = some (.int .i64 0) := b7'.out.cell rfl
            have p1 : w7.cell? ⟨g7, 1, none⟩ = some (.int .i64 0) := b7'.out.cell rfl
            have p2 : w7.cell? ⟨g7, 2, none⟩ = some (.int .i64 0) := b7'.out.cell rfl
            have p3 : w7.cell? ⟨g7, 3, none⟩ = some (.int .i64 0) := b7'.out.cell rfl
            have y0 := b7'.out.frozen 0
            have y1 := b7'.out.frozen 1
            have y2 := b7'.out.frozen 2
            have y3 := b7'.out.frozen 3
            go_wp2_with fail
            have b8 := b7'.out.set4 (.int .i64 x1) (.int .i64 x2) (.int .i64 x3) (.int .i64 x4)
            have hb8 := below_set4 hb7'.out hg7 (.int .i64 x1) (.int .i64 x2) (.int .i64 x3) (.int .i64 x4)
            have HS := Lib.hid (hsurj'.out _ hb8)
            refine Mid.mk ⟨HS.out, ?_⟩
            refine held_take [19] 0 (by kernel_rfl) (fun d _ _ _ _ h => by cases d <;> exact h) (by kernel_rfl) (by kernel_rfl) (by kernel_rfl) HS.out ?_
            simp only [pickL, List.map_cons, List.map_nil, List.getD_cons_succ, List.getD_cons_zero]
            iterate 1 (go_big_quiet_step (fail))
            refine wpQuiet_nil ?_
            refine held_last (by kernel_rfl) ?_
            clear p0 p1 p2 p3 y0 y1 y2 y3 b7' hb7' q0 q1
            have b8' := Lib.hid b8
            have hb8' := Lib.hid hb8
            clear b8 hb8
            go_wp2_with fail
            go_meet
            exact ⟨g7, rfl, rfl, hb8', b8'⟩
        case rest =>
        obtain ⟨g7, rfl, rfl, hb6, b7⟩ := hcut
        rename World => w6
        clear q0 q1 HS HD HRd' hbel' hsurj' hwm hwp hwq
        have hpe6 := hpe.out.later hb6.out
        have hmv6 := hmv.out.later hb6.out
        have hown6 := own_later hown.out hb6.out
        obtain ⟨nb, hnb0, hnb1, hnb2⟩ : ∃ nb : Bool, (i = 0 → nb = false) ∧ (∀ i', i = i' + 1 → nb = decide (x1 ≤ (EE.getD i' (0, 0, 0, 0)).1)) ∧ risesE (EE.take (i + 1)) = (risesE (EE.take i) && !nb) := by
          cases i with
          | zero => exact ⟨false, fun _ => rfl, fun _ h => by omega, by rw [rises_one, rises_zero]; rfl⟩
          | succ j =>
            refine ⟨decide (x1 ≤ (EE.getD j (0, 0, 0, 0)).1), fun h => by omega, fun i' h => by rw [show j = i' by omega], ?_⟩
            rw [rises_step (by rw [hEl'.out]; exact hlt), hx'.out]
            congr 1
            rw [← decide_not]
            exact decide_eq_decide.2 (by show _ < x1 ↔ _; omega)
        clear hpe hmv hown hb6
        have hpe6' := Lib.hid hpe6
        have hmv6' := Lib.hid hmv6
        have hown6' := Lib.hid hown6
        have hnb0' := Lib.hid hnb0
        have hnb1' := Lib.hid hnb1
        have hnb2' := Lib.hid hnb2
        clear hpe6 hmv6 hown6 hnb0 hnb1 hnb2
        go_upto_region 18 with fail
        go_cut [98] from 64 to 104 (fun v wx => v = .bool nb ∧ ∃ m, wx = w6.drewN m)
        case first =>
          by_cases hi0 : i = 0
          · obtain rfl := hnb0'.out hi0
            subst hi0
            go_quiet (fail)
            go_wp2_with fail
            go_meet
            exact ⟨rfl, _, rfl⟩
          · obtain ⟨i', hi'⟩ : ∃ i', i' + 1 = i := ⟨i - 1, by omega⟩
            have wk : IntKind.i64.wrap ((i : Int) - 1) = (i' : Int) := by rw [IntKind.wrap_i64]; omega
            obtain ⟨bb, oo, rfl, hbb, fe⟩ := (Sl.of_own hown6'.out).1.elem entC_len (by decide) (0, 0, 0, 0) (i := i') (by omega)
            have e0 := fe 0 _ rfl
            rw [Nat.add_zero] at e0
            have hte : (EE.take i).getD i' (0, 0, 0, 0) = EE.getD i' (0, 0, 0, 0) := by
              rw [List.getD_eq_getElem?_getD, List.getElem?_take, if_pos (by omega), List.getD_eq_getElem?_getD]
            rw [hte] at e0
            have hnb := hnb1'.out i' hi'.symm
            obtain ⟨pv, hpv⟩ : ∃ z, (EE.getD i' (0, 0, 0, 0)).1 = z := ⟨_, rfl⟩
            rw [hpv] at e0 hnb
            have g0 : w6.cell? ⟨g7, 0, none⟩ = some (.int .i64 x1) := b7.out.cell rfl
            have hkn1 : (0 : Int) < (i : Int) := by omega
            have hkn2 : (i' : Int) < i := by omega
            have hkn3 : i' < i := by omega
            have hkn4 : (0 : Int) ≤ (i' : Int) := by omega
            have hkn5 : 0 < i := by omega
            subst hnb
            clear fe hte hpv hi' hi0
            go_quiet (fail)
            go_wp2_with fail
            go_meet
            exact ⟨rfl, _, rfl⟩
        case rest =>
        obtain ⟨rfl, mm, hwx⟩ := hcut
        have hbq : Below w6.heap.size w6 wc := by rw [hwx]; exact below_drewN (Below.refl _ _) _
        rename World => w7
        have hpe7 := hpe6'.out.later hbq
        have hmv7 := hmv6'.out.later hbq
        have hown7 := own_later hown6'.out hbq
        have b77 := b7.out.late hbq
        have hw5A : A + 1 ≤ w5.heap.size := hpe5'.out.sz
        clear hwx hbq hpe6' hmv6' hown6' b7 hnb0' hnb1'
        have hpe7' := Lib.hid hpe7
        have hmv7' := Lib.hid hmv7
        have hown7' := Lib.hid hown7
        have b77' := Lib.hid b77
        clear hpe7 hmv7 hown7 b77
        go_upto_if 98 with fail
        go_cut [] from 64 to 104 (fun wx => ∃ E', Hid (Pe K A w sv s1 sv1 tk1 E' wx) ∧ Hid (Mv K.g K.gt sv1 sv1 w5 wx) ∧ Hid (wx.ownsRow w5.heap.size 105 4 (.slice a i c) i (fl entC (EE.take i))) ∧ Hid (Blk wx g7 105 #[.int .i64 x1, .int .i64 x2, .int .i64 x3, .int .i64 x4]) ∧ Hid (E' = if risesE (EE.take (i + 1)) = true then 0 else 2))
        case first =>
          cases nb
          · go_wp2_with fail
            go_meet
            exact ⟨E, hpe7', hmv7', hown7', b77', Lib.hid (by rw [hEr.out, hnb2'.out]; simp)⟩
          · go_wp2_with fail
            refine (fail_any K t'.out s1 sv1 tk1 E 2 w7 hpe7'.out.ok).mono ?_
            rintro e w9 ⟨rfl, hok9, hbt9⟩
            have hpe9 := hpe7'.out.mv2 hgA hgtA (Mv.of_but hbt9 (.inl rfl)) hok9
            have hmv9 := hmv7'.out.trans (Mv.of_but hbt9 (.inl rfl))
            have hown9 := own_but hown7'.out hbt9 (fun e => by have := (hown7'.out.lt _ e).1; omega)
            have hgne : g7 ≠ K.g := fun e => by
              have h1 := hpe7'.out.ok.blk
              rw [← e] at h1
              have h2 := h1.symm.trans b77'.out
              injection h2 with h2
              injection h2 with _ h3
              exact absurd h3 (by decide)
            have b79 := b77'.out.but hbt9 hgne
            have hE9 : firstE E 2 = if risesE (EE.take (i + 1)) = true then 0 else 2 := by
              rw [hEr.out, hnb2'.out]
              unfold firstE
              simp
            clear hok9 hbt9 hgne
            have hpe9' := Lib.hid hpe9
            have hmv9' := Lib.hid hmv9
            have hown9' := Lib.hid hown9
            have b79' := Lib.hid b79
            have hE9' := Lib.hid hE9
            clear hpe9 hmv9 hown9 b79 hE9
            go_wp2_with fail
            go_meet
            exact ⟨firstE E 2, hpe9', hmv9', hown9', b79', hE9'⟩
        case rest =>
        obtain ⟨E', hpe8, hmv8, hown8, b78, hE8⟩ := hcut
        clear hpe7' hmv7' hown7' b77' hEr hnb2'
        rename World => w9
        have p0 : w9.cell? ⟨g7, 0, none⟩ = some (.int .i64 x1) := b78.out.cell rfl
        have p1 : w9.cell? ⟨g7, 1, none⟩ = some (.int .i64 x2) := b78.out.cell rfl
        have p2 : w9.cell? ⟨g7, 2, none⟩ = some (.int .i64 x3) := b78.out.cell rfl
        have p3 : w9.cell? ⟨g7, 3, none⟩ = some (.int .i64 x4) := b78.out.cell rfl
        have hsz9 := hpe8.out.sz
        have hmvs := hmv8.out.size
        go_wp2_with (at_builtin; refine wpList_app2 rfl _ _ 100 rfl w5.heap.size 105 i0 z0 4 32 Try.underlying100 hi0 hz hz1 hz2 hz3 (by decide) _ i _ rfl (World.ownsRow.alloc hown8.out _) ⟨w9.heap.size, 0, none⟩ 1 1 (entC (x1, x2, x3, x4)) rfl (Sl.new w9 105 4 1 #[.int .i64 x1, .int .i64 x2, .int .i64 x3, .int .i64 x4] (0, 0) (by omega) rfl) (entC_one _) (by omega) (by decide) (by simp; omega) ?_; intro a5 c5 wa ob hga hoa; have Ob := Lib.hid ob; have Hga := Lib.hid hga; clear ob hga hoa)
        have hal := (Below.refl w9.heap.size w9).alloc (Nat.le_refl _) (.cells #[.int .i64 x1, .int .i64 x2, .int .i64 x3, .int .i64 x4] 105)
        have hrow : ∀ r, (Value.slice a i c).ownBlock = some r → w5.heap.size ≤ r ∧ sv1.ownBlock ≠ some r := fun r e => ⟨(hown8.out.lt r e).1, fun e2 => by have h1 := (hown8.out.lt r e).1; have h2 := hsv5'.out r e2; omega⟩
        have hpe10 := (hpe8.out.later hal).grown hgA hgtA h0A hA'.out Hga.out (fun r e => ⟨by have := (hrow r e).1; omega, (hrow r e).2⟩)
        have hmv10 : Mv K.g K.gt sv1 sv1 w5 wa := by
          have h1 := hmv8.out.later hal
          have hg : World.grownBy _ wa (Value.slice a i c).ownBlock := Hga.out
          cases hv : (Value.slice a i c).ownBlock with
          | none => rw [hv] at hg; exact h1.later (grown_below hg)
          | some r => rw [hv] at hg; exact h1.new_set (hrow r hv).1 (grown_but hg)
        clear hal hrow p0 p1 p2 p3
        have hpe10' := Lib.hid hpe10
        have hmv10' := Lib.hid hmv10
        clear hpe10 hmv10
        go_roundw
        case rel => exact ⟨i + 1, a5, c5, E', by omega, by go_num, rfl, Lib.hid (by
          have h := Ob.out
          rw [← fl_snoc] at h
          rw [List.take_succ_eq_append_getElem (by rw [hEl'.out]; exact hlt), ← getD_el (d := (0, 0, 0, 0)), hx'.out]
          exact h), hpe10', hmv10', hE8⟩
        case measure => simp [intOf]; omega
        -- }DEV
      case neg =>
        skip
        -- DEV{WITH
        obtain rfl : i = k := by omega
        have hEr2 := hEr.out
        have hown2 := hown.out
        rw [List.take_of_length_le (by rw [hEl'.out]; exact Nat.le_refl _)] at hEr2 hown2
        obtain ⟨RW, hRWe⟩ : ∃ RW, (if risesE EE = true then whS K.z K.o (shps K.zs) f (lks, sat, slong, snx) s.no EE s1 else .error 2) = RW := ⟨_, rfl⟩
        have hRW2 := hRW'.out
        rw [hRWe] at hRW2
        have hHW : Calls Try.prog 58 #[.pointer (some ⟨K.g, 0, none⟩), .slice a i c, .int .i64 s.no, .agg #[.slice la ln lc, .int .i64 sat, .int .i64 slong, .int .i64 snx]] wr (WithU K (f + 1) sv1 wr RW) := by
          have hen : Sk (Xv sv1) w5.heap.size wr.heap.size wr (.slice a i c) 4 i (fl entC EE) := Sk.of_own hown2 (Nat.le_refl _) (fun r e e2 => by have h1 := (hown2.lt r e).1; have h2 := hsv5'.out r e2; omega)
          have hw5 := hpe5'.out.sz
          cases hri : risesE EE with
          | true =>
            rw [hri, if_pos rfl] at hEr2 hRWe
            have hok0 := hpe.out.ok
            rw [hEr2] at hok0
            rw [← hRWe]
            have h := within_any K t'.out ho f IH'.out la ln lc lks sat slong snx hlk0'.out K.sn sh hshp'.out hlks'.out EE hri (fun j hj => hEm'.out j (by rw [hEl'.out] at hj; exact hj)) (by rw [hEl'.out]; exact hk6) s.no s1 sv1 tk1 wr hok0 hinv1'.out a c w5.heap.size (by rw [hEl'.out]; exact hen) (by omega) (by omega)
            rw [hEl'.out] at h
            exact h
          | false =>
            rw [hri, if_neg (by simp)] at hEr2 hRWe
            have hok0 := hpe.out.ok
            rw [hEr2] at hok0
            rw [← hRWe]
            refine (within_err K t'.out 2 (by decide) la ln lc sat slong snx a i c s.no s1 sv1 tk1 wr hok0).mono ?_
            rintro e w' ⟨rfl, h1, h2⟩
            exact ⟨none, none, none, 0, 0, 0, 0, 0, 0, rfl, s1, sv1, tk1, 2, h1, h2, fun h => absurd h (by decide), fun _ => rfl⟩
        obtain ⟨bb, oo, hsa, hbb, fe⟩ := ((hpe.out.ok.shps t'.out).row).elem shc_len (by decide) shz0 hshn
        rw [hzz'.out] at fe
        have f0 := fe 0 _ rfl
        have f1 := fe 1 _ rfl
        have f2 := fe 2 _ rfl
        have f3 := fe 3 _ rfl
        simp only [Nat.add_zero] at f0 f1 f2 f3
        have k2 : wr.cell? ⟨K.g, 2, none⟩ = some (.slice (some ⟨bb, oo, none⟩) K.sn K.sc) := by rw [← hsa]; exact hpe.out.ok.blk.cell rfl
        have hshi : (sh : Int) < K.sn := by omega
        clear fe hEr hown hown2 hEr2 hRWe hRW' hsa hlt
        have hHW' := Lib.hid hHW
        have hRW2' := Lib.hid hRW2
        clear hHW hRW2
        go_wp2_with fail
        refine hHW'.out.mono ?_
        rintro e w7 hpost
        obtain ⟨a1, a2, a3, n1, c1, n2, c2, n3, c3, rfl, s7, sv7, tk7, E7, hok7, hmv7, hgd7, hbd7⟩ := hpost
        have hpe7 := hpe.out.mv2 hgA hgtA hmv7 hok7
        clear hmv7 hok7 f0 f1 f2 f3 k2 hHW' hpe
        have hpe7' := Lib.hid hpe7
        have hgd7' := Lib.hid hgd7
        have hbd7' := Lib.hid hbd7
        clear hpe7 hgd7 hbd7
        go_upto_region 22 with fail
        have b8 := Blk.new w7 48 #[.slice a1 n1 c1, .slice a2 n2 c2, .slice a3 n3 c3]
        have hal := (Below.refl w7.heap.size w7).alloc (Nat.le_refl _) (.cells #[.slice a1 n1 c1, .slice a2 n2 c2, .slice a3 n3 c3] 48)
        have hpe8 := hpe7'.out.later hal
        have hszr : A + 1 ≤ wr.heap.size := by have h1 := hpe5'.out.sz; have h2 := hmv.out.size; omega
        have hgd8 : E7 = 0 → ∃ d, RW = .ok (d, s7) ∧ DirAt (Xv sv7) (A + 1) (w7.alloc (.cells #[.slice a1 n1 c1, .slice a2 n2 c2, .slice a3 n3 c3] 48)) (f + 1) d (.slice a1 n1 c1, .slice a2 n2 c2, .slice a3 n3 c3) := fun h => by
          obtain ⟨d, e1, e2⟩ := hgd7'.out h
          exact ⟨d, e1, (e2.keep (Kp.later hal)).mono hszr⟩
        have hsz7 : A + 1 ≤ w7.heap.size := hpe7'.out.sz
        clear hal hpe7' hgd7'
        generalize w7.alloc (.cells #[.slice a1 n1 c1, .slice a2 n2 c2, .slice a3 n3 c3] 48) = w8 at *
        generalize w7.heap.size = g14 at *
        have hwp : IntKind.i64.wrap ((P : Int) + 2) = P + 2 := by rw [IntKind.wrap_i64]; omega
        have hwm : IntKind.i64.wrap (12 * (i : Int)) = 12 * i := by rw [IntKind.wrap_i64]; omega
        have hwq : IntKind.i64.wrap ((P : Int) + 2 + 12 * i) = P + 2 + 12 * i := by rw [IntKind.wrap_i64]; omega
        have HN := fun W (h : Below w8.heap.size w8 W) => dnum_any K t'.out s7 sv7 tk7 E7 ((P : Int) + 2 + 12 * i) 4 W (hpe8.ok.later h)
        have hRW3 := hRW2'.out
        obtain ⟨nxv, hnxv⟩ : ∃ v, getV K.z ((P : Int) + 2 + 12 * i) 4 K.o = v := ⟨_, rfl⟩
        rw [hnxv] at HN hRW3
        obtain ⟨Ty4, f4, hne4, hp4, hsurj4⟩ := prop_worlds (fun W => Blk W g14 48 #[.slice a1 n1 c1, .slice a2 n2 c2, .slice a3 n3 c3]) w8 b8
        have q0 : ∀ s, (f4 s).cell? ⟨g14, 0, none⟩ = some (.slice a1 n1 c1) := fun s => (hp4 s).cell rfl
        have q1 : ∀ s, (f4 s).cell? ⟨g14, 1, none⟩ = some (.slice a2 n2 c2) := fun s => (hp4 s).cell rfl
        have q2 : ∀ s, (f4 s).cell? ⟨g14, 2, none⟩ = some (.slice a3 n3 c3) := fun s => (hp4 s).cell rfl
        have HS := Lib.hid (hsurj4 w8.drew b8)
        have HD := Lib.hid ((Below.refl w8.heap.size w8).drew)
        clear hnxv hRW2'
        have HN' := Lib.hid HN
        have hRW3' := Lib.hid hRW3
        have hpe8' := Lib.hid hpe8
        have hgd8' := Lib.hid hgd8
        have hp4' := Lib.hid hp4
        have hsurj4' := Lib.hid hsurj4
        have b8' := Lib.hid b8
        clear HN hRW3 hpe8 hgd8 hp4 hsurj4 b8
        refine held_begin (S := fun W => ∃ s, W = f4 s) (by kernel_rfl) 10 rfl ?_
        refine held_take [0, 1, 2, 3, 4, 5, 6] 3 (by kernel_rfl) (fun d _ _ _ _ h => by cases d <;> exact h) (by kernel_rfl) (by kernel_rfl) (by kernel_rfl) HS.out ?_
        simp only [pickL, List.map_cons, List.map_nil, List.getD_cons_succ, List.getD_cons_zero]
        iterate 7 (go_big_quiet_step (fail))
        refine wpQuiet_nil ?_
        refine held_one 7 2 (by kernel_rfl) (by kernel_rfl) ?_
        simp only [pickL, List.map_cons, List.map_nil, List.getD_cons_succ, List.getD_cons_zero]
        clear q0 q1 q2
        go_wp2_with fail
        refine (HN'.out _ HD.out).mono ?_
        rintro e wz ⟨rfl, hbz⟩
        have hbz := HD.out.trans (hbz.mono HD.out.size)
        have bz8 := b8'.out.late hbz
        have HS := Lib.hid (hsurj4'.out _ bz8)
        have hpez := hpe8'.out.later hbz
        have hgdz : E7 = 0 → ∃ d, RW = .ok (d, s7) ∧ DirAt (Xv sv7) (A + 1) wz (f + 1) d (.slice a1 n1 c1, .slice a2 n2 c2, .slice a3 n3 c3) := fun h => by
          obtain ⟨d, e1, e2⟩ := hgd8'.out h
          exact ⟨d, e1, e2.keep (Kp.later hbz)⟩
        have p0 : wz.cell? ⟨A, 0, none⟩ = some (.slice none 0 0) := hpez.bR.cell rfl
        have p1 : wz.cell? ⟨A, 1, none⟩ = some (.slice none 0 0) := hpez.bR.cell rfl
        have p2 : wz.cell? ⟨A, 2, none⟩ = some (.slice none 0 0) := hpez.bR.cell rfl
        have y0 := hpez.bR.frozen 0
        have y1 := hpez.bR.frozen 1
        have y2 := hpez.bR.frozen 2
        clear hbz hpe8' hgd8' HN' b8'
        have hpez' := Lib.hid hpez
        have hgdz' := Lib.hid hgdz
        have bz8' := Lib.hid bz8
        clear hpez hgdz bz8
        go_wp2_with fail
        first | refine Mid.mk ⟨HS.out, ?_⟩ | refine Mid.mk ?_
        refine held_one 8 1 (by kernel_rfl) (by kernel_rfl) ?_
        simp only [pickL, List.map_cons, List.map_nil, List.getD_cons_succ, List.getD_cons_zero]
        go_wp2_with fail
        have hbt := (((But.refl A wz).set 0 (.slice a1 n1 c1)).set 1 (.slice a2 n2 c2)).set 2 (.slice a3 n3 c3)
        have HS := Lib.hid (hsurj4'.out _ (bz8'.out.but hbt (show g14 ≠ A by omega)))
        refine Mid.mk ⟨HS.out, ?_⟩
        refine held_take [9] 0 (by kernel_rfl) (fun d _ _ _ _ h => by cases d <;> exact h) (by kernel_rfl) (by kernel_rfl) (by kernel_rfl) HS.out ?_
        simp only [pickL, List.map_cons, List.map_nil, List.getD_cons_succ, List.getD_cons_zero]
        iterate 1 (go_big_quiet_step (fail))
        refine wpQuiet_nil ?_
        refine held_last (by kernel_rfl) ?_
        clear p0 p1 p2 y0 y1 y2
        go_wp2_with fail
        have hnb := hpez'.out.nb
        refine bodyPost_ret (results_blk_tmp rfl _ _ A 48 #[.slice a1 n1 c1, .slice a2 n2 c2, .slice a3 n3 c3] _ rfl (hpez'.out.bR.set3 _ _ _) Try.underlying48 rfl (by kernel_rfl)) rfl ?_
        refine ⟨a1, a2, a3, n1, c1, n2, c2, n3, c3, nxv, rfl, s7, sv7, tk7, E7, hpez'.out.ok.but hbt (by omega) (by omega) (fun e => by have := hnb _ e; omega) (by omega), hpez'.out.mv.new_set (by rw [hA'.out]; exact Nat.le_refl _) hbt, fun h => ?_, fun h => ?_⟩
        · obtain ⟨d, e1, e2⟩ := hgdz'.out h
          refine ⟨(d, nxv), ?_, rfl, (e2.butT hbt hpez'.out.bR).mono (by rw [hA'.out]; omega)⟩
          rw [hRW3'.out, e1]
        · rw [hRW3'.out, hbd7'.out h]
        -- }DEV
theorem ddir_any (K : DwS) (t : DwT K) (ho : K.o = 1 ∨ K.o = 2) (hval : shapesB (shps K.zs) = true) (f : Nat) : ∀ (p : Int) (sh : Nat) (s : St) (sv : Value) (tk : List Int) (w : World), DwOk K s sv tk 0 w → Inv K.n s → 0 ≤ p → p ≤ 4294967295 → sh < K.sn → K.sn ≤ sh + f →
      Calls Try.prog 37 #[.pointer (some ⟨K.g, 0, none⟩), .int .i64 p, .int .i64 sh] w (DirU K f sv w (dirS K.z K.o (shps K.zs) f p sh s)) := by
  induction f with
  | zero =>
    intro p sh s sv tk w hok hinv h0 h1 h2 h3
    omega
  | succ f ih => exact ddir_step K t ho hval f ih
end Go.Proofs.Ytheelhepelbgcaa
