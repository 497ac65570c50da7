/- Chapter 21: all that is written of a tree stands apart, within its bytes. Plain. | Chapter 22: bytes in which a directory stands are read as it. Plain. -/
import Derived.Test.YtceclmpmpldmlaaGreatCs27
namespace Go.Proofs.YtceclmpmpldmlaaGreat
open Go.RowKit Tt
set_option linter.unusedVariables false
set_option linter.unusedSimpArgs false

/-- a patch lies in a spot of a kind; in a directory's ahead of its last four bytes -/
def Lies (l : List Spt) (Q : Spt → Prop) (p : Pt) : Prop := ∃ s ∈ l, Q s ∧ s.2.2.2.1 ≤ p.1 ∧ (p.1 : Int) + p.2.length + (if s.1 = 2 then 4 else 0) ≤ s.2.2.2.1 + s.2.2.2.2
theorem Lies.inq {l : List Spt} {Q : Spt → Prop} {p : Pt} (h : Lies l Q p) : InQ l Q p := by
  obtain ⟨s, h1, h2, h3, h4⟩ := h; exact ⟨s, h1, h2, h3, by split at h4 <;> omega⟩
theorem Lies.mono {l : List Spt} {Q R : Spt → Prop} {p : Pt} (h : Lies l Q p) (hx : ∀ s, Q s → R s) : Lies l R p := by
  obtain ⟨s, h1, h2, h3⟩ := h; exact ⟨s, h1, hx s h2, h3⟩
theorem key_one {l : List Spt} (hd : (l.map keyS).Nodup) {s t : Spt} (hs : s ∈ l) (ht : t ∈ l) (h : keyS s = keyS t) : s = t := by
  induction l with
  | nil => cases hs
  | cons u l ih =>
    obtain ⟨h1, h2⟩ := List.nodup_cons.1 hd
    rcases List.mem_cons.1 hs with e1 | hs2 <;> rcases List.mem_cons.1 ht with e2 | ht2
    · exact e1.trans e2.symm
    · exact absurd (List.mem_map.2 ⟨t, ht2, by rw [← h, e1]⟩) h1
    · exact absurd (List.mem_map.2 ⟨s, hs2, by rw [h, e2]⟩) h1
    · exact ih h2 hs2 ht2
theorem key_no {s : Spt} {a b c : Int} (h : keyS s = (a, b, c)) : s.1 = a ∧ s.2.1 = b ∧ s.2.2.1 = c := ⟨congrArg (fun k => k.1) h, congrArg (fun k => k.2.1) h, congrArg (fun k => k.2.2) h⟩
section
variable {F : Nat} {T : List (DirT F)} (hT : ∀ d ∈ T, DisD F d)
include hT
theorem lies_spot {x : Itm} (hx : x ∈ itmT F T) {p : Pt} (h0 : atS (layT F T) x.1 x.2.1 x.2.2.1 ≤ p.1) (h1 : (p.1 : Int) + p.2.length + (if x.1 = 2 then 4 else 0) ≤ atS (layT F T) x.1 x.2.1 x.2.2.1 + x.2.2.2) : Lies (layT F T) (fun s => keyS s = keyI x) p := by
  obtain ⟨s, g1, g2, g3, g4, _⟩ := layT_spot hT hx; have e1 : s.1 = x.1 := congrArg (fun k => k.1) g2; exact ⟨s, g1, g2, by rw [g4]; exact h0, by rw [g4, g3, e1]; exact h1⟩
theorem spot_nn {x : Itm} (hx : x ∈ itmT F T) : 0 ≤ atS (layT F T) x.1 x.2.1 x.2.2.1 := by
  obtain ⟨s, g1, g2, g3, g4, _, g5, _⟩ := layT_spot hT hx
  omega
theorem patV_lies {L : List Shp} {o : Int} (ho : o = 1 ∨ o = 2) {f : Nat} {d : DirT (f + 1)} {no i : Int} (hf : HasF L f d i) (hin : ∀ x ∈ itmD (f + 1) d no, x ∈ itmT F T) {x : Tgs} (hx : x ∈ d.1) {p : Pt} (hp : p ∈ patV (layT F T) o no x) :
    inlV x o = false ∧ p = ((atS (layT F T) 3 no x.1).toNat, bytesV x o) ∧ Lies (layT F T) (fun s => keyS s = (3, no, x.1)) p := by
  unfold patV at hp
  split at hp
  · cases hp
  · rename_i hi
    obtain rfl : p = _ := by simpa using hp
    have hx3 := hf.tg x hx; have hz : outS x.2.1 x.2.2.1 ≠ 0 := fun e => by rw [inlV_iff hx3.2.2 ho hx3.1, e] at hi; simp at hi
    have hl := outS_len hx3.2.2 ho hz
    have hm : ((3, no, x.1, outV x) : Itm) ∈ itmT F T := hin _ (by
      rw [itmD_succ]; refine List.mem_cons_of_mem _ (List.mem_append.2 (.inl (List.mem_map.2 ⟨x, List.mem_filter.2 ⟨hx, ?_⟩, rfl⟩))); have := outV_nn x; unfold outV at *
      simp; omega)
    have h0 := spot_nn hT hm; simp only at h0; refine ⟨by simpa using hi, rfl, lies_spot hT hm (by show atS (layT F T) 3 no x.1 ≤ (((atS (layT F T) 3 no x.1).toNat : Nat) : Int); omega) ?_⟩
    show ((((atS (layT F T) 3 no x.1).toNat : Nat) : Int)) + ((bytesV x o).length : Nat) + (if (3 : Int) = 2 then 4 else 0) ≤ atS (layT F T) 3 no x.1 + outV x
    rw [if_neg (by decide)]; unfold outV
    omega
theorem blobP_lies {f : Nat} {d : DirT (f + 1)} {no : Int} (hin : ∀ x ∈ itmD (f + 1) d no, x ∈ itmT F T) {p : Pt} (hp : p ∈ blobP (layT F T) d.2.2 no) :
    0 < d.2.2.length ∧ p = ((atS (layT F T) 4 no 0).toNat, d.2.2) ∧ Lies (layT F T) (fun s => keyS s = (4, no, 0)) p := by
  unfold blobP at hp
  split at hp
  · rename_i hb
    obtain rfl : p = _ := by simpa using hp
    have hm : ((4, no, 0, (d.2.2.length : Int)) : Itm) ∈ itmT F T := hin _ (by
      rw [itmD_succ]; refine List.mem_cons_of_mem _ (List.mem_append.2 (.inr (List.mem_append.2 (.inr ?_)))); unfold itmB; rw [if_pos hb]; exact List.mem_cons_self ..)
    have h0 := spot_nn hT hm; simp only at h0; refine ⟨hb, rfl, lies_spot hT hm (by show atS (layT F T) 4 no 0 ≤ (((atS (layT F T) 4 no 0).toNat : Nat) : Int); omega) ?_⟩
    show ((((atS (layT F T) 4 no 0).toNat : Nat) : Int)) + (d.2.2.length : Nat) + (if (4 : Int) = 2 then 4 else 0) ≤ atS (layT F T) 4 no 0 + (d.2.2.length : Nat)
    rw [if_neg (by decide)]
    omega
  · cases hp
omit hT in
theorem entW_len {x : Ent} {o : Int} (h : entOk x o = true) : (entW x o).length = 12 := by
  unfold entOk at h; simp only [Bool.and_eq_true] at h; obtain ⟨⟨⟨h0, h1⟩, h2⟩, h3⟩ := h; unfold entW; simp only [List.length_append, putS_len2 h0, putS_len2 h1, putS_len2 h2, putS_len2 h3]
  rfl
omit hT in
theorem ahead_lt_len {es : List Ent} {x : Ent} (h : x ∈ es) : aheadE es x < es.length := by
  obtain ⟨k, hk, rfl⟩ := mem_getD h ent0; exact aheadE_lt hk
/-- the head of a directory and its entries -/
def headQ (l : List Spt) (o no : Int) (es : List Ent) : List Pt := ((atS l 2 no 0).toNat, putS (es.length : Nat) 2 o) :: es.map (rowE (atS l 2 no 0).toNat o es)
omit hT in
theorem putP_eq (f : Nat) (l : List Spt) (o no : Int) (s : Shp) (d : DirT (f + 1)) : putP f l o no s d = d.1.flatMap (patV l o no) ++ blobP l d.2.2 no ++ headQ l o no (entsD f l o no s d) := by
  unfold putP headQ; rw [rowQ_eq]
theorem headQ_lies {f : Nat} {d : DirT (f + 1)} {no o : Int} (ho : o = 1 ∨ o = 2) (hin : ∀ x ∈ itmD (f + 1) d no, x ∈ itmT F T) {es : List Ent} (hn : es.length = entN d.1.length d.2.1.length d.2.2.length) (h2 : es.length ≤ 65535) (hk : ∀ x ∈ es, entOk x o = true) {p : Pt} (hp : p ∈ headQ (layT F T) o no es) :
    Lies (layT F T) (fun s => keyS s = (2, no, 0)) p := by
  have hm : ((2, no, 0, 6 + 12 * ((entN d.1.length d.2.1.length d.2.2.length : Nat) : Int)) : Itm) ∈ itmT F T := hin _ (by rw [itmD_succ]; exact List.mem_cons_self ..); have h0 := spot_nn hT hm; simp only at h0; have hpk : putOk (es.length : Nat) 2 o = true := (putOk_iff ho).2 (by rw [show topS 2 = 65536 by decide]; omega); unfold headQ at hp
  rcases List.mem_cons.1 hp with rfl | hp
  · refine lies_spot hT hm (by show atS (layT F T) 2 no 0 ≤ (((atS (layT F T) 2 no 0).toNat : Nat) : Int); omega) ?_
    show ((((atS (layT F T) 2 no 0).toNat : Nat) : Int)) + ((putS (es.length : Nat) 2 o).length : Nat) + (if (2 : Int) = 2 then 4 else 0) ≤ atS (layT F T) 2 no 0 + (6 + 12 * ((entN d.1.length d.2.1.length d.2.2.length : Nat) : Int))
    rw [putS_len2 hpk, if_pos rfl, show (2 : Int).toNat = 2 from rfl]
    omega
  · obtain ⟨x, hx, rfl⟩ := List.mem_map.1 hp
    have ha := ahead_lt_len hx; have he := entW_len (hk x hx); refine lies_spot hT hm (by show atS (layT F T) 2 no 0 ≤ (((atS (layT F T) 2 no 0).toNat + 2 + 12 * aheadE es x : Nat) : Int); omega) ?_
    show (((atS (layT F T) 2 no 0).toNat + 2 + 12 * aheadE es x : Nat) : Int) + ((entW x o).length : Nat) + (if (2 : Int) = 2 then 4 else 0) ≤ atS (layT F T) 2 no 0 + (6 + 12 * ((entN d.1.length d.2.1.length d.2.2.length : Nat) : Int))
    rw [he, if_pos rfl]
    omega
omit hT in
theorem headQ_dj {l : List Spt} {o no : Int} (ho : o = 1 ∨ o = 2) {es : List Ent} (h2 : es.length ≤ 65535) (hk : ∀ x ∈ es, entOk x o = true) (hd : es.Pairwise fun x y => x.1 ≠ y.1) : (headQ l o no es).Pairwise Dj := by
  have hpk : putOk (es.length : Nat) 2 o = true := (putOk_iff ho).2 (by rw [show topS 2 = 65536 by decide]; omega); unfold headQ; refine List.Pairwise.cons ?_ ?_
  · intro p hp
    obtain ⟨x, hx, rfl⟩ := List.mem_map.1 hp; refine .inl ?_
    show (atS l 2 no 0).toNat + (putS (es.length : Nat) 2 o).length ≤ (atS l 2 no 0).toNat + 2 + 12 * aheadE es x
    rw [putS_len2 hpk, show (2 : Int).toNat = 2 from rfl]
    omega
  · rw [List.pairwise_map]
    refine List.Pairwise.imp_of_mem ?_ hd; intro a b ha hb hab; have e1 := entW_len (hk a ha); have e2 := entW_len (hk b hb)
    show (atS l 2 no 0).toNat + 2 + 12 * aheadE es a + (entW a o).length ≤ (atS l 2 no 0).toNat + 2 + 12 * aheadE es b ∨ (atS l 2 no 0).toNat + 2 + 12 * aheadE es b + (entW b o).length ≤ (atS l 2 no 0).toNat + 2 + 12 * aheadE es a
    rw [e1, e2]
    rcases Int.lt_or_lt_of_ne hab with h | h
    · have := ahead_lt ha h; omega
    · have := ahead_lt hb h; omega
omit hT in
theorem subN_mono (f : Nat) (ss : List (Int × DirT f)) (no : Int) {a b : Nat} (h : a ≤ b) : subN f ss no a ≤ subN f ss no b := by
  have := flats_take_le f (ss.take b) a; rw [List.take_take, Nat.min_eq_left h] at this; unfold subN
  omega
omit hT in
theorem subP_mem {f : Nat} {rec : DirT f → Int → Int → List Pt} {s : Shp} {ss : List (Int × DirT f)} {no : Int} {n : Nat} {p : Pt} (h : p ∈ subP rec s ss no n) : ∃ j, j < n ∧ p ∈ rec (ss.getD j (0, dirZ f)).2 (subN f ss no j) (subI s (ss.getD j (0, dirZ f)).1) := by
  obtain ⟨j, hj, hp⟩ := List.mem_flatMap.1 h; exact ⟨j, List.mem_range.1 hj, hp⟩
omit hT in
theorem itmD_sub {f : Nat} {d : DirT (f + 1)} {no : Int} {j : Nat} (hj : j < d.2.1.length) : ∀ x ∈ itmD f (d.2.1.getD j (0, dirZ f)).2 (subN f d.2.1 no j), x ∈ itmD (f + 1) d no := fun x hx => by
  rw [itmD_succ]; exact List.mem_cons_of_mem _ (List.mem_append.2 (.inr (List.mem_append.2 (.inl (itmSs_get hj _ hx)))))
theorem dirQ_apart {L : List Shp} {n : Nat} {o : Int} (ho : o = 1 ∨ o = 2) : ∀ (f : Nat) (d : DirT f) (no i : Int), hasS L f d i = true → okW L (layT F T) n o f d no i → (∀ x ∈ itmD f d no, x ∈ itmT F T) →
    (∀ p ∈ dirQ L (layT F T) o f d no i, Lies (layT F T) (fun s => no ≤ s.2.1 ∧ s.2.1 < no + (flatS f d).length) p) ∧ (dirQ L (layT F T) o f d no i).Pairwise Dj
  | 0, _, _, _, _, _, _ => ⟨fun p hp => (by cases hp), List.Pairwise.nil⟩
  | f + 1, d, no, i, hh, hw, hin => by
    have hA := layT_ahead F T; have hf := hasF_iff.1 hh; obtain ⟨k1, k2, k3, k4, k5, k6, k7, k8, k9⟩ := okW_succ hw; have hel := entsD_len f (layT F T) o no (L.getD i.toNat shp0) d; have hfl : (flatS (f + 1) d).length = (flats f d.2.1).length + 1 := by rw [flatS_succ]; rfl
    have hV : ∀ p ∈ d.1.flatMap (patV (layT F T) o no), Lies (layT F T) (fun s => s.1 = 3 ∧ s.2.1 = no) p := fun p hp => by
      obtain ⟨x, hx, hp⟩ := List.mem_flatMap.1 hp; exact (patV_lies hT ho hf hin hx hp).2.2.mono fun s h => by have := key_no h; exact ⟨this.1, this.2.1⟩
    have hVd : (d.1.flatMap (patV (layT F T) o no)).Pairwise Dj := by
      rw [List.pairwise_flatMap]; refine ⟨fun x _ => by unfold patV; split <;> simp, List.Pairwise.imp_of_mem ?_ hf.rt⟩; intro a b ha hb hab p hp q hq; refine dj_of hA (patV_lies hT ho hf hin ha hp).2.2.inq (patV_lies hT ho hf hin hb hq).2.2.inq fun s e1 e2 => ?_; have h1 := (key_no e1).2.2; have h2 := (key_no e2).2.2
      omega
    have hB : ∀ p ∈ blobP (layT F T) d.2.2 no, Lies (layT F T) (fun s => s.1 = 4 ∧ s.2.1 = no) p := fun p hp =>
      (blobP_lies hT hin hp).2.2.mono fun s h => by have := key_no h; exact ⟨this.1, this.2.1⟩
    have hBd : (blobP (layT F T) d.2.2 no).Pairwise Dj := by unfold blobP; split <;> simp
    have hH : ∀ p ∈ headQ (layT F T) o no (entsD f (layT F T) o no (L.getD i.toNat shp0) d), Lies (layT F T) (fun s => s.1 = 2 ∧ s.2.1 = no) p := fun p hp =>
      (headQ_lies hT ho hin hel k6 k9 hp).mono fun s h => by have := key_no h; exact ⟨this.1, this.2.1⟩
    have hHd := headQ_dj (l := layT F T) (no := no) ho k6 k9 k8
    have hrec : ∀ j, j < d.2.1.length → (∀ p ∈ dirQ L (layT F T) o f (d.2.1.getD j (0, dirZ f)).2 (subN f d.2.1 no j) (subI (L.getD i.toNat shp0) (d.2.1.getD j (0, dirZ f)).1), Lies (layT F T) (fun s => subN f d.2.1 no j ≤ s.2.1 ∧ s.2.1 < subN f d.2.1 no (j + 1)) p) ∧ (dirQ L (layT F T) o f (d.2.1.getD j (0, dirZ f)).2 (subN f d.2.1 no j) (subI (L.getD i.toNat shp0) (d.2.1.getD j (0, dirZ f)).1)).Pairwise Dj := fun j hj => by
      have := dirQ_apart ho f _ _ _ (hf.sb j hj).2 (k2 j hj).2 fun x hx => hin x (itmD_sub hj x hx); rw [← subN_step f d.2.1 no hj] at this; exact this
    have hS : ∀ p ∈ subP (dirQ L (layT F T) o f) (L.getD i.toNat shp0) d.2.1 no d.2.1.length, Lies (layT F T) (fun s => no + 1 ≤ s.2.1 ∧ s.2.1 < no + 1 + (flats f d.2.1).length) p := fun p hp => by
      obtain ⟨j, hj, hp⟩ := subP_mem hp; refine ((hrec j hj).1 p hp).mono fun s hs => ?_; have h1 := subN_le f d.2.1 no j; have h2 := subN_le f d.2.1 no (j + 1)
      omega
    have hSd : (subP (dirQ L (layT F T) o f) (L.getD i.toNat shp0) d.2.1 no d.2.1.length).Pairwise Dj := by
      unfold subP; rw [List.pairwise_flatMap]; refine ⟨fun j hj => (hrec j (List.mem_range.1 hj)).2, List.Pairwise.imp_of_mem ?_ List.pairwise_lt_range⟩; intro a b ha hb hab p hp q hq; refine dj_of hA ((hrec a (List.mem_range.1 ha)).1 p hp).inq ((hrec b (List.mem_range.1 hb)).1 q hq).inq fun s e1 e2 => ?_; have := subN_mono f d.2.1 no (show a + 1 ≤ b by omega)
      omega
    rw [dirQ_succ, putP_eq]
    have hO : ∀ p ∈ d.1.flatMap (patV (layT F T) o no) ++ blobP (layT F T) d.2.2 no ++ headQ (layT F T) o no (entsD f (layT F T) o no (L.getD i.toNat shp0) d), Lies (layT F T) (fun s => s.2.1 = no) p := fun p hp => by
      rcases List.mem_append.1 hp with hp | hp
      · rcases List.mem_append.1 hp with hp | hp
        · exact (hV p hp).mono fun s h => h.2
        · exact (hB p hp).mono fun s h => h.2
      · exact (hH p hp).mono fun s h => h.2
    refine ⟨fun p hp => ?_, ?_⟩
    · rcases List.mem_append.1 hp with hp | hp
      · exact (hS p hp).mono fun s h => by omega
      · exact (hO p hp).mono fun s h => by omega
    · rw [List.pairwise_append]
      refine ⟨hSd, ?_, fun p hp q hq => dj_of hA (hS p hp).inq (hO q hq).inq fun s e1 e2 => by omega⟩; rw [List.pairwise_append]; refine ⟨?_, hHd, fun p hp q hq => ?_⟩
      · rw [List.pairwise_append]
        exact ⟨hVd, hBd, fun p hp q hq => dj_of hA (hV p hp).inq (hB q hq).inq fun s e1 e2 => by omega⟩
      · rcases List.mem_append.1 hp with hp | hp
        · exact dj_of hA (hV p hp).inq (hH q hq).inq fun s e1 e2 => by omega
        · exact dj_of hA (hB p hp).inq (hH q hq).inq fun s e1 e2 => by omega
omit hT in
theorem noT_mono (f : Nat) (ds : List (DirT f)) {a b : Nat} (h : a ≤ b) : noT f ds a ≤ noT f ds b := by
  have := noT_le f (ds.take b) a; unfold noT at this ⊢; rw [List.take_take, Nat.min_eq_left h] at this
  omega
end
section
variable {f : Nat} {o : Int} {ds : List (DirT f)} {L : List Shp} (h : checkS f o ds L = 0) (hb : ∀ d ∈ ds, bytD f d)
include h hb
theorem dirT_apart {k : Nat} (hk : k < ds.length) : (∀ p ∈ dirQ L (layT f ds) o f (ds.getD k (dirZ f)) (noT f ds k) (nxtS L k), Lies (layT f ds) (fun s => noT f ds k ≤ s.2.1 ∧ s.2.1 < noT f ds (k + 1)) p) ∧ (dirQ L (layT f ds) o f (ds.getD k (dirZ f)) (noT f ds k) (nxtS L k)).Pairwise Dj := by
  have hO := okt_of h hb; obtain ⟨h1, h2, h3, h4, h5, h6⟩ := chk_of h; rw [noT_step f ds hk]; exact dirQ_apart (hasAll_dis h5) h2 f _ _ _ (hasAll_get h5 hk) (hO.dir k hk) (itmT_get hk)
omit hb in
theorem linkP2_at {k : Nat} (hk : k < ds.length) : ∃ s ∈ layT f ds, keyS s = (2, noT f ds k, 0) ∧ s.2.2.2.1 = atS (layT f ds) 2 (noT f ds k) 0 ∧ s.2.2.2.2 = 6 + 12 * ((entD f (ds.getD k (dirZ f)) : Nat) : Int) ∧ 0 ≤ s.2.2.2.1 ∧ s.2.2.2.1 + s.2.2.2.2 ≤ endS (layT f ds) := by
  obtain ⟨h1, h2, h3, h4, h5, h6⟩ := chk_of h; have hx := itmT_get hk _ (hasS_ent (hasAll_get h5 hk) (noT f ds k)); obtain ⟨s, g1, g2, g3, g4, _, g5, _, g6⟩ := layT_spot (hasAll_dis h5) hx; simp only at g3 g4 g6; exact ⟨s, g1, g2, g4, g3, g5, by rw [g3]; exact g6⟩
omit hb in
theorem nextQ_in {k : Nat} (hb : ∀ d ∈ ds, bytD f d) (hk : k < ds.length) {p : Pt} (hp : p ∈ nextQ (layT f ds) o f ds k) : k + 1 < ds.length ∧ p.2.length = 4 ∧ ∃ s ∈ layT f ds, keyS s = (2, noT f ds k, 0) ∧ (p.1 : Int) = s.2.2.2.1 + s.2.2.2.2 - 4 := by
  unfold nextQ at hp
  split at hp
  · rename_i hk1
    obtain rfl : p = _ := by simpa using hp
    have hO := okt_of h hb; obtain ⟨s, g1, g2, g3, g4, g5, g6⟩ := linkP2_at h hk; have hpk := hO.pk (k + 1) hk1; refine ⟨hk1, by unfold linkP2; rw [putS_len2 hpk]; rfl, s, g1, g2, ?_⟩; unfold linkP2
    show (((atS (layT f ds) 2 (noT f ds k) 0 + 2 + 12 * ((entD f (ds.getD k (dirZ f)) : Nat) : Int)).toNat : Nat) : Int) = _
    omega
  · cases hp
theorem chQ_apart : (∀ p ∈ chQ L (layT f ds) o f ds ds.length, InQ (layT f ds) (fun s => 0 ≤ s.2.1) p) ∧ (chQ L (layT f ds) o f ds ds.length).Pairwise Dj := by
  have hA := layT_ahead f ds
  have hN : ∀ k, k < ds.length → ∀ p ∈ nextQ (layT f ds) o f ds k, InQ (layT f ds) (fun s => s.2.1 = noT f ds k) p := fun k hk p hp => by
    obtain ⟨_, h4, s, g1, g2, g3⟩ := nextQ_in h hb hk hp; obtain ⟨t, i1, i2, i3, i4, i5, _⟩ := linkP2_at h hk; have hst : s = t := key_one (layT_keys f ds (hasAll_dis (chk_of h).2.2.2.2.1)) g1 i1 (g2.trans i2.symm); subst hst; exact ⟨s, g1, (key_no g2).2.1, by omega, by omega⟩
  have hD := fun k (hk : k < ds.length) => dirT_apart h hb hk
  have hblk : ∀ k, k < ds.length → ∀ p ∈ dirQ L (layT f ds) o f (ds.getD k (dirZ f)) (noT f ds k) (nxtS L k) ++ nextQ (layT f ds) o f ds k, InQ (layT f ds) (fun s => noT f ds k ≤ s.2.1 ∧ s.2.1 < noT f ds (k + 1)) p := fun k hk p hp => by
    rcases List.mem_append.1 hp with hp | hp
    · exact ((hD k hk).1 p hp).inq
    · refine (hN k hk p hp).mono fun s hs => ?_
      have h1 := noT_step f ds hk
      have h2 : 0 < (flatS f (ds.getD k (dirZ f))).length := by
        have hh := hasAll_get (chk_of h).2.2.2.2.1 hk
        cases f with
        | zero => exact absurd hh (by simp [hasS])
        | succ f => rw [flatS_succ]; simp
      omega
  constructor
  · intro p hp
    obtain ⟨k, hk, hp⟩ := List.mem_flatMap.1 hp; refine (hblk k (List.mem_range.1 hk) p hp).mono fun s hs => ?_; have := noT_le f ds k
    omega
  · unfold chQ
    rw [List.pairwise_flatMap]; refine ⟨fun k hk => ?_, List.Pairwise.imp_of_mem ?_ List.pairwise_lt_range⟩
    · have hk := List.mem_range.1 hk
      rw [List.pairwise_append]; refine ⟨(hD k hk).2, by unfold nextQ; split <;> simp, fun p hp q hq => ?_⟩; obtain ⟨s, s1, s2, s3, s4⟩ := (hD k hk).1 p hp; obtain ⟨_, h4, t, t1, t2, t3⟩ := nextQ_in h hb hk hq
      by_cases e : s = t
      · subst e
        rw [if_pos (key_no t2).1] at s4; refine .inl ?_
        omega
      · refine dj_of hA (Q := fun x => x = s) (R := fun x => x = t) ⟨s, s1, rfl, s3, by split at s4 <;> omega⟩ ?_ fun x e1 e2 => e (e1.symm.trans e2)
        obtain ⟨t', u1, u2, u3, u4⟩ := hN k hk q hq; obtain ⟨v, i1, i2, i3, i4, i5, _⟩ := linkP2_at h hk; have hst : t = v := key_one (layT_keys f ds (hasAll_dis (chk_of h).2.2.2.2.1)) t1 i1 (t2.trans i2.symm); subst hst; exact ⟨t, t1, rfl, by omega, by omega⟩
    · intro a b ha hb2 hab p hp q hq
      refine dj_of hA (hblk a (List.mem_range.1 ha) p hp) (hblk b (List.mem_range.1 hb2) q hq) fun s e1 e2 => ?_; have := noT_mono f ds (show a + 1 ≤ b by omega)
      omega
omit h hb in
theorem head8 : ∃ s ∈ layT f ds, s.2.1 = -1 ∧ s.2.2.2.1 = 0 ∧ s.2.2.2.2 = 8 := ⟨(1, -1, 0, 0, 8), by rw [(layT_eq f ds).1]; exact List.mem_cons_self .., rfl, rfl, rfl⟩
omit h hb in
theorem signB_len : (signB o).length = 2 := by unfold signB; split <;> rfl
/-- the patches of a tree stand apart -/
theorem treeQ_dj : (treeQ f o ds L).Pairwise Dj ∧ ∀ p ∈ treeQ f o ds L, InQ (layT f ds) (fun _ => True) p := by
  have hA := layT_ahead f ds; obtain ⟨c1, c2⟩ := chQ_apart h hb; obtain ⟨s, s1, s2, s3, s4⟩ := head8 (f := f) (ds := ds); have ho := (chk_of h).2.1; have p42 : (putS 42 2 o).length = 2 := putS_len2 (n := 42) (s := 2) ((putOk_iff ho).2 (by decide)); have p8 : (putS 8 4 o).length = 4 := putS_len2 (n := 8) (s := 4) ((putOk_iff ho).2 (by decide)); have sg := signB_len (o := o); have q1 : InQ (layT f ds) (fun s => s.2.1 = -1) (0, signB o) := ⟨s, s1, s2, by rw [s3]; exact Int.le_refl _, by rw [s3, s4]; show ((0 : Nat) : Int) + (signB o).length ≤ _; omega⟩; have q2 : InQ (layT f ds) (fun s => s.2.1 = -1) (2, putS 42 2 o) := ⟨s, s1, s2, by rw [s3]; show (0 : Int) ≤ (2 : Nat); omega, by rw [s3, s4]; show ((2 : Nat) : Int) + (putS 42 2 o).length ≤ _; omega⟩; have q3 : InQ (layT f ds) (fun s => s.2.1 = -1) (4, putS 8 4 o) := ⟨s, s1, s2, by rw [s3]; show (0 : Int) ≤ (4 : Nat); omega, by rw [s3, s4]; show ((4 : Nat) : Int) + (putS 8 4 o).length ≤ _; omega⟩; have hx : ∀ p, InQ (layT f ds) (fun s => s.2.1 = -1) p → ∀ q ∈ chQ L (layT f ds) o f ds ds.length, Dj p q := fun p hp q hq => dj_of hA hp (c1 q hq) fun s e1 e2 => by omega
  constructor
  · unfold treeQ
    refine List.Pairwise.cons ?_ (List.Pairwise.cons ?_ (List.Pairwise.cons ?_ c2))
    · intro p hp
      rcases List.mem_cons.1 hp with rfl | hp
      · exact .inl (by show 0 + (signB o).length ≤ 2; omega)
      rcases List.mem_cons.1 hp with rfl | hp
      · exact .inl (by show 0 + (signB o).length ≤ 4; omega)
      · exact hx _ q1 p hp
    · intro p hp
      rcases List.mem_cons.1 hp with rfl | hp
      · exact .inl (by show 2 + (putS 42 2 o).length ≤ 4; omega)
      · exact hx _ q2 p hp
    · exact fun p hp => hx _ q3 p hp
  · intro p hp
    rcases List.mem_cons.1 hp with rfl | hp
    · exact q1.mono fun _ _ => trivial
    rcases List.mem_cons.1 hp with rfl | hp
    · exact q2.mono fun _ _ => trivial
    rcases List.mem_cons.1 hp with rfl | hp
    · exact q3.mono fun _ _ => trivial
    · exact (c1 p hp).mono fun _ _ => trivial
theorem treeQ_inB : InB (longT f ds).toNat (treeQ f o ds L) := fun p hp => by
  obtain ⟨s, s1, _, s2, s3⟩ := (treeQ_dj h hb).2 p hp; have h1 := (long_of (chk_of h).2.2.2.2.2).2.1; rw [(layT_eq f ds).1] at s1; have h2 := placed_in (itmT f ds) 0 (Int.le_refl _) (itmT_nn f ds) s s1; rw [← (layT_eq f ds).2] at h2
  omega
theorem first8 : atS (layT f ds) 2 (noT f ds 0) 0 = 8 := by
  obtain ⟨h1, h2, h3, h4, h5, h6⟩ := chk_of h
  obtain ⟨d, r, rfl⟩ : ∃ d r, ds = d :: r := by
    cases ds with
    | nil => exact absurd rfl h3
    | cons d r => exact ⟨d, r, rfl⟩
  cases f with
  | zero => have := hasAll_get h5 (k := 0) (by simp); simp [hasS] at this
  | succ f =>
    rw [(layT_eq (f + 1) (d :: r)).1]
    rfl
/-- the program's bytes are the document's -/
theorem treeW_Q : treeW f o ds L = apP (treeQ f o ds L) (List.replicate (longT f ds).toNat 0) := by
  have hO := okt_of h hb; obtain ⟨h1, h2, h3, h4, h5, h6⟩ := chk_of h; have hp := ch_perm (L := L) (o := o) h3 hO.dir
  have e0 : linkP2 (layT f ds) o f ds 0 = (4, putS 8 4 o) := by
    unfold linkP2; rw [first8 h hb]
    rfl
  rw [e0] at hp; have hl : (List.replicate (longT f ds).toNat (0 : Int)).length = (longT f ds).toNat := by simp
  have hsg : ∀ r, apP (signP o ++ r) (List.replicate (longT f ds).toNat 0) = apP ((0, signB o) :: r) (List.replicate (longT f ds).toNat 0) := fun r => by
    rw [apP_append, apP_cons]
    congr 1
    rcases h2 with rfl | rfl
    · have h8 := hO.n8
      show splice (splice _ 0 [77, 77]) 0 [73, 73] = splice _ 0 [73, 73]
      have hr : (List.replicate (longT f ds).toNat (0 : Int)).length = (longT f ds).toNat := by simp
      have g1 : 0 + ([77, 77] : List Int).length ≤ (List.replicate (longT f ds).toNat (0 : Int)).length := by rw [hr]; show 0 + 2 ≤ _; omega
      have e1 := splice_len g1; have g2 : 0 + ([73, 73] : List Int).length ≤ (splice (List.replicate (longT f ds).toNat (0 : Int)) 0 [77, 77]).length := by rw [e1, hr]; show 0 + 2 ≤ _; omega
      have g3 : 0 + ([73, 73] : List Int).length ≤ (List.replicate (longT f ds).toNat (0 : Int)).length := by rw [hr]; show 0 + 2 ≤ _; omega
      refine list_ext0 (by rw [splice_len g2, splice_len g3, e1]) fun k hk => ?_; rw [splice_getD g2, splice_getD g1, splice_getD g3]
      by_cases hk2 : k < 2
      · rw [if_pos ⟨Nat.zero_le _, by show k < 0 + 2; omega⟩]; rw [if_pos ⟨Nat.zero_le _, by show k < 0 + 2; omega⟩]
      · rw [if_neg (by intro h; have : k < 0 + 2 := h.2; omega)]; rw [if_neg (by intro h; have : k < 0 + 2 := h.2; omega)]; rw [if_neg (by intro h; have : k < 0 + 2 := h.2; omega)]
    · rfl
  unfold treeW treeP; rw [hsg]; have hpm : ((0, signB o) :: (2, putS 42 2 o) :: chW L (layT f ds) o f ds ds.length).Perm (treeQ f o ds L) := (hp.cons _).cons _; refine apP_perm hpm _ ?_ ?_
  · intro p hp
    rw [hl]; exact treeQ_inB h hb p (hpm.mem_iff.1 hp)
  · exact (hpm.pairwise_iff (fun {_ _} h => Dj.symm h)).2 (treeQ_dj h hb).1
theorem treeW_len : (treeW f o ds L).length = (longT f ds).toNat := by
  rw [treeW_Q h hb, apP_len _ _ (by simp only [List.length_replicate]; exact treeQ_inB h hb)]
  simp
/-- what is written stands in the bytes -/
theorem treeW_get {p : Pt} (hp : p ∈ treeQ f o ds L) : ((treeW f o ds L).drop p.1).take p.2.length = p.2 := by
  rw [treeW_Q h hb]; exact apP_get (by simp only [List.length_replicate]; exact treeQ_inB h hb) (treeQ_dj h hb).1 hp
end
end Go.Proofs.YtceclmpmpldmlaaGreat

namespace Go.Proofs.YtceclmpmpldmlaaGreat
open Go.RowKit Tt
set_option linter.unusedVariables false
set_option linter.unusedSimpArgs false

/-- patches stand in bytes -/
def Std (z : List Int) (ps : List Pt) : Prop := ∀ p ∈ ps, p.1 + p.2.length ≤ z.length ∧ (z.drop p.1).take p.2.length = p.2
/-- a directory, and all within it, stands in bytes; behind its entries stands nx -/
def BackD (z : List Int) (L : List Shp) (l : List Spt) (o : Int) : (f : Nat) → DirT f → Int → Int → Int → Prop
  | 0, _, _, _, _ => False
  | f + 1, d, no, i, nx => Std z (putP f l o no (L.getD i.toNat shp0) d) ∧ getV z (atS l 2 no 0 + 2 + 12 * ((entN d.1.length d.2.1.length d.2.2.length : Nat) : Int)) 4 o = nx ∧
      ∀ j, j < d.2.1.length → BackD z L l o f (d.2.1.getD j (0, dirZ f)).2 (subN f d.2.1 no j) (subI (L.getD i.toNat shp0) (d.2.1.getD j (0, dirZ f)).1) 0
section
variable {l : List Spt} {z : List Int} {o : Int} (hk : (l.map keyS).Nodup) (hz : ∀ s ∈ l, s.2.2.2.1 + s.2.2.2.2 ≤ z.length)
include hk
include hz
end
theorem dt_take {z : List Int} {p n a m : Nat} (h : (z.drop p).take n = (z.drop p).take n) (hm : a + m ≤ n) : (z.drop (p + a)).take m = (((z.drop p).take n).drop a).take m := by
  rw [List.drop_take, List.take_take, List.drop_drop, Nat.min_eq_left (by omega)]
/-- an entry that stands there is read -/
theorem entAt_back {z : List Int} {p : Nat} {x : Ent} {o : Int} (ho : o = 1 ∨ o = 2) (hk : entOk x o = true) (hl : p + 12 ≤ z.length) (h : (z.drop p).take 12 = entW x o) : entAt z o p = x := by
  unfold entOk at hk; simp only [Bool.and_eq_true] at hk; obtain ⟨⟨⟨k0, k1⟩, k2⟩, k3⟩ := hk; have l0 : (putS x.1 2 o).length = 2 := putS_len2 k0; have l1 : (putS x.2.1 2 o).length = 2 := putS_len2 k1; have l2 : (putS x.2.2.1 4 o).length = 4 := putS_len2 k2; have l3 : (putS x.2.2.2 4 o).length = 4 := putS_len2 k3
  have e0 : (z.drop (p + 0)).take 2 = putS x.1 2 o := by
    rw [dt_take (n := 12) rfl (by omega), h]; unfold entW; rw [List.drop_zero, List.append_assoc, List.append_assoc, List.take_left' l0]
  have e1 : (z.drop (p + 2)).take 2 = putS x.2.1 2 o := by
    rw [dt_take (n := 12) rfl (by omega), h]; unfold entW; rw [List.append_assoc, List.append_assoc, List.drop_left' l0, List.take_left' l1]
  have e2 : (z.drop (p + 4)).take 4 = putS x.2.2.1 4 o := by
    rw [dt_take (n := 12) rfl (by omega), h]; unfold entW; rw [List.append_assoc, List.drop_left' (by rw [List.length_append, l0, l1]), List.take_left' l2]
  have e3 : (z.drop (p + 8)).take 4 = putS x.2.2.2 4 o := by
    rw [dt_take (n := 12) rfl (by omega), h]; unfold entW; rw [List.drop_left' (by rw [List.length_append, List.length_append, l0, l1, l2]), List.take_of_length_le (by rw [l3]; exact Nat.le_refl _)]
  unfold entAt; rw [getV_put (s := 2) (n := x.1) (by decide) ho (by omega) (by omega) k0 (by rw [show ((p : Int)).toNat = p + 0 by omega]; exact e0)]; rw [getV_put (s := 2) (n := x.2.1) (by decide) ho (by omega) (by omega) k1 (by rw [show ((p : Int) + 2).toNat = p + 2 by omega]; exact e1)]; rw [getV_put (s := 4) (n := x.2.2.1) (by decide) ho (by omega) (by omega) k2 (by rw [show ((p : Int) + 4).toNat = p + 4 by omega]; exact e2)]; rw [getV_put (s := 4) (n := x.2.2.2) (by decide) ho (by omega) (by omega) k3 (by rw [show ((p : Int) + 8).toNat = p + 8 by omega]; exact e3)]
/-- the entries of a directory are read -/
theorem ents_back {z : List Int} {l : List Spt} {o no : Int} (ho : o = 1 ∨ o = 2) {es : List Ent} (h0 : 0 ≤ atS l 2 no 0) (hd : es.Pairwise fun x y => x.1 ≠ y.1) (hk : ∀ x ∈ es, entOk x o = true) (hS : Std z (headQ l o no es)) : entsS z o (atS l 2 no 0) es.length = sortE es := by
  unfold entsS; refine List.ext_getElem (by simp [sortE_len]) fun i h1 h2 => ?_; rw [List.getElem_map, List.getElem_range]; have hm : (sortE es)[i] ∈ es := (sortE_perm es).subset (List.getElem_mem h2)
  have ha : aheadE es (sortE es)[i] = i := by
    unfold aheadE; rw [← ((sortE_perm es).filter _).length_eq]; exact ahead_sorted (sortE_lt hd) h2
  have hs := hS (rowE (atS l 2 no 0).toNat o es (sortE es)[i]) (by unfold headQ; exact List.mem_cons_of_mem _ (List.mem_map.2 ⟨_, hm, rfl⟩)); unfold rowE at hs; rw [ha, entW_len (hk _ hm)] at hs; simp only at hs; have := entAt_back ho (hk _ hm) hs.1 hs.2; rw [← this]
  congr 1
  omega
end Go.Proofs.YtceclmpmpldmlaaGreat
