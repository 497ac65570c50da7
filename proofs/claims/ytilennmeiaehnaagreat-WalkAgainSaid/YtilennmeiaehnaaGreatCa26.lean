/- Chapter 22: a tree's bytes are read as it. Plain. -/
import Derived.Test.YtilennmeiaehnaaGreatCa25
namespace Go.Proofs.YtilennmeiaehnaaGreat
open Go.RowKit Tt
set_option linter.unusedVariables false
set_option linter.unusedSimpArgs false

/-- the chain of directories, so deep -/
def chainG (z : List Int) (o : Int) (L : List Shp) (g : Nat) : Nat → List (DirT g) → Int → Int → St → Except Int (List (DirT g) × St)
  | 0, _, _, _, _ => .error 2
  | f + 1, acc, p, sh, s =>
    if 0 < p ∨ acc.length = 0 then
      if 0 ≤ sh then
        match dirS z o L g p sh s with
        | .error e => .error e
        | .ok ((d, next), s') => chainG z o L g f (acc ++ [d]) next (L.getD sh.toNat shp0).2.2.2 s'
      else .error 2
    else .ok (acc, s)
def readG (z : List Int) (L : List Shp) (g : Nat) : Except Int (List (DirT g) × St) :=
  if shapesB L = true then
    match headS z with
    | .error e => .error e
    | .ok s => chainG z (orderS z) L g 18 [] (getV z 4 4 (orderS z)) 0 s
  else .error 1
theorem chainG_16 (z : List Int) (o : Int) (L : List Shp) : ∀ n acc p sh s, chainG z o L 16 n acc p sh s = chainS z o L n acc p sh s
  | 0, _, _, _, _ => rfl
  | n + 1, acc, p, sh, s => by
    unfold chainG chainS
    split
    · split
      · cases dirS z o L 16 p sh s with
        | error e => rfl
        | ok r =>
          obtain ⟨⟨d, next⟩, s'⟩ := r; exact chainG_16 z o L n _ _ _ _
      · rfl
    · rfl
theorem readG_16 (z : List Int) (L : List Shp) : readG z L 16 = readS z L := by
  unfold readG readS
  split
  · cases headS z with
    | error e => rfl
    | ok s => exact chainG_16 z _ L _ _ _ _ _
  · rfl
theorem nxt_ge {L : List Shp} (hL : shapesB L = true) {n : Nat} (h : chainB L n = true) : ∀ k, k < n → (k : Int) ≤ nxtS L k
  | 0, _ => by show (0 : Int) ≤ 0; decide
  | k + 1, hk => by
    have ih := nxt_ge hL h k (by omega); have h0 := chain_nx h (k := k + 1) hk; have hl := nxt_lt hL k; have := shapeB_next (shapesB_get hL (i := (nxtS L k).toNat) (by omega)); have e : nxtS L (k + 1) = (L.getD (nxtS L k).toNat shp0).2.2.2 := rfl; rw [e] at h0 ⊢
    omega
section
variable {f : Nat} {o : Int} {ds : List (DirT f)} {L : List Shp} (h : checkS f o ds L = 0) (hb : ∀ d ∈ ds, bytD f d)
/-- bytes in which a tree stands -/
structure Holds (f : Nat) (o : Int) (ds : List (DirT f)) (L : List Shp) (z : List Int) : Prop where
  std : Std z (treeQ f o ds L)
  nul : ∀ (m : Int) (e : Nat), ((2, m, 0, 6 + 12 * (e : Int)) : Itm) ∈ itmT f ds → (∀ k, k + 1 < ds.length → noT f ds k ≠ m) → getV z (atS (layT f ds) 2 m 0 + 2 + 12 * (e : Int)) 4 o = 0
  len : endS (layT f ds) ≤ z.length
include h
theorem chain_len : ds.length ≤ 16 ∧ 1 ≤ ds.length := by
  obtain ⟨h1, h2, h3, h4, h5, h6⟩ := chk_of h; have := nxt_ge h1 h4 (ds.length - 1) (by omega); have h7 := nxt_lt h1 (ds.length - 1); have h8 := shapesB_len h1
  omega
theorem flat_pos {k : Nat} (hk : k < ds.length) : 0 < (flatS f (ds.getD k (dirZ f))).length := by
  have hh := hasAll_get (chk_of h).2.2.2.2.1 hk
  cases f with
  | zero => exact absurd hh (by simp [hasS])
  | succ f => rw [flatS_succ]; simp
theorem noT_lt {a b : Nat} (hab : a < b) (hbn : b ≤ ds.length) : noT f ds a < noT f ds b := by
  have h1 := noT_step f ds (show a < ds.length by omega); have h2 := flat_pos h (show a < ds.length by omega); have h3 := noT_mono f ds (show a + 1 ≤ b by omega)
  omega
include hb
theorem treeQ_parts {q : Pt} (hq : q ∈ treeQ f o ds L) : (InQ (layT f ds) (fun s => s.2.1 = -1) q) ∨ (∃ k, k < ds.length ∧ Lies (layT f ds) (fun s => noT f ds k ≤ s.2.1 ∧ s.2.1 < noT f ds (k + 1)) q) ∨
    (∃ k, k + 1 < ds.length ∧ ∃ s ∈ layT f ds, keyS s = (2, noT f ds k, 0) ∧ (q.1 : Int) = s.2.2.2.1 + s.2.2.2.2 - 4 ∧ q.2.length = 4 ∧ s.2.2.2.1 ≤ q.1) := by
  obtain ⟨s, s1, s2, s3, s4⟩ := head8 (f := f) (ds := ds); have ho := (chk_of h).2.1; have p42 : (putS 42 2 o).length = 2 := putS_len2 (n := 42) (s := 2) ((putOk_iff ho).2 (by decide)); have p8 : (putS 8 4 o).length = 4 := putS_len2 (n := 8) (s := 4) ((putOk_iff ho).2 (by decide)); have sg := signB_len (o := o)
  rcases List.mem_cons.1 hq with rfl | hq
  · exact .inl ⟨s, s1, s2, by rw [s3]; exact Int.le_refl _, by rw [s3, s4]; show ((0 : Nat) : Int) + (signB o).length ≤ _; omega⟩
  rcases List.mem_cons.1 hq with rfl | hq
  · exact .inl ⟨s, s1, s2, by rw [s3]; show (0 : Int) ≤ (2 : Nat); omega, by rw [s3, s4]; show ((2 : Nat) : Int) + (putS 42 2 o).length ≤ _; omega⟩
  rcases List.mem_cons.1 hq with rfl | hq
  · exact .inl ⟨s, s1, s2, by rw [s3]; show (0 : Int) ≤ (4 : Nat); omega, by rw [s3, s4]; show ((4 : Nat) : Int) + (putS 8 4 o).length ≤ _; omega⟩
  obtain ⟨k, hk, hq⟩ := List.mem_flatMap.1 hq; have hk := List.mem_range.1 hk
  rcases List.mem_append.1 hq with hq | hq
  · exact .inr (.inl ⟨k, hk, (dirT_apart h hb hk).1 q hq⟩)
  · obtain ⟨a1, a2, t, t1, t2, t3⟩ := nextQ_in h hb hk hq
    obtain ⟨v, i1, i2, i3, i4, i5, _⟩ := linkP2_at h hk; have hst : t = v := key_one (layT_keys f ds (hasAll_dis (chk_of h).2.2.2.2.1)) t1 i1 (t2.trans i2.symm); subst hst; exact .inr (.inr ⟨k, a1, t, t1, t2, t3, a2, by omega⟩)
/-- behind the entries of a directory that is not followed nothing is written -/
theorem tail_free {m : Int} {s : Spt} (hs : s ∈ layT f ds) (hsk : keyS s = (2, m, 0)) (hm : 0 ≤ m) (hne : ∀ k, k + 1 < ds.length → noT f ds k ≠ m) {q : Pt} (hq : q ∈ treeQ f o ds L) : (q.1 : Int) + q.2.length ≤ s.2.2.2.1 + s.2.2.2.2 - 4 ∨ s.2.2.2.1 + s.2.2.2.2 ≤ q.1 ∨ (q.1 : Int) + q.2.length ≤ s.2.2.2.1 := by
  have hA := layT_ahead f ds
  rcases treeQ_parts h hb hq with hp | ⟨k, hk, hp⟩ | ⟨k, hk, t, t1, t2, t3, t4, t5⟩
  · obtain ⟨t, t1, t2, t3, t4⟩ := hp
    have hn : t ≠ s := fun e => by rw [e, (key_no hsk).2.1] at t2; omega
    rcases ahead_two hA t1 hs hn with e | e <;> unfold Ahead at e <;> omega
  · obtain ⟨t, t1, t2, t3, t4⟩ := hp
    by_cases e : t = s
    · subst e
      rw [if_pos (key_no hsk).1] at t4
      omega
    · rcases ahead_two hA t1 hs e with e | e <;> unfold Ahead at e <;> split at t4 <;> omega
  · have hn : t ≠ s := fun e => by
      rw [e] at t2; have := (key_no (hsk.symm.trans t2 ▸ t2)).2.1; have h1 := (key_no hsk).2.1; have h2 := (key_no t2).2.1; exact hne k hk (h2.symm.trans h1)
    rcases ahead_two hA t1 hs hn with e | e <;> unfold Ahead at e <;> omega
omit h hb in
theorem getV_zero {z : List Int} {p o : Int} (ho : o = 1 ∨ o = 2) (h0 : 0 ≤ p) (h1 : p + 4 ≤ z.length) (hz : ∀ k : Nat, p ≤ k → (k : Int) < p + 4 → z.getD k 0 = 0) : getV z p 4 o = 0 := by
  have e : (z.drop p.toNat).take (4 : Int).toNat = [0, 0, 0, 0] := by
    refine list_ext0 (by simp; omega) fun k hk => ?_; have hk4 : k < 4 := by simp at hk; omega
    have h2 := hz (p.toNat + k) (by omega) (by omega); simp only [List.getD_eq_getElem?_getD, List.getElem?_take, List.getElem?_drop] at h2 ⊢; rw [if_pos (by omega), h2]
    rcases (by omega : k = 0 ∨ k = 1 ∨ k = 2 ∨ k = 3) with rfl | rfl | rfl | rfl <;> rfl
  rw [getV_in (by decide) ho h0 (by omega)]; unfold getL; rw [e]
  split <;> rfl
theorem holds_W (m : Nat) : Holds f o ds L (treeW f o ds L ++ List.replicate m 0) := by
  have hlen := treeW_len h hb; have hin := treeQ_inB h hb; have hLo := long_of (chk_of h).2.2.2.2.2; have ho := (chk_of h).2.1; refine ⟨fun p hp => ?_, fun n e hx hne => ?_, by rw [List.length_append, hlen]; omega⟩
  · have h1 := hin p hp
    have h2 := treeW_get h hb hp; refine ⟨by rw [List.length_append, hlen]; omega, ?_⟩; rw [List.drop_append_of_le_length (by rw [hlen]; omega), List.take_append_of_le_length (by rw [List.length_drop, hlen]; omega)]; exact h2
  · have hdis := hasAll_dis (chk_of h).2.2.2.2.1
    obtain ⟨s, g1, g2, g3, g4, _, g5, _, g6⟩ := layT_spot hdis hx; simp only at g3 g4 g6
    have hm : 0 ≤ n := by
      rcases List.mem_cons.1 hx with e1 | hx
      · have := congrArg (fun k => k.1) e1
        simp at this
      · obtain ⟨j, _, hx⟩ := itmSs_mem hx
        have := (itmD_no _ _ _ _ hx).1; simp only at this
        omega
    refine getV_zero ho (by omega) (by rw [List.length_append, hlen]; omega) fun k hk1 hk2 => ?_; have hkl : k < (treeW f o ds L).length := by rw [hlen]; omega
    rw [List.getD_eq_getElem?_getD, List.getElem?_append_left hkl, ← List.getD_eq_getElem?_getD, treeW_Q h hb, apP_out _ _ k (by simp only [List.length_replicate]; exact hin) fun q hq => ?_]
    · rw [List.getD_eq_getElem?_getD, List.getElem?_replicate]
      split <;> rfl
    · have := tail_free h hb g1 g2 hm hne hq
      intro hc
      omega
omit h hb in
theorem backD_of {z : List Int} (hH : Holds f o ds L z) : ∀ (g : Nat) (d : DirT g) (no i nx : Int), hasS L g d i = true → (∀ x ∈ itmD g d no, x ∈ itmT f ds) → (∀ p ∈ dirQ L (layT f ds) o g d no i, p ∈ treeQ f o ds L) →
    (∀ m, no < m → m < no + (flatS g d).length → ∀ k, k + 1 < ds.length → noT f ds k ≠ m) → getV z (atS (layT f ds) 2 no 0 + 2 + 12 * ((entD g d : Nat) : Int)) 4 o = nx → BackD z L (layT f ds) o g d no i nx
  | 0, _, _, _, _, hh, _, _, _, _ => absurd hh (by simp [hasS])
  | g + 1, d, no, i, nx, hh, hin, hq, hm, hnx => by
    have hf := hasF_iff.1 hh; have hfl : (flatS (g + 1) d).length = (flats g d.2.1).length + 1 := by rw [flatS_succ]; rfl
    refine ⟨fun p hp => hH.std p (hq p (by rw [dirQ_succ]; exact List.mem_append.2 (.inr hp))), hnx, fun j hj => ?_⟩; have h1 := subN_step g d.2.1 no hj; have h2 := subN_le g d.2.1 no j; have h3 := subN_le g d.2.1 no (j + 1)
    have hpos : 0 < (flatS g (d.2.1.getD j (0, dirZ g)).2).length := by
      have hh2 := (hf.sb j hj).2
      cases g with
      | zero => exact absurd hh2 (by simp [hasS])
      | succ g => rw [flatS_succ]; simp
    refine backD_of hH g _ _ _ _ (hf.sb j hj).2 (fun x hx => hin x (itmD_sub hj x hx)) (fun p hp => hq p ?_) (fun m a b => hm m (by omega) (by omega)) (hH.nul _ _ (hin _ (itmD_sub hj _ (hasS_ent (hf.sb j hj).2 _))) (hm _ (by omega) (by omega))); rw [dirQ_succ]; refine List.mem_append.2 (.inl (List.mem_flatMap.2 ⟨j, List.mem_range.2 hj, hp⟩))
/-- where the next directory of the chain is told to be -/
def nextP (f : Nat) (ds : List (DirT f)) (k : Nat) : Int := if k < ds.length then atS (layT f ds) 2 (noT f ds k) 0 else 0
theorem backT_of {z : List Int} (hH : Holds f o ds L z) {k : Nat} (hk : k < ds.length) : BackD z L (layT f ds) o f (ds.getD k (dirZ f)) (noT f ds k) (nxtS L k) (nextP f ds (k + 1)) := by
  have hAll := (chk_of h).2.2.2.2.1; have ho := (chk_of h).2.1; have hh := hasAll_get hAll hk; have hst := noT_step f ds hk; obtain ⟨s, g1, g2, g3, g4, g5, g6⟩ := linkP2_at h hk; refine backD_of hH f _ _ _ _ hh (itmT_get hk) (fun p hp => ?_) (fun m a b j hj e => ?_) ?_
  · refine List.mem_cons_of_mem _ (List.mem_cons_of_mem _ (List.mem_cons_of_mem _ (List.mem_flatMap.2 ⟨k, List.mem_range.2 hk, List.mem_append.2 (.inl hp)⟩)))
  · rw [← hst] at b
    rcases Nat.lt_trichotomy j k with c | c | c
    · have := noT_mono f ds (show j ≤ k by omega); omega
    · subst c; omega
    · have := noT_mono f ds (show k + 1 ≤ j by omega); omega
  · unfold nextP
    by_cases hk1 : k + 1 < ds.length
    · rw [if_pos hk1]
      have hpk := (okt_of h hb).pk (k + 1) hk1; have hl := hH.std (linkP2 (layT f ds) o f ds (k + 1)) (List.mem_cons_of_mem _ (List.mem_cons_of_mem _ (List.mem_cons_of_mem _ (List.mem_flatMap.2 ⟨k, List.mem_range.2 hk, List.mem_append.2 (.inr (by unfold nextQ; rw [if_pos hk1]; exact List.mem_singleton.2 rfl))⟩)))); unfold linkP2 at hl; have hlk : lnkT (layT f ds) f ds (k + 1) = atS (layT f ds) 2 (noT f ds k) 0 + 2 + 12 * ((entD f (ds.getD k (dirZ f)) : Nat) : Int) := rfl; rw [hlk] at hl; simp only [show (putS (atS (layT f ds) 2 (noT f ds (k + 1)) 0) 4 o).length = 4 from putS_len2 hpk] at hl; exact getV_put (by decide) ho (by omega) (by have := hH.len; omega) hpk hl.2
    · rw [if_neg hk1]
      refine hH.nul _ _ (itmT_get hk _ (hasS_ent hh _)) fun j hj e => ?_; have := noT_lt h (show j < k by omega) (by omega)
      omega
theorem chain_back {z : List Int} (hH : Holds f o ds L z) (hN : (flatT f ds).length < 1000000) (e : Nat) : ∀ (m k : Nat), k + m = ds.length → chainG z o L f (m + 1 + e) (ds.take k) (nextP f ds k) (nxtS L k) ⟨(laySubs f ((prs f ds).take k) (addS [] 1 (-1) 0 8, 0)).1, noT f ds k, 0⟩ = .ok (ds, ⟨layT f ds, noT f ds ds.length, 0⟩)
  | 0, k, hk => by
    obtain ⟨_, hn⟩ := chain_len h; rw [show 0 + 1 + e = e + 1 by omega]; unfold chainG; have hp : nextP f ds k = 0 := by unfold nextP; rw [if_neg (by omega)]
    rw [hp, if_neg (by rw [List.length_take]; omega), List.take_of_length_le (by omega), List.take_of_length_le (by unfold prs; rw [List.length_map]; omega), show k = ds.length by omega]
    rfl
  | m + 1, k, hk => by
    have hO := okt_of h hb; obtain ⟨h1, h2, h3, h4, h5, h6⟩ := chk_of h; have hLg := long_of h6; have hkl : k < ds.length := by omega
    have hkp : k < (prs f ds).length := by unfold prs; rw [List.length_map]; exact hkl
    have hdis := hasAll_dis h5; have hg : ds.getD k (dirZ f) = ds[k] := getD_el hkl _; have hL8 : Lo (addS [] 1 (-1) 0 8) := Lo.add ⟨Int.le_refl _, fun s hs => by cases hs⟩ (by decide); have hLo := subs_lo f ((prs f ds).take k) (addS [] 1 (-1) 0 8, 0) hL8; have hst := laySubs_step f (prs f ds) (addS [] 1 (-1) 0 8, 0) hkp
    have hno : (laySubs f ((prs f ds).take k) (addS [] 1 (-1) 0 8, 0)).2 = noT f ds k := by
      rw [subs_no]; have : (prs f ds).take k = prs f (ds.take k) := by unfold prs; rw [List.map_take]
      rw [this, flats_prs]; unfold noT
      simp
    rw [hno, prs_get f ds hkp hkl] at hst
    have hpre : layS f ds[k] (noT f ds k) (laySubs f ((prs f ds).take k) (addS [] 1 (-1) 0 8, 0)).1 <+: layT f ds := by
      have := subs_take_pre f (prs f ds) (addS [] 1 (-1) 0 8, 0) (k + 1); rw [hst] at this; exact this
    have hz : ∀ s ∈ layT f ds, s.2.2.2.1 + s.2.2.2.2 ≤ z.length := fun s hs => by
      have hs2 := hs; rw [(layT_eq f ds).1] at hs2; have := placed_in (itmT f ds) 0 (Int.le_refl _) (itmT_nn f ds) s hs2; rw [← (layT_eq f ds).2] at this; have := hH.len
      omega
    have hnx := hO.nx k hkl; have hnl := nxt_lt h1 k; have hnn := noT_le f ds k; have hnn2 := noT_le f ds (k + 1); have hns := noT_step f ds hkl; have hr := dirS_back (layT_keys f ds hdis) hz h2 h1 f (ds.getD k (dirZ f)) (noT f ds k) (nxtS L k) (nextP f ds (k + 1)) (laySubs f ((prs f ds).take k) (addS [] 1 (-1) 0 8, 0)).1 hnx (by omega) (hasAll_get h5 hkl) (hb _ (by rw [hg]; exact List.getElem_mem hkl)) (hO.dir k hkl) (backT_of h hb hH hkl) hLo (by rw [hg]; exact hpre) (by omega) (by omega); have hp : nextP f ds k = atS (layT f ds) 2 (noT f ds k) 0 := by unfold nextP; rw [if_pos hkl]
    have hpos : 0 < nextP f ds k := by
      obtain ⟨s, g1, g2, g3, g4, g5, g6⟩ := linkP2_at h hkl; obtain ⟨t, t1, t2, t3, t4⟩ := head8 (f := f) (ds := ds); have hne : t ≠ s := fun e => by rw [e, (key_no g2).2.1] at t2; omega
      rw [hp, ← g3]
      rcases ahead_two (layT_ahead f ds) t1 g1 hne with e | e <;> unfold Ahead at e <;> omega
    rw [show m + 1 + 1 + e = (m + 1 + e) + 1 by omega]; unfold chainG; rw [if_pos (.inl hpos), if_pos hnx, hp, hr]; simp only; have ih := chain_back hH hN e m (k + 1) (by omega); rw [hst, hns] at ih; rw [List.take_add_one, List.getElem?_eq_getElem hkl, Option.toList_some] at ih; rw [hg] at ih ⊢; exact ih
/-- bytes in which a tree stands are read as it, with the spots by which it is laid, and nothing is soiled -/
theorem read_back {z : List Int} (hH : Holds f o ds L z) (hN : (flatT f ds).length < 1000000) : readG z L f = .ok (ds, ⟨layT f ds, noT f ds ds.length, 0⟩) := by
  obtain ⟨h1, h2, h3, h4, h5, h6⟩ := chk_of h; obtain ⟨n16, n1⟩ := chain_len h; have h8 := endT_ge f ds; have hlen := hH.len; have hsg := hH.std (0, signB o) (List.mem_cons_self ..); have h42 := hH.std (2, putS 42 2 o) (List.mem_cons_of_mem _ (List.mem_cons_self ..)); have h84 := hH.std (4, putS 8 4 o) (List.mem_cons_of_mem _ (List.mem_cons_of_mem _ (List.mem_cons_self ..))); have k42 : putOk 42 2 o = true := (putOk_iff h2).2 (by decide); have k8 : putOk 8 4 o = true := (putOk_iff h2).2 (by decide); have l42 : (putS 42 2 o).length = 2 := putS_len2 k42; have l8 : (putS 8 4 o).length = 4 := putS_len2 k8; simp only [l42] at h42; simp only [l8] at h84; simp only [signB_len, List.drop_zero] at hsg
  have hord : orderS z = o := by
    match z, hsg.2, hlen with
    | [], _, hl => simp at hl; omega
    | [x], hh, _ => have := congrArg List.length hh; simp [signB_len] at this
    | x :: y :: r, hh, _ =>
      unfold signB at hh; unfold orderS
      rcases h2 with rfl | rfl
      · rw [if_neg (by decide)] at hh
        obtain ⟨rfl, rfl⟩ : x = 73 ∧ y = 73 := by simpa using hh
        rfl
      · rw [if_pos rfl] at hh
        obtain ⟨rfl, rfl⟩ : x = 77 ∧ y = 77 := by simpa using hh
        rfl
  have g42 : getV z 2 2 o = 42 := getV_put (by decide) h2 (by decide) (by omega) k42 h42.2; have g8 : getV z 4 4 o = 8 := getV_put (by decide) h2 (by decide) (by omega) k8 h84.2
  have hhd : headS z = .ok ⟨addS [] 1 (-1) 0 8, 0, 0⟩ := by
    unfold headS; rw [if_pos (by omega), hord, if_pos ⟨by omega, g42⟩]; exact take_lay (l0 := []) ⟨Int.le_refl _, fun s hs => by cases hs⟩ (by decide) (by show (0 : Int) + 8 ≤ z.length; omega)
  unfold readG; rw [if_pos h1, hhd, hord, g8]; simp only; have hc := chain_back h hb hH hN (17 - ds.length) ds.length 0 (by omega); have e1 : ds.length + 1 + (17 - ds.length) = 18 := by omega
  have e2 : nextP f ds 0 = 8 := by unfold nextP; rw [if_pos (by omega)]; exact first8 h hb
  rw [e1, e2] at hc; exact hc
end
end Go.Proofs.YtilennmeiaehnaaGreat
