/- Chapter 22: what any bytes are read as has the shapes. Plain. -/
import Derived.Test.YtilennmeiaehnaaGreatCa27
namespace Go.Proofs.YtilennmeiaehnaaGreat
open Go.RowKit Tt
set_option linter.unusedVariables false
set_option linter.unusedSimpArgs false

def itmOf (s : Spt) : Itm := (s.1, s.2.1, s.2.2.1, s.2.2.2.2)
theorem ofS_may {y c : Int} {b d : List Int} {o : Int} (h : ofS y c b o = some d) : mayS y c d = true := by
  unfold ofS at h
  split at h
  · cases h
  · split at h
    · rename_i h1 h2
      obtain rfl : _ = d := by simpa using h
      exact h2
    · cases h
theorem drop_byt {z : List Int} (h : Byt z) (n : Nat) : Byt (z.drop n) := fun x hx => h x (List.mem_of_mem_drop hx)
theorem rises_lt : ∀ {es : List Ent}, risesE es = true → es.Pairwise fun x y => x.1 < y.1
  | [], _ => List.Pairwise.nil
  | [_], _ => List.Pairwise.cons (fun _ h => by cases h) List.Pairwise.nil
  | x :: y :: r, h => by
    unfold risesE at h; simp only [Bool.and_eq_true, decide_eq_true_eq] at h; have ih := rises_lt h.2; refine List.Pairwise.cons (fun w hw => ?_) ih
    rcases List.mem_cons.1 hw with rfl | hw
    · exact h.1
    · exact Int.lt_trans h.1 ((List.pairwise_cons.1 ih).1 w hw)
theorem ent_bound {z : List Int} (hb : Byt z) {o p : Int} (ho : o = 1 ∨ o = 2) (h0 : 0 ≤ p) (h1 : p + 12 ≤ z.length) : 0 ≤ (entAt z o p).1 ∧ (entAt z o p).1 < 65536 := by
  have := getV_bound hb (p := p) (s := 2) (o := o) (by decide) ho h0 (by omega); rw [show topS 2 = 65536 by decide] at this; exact this
theorem entriesS_parts {z : List Int} {o p no : Int} {s : St} {l : List Ent} {s1 : St} (h : entriesS z o p no s = .ok (l, s1)) :
    0 < getV z p 2 o ∧ l = entsS z o p (getV z p 2 o).toNat ∧ takeS z.length (2, no, 0, p, 6 + 12 * getV z p 2 o) s = .ok s1 ∧ risesE l = true := by
  unfold entriesS at h
  split at h
  · split at h
    · rename_i h0
      cases ht : takeS z.length (2, no, 0, p, 6 + 12 * getV z p 2 o) s with
      | error e => rw [ht] at h; cases h
      | ok s2 =>
        rw [ht] at h; simp only at h
        split at h
        · rename_i hr
          injection h with h; injection h with h1 h2; subst h1 h2; exact ⟨h0, rfl, rfl, hr⟩
        · cases h
    · cases h
  · cases h
/-- one value: what it is, and what is laid of it -/
theorem valueS_item {z : List Int} (hb : Byt z) {o : Int} {x : Ent} {no : Int} {s : St} {v : Tgs} {s' : St} (h : valueS z o x no s = .ok (v, s')) :
    v.1 = x.1 ∧ okT v = true ∧ Byt v.2.2.2 ∧ s'.spots.map itmOf = s.spots.map itmOf ++ itmV no [v] ∧ s'.no = s.no := by
  unfold valueS at h
  split at h
  · split at h
    · rename_i h0
      cases ht : takeS z.length (3, no, x.1, x.2.2.2, outS x.2.1 x.2.2.1) s with
      | error e => rw [ht] at h; cases h
      | ok s1 =>
        rw [ht] at h; simp only at h
        cases hv : ofS x.2.1 x.2.2.1 (z.drop x.2.2.2.toNat) o with
        | none => rw [hv] at h; cases h
        | some d =>
          rw [hv] at h; injection h with h; injection h with h1 h2; subst h1 h2; obtain ⟨_, _, rfl⟩ := takeS_ok ht; refine ⟨rfl, ofS_may hv, ofS_byt hv (drop_byt hb _), ?_, rfl⟩
          have e : itmV no [(x.1, x.2.1, x.2.2.1, d)] = [(3, no, x.1, outS x.2.1 x.2.2.1)] := by
            unfold itmV outV
            simp [h0]
          rw [e, List.map_append]
          rfl
    · rename_i h0
      cases hv : inS x o with
      | none => rw [hv] at h; cases h
      | some d =>
        rw [hv] at h; injection h with h; injection h with h1 h2; subst h1 h2
        have e : itmV no [(x.1, x.2.1, x.2.2.1, d.1)] = [] := by
          unfold itmV outV
          simp [h0]
        unfold inS at hv
        split at hv
        · cases ho : ofS x.2.1 x.2.2.1 (putS x.2.2.2 4 o) o with
          | none => rw [ho] at hv; cases hv
          | some d' =>
            rw [ho] at hv; simp only [Option.map_some, Option.some.injEq] at hv; subst hv; exact ⟨rfl, ofS_may ho, ofS_byt ho (putS_byt _ _ _), by rw [e, List.append_nil], rfl⟩
        · cases hv
  · cases h
theorem itmV_app (no : Int) (a b : List Tgs) : itmV no (a ++ b) = itmV no a ++ itmV no b := by unfold itmV; rw [List.filter_append, List.map_append]
theorem vals_items {z : List Int} (hb : Byt z) {o : Int} {sh : Shp} {no : Int} : ∀ (l : List Ent) (acc acc' : List Tgs × St), loopS (stepT z o sh no) l acc = .ok acc' →
    ∃ ts : List Tgs, acc'.1 = acc.1 ++ ts ∧ ts.map (·.1) = (l.filter fun x => !ownP sh x.1).map (·.1) ∧ (∀ x ∈ ts, okT x = true ∧ Byt x.2.2.2) ∧ acc'.2.spots.map itmOf = acc.2.spots.map itmOf ++ itmV no ts ∧ acc'.2.no = acc.2.no
  | [], acc, acc', h => by
    unfold loopS at h; injection h with h; subst h; exact ⟨[], by simp, rfl, fun x hx => (by cases hx), by simp [itmV], rfl⟩
  | x :: l, acc, acc', h => by
    rw [loopS_cons] at h
    cases hx : stepT z o sh no acc x with
    | error e => rw [hx] at h; cases h
    | ok a1 =>
      rw [hx] at h; obtain ⟨ts, e1, e2, e3, e4, e5⟩ := vals_items hb l a1 acc' h; unfold stepT at hx
      split at hx
      · rename_i ho
        split at hx
        · injection hx with hx
          subst hx; exact ⟨ts, e1, by rw [List.filter_cons_of_neg (by simp [ho])]; exact e2, e3, e4, e5⟩
        · cases hx
      · rename_i ho
        cases hv : valueS z o x no acc.2 with
        | error e => rw [hv] at hx; cases hx
        | ok q =>
          obtain ⟨v, s9⟩ := q; rw [hv] at hx; injection hx with hx; subst hx; obtain ⟨v1, v2, v3, v4, v5⟩ := valueS_item hb hv; refine ⟨v :: ts, by rw [e1]; simp, ?_, fun y hy => ?_, ?_, e5.trans v5⟩
          · rw [List.filter_cons_of_pos (by simpa using ho), List.map_cons, List.map_cons, e2, v1]
          · rcases List.mem_cons.1 hy with rfl | hy
            · exact ⟨v2, v3⟩
            · exact e3 y hy
          · rw [e4]
            show s9.spots.map itmOf ++ itmV no ts = _
            rw [v4, List.append_assoc, ← itmV_app]
            rfl
theorem keeps_more (n : Nat) (s0 : St) : Keeps n (fun s => s0.spots.length ≤ s.spots.length) := ⟨fun x s s' _ h hp => by
  obtain ⟨_, _, rfl⟩ := takeS_ok h; simp only [List.length_append]
  omega, fun s s' h hp => by rw [h]; exact hp⟩
theorem dirS_parts {z : List Int} {o : Int} {L : List Shp} {f : Nat} {p sh : Int} {s : St} {r : DirT (f + 1) × Int} {s' : St} (h : dirS z o L (f + 1) p sh s = .ok (r, s')) :
    ∃ l s1 tags s2 subs s3, entriesS z o p s.no { s with no := IntKind.i64.wrap (s.no + 1) } = .ok (l, s1) ∧ loopS (stepT z o (L.getD sh.toNat shp0) s.no) l ([], s1) = .ok (tags, s2) ∧
      (l.filter (fun x => !linkP (L.getD sh.toNat shp0) x.1 && pairP (L.getD sh.toNat shp0) x.1)).length ≠ 1 ∧ loopS (stepD (dirS z o L f) (L.getD sh.toNat shp0)) l ([], s2) = .ok (subs, s3) ∧
      ∃ blob, blobS z (L.getD sh.toNat shp0) l s.no s3 = .ok (blob, s') ∧ r = ((tags, subs, blob), getV z (p + 2 + 12 * l.length) 4 o) := by
  rw [dirS_succ] at h
  cases hE : entriesS z o p s.no { s with no := IntKind.i64.wrap (s.no + 1) } with
  | error e => rw [hE] at h; cases h
  | ok q =>
    obtain ⟨l, s1⟩ := q; rw [hE] at h; simp only at h
    cases hT : loopS (stepT z o (L.getD sh.toNat shp0) s.no) l ([], s1) with
    | error e => rw [hT] at h; cases h
    | ok q =>
      obtain ⟨tags, s2⟩ := q; rw [hT] at h; simp only at h
      split at h
      · cases h
      rename_i hone
      cases hD : loopS (stepD (dirS z o L f) (L.getD sh.toNat shp0)) l ([], s2) with
      | error e => rw [hD] at h; cases h
      | ok q =>
        obtain ⟨subs, s3⟩ := q; rw [hD] at h; simp only at h
        cases hB : blobS z (L.getD sh.toNat shp0) l s.no s3 with
        | error e => rw [hB] at h; cases h
        | ok q =>
          obtain ⟨blob, s4⟩ := q; rw [hB] at h; injection h with h; injection h with h1 h2; subst h2; exact ⟨l, s1, tags, s2, subs, s3, rfl, hT, hone, hD, blob, hB, h1.symm⟩
theorem itmD_more : ∀ (f : Nat) (d : DirT f) (no : Int), (flatS f d).length ≤ (itmD f d no).length
  | 0, _, _ => by simp [flatS]
  | f + 1, d, no => by
    have hS : ∀ (ss : List (Int × DirT f)) (no : Int), (flats f ss).length ≤ (itmSs (itmD f) ss no).length := by
      intro ss
      induction ss with
      | nil => intro no; simp [flats, itmSs]
      | cons s ss ih =>
        intro no; have h1 := itmD_more f s.2 no; have h2 := ih (no + (flatS f s.2).length); have e1 : (flats f (s :: ss)).length = (flatS f s.2).length + (flats f ss).length := by unfold flats; rw [List.flatMap_cons, List.length_append]
        have e2 : itmSs (itmD f) (s :: ss) no = itmD f s.2 no ++ itmSs (itmD f) ss (no + (flatS f s.2).length) := rfl; rw [e1, e2, List.length_append]
        omega
    have hfl : (flatS (f + 1) d).length = (flats f d.2.1).length + 1 := by rw [flatS_succ]; rfl
    have := hS d.2.1 (no + 1); rw [hfl, itmD_succ, List.length_cons, List.length_append, List.length_append]
    omega
/-- what is read of a directory -/
def DirG (z : List Int) (o : Int) (L : List Shp) (f : Nat) : Prop := ∀ (p sh : Int) (s : St) (r : DirT f × Int) (s' : St), dirS z o L f p sh s = .ok (r, s') → 0 ≤ s.no → s.no ≤ s.spots.length → s'.spots.length < 4611686018427387904 → 0 ≤ sh → sh < L.length →
  s'.spots.map itmOf = s.spots.map itmOf ++ itmD f r.1 s.no ∧ s'.no = s.no + (flatS f r.1).length ∧ hasS L f r.1 sh = true ∧ bytD f r.1 ∧ smallD f r.1
theorem subs_items {z : List Int} {o : Int} {L : List Shp} (hL : shapesB L = true) {f : Nat} (ih : DirG z o L f) {i : Int} (hi0 : 0 ≤ i) (hi1 : i < L.length) : ∀ (l : List Ent) (acc acc' : List (Int × DirT f) × St), loopS (stepD (dirS z o L f) (L.getD i.toNat shp0)) l acc = .ok acc' →
    0 ≤ acc.2.no → acc.2.no ≤ acc.2.spots.length → acc'.2.spots.length < 4611686018427387904 →
    ∃ us : List (Int × DirT f), acc'.1 = acc.1 ++ us ∧ us.map (·.1) = (l.filter fun x => linkP (L.getD i.toNat shp0) x.1).map (·.1) ∧ (∀ u ∈ us, hasS L f u.2 (subI (L.getD i.toNat shp0) u.1) = true ∧ bytD f u.2 ∧ smallD f u.2) ∧
      acc'.2.spots.map itmOf = acc.2.spots.map itmOf ++ itmSs (itmD f) us acc.2.no ∧ acc'.2.no = acc.2.no + (flats f us).length
  | [], acc, acc', h, _, _, _ => by
    unfold loopS at h; injection h with h; subst h; exact ⟨[], by simp, rfl, fun x hx => (by cases hx), by simp [itmSs], by simp [flats]⟩
  | x :: l, acc, acc', h, h0, h1, h2 => by
    rw [loopS_cons] at h
    cases hx : stepD (dirS z o L f) (L.getD i.toNat shp0) acc x with
    | error e => rw [hx] at h; cases h
    | ok a1 =>
      rw [hx] at h; simp only at h
      have step_more : ∀ (a : List (Int × DirT f) × St) (y : Ent) a', stepD (dirS z o L f) (L.getD i.toNat shp0) a y = .ok a' → a.2.spots.length ≤ a'.2.spots.length := fun a y a' h => by
        unfold stepD at h
        split at h
        · cases hr : dirS z o L f y.2.2.2 ((L.getD i.toNat shp0).1.getD (fst (fun w => w.1 == y.1) (L.getD i.toNat shp0).1).toNat (0, 0)).2 a.2 with
          | error e => rw [hr] at h; cases h
          | ok q =>
            obtain ⟨⟨d, nx⟩, s9⟩ := q; rw [hr] at h; simp only at h
            split at h
            · injection h with h
              subst h; exact dirS_keeps (keeps_more z.length a.2) hr (Nat.le_refl _)
            · cases h
        · injection h with h
          subst h; exact Nat.le_refl _
      have hm : a1.2.spots.length ≤ acc'.2.spots.length := loopS_keep (P := fun a : List (Int × DirT f) × St => a1.2.spots.length ≤ a.2.spots.length) (fun a y b h hp => Nat.le_trans hp (step_more a y b h)) h (Nat.le_refl _); unfold stepD at hx
      split at hx
      · rename_i hlk
        cases hr : dirS z o L f x.2.2.2 ((L.getD i.toNat shp0).1.getD (fst (fun w => w.1 == x.1) (L.getD i.toNat shp0).1).toNat (0, 0)).2 acc.2 with
        | error e => rw [hr] at hx; cases hx
        | ok q =>
          obtain ⟨⟨d, nx⟩, s9⟩ := q; rw [hr] at hx; simp only at hx
          split at hx
          · injection hx with hx
            subst hx; have hsi := subI_ok hL (i := i.toNat) (by omega) hlk; obtain ⟨g1, g2, g3, g4, g5⟩ := ih _ _ _ _ _ hr h0 h1 (by show s9.spots.length < _; exact Nat.lt_of_le_of_lt hm h2) (by have := hsi.1; unfold subI at this; omega) (by have := hsi.2; unfold subI at this; omega); have hg1 := congrArg List.length g1; rw [List.length_map, List.length_append, List.length_map] at hg1; have hmd := itmD_more f d acc.2.no; simp only at g2 hg1; obtain ⟨us, e1, e2, e3, e4, e5⟩ := subs_items hL ih hi0 hi1 l _ acc' h (by show 0 ≤ s9.no; omega) (by show s9.no ≤ (s9.spots.length : Int); omega) h2; refine ⟨(x.1, d) :: us, by rw [e1]; simp, ?_, fun u hu => ?_, ?_, ?_⟩
            · rw [List.filter_cons_of_pos (p := fun y : Ent => linkP (L.getD i.toNat shp0) y.1) hlk, List.map_cons, List.map_cons, e2]
            · rcases List.mem_cons.1 hu with rfl | hu
              · exact ⟨g3, g4, g5⟩
              · exact e3 u hu
            · rw [e4]
              show s9.spots.map itmOf ++ itmSs (itmD f) us s9.no = _
              rw [g1, List.append_assoc, g2]
              rfl
            · have e6 : (flats f ((x.1, d) :: us)).length = (flatS f d).length + (flats f us).length := by unfold flats; rw [List.flatMap_cons, List.length_append]
              rw [e5, e6]
              show s9.no + _ = _
              omega
          · cases hx
      · rename_i hlk
        injection hx with hx; subst hx; obtain ⟨us, e1, e2, e3, e4, e5⟩ := subs_items hL ih hi0 hi1 l _ acc' h h0 h1 h2; exact ⟨us, e1, by rw [List.filter_cons_of_neg (p := fun y : Ent => linkP (L.getD i.toNat shp0) y.1) hlk]; exact e2, e3, e4, e5⟩
/-- of distinct entries at most two are a pair -/
theorem pair_two {s : Shp} : ∀ (l : List Ent), (l.Pairwise fun x y => x.1 < y.1) → (l.filter fun x => !linkP s x.1 && pairP s x.1).length ≤ 2 := by
  intro l hl; have hf : (l.filter fun x => !linkP s x.1 && pairP s x.1).Pairwise fun x y => x.1 < y.1 := hl.filter _
  have hm : ∀ x ∈ l.filter (fun x => !linkP s x.1 && pairP s x.1), x.1 = s.2.1 ∨ x.1 = s.2.2.1 := fun x hx => by
    have := (List.mem_filter.1 hx).2; simp only [Bool.and_eq_true] at this; have h2 := this.2; unfold pairP at h2; simp only [Bool.and_eq_true, Bool.or_eq_true, decide_eq_true_eq] at h2; exact h2.2
  generalize l.filter (fun x => !linkP s x.1 && pairP s x.1) = q at *
  match q, hf, hm with
  | [], _, _ => simp
  | [_], _, _ => simp
  | [_, _], _, _ => simp
  | a :: b :: c :: r, hf, hm =>
    obtain ⟨h1, h2⟩ := List.pairwise_cons.1 hf; obtain ⟨h3, _⟩ := List.pairwise_cons.1 h2; have ab := h1 b (by simp); have ac := h1 c (by simp); have bc := h3 c (by simp); have ha := hm a (by simp); have hb := hm b (by simp); have hc := hm c (by simp)
    omega
end Go.Proofs.YtilennmeiaehnaaGreat
