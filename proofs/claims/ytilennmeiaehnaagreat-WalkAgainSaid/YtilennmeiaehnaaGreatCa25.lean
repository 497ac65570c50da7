/- Chapter 22: bytes in which a directory stands are read as it. Plain. | Chapter 22: bytes in which a directory stands are read as it, with all within it. Plain. -/
import Derived.Test.YtilennmeiaehnaaGreatCa24
namespace Go.Proofs.YtilennmeiaehnaaGreat
open Go.RowKit Tt
set_option linter.unusedVariables false
set_option linter.unusedSimpArgs false

/-- patches stand in bytes -/
def Std (z : List Int) (ps : List Pt) : Prop := ∀ p ∈ ps, p.1 + p.2.length ≤ z.length ∧ (z.drop p.1).take p.2.length = p.2
/-- a directory, and all within it, stands in bytes; behind its entries stands nx -/
def BackD (z : List Int) (L : List Shp) (l : List Spt) (o : Int) : (f : Nat) → DirT f → Int → Int → Int → Prop
  | 0, _, _, _, _ => False
  | f + 1, d, no, i, nx => Std z (putP f l o no (L.getD i.toNat shp0) d) ∧ getV z (atS l 2 no 0 + 2 + 12 * ((entN d.1.length d.2.1.length d.2.2.length : Nat) : Int)) 4 o = nx ∧
      ∀ j, j < d.2.1.length → BackD z L l o f (d.2.1.getD j (0, dirZ f)).2 (subN f d.2.1 no j) (subI (L.getD i.toNat shp0) (d.2.1.getD j (0, dirZ f)).1) 0
/-- all spots end ahead of the end -/
def Lo (l : List Spt) : Prop := 0 ≤ endS l ∧ ∀ s ∈ l, s.2.2.2.1 + s.2.2.2.2 ≤ endS l
theorem Lo.add {l : List Spt} (h : Lo l) {a b c e : Int} (he : 0 ≤ e) : Lo (addS l a b c e) := by
  obtain ⟨h1, h2⟩ := h; have hv := evenS_le h1; refine ⟨by rw [endS_add]; omega, fun s hs => ?_⟩; rw [endS_add]; unfold addS at hs
  rcases List.mem_append.1 hs with hs | hs
  · have := h2 s hs; omega
  · obtain rfl : s = _ := by simpa using hs
    exact Int.le_refl _
theorem Lo.push : ∀ (is : List Itm) {l : List Spt}, Lo l → (∀ x ∈ is, 0 ≤ x.2.2.2) → Lo (is.foldl pushI l)
  | [], _, h, _ => h
  | x :: is, l, h, hx => Lo.push is (Lo.add h (hx x (List.mem_cons_self ..))) fun y hy => hx y (List.mem_cons_of_mem _ hy)
theorem itmD_nn {f : Nat} {d : DirT f} {no : Int} : ∀ x ∈ itmD f d no, 0 ≤ x.2.2.2 := fun x hx => (itmD_no f d no x hx).2.2.1
theorem Lo.lay {l : List Spt} (h : Lo l) (f : Nat) (d : DirT f) (no : Int) : Lo (layS f d no l) := by
  rw [lay_push]; exact Lo.push _ h itmD_nn
theorem Lo.vals {l : List Spt} (h : Lo l) (ts : List Tgs) (no : Int) : Lo (valsS no ts l) := by
  rw [vals_push]; refine Lo.push _ h fun x hx => ?_; obtain ⟨t, _, rfl⟩ := List.mem_map.1 hx; exact outV_nn t
theorem push_pre (is : List Itm) (l : List Spt) : l <+: is.foldl pushI l := by
  rw [(push_all is l).1]; exact List.prefix_append ..
theorem lay_pre (f : Nat) (d : DirT f) (no : Int) (l : List Spt) : l <+: layS f d no l := by rw [lay_push]; exact push_pre _ _
theorem vals_pre (no : Int) (ts : List Tgs) (l : List Spt) : l <+: valsS no ts l := by rw [vals_push]; exact push_pre _ _
theorem add_pre (l : List Spt) (a b c e : Int) : l <+: addS l a b c e := List.prefix_append ..
theorem subs_pre (f : Nat) : ∀ (ss : List (Int × DirT f)) (r : List Spt × Int), r.1 <+: (laySubs f ss r).1
  | [], _ => List.prefix_refl _
  | s :: ss, r => by
    rw [laySubs_cons]; exact (lay_pre f s.2 r.2 r.1).trans (subs_pre f ss (layS f s.2 r.2 r.1, r.2 + (flatS f s.2).length))
theorem laySubs_two (f : Nat) (ss : List (Int × DirT f)) (r : List Spt × Int) (i : Nat) : laySubs f ss r = laySubs f (ss.drop i) (laySubs f (ss.take i) r) := by
  conv => lhs; rw [← List.take_append_drop i ss]
  unfold laySubs; rw [List.foldl_append]
theorem subs_take_pre (f : Nat) (ss : List (Int × DirT f)) (r : List Spt × Int) (i : Nat) : (laySubs f (ss.take i) r).1 <+: (laySubs f ss r).1 := by
  rw [laySubs_two f ss r i]; exact subs_pre f _ _
theorem subs_lo (f : Nat) : ∀ (ss : List (Int × DirT f)) (r : List Spt × Int), Lo r.1 → Lo (laySubs f ss r).1
  | [], _, h => h
  | s :: ss, r, h => by
    rw [laySubs_cons]; exact subs_lo f ss _ (h.lay f s.2 r.2)
theorem subs_no (f : Nat) : ∀ (ss : List (Int × DirT f)) (r : List Spt × Int), (laySubs f ss r).2 = r.2 + (flats f ss).length
  | [], r => by simp [laySubs, flats]
  | s :: ss, r => by
    rw [laySubs_cons, subs_no f ss]; unfold flats; rw [List.flatMap_cons, List.length_append]
    show r.2 + (flatS f s.2).length + _ = _
    omega
/-- what is laid next has its place -/
theorem take_lay {n : Nat} {l0 : List Spt} {no so a b c e : Int} (hl : Lo l0) (h0 : 0 ≤ e) (he : evenS (endS l0) + e ≤ n) : takeS n (a, b, c, evenS (endS l0), e) ⟨l0, no, so⟩ = .ok ⟨addS l0 a b c e, no, so⟩ := by
  have hv := evenS_le hl.1; have h2 : evenS (endS l0) % 2 = 0 := by unfold evenS; omega
  unfold takeS
  have hf : fitB n (a, b, c, evenS (endS l0), e) = true := by
    unfold fitB roomB; have := hl.1; simp only [Bool.and_eq_true, decide_eq_true_eq]; exact ⟨h2, ⟨⟨by omega, h0⟩, by omega⟩, by omega⟩
  have hfr : freeB ⟨l0, no, so⟩ (evenS (endS l0)) e.toNat = true := by
    unfold freeB; rw [List.all_eq_true]; intro i hi; unfold takenB; simp only [Bool.not_eq_true']; rw [List.any_eq_false]; intro s hs; have := hl.2 s hs; unfold inSpot; simp only [Bool.and_eq_true, decide_eq_true_eq, not_and]; intro _
    omega
  rw [if_pos hf, if_pos hfr]
  rfl
theorem loopS_cons {α σ : Type} (step : σ → α → Except Int σ) (x : α) (r : List α) (s : σ) : loopS step (x :: r) s = match step s x with
    | .error e => .error e
    | .ok s' => loopS step r s' := rfl
section
variable {l : List Spt} {z : List Int} {o : Int} (hk : (l.map keyS).Nodup) (hz : ∀ s ∈ l, s.2.2.2.1 + s.2.2.2.2 ≤ z.length)
include hk
theorem add_at {l0 : List Spt} {a b c e : Int} (hp : addS l0 a b c e <+: l) : (a, b, c, evenS (endS l0), e) ∈ l ∧ atS l a b c = evenS (endS l0) := by
  have hm : (a, b, c, evenS (endS l0), e) ∈ l := hp.subset (by unfold addS; exact List.mem_append.2 (.inr (List.mem_singleton.2 rfl))); exact ⟨hm, (atS_key hk hm).2⟩
include hz
theorem take_at {l0 : List Spt} {no so a b c e : Int} (hl : Lo l0) (h0 : 0 ≤ e) (hp : addS l0 a b c e <+: l) : takeS z.length (a, b, c, atS l a b c, e) ⟨l0, no, so⟩ = .ok ⟨addS l0 a b c e, no, so⟩ := by
  obtain ⟨h1, h2⟩ := add_at hk hp; rw [h2]; exact take_lay hl h0 (by have := hz _ h1; exact this)
/-- one more value -/
def stepV (z : List Int) (o no : Int) (acc : List Tgs × St) (x : Ent) : Except Int (List Tgs × St) := match valueS z o x no acc.2 with
  | .error e => .error e
  | .ok (v, s') => .ok (acc.1 ++ [v], s')
theorem value_back (ho : o = 1 ∨ o = 2) {x : Tgs} {no n2 : Int} {l0 : List Spt} (hx : tagB x.1 = true ∧ okT x = true) (hb : Byt x.2.2.2) (hS : Std z (patV l o no x)) (hl : Lo l0) (hp : valsS no [x] l0 <+: l) :
    valueS z o (entT l o no x) no ⟨l0, n2, 0⟩ = .ok (x, ⟨valsS no [x] l0, n2, 0⟩) := by
  have hm := mayF hx.2 ho; have hi := inlV_iff hx.2 ho hx.1; have e1 : (0 < (kindS x.2.1).1 ∧ 1 ≤ x.2.2.1 ∧ x.2.2.1 ≤ 65536) := ⟨by have := hm.s1; omega, hm.k1, hm.k2⟩; unfold valueS; have hent : entT l o no x = (x.1, x.2.1, x.2.2.1, if inlV x o = true then getV (padB (bytesV x o)) 0 4 o else atS l 3 no x.1) := rfl; rw [hent]; simp only; rw [if_pos e1]
  by_cases h0 : outS x.2.1 x.2.2.1 = 0
  · rw [h0, decide_eq_true rfl] at hi
    have hv : valsS no [x] l0 = l0 := by unfold valsS; simp [h0]
    rw [h0, if_neg (by decide), hi, if_pos rfl, inS_back hb hx.2 ho hi, hv]
    rfl
  · have hl2 := outS_len hx.2 ho h0
    rw [decide_eq_false h0] at hi; have hpos : 0 < outS x.2.1 x.2.2.1 := by omega
    have hv : valsS no [x] l0 = addS l0 3 no x.1 (outS x.2.1 x.2.2.1) := by unfold valsS; simp [hpos]
    rw [hv] at hp ⊢; rw [if_pos hpos, hi, if_neg (by decide), take_at hk hz hl (by omega) hp]; have hst := hS ((atS l 3 no x.1).toNat, bytesV x o) (by unfold patV; rw [hi]; simp); simp only; rw [ofS_back hx.2 ho hst.2]
theorem vals_back (ho : o = 1 ∨ o = 2) {no n2 : Int} : ∀ (ts : List Tgs) (acc : List Tgs) (l0 : List Spt), (∀ x ∈ ts, tagB x.1 = true ∧ okT x = true) → (∀ x ∈ ts, Byt x.2.2.2) → Std z (ts.flatMap (patV l o no)) → Lo l0 → valsS no ts l0 <+: l →
    loopS (stepV z o no) (ts.map (entT l o no)) (acc, ⟨l0, n2, 0⟩) = .ok (acc ++ ts, ⟨valsS no ts l0, n2, 0⟩)
  | [], acc, l0, _, _, _, _, _ => by simp [loopS, valsS]
  | x :: ts, acc, l0, h1, h2, h3, h4, h5 => by
    have hv : valsS no (x :: ts) l0 = valsS no ts (valsS no [x] l0) := rfl; rw [hv] at h5 ⊢; have hx := value_back hk hz ho (n2 := n2) (h1 x (List.mem_cons_self ..)) (h2 x (List.mem_cons_self ..)) (fun p hp => h3 p (by rw [List.flatMap_cons]; exact List.mem_append.2 (.inl hp))) h4 ((vals_pre no ts _).trans h5); rw [List.map_cons, loopS_cons]
    have hs : stepV z o no (acc, ⟨l0, n2, 0⟩) (entT l o no x) = .ok (acc ++ [x], ⟨valsS no [x] l0, n2, 0⟩) := by
      unfold stepV; simp only; rw [hx]
    rw [hs]; simp only; rw [vals_back ho ts (acc ++ [x]) _ (fun y hy => h1 y (List.mem_cons_of_mem _ hy)) (fun y hy => h2 y (List.mem_cons_of_mem _ hy)) (fun p hp => h3 p (by rw [List.flatMap_cons]; exact List.mem_append.2 (.inr hp))) (h4.vals [x] no) h5, List.append_assoc]
    rfl
end
/-- entries that change nothing are passed over -/
theorem loop_filter {α σ : Type} {step step' : σ → α → Except Int σ} {p : α → Bool} (h1 : ∀ s x, p x = true → step s x = step' s x) : ∀ (l : List α) (s : σ), (∀ x ∈ l, p x = false → ∀ s, step s x = .ok s) → loopS step l s = loopS step' (l.filter p) s
  | [], _, _ => rfl
  | x :: l, s, h2 => by
    have ih := fun s => loop_filter h1 l s fun y hy => h2 y (List.mem_cons_of_mem _ hy); rw [loopS_cons]
    cases hp : p x with
    | true =>
      rw [List.filter_cons_of_pos hp, h1 s x hp, loopS_cons]
      cases step' s x with
      | error e => rfl
      | ok s' => exact ih s'
    | false =>
      rw [List.filter_cons_of_neg (by simp [hp]), h2 x (List.mem_cons_self ..) hp s]; exact ih s
theorem loop_app {α σ : Type} {step : σ → α → Except Int σ} : ∀ (a b : List α) (s s' : σ), loopS step a s = .ok s' → loopS step (a ++ b) s = loopS step b s'
  | [], b, s, s', h => by
    unfold loopS at h; injection h with h; rw [h]; rfl
  | x :: a, b, s, s', h => by
    rw [List.cons_append]; rw [loopS_cons] at h ⊢
    cases hx : step s x with
    | error e => rw [hx] at h; cases h
    | ok s1 =>
      rw [hx] at h; exact loop_app a b s1 s' h
theorem sort_filter {es ys : List Ent} {p : Ent → Bool} (hd : es.Pairwise fun x y => x.1 ≠ y.1) (hp : es.filter p = ys) (hs : ys.Pairwise fun x y => x.1 < y.1) : (sortE es).filter p = ys := by
  have h1 : ((sortE es).filter p).Perm ys := by rw [← hp]; exact (sortE_perm es).filter p
  refine List.Perm.eq_of_pairwise (le := fun x y => x.1 < y.1) (fun a b _ _ h1 h2 => by omega) ((sortE_lt hd).filter _) hs h1
theorem dt_take {z : List Int} {p n a m : Nat} (h : (z.drop p).take n = (z.drop p).take n) (hm : a + m ≤ n) : (z.drop (p + a)).take m = (((z.drop p).take n).drop a).take m := by
  rw [List.drop_take, List.take_take, List.drop_drop, Nat.min_eq_left (by omega)]
/-- an entry that stands there is read -/
theorem entAt_back {z : List Int} {p : Nat} {x : Ent} {o : Int} (ho : o = 1 ∨ o = 2) (hk : entOk x o = true) (hl : p + 12 ≤ z.length) (h : (z.drop p).take 12 = entW x o) : entAt z o p = x := by
  unfold entOk at hk; simp only [Bool.and_eq_true] at hk; obtain ⟨⟨⟨k0, k1⟩, k2⟩, k3⟩ := hk; have l0 : (putS x.1 2 o).length = 2 := putS_len2 k0; have l1 : (putS x.2.1 2 o).length = 2 := putS_len2 k1; have l2 : (putS x.2.2.1 4 o).length = 4 := putS_len2 k2; have l3 : (putS x.2.2.2 4 o).length = 4 := putS_len2 k3
  have e0 : (z.drop (p + 0)).take 2 = putS x.1 2 o := by
    rw [dt_take (n := 12) rfl (by omega), h]; unfold entW; rw [List.drop_zero, List.append_assoc, List.append_assoc, List.take_left' l0]
  have e1 : (z.drop (p + 2)).take 2 = putS x.2.1 2 o := by
    rw [dt_take (n := 12) rfl (by omega), h]; unfold entW; rw [List.append_assoc, List.append_assoc, List.drop_left' l0, List.take_left' l1]
  have e2 : (z.drop (p + 4)).take 4 = putS x.2.2.1 4 o := by
    rw [dt_take (n := 12) rfl (by omega), h]; unfold entW; rw [List.append_assoc, List.drop_left' (by rw [List.length_append, l0, l1]), List.take_left' l2]
  have e3 : (z.drop (p + 8)).take 4 = putS x.2.2.2 4 o := by
    rw [dt_take (n := 12) rfl (by omega), h]; unfold entW; rw [List.drop_left' (by rw [List.length_append, List.length_append, l0, l1, l2]), List.take_of_length_le (by rw [l3]; exact Nat.le_refl _)]
  unfold entAt; rw [getV_put (s := 2) (n := x.1) (by decide) ho (by omega) (by omega) k0 (by rw [show ((p : Int)).toNat = p + 0 by omega]; exact e0)]; rw [getV_put (s := 2) (n := x.2.1) (by decide) ho (by omega) (by omega) k1 (by rw [show ((p : Int) + 2).toNat = p + 2 by omega]; exact e1)]; rw [getV_put (s := 4) (n := x.2.2.1) (by decide) ho (by omega) (by omega) k2 (by rw [show ((p : Int) + 4).toNat = p + 4 by omega]; exact e2)]; rw [getV_put (s := 4) (n := x.2.2.2) (by decide) ho (by omega) (by omega) k3 (by rw [show ((p : Int) + 8).toNat = p + 8 by omega]; exact e3)]
theorem rises_of : ∀ {es : List Ent}, (es.Pairwise fun x y => x.1 < y.1) → risesE es = true
  | [], _ => rfl
  | [_], _ => rfl
  | x :: y :: r, h => by
    obtain ⟨h1, h2⟩ := List.pairwise_cons.1 h; unfold risesE; rw [rises_of h2, decide_eq_true (h1 y (List.mem_cons_self ..))]
    rfl
/-- the entries of a directory are read -/
theorem ents_back {z : List Int} {l : List Spt} {o no : Int} (ho : o = 1 ∨ o = 2) {es : List Ent} (h0 : 0 ≤ atS l 2 no 0) (hd : es.Pairwise fun x y => x.1 ≠ y.1) (hk : ∀ x ∈ es, entOk x o = true) (hS : Std z (headQ l o no es)) : entsS z o (atS l 2 no 0) es.length = sortE es := by
  unfold entsS; refine List.ext_getElem (by simp [sortE_len]) fun i h1 h2 => ?_; rw [List.getElem_map, List.getElem_range]; have hm : (sortE es)[i] ∈ es := (sortE_perm es).subset (List.getElem_mem h2)
  have ha : aheadE es (sortE es)[i] = i := by
    unfold aheadE; rw [← ((sortE_perm es).filter _).length_eq]; exact ahead_sorted (sortE_lt hd) h2
  have hs := hS (rowE (atS l 2 no 0).toNat o es (sortE es)[i]) (by unfold headQ; exact List.mem_cons_of_mem _ (List.mem_map.2 ⟨_, hm, rfl⟩)); unfold rowE at hs; rw [ha, entW_len (hk _ hm)] at hs; simp only at hs; have := entAt_back ho (hk _ hm) hs.1 hs.2; rw [← this]
  congr 1
  omega
/-- one more directory within -/
def stepS {f : Nat} (rec : Int → Int → St → Except Int ((DirT f × Int) × St)) (sh : Shp) (acc : List (Int × DirT f) × St) (x : Ent) : Except Int (List (Int × DirT f) × St) :=
  match rec x.2.2.2 (subI sh x.1) acc.2 with
    | .error e => .error e
    | .ok ((d, next), s') => if next = 0 then .ok (acc.1 ++ [(x.1, d)], s') else .error 2
theorem stepD_filter {f : Nat} {rec : Int → Int → St → Except Int ((DirT f × Int) × St)} {sh : Shp} (es : List Ent) (acc : List (Int × DirT f) × St) : loopS (stepD rec sh) es acc = loopS (stepS rec sh) (es.filter fun x => linkP sh x.1) acc :=
  loop_filter (fun s x h => by
    unfold stepD stepS subI; rw [if_pos h]
    cases rec x.2.2.2 (sh.1.getD (fst (fun y => y.1 == x.1) sh.1).toNat (0, 0)).2 s.2 <;> rfl) es acc fun x _ h s => by
    have h : linkP sh x.1 = false := h
    simp [stepD, h]
theorem stepT_filter {z : List Int} {o no : Int} {sh : Shp} (es : List Ent) (acc : List Tgs × St) (hx : ∀ x ∈ es, ownP sh x.1 = true → x.2.1 = 4 ∧ x.2.2.1 = 1) : loopS (stepT z o sh no) es acc = loopS (stepV z o no) (es.filter fun x => !ownP sh x.1) acc :=
  loop_filter (fun s x h => by
    have h : ownP sh x.1 = false := by simpa using h
    unfold stepT stepV; rw [if_neg (by simp [h])]
    cases valueS z o x no s.2 <;> rfl) es acc fun x hm h s => by
    have h : ownP sh x.1 = true := by simpa using h
    unfold stepT; rw [if_pos h, if_pos (hx x hm h)]
end Go.Proofs.YtilennmeiaehnaaGreat

namespace Go.Proofs.YtilennmeiaehnaaGreat
open Go.RowKit Tt
set_option linter.unusedVariables false
set_option linter.unusedSimpArgs false

theorem dirS_succ (z : List Int) (o : Int) (L : List Shp) (f : Nat) (p sh : Int) (s : St) : dirS z o L (f + 1) p sh s =
    match entriesS z o p s.no { s with no := IntKind.i64.wrap (s.no + 1) } with
    | .error e => .error e
    | .ok (l, s1) =>
      match loopS (stepT z o (L.getD sh.toNat shp0) s.no) l ([], s1) with
      | .error e => .error e
      | .ok (tags, s2) =>
        if (l.filter (fun x => !linkP (L.getD sh.toNat shp0) x.1 && pairP (L.getD sh.toNat shp0) x.1)).length = 1 then .error 6 else
        match loopS (stepD (dirS z o L f) (L.getD sh.toNat shp0)) l ([], s2) with
        | .error e => .error e
        | .ok (subs, s3) =>
          match blobS z (L.getD sh.toNat shp0) l s.no s3 with
          | .error e => .error e
          | .ok (blob, s4) => .ok (((tags, subs, blob), getV z (p + 2 + 12 * l.length) 4 o), s4) := rfl
theorem wrap_in {n : Int} (h0 : 0 ≤ n) (h1 : n < 9223372036854775807) : IntKind.i64.wrap n = n := by rw [IntKind.wrap_i64]; omega
/-- the entries of a directory, by what they are -/
theorem ents_kinds {L : List Shp} {l : List Spt} {o no : Int} {f : Nat} {d : DirT (f + 1)} {i : Int} (hf : HasF L f d i) {n : Nat} (hs : shapeB n i.toNat (L.getD i.toNat shp0) = true) :
    ((entsD f l o no (L.getD i.toNat shp0) d).filter (fun x => !ownP (L.getD i.toNat shp0) x.1) = d.1.map (entT l o no)) ∧
    ((entsD f l o no (L.getD i.toNat shp0) d).filter (fun x => linkP (L.getD i.toNat shp0) x.1) = subE f l d.2.1 no d.2.1.length) ∧
    ((entsD f l o no (L.getD i.toNat shp0) d).filter (fun x => !linkP (L.getD i.toNat shp0) x.1 && pairP (L.getD i.toNat shp0) x.1) = blobE l (L.getD i.toNat shp0) d.2.2 no) ∧
    (∀ x ∈ entsD f l o no (L.getD i.toNat shp0) d, ownP (L.getD i.toNat shp0) x.1 = true → x.2.1 = 4 ∧ x.2.2.1 = 1) := by
  generalize hsh : L.getD i.toNat shp0 = sh at *
  have hA : ∀ x ∈ d.1.map (entT l o no), ownP sh x.1 = false ∧ linkP sh x.1 = false ∧ pairP sh x.1 = false := fun x hx => by
    obtain ⟨t, ht, rfl⟩ := List.mem_map.1 hx; have h := (hf.tg t ht).2.1; rw [hsh] at h; have h2 := h; unfold ownP at h2; simp only [Bool.or_eq_false_iff] at h2; exact ⟨h, h2.1, h2.2⟩
  have hB : ∀ x ∈ subE f l d.2.1 no d.2.1.length, linkP sh x.1 = true ∧ ownP sh x.1 = true ∧ x.2.1 = 4 ∧ x.2.2.1 = 1 := fun x hx => by
    unfold subE at hx; obtain ⟨j, hj, rfl⟩ := List.mem_map.1 hx; have h := (hf.sb j (List.mem_range.1 hj)).1; rw [hsh] at h; have h2 : linkP sh (subX f l d.2.1 no j).1 = true := h; exact ⟨h2, by unfold ownP; rw [h2]; rfl, rfl, rfl⟩
  have hC : ∀ x ∈ blobE l sh d.2.2 no, linkP sh x.1 = false ∧ pairP sh x.1 = true ∧ ownP sh x.1 = true ∧ x.2.1 = 4 ∧ x.2.2.1 = 1 := fun x hx => by
    unfold blobE at hx
    split at hx
    · rename_i hb
      have hp := pair_in hs (by have := hf.bl; rw [hsh] at this; rcases this with h | h; omega; exact h)
      have hlk : ∀ t, pairP sh t = true → linkP sh t = false := fun t ht => by
        cases hh : linkP sh t with
        | false => rfl
        | true => have := (link_pair hs hh).1; rw [ht] at this; cases this
      simp only [List.mem_cons, List.not_mem_nil, or_false] at hx
      rcases hx with rfl | rfl
      · exact ⟨hlk _ hp.1, hp.1, by unfold ownP; rw [hp.1]; simp, rfl, rfl⟩
      · exact ⟨hlk _ hp.2.1, hp.2.1, by unfold ownP; rw [hp.2.1]; simp, rfl, rfl⟩
    · cases hx
  have all_in : ∀ {p : Ent → Bool} {ys : List Ent}, (∀ x ∈ ys, p x = true) → ys.filter p = ys := fun h => List.filter_eq_self.2 h; have all_out : ∀ {p : Ent → Bool} {ys : List Ent}, (∀ x ∈ ys, p x = false) → ys.filter p = [] := fun h => List.filter_eq_nil_iff.2 fun x hx => by rw [h x hx]; decide
  unfold entsD; refine ⟨?_, ?_, ?_, ?_⟩
  · rw [List.filter_append, List.filter_append, all_in (fun x hx => by rw [(hA x hx).1]; rfl), all_out (fun x hx => by rw [(hB x hx).2.1]; rfl), all_out (fun x hx => by rw [(hC x hx).2.2.1]; rfl), List.append_nil, List.append_nil]
  · rw [List.filter_append, List.filter_append, all_out (fun x hx => (hA x hx).2.1), all_in (fun x hx => (hB x hx).1), all_out (fun x hx => (hC x hx).1), List.append_nil, List.nil_append]
  · rw [List.filter_append, List.filter_append, all_out (fun x hx => by rw [(hA x hx).2.2, Bool.and_false]), all_out (fun x hx => by rw [(hB x hx).1]; rfl), all_in (fun x hx => by rw [(hC x hx).1, (hC x hx).2.1]; rfl)]
    rfl
  · intro x hx ho
    rcases List.mem_append.1 hx with hx | hx
    · rcases List.mem_append.1 hx with hx | hx
      · rw [(hA x hx).1] at ho; cases ho
      · exact (hB x hx).2.2
    · exact (hC x hx).2.2.2
theorem ents_sorted {L : List Shp} {l : List Spt} {o no : Int} {f : Nat} {d : DirT (f + 1)} {i : Int} (hf : HasF L f d i) {n : Nat} (hs : shapeB n i.toNat (L.getD i.toNat shp0) = true) :
    ((d.1.map (entT l o no)).Pairwise fun x y => x.1 < y.1) ∧ ((subE f l d.2.1 no d.2.1.length).Pairwise fun x y => x.1 < y.1) ∧ ((blobE l (L.getD i.toNat shp0) d.2.2 no).Pairwise fun x y => x.1 < y.1) := by
  refine ⟨?_, ?_, ?_⟩
  · rw [List.pairwise_map]; exact hf.rt
  · have h : ((subE f l d.2.1 no d.2.1.length).map (·.1)).Pairwise (· < ·) := by
      rw [subE_fst, List.pairwise_map]; exact hf.rs
    rw [List.pairwise_map] at h; exact h
  · unfold blobE
    split
    · rename_i hb
      have hp := pair_in hs (by rcases hf.bl with h | h; omega; exact h); refine List.Pairwise.cons (fun x hx => ?_) (List.Pairwise.cons (fun x hx => by cases hx) List.Pairwise.nil); obtain rfl : x = _ := by simpa using hx
      exact hp.2.2.2.1
    · exact List.Pairwise.nil
section
variable {l : List Spt} {z : List Int} {o : Int} (hk : (l.map keyS).Nodup) (hz : ∀ s ∈ l, s.2.2.2.1 + s.2.2.2.2 ≤ z.length) (ho : o = 1 ∨ o = 2)
include hk hz ho
omit hk hz ho in
/-- the directories within are read -/
theorem subs_back {L : List Shp} {f : Nat} {sh : Shp} {ss : List (Int × DirT f)} {no : Int} {l1 : List Spt} (hl : Lo l1) (h0 : 0 ≤ no)
    (hrec : ∀ j, j < ss.length → ∀ l0, Lo l0 → layS f (ss.getD j (0, dirZ f)).2 (subN f ss no j) l0 <+: l → dirS z o L f (atS l 2 (subN f ss no j) 0) (subI sh (ss.getD j (0, dirZ f)).1) ⟨l0, subN f ss no j, 0⟩ = .ok (((ss.getD j (0, dirZ f)).2, 0), ⟨layS f (ss.getD j (0, dirZ f)).2 (subN f ss no j) l0, subN f ss no (j + 1), 0⟩))
    (hp : (laySubs f ss (l1, no + 1)).1 <+: l) : ∀ j, j ≤ ss.length → loopS (stepS (dirS z o L f) sh) (subE f l ss no j) ([], ⟨l1, no + 1, 0⟩) = .ok (ss.take j, ⟨(laySubs f (ss.take j) (l1, no + 1)).1, subN f ss no j, 0⟩) := by
  intro j
  induction j with
  | zero => intro _; simp [subE, loopS, laySubs, subN, flats]
  | succ j ih =>
    intro hj; have hj : j < ss.length := by omega
    have hi := ih (by omega); rw [subE_step, loop_app _ _ _ _ hi, loopS_cons]; have hst := laySubs_step f ss (l1, no + 1) hj; have hn : (laySubs f (ss.take j) (l1, no + 1)).2 = subN f ss no j := by rw [subs_no]; unfold subN; rfl
    rw [hn] at hst; have hg : ss.getD j (0, dirZ f) = ss[j] := getD_el hj _
    have hr := hrec j hj _ (subs_lo f (ss.take j) (l1, no + 1) hl) (by
      have h1 : (laySubs f (ss.take (j + 1)) (l1, no + 1)).1 <+: l := (subs_take_pre f ss (l1, no + 1) (j + 1)).trans hp; rw [hst] at h1; rw [hg]; exact h1)
    have hs : stepS (dirS z o L f) sh (ss.take j, ⟨(laySubs f (ss.take j) (l1, no + 1)).1, subN f ss no j, 0⟩) (subX f l ss no j) = .ok (ss.take (j + 1), ⟨(laySubs f (ss.take (j + 1)) (l1, no + 1)).1, subN f ss no (j + 1), 0⟩) := by
      unfold stepS subX; simp only; rw [hr]; simp only; rw [if_pos trivial, hst, List.take_add_one, List.getElem?_eq_getElem hj, Option.toList_some, hg]
    rw [hs]
    rfl
theorem dirS_back {L : List Shp} (hL : shapesB L = true) {N : Nat} : ∀ (f : Nat) (d : DirT f) (no i nx : Int) (l0 : List Spt), 0 ≤ i → i < L.length → hasS L f d i = true → bytD f d → okW L l N o f d no i → BackD z L l o f d no i nx → Lo l0 → layS f d no l0 <+: l → 0 ≤ no → no + (flatS f d).length < 9223372036854775807 →
    dirS z o L f (atS l 2 no 0) i ⟨l0, no, 0⟩ = .ok ((d, nx), ⟨layS f d no l0, no + (flatS f d).length, 0⟩)
  | 0, _, _, _, _, _, _, _, hh, _, _, _, _, _, _, _ => absurd hh (by simp [hasS])
  | f + 1, d, no, i, nx, l0, hi0, hi1, hh, hby, hw, hbk, hl, hp, hn0, hn1 => by
    have hf := hasF_iff.1 hh; have hs := shapesB_get hL (i := i.toNat) (by omega); obtain ⟨k1, k2, k3, k4, k5, k6, k7, k8, k9⟩ := okW_succ hw; obtain ⟨hS, hnx, hsub⟩ := hbk; have hel := entsD_len f l o no (L.getD i.toNat shp0) d; have hfl : (flatS (f + 1) d).length = (flats f d.2.1).length + 1 := by rw [flatS_succ]; rfl
    obtain ⟨e1, e2, e3, e4⟩ := ents_kinds (l := l) (o := o) (no := no) hf hs; obtain ⟨s1, s2, s3⟩ := ents_sorted (l := l) (o := o) (no := no) hf hs; rw [putP_eq] at hS; have hSH : Std z (headQ l o no (entsD f l o no (L.getD i.toNat shp0) d)) := fun p hp => hS p (List.mem_append.2 (.inr hp)); have hSV : Std z (d.1.flatMap (patV l o no)) := fun p hp => hS p (List.mem_append.2 (.inl (List.mem_append.2 (.inl hp)))); have hSB : Std z (blobP l d.2.2 no) := fun p hp => hS p (List.mem_append.2 (.inl (List.mem_append.2 (.inr hp)))); rw [layS_succ] at hp ⊢
    -- the steps of what is laid
    obtain ⟨la, hla⟩ : ∃ x, addS l0 2 no 0 (6 + 12 * (entN d.1.length d.2.1.length d.2.2.length : Nat)) = x := ⟨_, rfl⟩; obtain ⟨lb, hlb⟩ : ∃ x, valsS no d.1 la = x := ⟨_, rfl⟩; have hfold : d.2.1.foldl (fun (r : List Spt × Int) s => (layS f s.2 r.2 r.1, r.2 + (flatS f s.2).length)) (lb, no + 1) = laySubs f d.2.1 (lb, no + 1) := rfl; simp only [hla, hlb, hfold] at hp ⊢; obtain ⟨lc, hlc⟩ : ∃ x, (laySubs f d.2.1 (lb, no + 1)).1 = x := ⟨_, rfl⟩; rw [hlc] at hp ⊢
    have hpc : lc <+: l := by
      split at hp
      · exact (add_pre ..).trans hp
      · exact hp
    have hpb : lb <+: l := by rw [← hlc] at hpc; exact (subs_pre f d.2.1 (lb, no + 1)).trans hpc
    have hpa : la <+: l := by rw [← hlb] at hpb; exact (vals_pre no d.1 la).trans hpb
    have hLa : Lo la := by rw [← hla]; exact hl.add (by omega)
    have hLb : Lo lb := by rw [← hlb]; exact hLa.vals d.1 no
    have hLc : Lo lc := by rw [← hlc]; exact subs_lo f d.2.1 (lb, no + 1) hLb
    have hat := add_at hk (l0 := l0) (a := 2) (b := no) (c := 0) (e := 6 + 12 * (entN d.1.length d.2.1.length d.2.2.length : Nat)) (by rw [hla]; exact hpa); have hatz := hz _ hat.1; simp only at hatz; have hev := evenS_le hl.1; have hq0 : 0 ≤ atS l 2 no 0 := by rw [hat.2]; have := hl.1; omega
    have hcnt : getV z (atS l 2 no 0) 2 o = (entN d.1.length d.2.1.length d.2.2.length : Nat) := by
      have h := hSH ((atS l 2 no 0).toNat, putS ((entsD f l o no (L.getD i.toNat shp0) d).length : Nat) 2 o) (by unfold headQ; exact List.mem_cons_self ..); have hpk : putOk ((entsD f l o no (L.getD i.toNat shp0) d).length : Nat) 2 o = true := (putOk_iff ho).2 (by rw [show topS 2 = 65536 by decide]; omega); rw [hel] at h hpk; have hl2 : (putS ((entN d.1.length d.2.1.length d.2.2.length : Nat) : Int) 2 o).length = 2 := putS_len2 hpk; simp only [hl2] at h; exact getV_put (by decide) ho hq0 (by omega) hpk h.2
    have hents : entsS z o (atS l 2 no 0) (entN d.1.length d.2.1.length d.2.2.length) = sortE (entsD f l o no (L.getD i.toNat shp0) d) := by
      rw [← hel]; exact ents_back ho hq0 k8 k9 hSH
    have hE : entriesS z o (atS l 2 no 0) no ⟨l0, IntKind.i64.wrap (no + 1), 0⟩ = .ok (sortE (entsD f l o no (L.getD i.toNat shp0) d), ⟨la, no + 1, 0⟩) := by
      unfold entriesS
      have hc : (decide (atS l 2 no 0 % 2 = 0) && roomB (atS l 2 no 0) 2 z.length) = true := by
        unfold roomB; simp only [Bool.and_eq_true, decide_eq_true_eq]; refine ⟨by rw [hat.2]; unfold evenS; omega, ⟨⟨by omega, by decide⟩, by omega⟩, by omega⟩
      rw [if_pos hc, hcnt, if_pos (by have := hf.e1; omega), take_at hk hz hl (by omega) (by rw [hla]; exact hpa), Int.toNat_natCast, hents]; simp only; rw [if_pos (rises_of (sortE_lt k8)), hla, wrap_in (by omega) (by omega)]
    have hT : loopS (stepT z o (L.getD i.toNat shp0) no) (sortE (entsD f l o no (L.getD i.toNat shp0) d)) ([], ⟨la, no + 1, 0⟩) = .ok (d.1, ⟨lb, no + 1, 0⟩) := by
      rw [stepT_filter _ _ (fun x hx => e4 x ((sortE_perm _).subset hx)), sort_filter k8 e1 s1, vals_back hk hz ho d.1 [] la (fun x hx => ⟨(hf.tg x hx).1, (hf.tg x hx).2.2⟩) hby.1 hSV hLa (by rw [hlb]; exact hpb), hlb]
      rfl
    have hD : loopS (stepD (dirS z o L f) (L.getD i.toNat shp0)) (sortE (entsD f l o no (L.getD i.toNat shp0) d)) ([], ⟨lb, no + 1, 0⟩) = .ok (d.2.1, ⟨lc, no + (flatS (f + 1) d).length, 0⟩) := by
      rw [stepD_filter, sort_filter k8 e2 s2]
      have hr := subs_back (o := o) (z := z) (l := l) (L := L) (sh := L.getD i.toNat shp0) (ss := d.2.1) (no := no) hLb hn0 (fun j hj l2 hl2 hp2 => by
        have hsi := subI_ok hL (i := i.toNat) (by omega) (k2 j hj).1; have hsN := subN_step f d.2.1 no hj; have h1 := subN_le f d.2.1 no j; have h2 := subN_le f d.2.1 no (j + 1); have := dirS_back hL f _ (subN f d.2.1 no j) (subI (L.getD i.toNat shp0) (d.2.1.getD j (0, dirZ f)).1) 0 l2 (by omega) (by omega) (hf.sb j hj).2 (hby.2.1 _ (by rw [getD_el hj]; exact List.getElem_mem hj)) (k2 j hj).2 (hsub j hj) hl2 hp2 (by omega) (by omega); rw [← hsN] at this; exact this) (by rw [hlc]; exact hpc) d.2.1.length (Nat.le_refl _)
      rw [List.take_of_length_le (Nat.le_refl _), subN_all, hlc] at hr; rw [hr]
      congr 3
      omega
    have hlenE : (sortE (entsD f l o no (L.getD i.toNat shp0) d)).length = entN d.1.length d.2.1.length d.2.2.length := by rw [sortE_len, hel]
    have hflt := sort_filter k8 e3 s3
    have hB : blobS z (L.getD i.toNat shp0) (sortE (entsD f l o no (L.getD i.toNat shp0) d)) no ⟨lc, no + (flatS (f + 1) d).length, 0⟩ = .ok (d.2.2, ⟨if 0 < d.2.2.length then addS lc 4 no 0 (d.2.2.length : Nat) else lc, no + (flatS (f + 1) d).length, 0⟩) := by
      unfold blobS; rw [hflt]; unfold blobE
      by_cases hb : 0 < d.2.2.length
      · rw [if_pos hb] at hp ⊢
        have hst := hSB ((atS l 4 no 0).toNat, d.2.2) (by unfold blobP; rw [if_pos hb]; exact List.mem_cons_self ..); simp only; rw [if_pos (by omega), take_at hk hz hLc (by omega) hp]; simp only; rw [Int.toNat_natCast, hst.2, if_pos hb]
      · rw [if_neg hb] at hp ⊢
        have : d.2.2 = [] := List.length_eq_zero_iff.1 (by omega); simp only; rw [if_neg hb, this]
    have hone : ¬ ((sortE (entsD f l o no (L.getD i.toNat shp0) d)).filter (fun x => !linkP (L.getD i.toNat shp0) x.1 && pairP (L.getD i.toNat shp0) x.1)).length = 1 := by
      rw [hflt]; unfold blobE
      split <;> simp
    rw [dirS_succ]
    dsimp only
    rw [hE]; simp only; rw [hT]; simp only; rw [if_neg hone, hD]; simp only; rw [hB]; simp only; rw [hlenE, hnx]
    rfl
end
end Go.Proofs.YtilennmeiaehnaaGreat
