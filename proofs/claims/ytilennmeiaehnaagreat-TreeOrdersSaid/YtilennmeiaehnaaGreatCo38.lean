/- Chapter 22: bytes in which a directory stands are read as it. Plain. -/
import Derived.Test.YtilennmeiaehnaaGreatCo37
namespace Go.Proofs.YtilennmeiaehnaaGreat
open Go.RowKit Tt
set_option linter.unusedVariables false
set_option linter.unusedSimpArgs false

/-- patches stand in bytes -/
def Std (z : List Int) (ps : List Pt) : Prop := ∀ p ∈ ps, p.1 + p.2.length ≤ z.length ∧ (z.drop p.1).take p.2.length = p.2
/-- a directory, and all within it, stands in bytes; behind its entries stands nx -/
def BackD (z : List Int) (L : List Shp) (l : List Spt) (o : Int) : (f : Nat) → DirT f → Int → Int → Int → Prop
  | 0, _, _, _, _ => False
  | f + 1, d, no, i, nx => Std z (putP f l o no (L.getD i.toNat shp0) d) ∧ getV z (atS l 2 no 0 + 2 + 12 * ((entN d.1.length d.2.1.length d.2.2.length : Nat) : Int)) 4 o = nx ∧
      ∀ j, j < d.2.1.length → BackD z L l o f (d.2.1.getD j (0, dirZ f)).2 (subN f d.2.1 no j) (subI (L.getD i.toNat shp0) (d.2.1.getD j (0, dirZ f)).1) 0
/-- all spots end ahead of the end -/
def Lo (l : List Spt) : Prop := 0 ≤ endS l ∧ ∀ s ∈ l, s.2.2.2.1 + s.2.2.2.2 ≤ endS l
theorem Lo.add {l : List Spt} (h : Lo l) {a b c e : Int} (he : 0 ≤ e) : Lo (addS l a b c e) := by
  obtain ⟨h1, h2⟩ := h
  have hv := evenS_le h1
  refine ⟨by rw [endS_add]; omega, fun s hs => ?_⟩
  rw [endS_add]
  unfold addS at hs
  rcases List.mem_append.1 hs with hs | hs
  · have := h2 s hs; omega
  · obtain rfl : s = _ := by simpa using hs
    exact Int.le_refl _
theorem Lo.push : ∀ (is : List Itm) {l : List Spt}, Lo l → (∀ x ∈ is, 0 ≤ x.2.2.2) → Lo (is.foldl pushI l)
  | [], _, h, _ => h
  | x :: is, l, h, hx => Lo.push is (Lo.add h (hx x (List.mem_cons_self ..))) fun y hy => hx y (List.mem_cons_of_mem _ hy)
theorem itmD_nn {f : Nat} {d : DirT f} {no : Int} : ∀ x ∈ itmD f d no, 0 ≤ x.2.2.2 := fun x hx => (itmD_no f d no x hx).2.2.1
theorem Lo.lay {l : List Spt} (h : Lo l) (f : Nat) (d : DirT f) (no : Int) : Lo (layS f d no l) := by
  rw [lay_push]
  exact Lo.push _ h itmD_nn
theorem Lo.vals {l : List Spt} (h : Lo l) (ts : List Tgs) (no : Int) : Lo (valsS no ts l) := by
  rw [vals_push]
  refine Lo.push _ h fun x hx => ?_
  obtain ⟨t, _, rfl⟩ := List.mem_map.1 hx
  exact outV_nn t
theorem push_pre (is : List Itm) (l : List Spt) : l <+: is.foldl pushI l := by
  rw [(push_all is l).1]
  exact List.prefix_append ..
theorem lay_pre (f : Nat) (d : DirT f) (no : Int) (l : List Spt) : l <+: layS f d no l := by rw [lay_push]; exact push_pre _ _
theorem vals_pre (no : Int) (ts : List Tgs) (l : List Spt) : l <+: valsS no ts l := by rw [vals_push]; exact push_pre _ _
theorem add_pre (l : List Spt) (a b c e : Int) : l <+: addS l a b c e := List.prefix_append ..
theorem subs_pre (f : Nat) : ∀ (ss : List (Int × DirT f)) (r : List Spt × Int), r.1 <+: (laySubs f ss r).1
  | [], _ => List.prefix_refl _
  | s :: ss, r => by
    rw [laySubs_cons]
    exact (lay_pre f s.2 r.2 r.1).trans (subs_pre f ss (layS f s.2 r.2 r.1, r.2 + (flatS f s.2).length))
theorem laySubs_two (f : Nat) (ss : List (Int × DirT f)) (r : List Spt × Int) (i : Nat) : laySubs f ss r = laySubs f (ss.drop i) (laySubs f (ss.take i) r) := by
  conv => lhs; rw [← List.take_append_drop i ss]
  unfold laySubs
  rw [List.foldl_append]
theorem subs_take_pre (f : Nat) (ss : List (Int × DirT f)) (r : List Spt × Int) (i : Nat) : (laySubs f (ss.take i) r).1 <+: (laySubs f ss r).1 := by
  rw [laySubs_two f ss r i]
  exact subs_pre f _ _
theorem subs_lo (f : Nat) : ∀ (ss : List (Int × DirT f)) (r : List Spt × Int), Lo r.1 → Lo (laySubs f ss r).1
  | [], _, h => h
  | s :: ss, r, h => by
    rw [laySubs_cons]
    exact subs_lo f ss _ (h.lay f s.2 r.2)
theorem subs_no (f : Nat) : ∀ (ss : List (Int × DirT f)) (r : List Spt × Int), (laySubs f ss r).2 = r.2 + (flats f ss).length
  | [], r => by simp [laySubs, flats]
  | s :: ss, r => by
    rw [laySubs_cons, subs_no f ss]
    unfold flats
    rw [List.flatMap_cons, List.length_append]
    show r.2 + (flatS f s.2).length + _ = _
    omega
/-- what is laid next has its place -/
theorem take_lay {n : Nat} {l0 : List Spt} {no so a b c e : Int} (hl : Lo l0) (h0 : 0 ≤ e) (he : evenS (endS l0) + e ≤ n) : takeS n (a, b, c, evenS (endS l0), e) ⟨l0, no, so⟩ = .ok ⟨addS l0 a b c e, no, so⟩ := by
  have hv := evenS_le hl.1
  have h2 : evenS (endS l0) % 2 = 0 := by unfold evenS; omega
  unfold takeS
  have hf : fitB n (a, b, c, evenS (endS l0), e) = true := by
    unfold fitB roomB
    have := hl.1
    simp only [Bool.and_eq_true, decide_eq_true_eq]
    exact ⟨h2, ⟨⟨by omega, h0⟩, by omega⟩, by omega⟩
  have hfr : freeB ⟨l0, no, so⟩ (evenS (endS l0)) e.toNat = true := by
    unfold freeB
    rw [List.all_eq_true]
    intro i hi
    unfold takenB
    simp only [Bool.not_eq_true']
    rw [List.any_eq_false]
    intro s hs
    have := hl.2 s hs
    unfold inSpot
    simp only [Bool.and_eq_true, decide_eq_true_eq, not_and]
    intro _
    omega
  rw [if_pos hf, if_pos hfr]
  rfl
theorem loopS_cons {α σ : Type} (step : σ → α → Except Int σ) (x : α) (r : List α) (s : σ) : loopS step (x :: r) s = match step s x with
    | .error e => .error e
    | .ok s' => loopS step r s' := rfl
section
variable {l : List Spt} {z : List Int} {o : Int} (hk : (l.map keyS).Nodup) (hz : ∀ s ∈ l, s.2.2.2.1 + s.2.2.2.2 ≤ z.length)
include hk
theorem add_at {l0 : List Spt} {a b c e : Int} (hp : addS l0 a b c e <+: l) : (a, b, c, evenS (endS l0), e) ∈ l ∧ atS l a b c = evenS (endS l0) := by
  have hm : (a, b, c, evenS (endS l0), e) ∈ l := hp.subset (by unfold addS; exact List.mem_append.2 (.inr (List.mem_singleton.2 rfl)))
  exact ⟨hm, (atS_key hk hm).2⟩
include hz
theorem take_at {l0 : List Spt} {no so a b c e : Int} (hl : Lo l0) (h0 : 0 ≤ e) (hp : addS l0 a b c e <+: l) : takeS z.length (a, b, c, atS l a b c, e) ⟨l0, no, so⟩ = .ok ⟨addS l0 a b c e, no, so⟩ := by
  obtain ⟨h1, h2⟩ := add_at hk hp
  rw [h2]
  exact take_lay hl h0 (by have := hz _ h1; exact this)
/-- one more value -/
def stepV (z : List Int) (o no : Int) (acc : List Tgs × St) (x : Ent) : Except Int (List Tgs × St) := match valueS z o x no acc.2 with
  | .error e => .error e
  | .ok (v, s') => .ok (acc.1 ++ [v], s')
theorem value_back (ho : o = 1 ∨ o = 2) {x : Tgs} {no n2 : Int} {l0 : List Spt} (hx : tagB x.1 = true ∧ okT x = true) (hb : Byt x.2.2.2) (hS : Std z (patV l o no x)) (hl : Lo l0) (hp : valsS no [x] l0 <+: l) :
    valueS z o (entT l o no x) no ⟨l0, n2, 0⟩ = .ok (x, ⟨valsS no [x] l0, n2, 0⟩) := by
  have hm := mayF hx.2 ho
  have hi := inlV_iff hx.2 ho hx.1
  have e1 : (0 < (kindS x.2.1).1 ∧ 1 ≤ x.2.2.1 ∧ x.2.2.1 ≤ 65536) := ⟨by have := hm.s1; omega, hm.k1, hm.k2⟩
  unfold valueS
  have hent : entT l o no x = (x.1, x.2.1, x.2.2.1, if inlV x o = true then getV (padB (bytesV x o)) 0 4 o else atS l 3 no x.1) := rfl
  rw [hent]
  simp only
  rw [if_pos e1]
  by_cases h0 : outS x.2.1 x.2.2.1 = 0
  · rw [h0, decide_eq_true rfl] at hi
    have hv : valsS no [x] l0 = l0 := by unfold valsS; simp [h0]
    rw [h0, if_neg (by decide), hi, if_pos rfl, inS_back hb hx.2 ho hi, hv]
    rfl
  · have hl2 := outS_len hx.2 ho h0
    rw [decide_eq_false h0] at hi
    have hpos : 0 < outS x.2.1 x.2.2.1 := by omega
    have hv : valsS no [x] l0 = addS l0 3 no x.1 (outS x.2.1 x.2.2.1) := by unfold valsS; simp [hpos]
    rw [hv] at hp ⊢
    rw [if_pos hpos, hi, if_neg (by decide), take_at hk hz hl (by omega) hp]
    have hst := hS ((atS l 3 no x.1).toNat, bytesV x o) (by unfold patV; rw [hi]; simp)
    simp only
    rw [ofS_back hx.2 ho hst.2]
theorem vals_back (ho : o = 1 ∨ o = 2) {no n2 : Int} : ∀ (ts : List Tgs) (acc : List Tgs) (l0 : List Spt), (∀ x ∈ ts, tagB x.1 = true ∧ okT x = true) → (∀ x ∈ ts, Byt x.2.2.2) → Std z (ts.flatMap (patV l o no)) → Lo l0 → valsS no ts l0 <+: l →
    loopS (stepV z o no) (ts.map (entT l o no)) (acc, ⟨l0, n2, 0⟩) = .ok (acc ++ ts, ⟨valsS no ts l0, n2, 0⟩)
  | [], acc, l0, _, _, _, _, _ => by simp [loopS, valsS]
  | x :: ts, acc, l0, h1, h2, h3, h4, h5 => by
    have hv : valsS no (x :: ts) l0 = valsS no ts (valsS no [x] l0) := rfl
    rw [hv] at h5 ⊢
    have hx := value_back hk hz ho (n2 := n2) (h1 x (List.mem_cons_self ..)) (h2 x (List.mem_cons_self ..)) (fun p hp => h3 p (by rw [List.flatMap_cons]; exact List.mem_append.2 (.inl hp))) h4 ((vals_pre no ts _).trans h5)
    rw [List.map_cons, loopS_cons]
    have hs : stepV z o no (acc, ⟨l0, n2, 0⟩) (entT l o no x) = .ok (acc ++ [x], ⟨valsS no [x] l0, n2, 0⟩) := by
      unfold stepV
      simp only
      rw [hx]
    rw [hs]
    simp only
    rw [vals_back ho ts (acc ++ [x]) _ (fun y hy => h1 y (List.mem_cons_of_mem _ hy)) (fun y hy => h2 y (List.mem_cons_of_mem _ hy)) (fun p hp => h3 p (by rw [List.flatMap_cons]; exact List.mem_append.2 (.inr hp))) (h4.vals [x] no) h5, List.append_assoc]
    rfl
end
/-- entries that change nothing are passed over -/
theorem loop_filter {α σ : Type} {step step' : σ → α → Except Int σ} {p : α → Bool} (h1 : ∀ s x, p x = true → step s x = step' s x) : ∀ (l : List α) (s : σ), (∀ x ∈ l, p x = false → ∀ s, step s x = .ok s) → loopS step l s = loopS step' (l.filter p) s
  | [], _, _ => rfl
  | x :: l, s, h2 => by
    have ih := fun s => loop_filter h1 l s fun y hy => h2 y (List.mem_cons_of_mem _ hy)
    rw [loopS_cons]
    cases hp : p x with
    | true =>
      rw [List.filter_cons_of_pos hp, h1 s x hp, loopS_cons]
      cases step' s x with
      | error e => rfl
      | ok s' => exact ih s'
    | false =>
      rw [List.filter_cons_of_neg (by simp [hp]), h2 x (List.mem_cons_self ..) hp s]
      exact ih s
theorem loop_app {α σ : Type} {step : σ → α → Except Int σ} : ∀ (a b : List α) (s s' : σ), loopS step a s = .ok s' → loopS step (a ++ b) s = loopS step b s'
  | [], b, s, s', h => by
    unfold loopS at h
    injection h with h
    rw [h]; rfl
  | x :: a, b, s, s', h => by
    rw [List.cons_append]
    rw [loopS_cons] at h ⊢
    cases hx : step s x with
    | error e => rw [hx] at h; cases h
    | ok s1 =>
      rw [hx] at h
      exact loop_app a b s1 s' h
theorem sort_filter {es ys : List Ent} {p : Ent → Bool} (hd : es.Pairwise fun x y => x.1 ≠ y.1) (hp : es.filter p = ys) (hs : ys.Pairwise fun x y => x.1 < y.1) : (sortE es).filter p = ys := by
  have h1 : ((sortE es).filter p).Perm ys := by rw [← hp]; exact (sortE_perm es).filter p
  refine List.Perm.eq_of_pairwise (le := fun x y => x.1 < y.1) (fun a b _ _ h1 h2 => by omega) ((sortE_lt hd).filter _) hs h1
theorem dt_take {z : List Int} {p n a m : Nat} (h : (z.drop p).take n = (z.drop p).take n) (hm : a + m ≤ n) : (z.drop (p + a)).take m = (((z.drop p).take n).drop a).take m := by
  rw [List.drop_take, List.take_take, List.drop_drop, Nat.min_eq_left (by omega)]
/-- an entry that stands there is read -/
theorem entAt_back {z : List Int} {p : Nat} {x : Ent} {o : Int} (ho : o = 1 ∨ o = 2) (hk : entOk x o = true) (hl : p + 12 ≤ z.length) (h : (z.drop p).take 12 = entW x o) : entAt z o p = x := by
  unfold entOk at hk
  simp only [Bool.and_eq_true] at hk
  obtain ⟨⟨⟨k0, k1⟩, k2⟩, k3⟩ := hk
  have l0 : (putS x.1 2 o).length = 2 := putS_len2 k0
  have l1 : (putS x.2.1 2 o).length = 2 := putS_len2 k1
  have l2 : (putS x.2.2.1 4 o).length = 4 := putS_len2 k2
  have l3 : (putS x.2.2.2 4 o).length = 4 := putS_len2 k3
  have e0 : (z.drop (p + 0)).take 2 = putS x.1 2 o := by
    rw [dt_take (n := 12) rfl (by omega), h]
    unfold entW
    rw [List.drop_zero, List.append_assoc, List.append_assoc, List.take_left' l0]
  have e1 : (z.drop (p + 2)).take 2 = putS x.2.1 2 o := by
    rw [dt_take (n := 12) rfl (by omega), h]
    unfold entW
    rw [List.append_assoc, List.append_assoc, List.drop_left' l0, List.take_left' l1]
  have e2 : (z.drop (p + 4)).take 4 = putS x.2.2.1 4 o := by
    rw [dt_take (n := 12) rfl (by omega), h]
    unfold entW
    rw [List.append_assoc, List.drop_left' (by rw [List.length_append, l0, l1]), List.take_left' l2]
  have e3 : (z.drop (p + 8)).take 4 = putS x.2.2.2 4 o := by
    rw [dt_take (n := 12) rfl (by omega), h]
    unfold entW
    rw [List.drop_left' (by rw [List.length_append, List.length_append, l0, l1, l2]), List.take_of_length_le (by rw [l3]; exact Nat.le_refl _)]
  unfold entAt
  rw [getV_put (s := 2) (n := x.1) (by decide) ho (by omega) (by omega) k0 (by rw [show ((p : Int)).toNat = p + 0 by omega]; exact e0)]
  rw [getV_put (s := 2) (n := x.2.1) (by decide) ho (by omega) (by omega) k1 (by rw [show ((p : Int) + 2).toNat = p + 2 by omega]; exact e1)]
  rw [getV_put (s := 4) (n := x.2.2.1) (by decide) ho (by omega) (by omega) k2 (by rw [show ((p : Int) + 4).toNat = p + 4 by omega]; exact e2)]
  rw [getV_put (s := 4) (n := x.2.2.2) (by decide) ho (by omega) (by omega) k3 (by rw [show ((p : Int) + 8).toNat = p + 8 by omega]; exact e3)]
theorem rises_of : ∀ {es : List Ent}, (es.Pairwise fun x y => x.1 < y.1) → risesE es = true
  | [], _ => rfl
  | [_], _ => rfl
  | x :: y :: r, h => by
    obtain ⟨h1, h2⟩ := List.pairwise_cons.1 h
    unfold risesE
    rw [rises_of h2, decide_eq_true (h1 y (List.mem_cons_self ..))]
    rfl
/-- the entries of a directory are read -/
theorem ents_back {z : List Int} {l : List Spt} {o no : Int} (ho : o = 1 ∨ o = 2) {es : List Ent} (h0 : 0 ≤ atS l 2 no 0) (hd : es.Pairwise fun x y => x.1 ≠ y.1) (hk : ∀ x ∈ es, entOk x o = true) (hS : Std z (headQ l o no es)) : entsS z o (atS l 2 no 0) es.length = sortE es := by
  unfold entsS
  refine List.ext_getElem (by simp [sortE_len]) fun i h1 h2 => ?_
  rw [List.getElem_map, List.getElem_range]
  have hm : (sortE es)[i] ∈ es := (sortE_perm es).subset (List.getElem_mem h2)
  have ha : aheadE es (sortE es)[i] = i := by
    unfold aheadE
    rw [← ((sortE_perm es).filter _).length_eq]
    exact ahead_sorted (sortE_lt hd) h2
  have hs := hS (rowE (atS l 2 no 0).toNat o es (sortE es)[i]) (by unfold headQ; exact List.mem_cons_of_mem _ (List.mem_map.2 ⟨_, hm, rfl⟩))
  unfold rowE at hs
  rw [ha, entW_len (hk _ hm)] at hs
  simp only at hs
  have := entAt_back ho (hk _ hm) hs.1 hs.2
  rw [← this]
  congr 1
  omega
/-- one more directory within -/
def stepS {f : Nat} (rec : Int → Int → St → Except Int ((DirT f × Int) × St)) (sh : Shp) (acc : List (Int × DirT f) × St) (x : Ent) : Except Int (List (Int × DirT f) × St) :=
  match rec x.2.2.2 (subI sh x.1) acc.2 with
    | .error e => .error e
    | .ok ((d, next), s') => if next = 0 then .ok (acc.1 ++ [(x.1, d)], s') else .error 2
theorem stepD_filter {f : Nat} {rec : Int → Int → St → Except Int ((DirT f × Int) × St)} {sh : Shp} (es : List Ent) (acc : List (Int × DirT f) × St) : loopS (stepD rec sh) es acc = loopS (stepS rec sh) (es.filter fun x => linkP sh x.1) acc :=
  loop_filter (fun s x h => by
    unfold stepD stepS subI
    rw [if_pos h]
    cases rec x.2.2.2 (sh.1.getD (fst (fun y => y.1 == x.1) sh.1).toNat (0, 0)).2 s.2 <;> rfl) es acc fun x _ h s => by
    have h : linkP sh x.1 = false := h
    simp [stepD, h]
theorem stepT_filter {z : List Int} {o no : Int} {sh : Shp} (es : List Ent) (acc : List Tgs × St) (hx : ∀ x ∈ es, ownP sh x.1 = true → x.2.1 = 4 ∧ x.2.2.1 = 1) : loopS (stepT z o sh no) es acc = loopS (stepV z o no) (es.filter fun x => !ownP sh x.1) acc :=
  loop_filter (fun s x h => by
    have h : ownP sh x.1 = false := by simpa using h
    unfold stepT stepV
    rw [if_neg (by simp [h])]
    cases valueS z o x no s.2 <;> rfl) es acc fun x hm h s => by
    have h : ownP sh x.1 = true := by simpa using h
    unfold stepT
    rw [if_pos h, if_pos (hx x hm h)]
end Go.Proofs.YtilennmeiaehnaaGreat
