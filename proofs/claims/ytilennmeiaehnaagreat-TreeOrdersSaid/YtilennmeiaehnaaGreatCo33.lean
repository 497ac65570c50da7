/- Bytes that are laid over bytes: plain. | Numbers and values as bytes, and back: plain. -/
import Derived.Test.YtilennmeiaehnaaGreatCo15
namespace Go.Proofs.YtilennmeiaehnaaGreat
open Go.RowKit Tt
set_option linter.unusedVariables false
set_option linter.unusedSimpArgs false

/-- two patches do not meet -/
def Dj (p q : Pt) : Prop := p.1 + p.2.length ≤ q.1 ∨ q.1 + q.2.length ≤ p.1
theorem Dj.symm {p q : Pt} (h : Dj p q) : Dj q p := Or.symm h
theorem splice_getD {b c : List Int} {i : Nat} (h : i + c.length ≤ b.length) (k : Nat) : (splice b i c).getD k 0 = if i ≤ k ∧ k < i + c.length then c.getD (k - i) 0 else b.getD k 0 := by
  unfold splice
  simp only [List.getD_eq_getElem?_getD, List.getElem?_append, List.getElem?_take, List.getElem?_drop, List.length_take]
  by_cases h1 : k < i
  · rw [if_pos (by omega), if_pos h1, if_neg (by omega)]
  · rw [if_neg (by omega)]
    by_cases h2 : k < i + c.length
    · rw [if_pos (by omega), if_pos (by omega), Nat.min_eq_left (by omega)]
    · rw [if_neg (by omega), if_neg (by omega)]
      congr 2
      omega
theorem list_ext0 {a b : List Int} (hl : a.length = b.length) (h : ∀ k, k < a.length → a.getD k 0 = b.getD k 0) : a = b := by
  refine List.ext_getElem hl fun k h1 h2 => ?_
  have := h k h1
  rwa [List.getD_eq_getElem?_getD, List.getD_eq_getElem?_getD, List.getElem?_eq_getElem h1, List.getElem?_eq_getElem h2] at this
theorem splice_comm {b : List Int} {p q : Pt} (h : Dj p q) (hp : p.1 + p.2.length ≤ b.length) (hq : q.1 + q.2.length ≤ b.length) : splice (splice b p.1 p.2) q.1 q.2 = splice (splice b q.1 q.2) p.1 p.2 := by
  have e1 := splice_len hp
  have e2 := splice_len hq
  refine list_ext0 ((splice_len (by omega)).trans (e1.trans (e2.symm.trans (splice_len (by omega)).symm))) fun k hk => ?_
  rw [splice_getD (by omega), splice_getD (by omega), splice_getD (by omega), splice_getD (by omega)]
  rcases h with h | h
  · by_cases h1 : q.1 ≤ k ∧ k < q.1 + q.2.length
    · rw [if_pos h1, if_neg (by omega), if_pos h1]
    · rw [if_neg h1]; by_cases h2 : p.1 ≤ k ∧ k < p.1 + p.2.length
      · rw [if_pos h2, if_pos h2]
      · rw [if_neg h2, if_neg h2, if_neg h1]
  · by_cases h1 : q.1 ≤ k ∧ k < q.1 + q.2.length
    · rw [if_pos h1, if_neg (by omega), if_pos h1]
    · rw [if_neg h1]; by_cases h2 : p.1 ≤ k ∧ k < p.1 + p.2.length
      · rw [if_pos h2, if_pos h2]
      · rw [if_neg h2, if_neg h2, if_neg h1]
def InB (n : Nat) (ps : List Pt) : Prop := ∀ p ∈ ps, p.1 + p.2.length ≤ n
theorem apP_cons (p : Pt) (ps : List Pt) (b : List Int) : apP (p :: ps) b = apP ps (splice b p.1 p.2) := rfl
theorem apP_len : ∀ (ps : List Pt) (b : List Int), InB b.length ps → (apP ps b).length = b.length
  | [], _, _ => rfl
  | p :: ps, b, h => by
    have h1 := splice_len (h p (List.mem_cons_self ..))
    rw [apP_cons, apP_len ps _ (by rw [h1]; exact fun q hq => h q (List.mem_cons_of_mem _ hq)), h1]
theorem apP_out : ∀ (ps : List Pt) (b : List Int) (k : Nat), InB b.length ps → (∀ p ∈ ps, ¬ (p.1 ≤ k ∧ k < p.1 + p.2.length)) → (apP ps b).getD k 0 = b.getD k 0
  | [], _, _, _, _ => rfl
  | p :: ps, b, k, h, hk => by
    have hp := h p (List.mem_cons_self ..)
    have h1 := splice_len hp
    rw [apP_cons, apP_out ps _ k (by rw [h1]; exact fun q hq => h q (List.mem_cons_of_mem _ hq)) (fun q hq => hk q (List.mem_cons_of_mem _ hq)), splice_getD hp, if_neg (hk p (List.mem_cons_self ..))]
theorem apP_at : ∀ (ps : List Pt) (b : List Int), InB b.length ps → ps.Pairwise Dj → ∀ p ∈ ps, ∀ i, i < p.2.length → (apP ps b).getD (p.1 + i) 0 = p.2.getD i 0
  | [], _, _, _, _, hp, _, _ => by cases hp
  | q :: ps, b, h, hd, p, hp, i, hi => by
    have hq := h q (List.mem_cons_self ..)
    have h1 := splice_len hq
    have hb : InB (splice b q.1 q.2).length ps := by rw [h1]; exact fun r hr => h r (List.mem_cons_of_mem _ hr)
    obtain ⟨hd1, hd2⟩ := List.pairwise_cons.1 hd
    rw [apP_cons]
    rcases List.mem_cons.1 hp with rfl | hp
    · rw [apP_out ps _ _ hb (fun r hr => by have := hd1 r hr; unfold Dj at this; omega), splice_getD hq, if_pos (by omega), Nat.add_sub_cancel_left]
    · exact apP_at ps _ hb hd2 p hp i hi
theorem apP_get {ps : List Pt} {b : List Int} (h : InB b.length ps) (hd : ps.Pairwise Dj) {p : Pt} (hp : p ∈ ps) : ((apP ps b).drop p.1).take p.2.length = p.2 := by
  have hl := apP_len ps b h
  have := h p hp
  refine list_ext0 (by simp; omega) fun k hk => ?_
  have hk' : k < p.2.length := by simp at hk; omega
  rw [← apP_at ps b h hd p hp k hk']
  simp only [List.getD_eq_getElem?_getD, List.getElem?_take, List.getElem?_drop]
  rw [if_pos hk']
theorem apP_perm {ps qs : List Pt} (hpm : ps.Perm qs) : ∀ (b : List Int), InB b.length ps → ps.Pairwise Dj → apP ps b = apP qs b := by
  induction hpm with
  | nil => intros; rfl
  | cons p _ ih =>
    intro b h hd
    have h1 := splice_len (h p (List.mem_cons_self ..))
    rw [apP_cons, apP_cons]
    exact ih _ (by rw [h1]; exact fun r hr => h r (List.mem_cons_of_mem _ hr)) (List.pairwise_cons.1 hd).2
  | swap p q l =>
    intro b h hd
    have hq := h q (List.mem_cons_self ..)
    have hp := h p (List.mem_cons_of_mem _ (List.mem_cons_self ..))
    have hdj := (List.pairwise_cons.1 hd).1 p (List.mem_cons_self ..)
    rw [apP_cons, apP_cons, apP_cons, apP_cons, splice_comm hdj hq hp]
  | trans h1 _ ih1 ih2 =>
    intro b h hd
    rw [ih1 b h hd]
    exact ih2 b (fun r hr => h r (h1.mem_iff.2 hr)) ((h1.pairwise_iff (fun {_ _} h => Dj.symm h)).1 hd)
theorem flatMap_perm {α β : Type} {f g : α → List β} : ∀ (l : List α), (∀ x ∈ l, (f x).Perm (g x)) → (l.flatMap f).Perm (l.flatMap g)
  | [], _ => List.Perm.refl _
  | x :: l, h => by
    rw [List.flatMap_cons, List.flatMap_cons]
    exact (h x (List.mem_cons_self ..)).append (flatMap_perm l fun y hy => h y (List.mem_cons_of_mem _ hy))

/-- what is laid, behind an end: what, no, tag, long -/
abbrev Itm := Int × Int × Int × Int
def pushI (l : List Spt) (x : Itm) : List Spt := addS l x.1 x.2.1 x.2.2.1 x.2.2.2
def placed : Int → List Itm → List Spt
  | _, [] => []
  | e, x :: r => (x.1, x.2.1, x.2.2.1, evenS e, x.2.2.2) :: placed (evenS e + x.2.2.2) r
def endP : Int → List Itm → Int
  | e, [] => e
  | e, x :: r => endP (evenS e + x.2.2.2) r
theorem endS_push (l : List Spt) (x : Itm) : endS (pushI l x) = evenS (endS l) + x.2.2.2 := endS_add ..
theorem push_all : ∀ (is : List Itm) (l : List Spt), is.foldl pushI l = l ++ placed (endS l) is ∧ endS (is.foldl pushI l) = endP (endS l) is
  | [], l => by simp [placed, endP]
  | x :: is, l => by
    have ih := push_all is (pushI l x)
    rw [List.foldl_cons, ih.2, ih.1, endS_push]
    refine ⟨?_, rfl⟩
    unfold pushI addS
    rw [List.append_assoc]
    rfl
theorem endP_le : ∀ (is : List Itm) (e : Int), 0 ≤ e → (∀ x ∈ is, 0 ≤ x.2.2.2) → e ≤ endP e is
  | [], e, _, _ => Int.le_refl _
  | x :: is, e, h, hx => by
    have h1 := evenS_le h
    have h2 := hx x (List.mem_cons_self ..)
    have := endP_le is (evenS e + x.2.2.2) (by omega) fun y hy => hx y (List.mem_cons_of_mem _ hy)
    show e ≤ endP (evenS e + x.2.2.2) is
    omega
theorem placed_in : ∀ (is : List Itm) (e : Int), 0 ≤ e → (∀ x ∈ is, 0 ≤ x.2.2.2) → ∀ s ∈ placed e is, e ≤ s.2.2.2.1 ∧ s.2.2.2.1 % 2 = 0 ∧ 0 ≤ s.2.2.2.2 ∧ s.2.2.2.1 + s.2.2.2.2 ≤ endP e is
  | [], _, _, _, s, hs => by cases hs
  | x :: is, e, h, hx, s, hs => by
    have h1 := evenS_le h
    have h2 := hx x (List.mem_cons_self ..)
    have hx' := fun y hy => hx y (List.mem_cons_of_mem _ hy)
    rcases List.mem_cons.1 hs with rfl | hs
    · have := endP_le is (evenS e + x.2.2.2) (by omega) hx'
      refine ⟨h1.1, ?_, h2, this⟩
      show evenS e % 2 = 0
      unfold evenS; omega
    · have := placed_in is (evenS e + x.2.2.2) (by omega) hx' s hs
      exact ⟨by omega, this.2⟩
/-- one spot lies ahead of another one -/
def Ahead (s t : Spt) : Prop := s.2.2.2.1 + s.2.2.2.2 ≤ t.2.2.2.1
theorem placed_ahead : ∀ (is : List Itm) (e : Int), 0 ≤ e → (∀ x ∈ is, 0 ≤ x.2.2.2) → (placed e is).Pairwise Ahead
  | [], _, _, _ => List.Pairwise.nil
  | x :: is, e, h, hx => by
    have h1 := evenS_le h
    have h2 := hx x (List.mem_cons_self ..)
    have hx' := fun y hy => hx y (List.mem_cons_of_mem _ hy)
    exact List.Pairwise.cons (fun s hs => (placed_in is _ (by omega) hx' s hs).1) (placed_ahead is _ (by omega) hx')
def keyI (x : Itm) : Int × Int × Int := (x.1, x.2.1, x.2.2.1)
def keyS (x : Spt) : Int × Int × Int := (x.1, x.2.1, x.2.2.1)
theorem placed_keys : ∀ (is : List Itm) (e : Int), (placed e is).map keyS = is.map keyI
  | [], _ => rfl
  | x :: is, e => by
    show keyS _ :: (placed _ is).map keyS = keyI x :: is.map keyI
    rw [placed_keys is]; rfl
theorem placed_mem : ∀ (is : List Itm) (e : Int) (x : Itm), x ∈ is → ∃ s ∈ placed e is, keyS s = keyI x ∧ s.2.2.2.2 = x.2.2.2
  | [], _, _, h => by cases h
  | y :: is, e, x, h => by
    rcases List.mem_cons.1 h with rfl | h
    · exact ⟨_, List.mem_cons_self .., rfl, rfl⟩
    · obtain ⟨s, h1, h2⟩ := placed_mem is (evenS e + y.2.2.2) x h
      exact ⟨s, List.mem_cons_of_mem _ h1, h2⟩
theorem atP_key {a b c : Int} {s : Spt} : atP a b c s = true ↔ keyS s = (a, b, c) := by
  unfold atP keyS
  simp [Prod.ext_iff, and_assoc]
theorem atS_key {l : List Spt} (hd : (l.map keyS).Nodup) {s : Spt} (hs : s ∈ l) : l.any (atP s.1 s.2.1 s.2.2.1) = true ∧ atS l s.1 s.2.1 s.2.2.1 = s.2.2.2.1 := by
  induction l with
  | nil => cases hs
  | cons t l ih =>
    obtain ⟨h1, h2⟩ := List.nodup_cons.1 hd
    rcases List.mem_cons.1 hs with rfl | hs
    · have : atP s.1 s.2.1 s.2.2.1 s = true := atP_key.2 rfl
      unfold atS
      simp [List.find?, this]
    · obtain ⟨i1, i2⟩ := ih h2 hs
      have hne : atP s.1 s.2.1 s.2.2.1 t = false := by
        cases hh : atP s.1 s.2.1 s.2.2.1 t with
        | false => rfl
        | true => exact absurd (List.mem_map.2 ⟨s, hs, (atP_key.1 hh).symm⟩) h1
      unfold atS at i2 ⊢
      rw [List.any_cons, hne, List.find?, hne]
      exact ⟨by simpa using i1, i2⟩
/-- a patch lies in a spot of a kind -/
def InQ (l : List Spt) (Q : Spt → Prop) (p : Pt) : Prop := ∃ s ∈ l, Q s ∧ s.2.2.2.1 ≤ p.1 ∧ (p.1 : Int) + p.2.length ≤ s.2.2.2.1 + s.2.2.2.2
theorem ahead_two {l : List Spt} (h : l.Pairwise Ahead) {s t : Spt} (hs : s ∈ l) (ht : t ∈ l) (hn : s ≠ t) : Ahead s t ∨ Ahead t s := by
  induction l with
  | nil => cases hs
  | cons u l ih =>
    obtain ⟨h1, h2⟩ := List.pairwise_cons.1 h
    rcases List.mem_cons.1 hs with e1 | hs2 <;> rcases List.mem_cons.1 ht with e2 | ht2
    · exact absurd (e1.trans e2.symm) hn
    · exact .inl (e1 ▸ h1 _ ht2)
    · exact .inr (e2 ▸ h1 _ hs2)
    · exact ih h2 hs2 ht2
theorem dj_of {l : List Spt} (h : l.Pairwise Ahead) {Q R : Spt → Prop} {p q : Pt} (hp : InQ l Q p) (hq : InQ l R q) (hx : ∀ s, Q s → R s → False) : Dj p q := by
  obtain ⟨s, hs, h1, h2, h3⟩ := hp
  obtain ⟨t, ht, h4, h5, h6⟩ := hq
  have hn : s ≠ t := fun e => hx s h1 (e ▸ h4)
  unfold Dj
  rcases ahead_two h hs ht hn with h7 | h7 <;> unfold Ahead at h7 <;> omega
theorem InQ.mono {l : List Spt} {Q R : Spt → Prop} {p : Pt} (h : InQ l Q p) (hx : ∀ s, Q s → R s) : InQ l R p := by
  obtain ⟨s, h1, h2, h3⟩ := h
  exact ⟨s, h1, hx s h2, h3⟩
end Go.Proofs.YtilennmeiaehnaaGreat

namespace Go.Proofs.YtilennmeiaehnaaGreat
open Go.RowKit Tt
set_option linter.unusedVariables false
set_option linter.unusedSimpArgs false

theorem be_leb : ∀ (k : Nat) (n : Int), be (leb k n).reverse = n % 256 ^ k
  | 0, n => by simp [leb, be]
  | k + 1, n => by
    rw [leb, List.reverse_cons, be_snoc, be_leb k]
    have h := Int.emod_emod_of_dvd n (show (256 : Int) ∣ 256 ^ (k + 1) from ⟨256 ^ k, by rw [Int.pow_succ]; omega⟩)
    have h1 : n % (256 ^ (k + 1)) = n / 256 % 256 ^ k * 256 + n % 256 := by
      have e1 : (256 : Int) ^ (k + 1) = 256 * 256 ^ k := by rw [Int.pow_succ]; omega
      have e2 := Int.mul_ediv_add_emod n 256
      have e3 := Int.mul_ediv_add_emod (n / 256) (256 ^ k)
      have hp : (0 : Int) < 256 ^ k := Int.pow_pos (by decide)
      have b1 := Int.emod_nonneg (n / 256) (Int.ne_of_gt hp)
      have b2 := Int.emod_lt_of_pos (n / 256) hp
      have b3 := Int.emod_nonneg n (show (256 : Int) ≠ 0 by decide)
      have b4 := Int.emod_lt_of_pos n (show (0 : Int) < 256 by decide)
      have e4 : n = 256 ^ (k + 1) * (n / 256 / 256 ^ k) + (n / 256 % 256 ^ k * 256 + n % 256) := by
        rw [e1, Int.mul_assoc]
        omega
      have b5 : n / 256 % 256 ^ k * 256 + n % 256 < 256 ^ (k + 1) := by rw [e1]; omega
      have b6 : 0 ≤ n / 256 % 256 ^ k * 256 + n % 256 := by omega
      generalize n / 256 % 256 ^ k * 256 + n % 256 = R at e4 b5 b6 ⊢
      generalize n / 256 / 256 ^ k = Q at e4
      rw [e4, Int.add_comm, Int.add_mul_emod_self_left]
      exact Int.emod_eq_of_lt b6 b5
    rw [h1]
theorem pow_topS {s : Int} (h : s = 1 ∨ s = 2 ∨ s = 4) : topS s = 256 ^ s.toNat := by
  rcases h with rfl | rfl | rfl <;> decide
theorem putOk_iff {n s o : Int} (ho : o = 1 ∨ o = 2) : putOk n s o = true ↔ 0 ≤ n ∧ n < topS s := by
  unfold putOk
  simp
  omega
theorem putS_eq {n s o : Int} (h : putOk n s o = true) : putS n s o = if o = 1 then leb s.toNat n else (leb s.toNat n).reverse := by
  unfold putS; rw [if_pos h]
theorem putS_len2 {n s o : Int} (h : putOk n s o = true) : (putS n s o).length = s.toNat := by
  rw [putS_eq h]; split <;> simp [leb_len]
theorem getV_in {z : List Int} {p s o : Int} (hs : s = 1 ∨ s = 2 ∨ s = 4) (ho : o = 1 ∨ o = 2) (h0 : 0 ≤ p) (h1 : p + s ≤ z.length) : getV z p s o = be (getL z p.toNat s.toNat o) := by
  unfold getV
  rw [if_pos (getB_in hs ho h0 h1)]
/-- a number that stands there is read -/
theorem getV_put {z : List Int} {p s o n : Int} (hs : s = 1 ∨ s = 2 ∨ s = 4) (ho : o = 1 ∨ o = 2) (h0 : 0 ≤ p) (h1 : p + s ≤ z.length) (hk : putOk n s o = true) (hz : (z.drop p.toNat).take s.toNat = putS n s o) : getV z p s o = n := by
  rw [getV_in hs ho h0 h1]
  unfold getL
  rw [hz, putS_eq hk]
  have hb := (putOk_iff ho).1 hk
  rw [pow_topS hs] at hb
  have e : be (leb s.toNat n).reverse = n := by rw [be_leb]; exact Int.emod_eq_of_lt hb.1 hb.2
  rcases ho with rfl | rfl
  · rw [if_pos rfl, if_pos rfl]; exact e
  · rw [if_neg (by decide), if_neg (by decide)]; exact e
theorem leb_be : ∀ (l : List Int), Byt l → leb l.length (be l.reverse) = l
  | [], _ => rfl
  | x :: l, h => by
    have hx := h x (List.mem_cons_self ..)
    have hl := leb_be l fun y hy => h y (List.mem_cons_of_mem _ hy)
    rw [List.reverse_cons, be_snoc]
    show (be l.reverse * 256 + x) % 256 :: leb l.length ((be l.reverse * 256 + x) / 256) = x :: l
    rw [show (be l.reverse * 256 + x) % 256 = x by omega, show (be l.reverse * 256 + x) / 256 = be l.reverse by omega, hl]
theorem byt_drop_take {z : List Int} (h : Byt z) (p n : Nat) : Byt ((z.drop p).take n) := fun x hx => h x (List.mem_of_mem_drop (List.mem_of_mem_take hx))
theorem getV_bound {z : List Int} (hb : Byt z) {p s o : Int} (hs : s = 1 ∨ s = 2 ∨ s = 4) (ho : o = 1 ∨ o = 2) (h0 : 0 ≤ p) (h1 : p + s ≤ z.length) : 0 ≤ getV z p s o ∧ getV z p s o < topS s := by
  rw [getV_in hs ho h0 h1]
  have hl : (getL z p.toNat s.toNat o).length = s.toNat := getL_len (by omega)
  have := be_bound (getL_byt hb p.toNat s.toNat o) (Nat.le_refl _)
  rw [List.take_of_length_le (Nat.le_refl _), hl] at this
  rw [pow_topS hs]
  exact this
/-- a number that is read is what stands there -/
theorem put_getV {z : List Int} (hb : Byt z) {p s o : Int} (hs : s = 1 ∨ s = 2 ∨ s = 4) (ho : o = 1 ∨ o = 2) (h0 : 0 ≤ p) (h1 : p + s ≤ z.length) : putS (getV z p s o) s o = (z.drop p.toNat).take s.toNat := by
  have hk : putOk (getV z p s o) s o = true := (putOk_iff ho).2 (getV_bound hb hs ho h0 h1)
  rw [putS_eq hk, getV_in hs ho h0 h1]
  have hl : ((z.drop p.toNat).take s.toNat).length = s.toNat := by simp; omega
  have hy := byt_drop_take hb p.toNat s.toNat
  unfold getL
  rcases ho with rfl | rfl
  · rw [if_pos rfl, if_pos rfl]
    have := leb_be _ hy
    rw [hl] at this
    exact this
  · rw [if_neg (by decide), if_neg (by decide)]
    have hr : Byt ((z.drop p.toNat).take s.toNat).reverse := fun x hx => hy x (List.mem_reverse.1 hx)
    have := leb_be _ hr
    rw [List.length_reverse, hl, List.reverse_reverse] at this
    rw [this, List.reverse_reverse]

theorem turnIx_twice {n p i : Nat} (hp : 0 < p) (h : i < n) : turnIx n p (turnIx n p i) = i := by
  obtain ⟨q, hq⟩ : ∃ q, i / p = q := ⟨_, rfl⟩
  obtain ⟨r, hr⟩ : ∃ r, i % p = r := ⟨_, rfl⟩
  obtain ⟨M, hM⟩ : ∃ M, n - n % p = M := ⟨_, rfl⟩
  have hn : M = p * (n / p) := by have := Nat.div_add_mod n p; omega
  have hi := Nat.div_add_mod i p
  have hrp : r < p := by rw [← hr]; exact Nat.mod_lt i hp
  rw [hq, hr] at hi
  have key : turnIx n p i = if i < M then i - r + p - 1 - r else i := by unfold turnIx; rw [hM, hr]
  rw [key]
  by_cases h1 : i < M
  · rw [if_pos h1]
    have h2 : p * (q + 1) ≤ M := by
      rw [hn] at h1 ⊢
      have hq2 : i / p < n / p := Nat.div_lt_of_lt_mul h1
      rw [hq] at hq2
      exact Nat.mul_le_mul (Nat.le_refl _) hq2
    rw [Nat.mul_add, Nat.mul_one] at h2
    obtain ⟨A, hA⟩ : ∃ A, p * q = A := ⟨_, rfl⟩
    have hm : (p * q + (p - 1 - r)) % p = p - 1 - r := by rw [Nat.mul_add_mod]; exact Nat.mod_eq_of_lt (by omega)
    rw [hA] at hi h2 hm
    have e : i - r + p - 1 - r = A + (p - 1 - r) := by omega
    rw [e]
    unfold turnIx
    rw [hM, hm, if_pos (by omega)]
    omega
  · rw [if_neg h1, key, if_neg h1]
theorem turned_twice {p : Nat} (hp : 0 < p) (b : List Int) : turned p (turned p b) = b := by
  refine list_ext0 (by rw [turned_len, turned_len]) fun k hk => ?_
  rw [turned_len, turned_len] at hk
  rw [turned_get (by rw [turned_len]; exact hk), turned_len, turned_get (turnIx_lt hp hk), turnIx_twice hp hk]
theorem turnS_twice {b : List Int} {s o : Int} (h : turnB s o = true) (hs : 0 < s) : turnS (turnS b s o) s o = b := by
  unfold turnS
  rw [if_pos h, if_pos h]
  by_cases ho : o = 1
  · rw [if_pos ho, if_pos ho]
    exact turned_twice (by omega) b
  · rw [if_neg ho, if_neg ho]
theorem turnS_len2 {b : List Int} {s o : Int} (h : turnB s o = true) : (turnS b s o).length = b.length := by
  unfold turnS
  rw [if_pos h]
  split
  · exact turned_len _ _
  · rfl
/-- what may be has a kind -/
structure MayF (y k : Int) (d : List Int) (o : Int) : Prop where
  y1 : 1 ≤ y
  y2 : y ≤ 12
  k1 : 1 ≤ k
  k2 : k ≤ 65536
  s1 : 1 ≤ (kindS y).1
  s8 : (kindS y).1 ≤ 8
  len : (d.length : Int) = k * (kindS y).1
  long : longS y k = d.length
  part : 0 < (kindS y).2.1
  turn : turnB (kindS y).2.1 o = true
  small : d.length ≤ 524288
theorem mayF {y k : Int} {d : List Int} {o : Int} (h : mayS y k d = true) (ho : o = 1 ∨ o = 2) : MayF y k d o := by
  unfold mayS at h
  simp only [Bool.and_eq_true, decide_eq_true_eq] at h
  obtain ⟨⟨⟨⟨h1, h2⟩, h3⟩, h4⟩, _⟩ := h
  have hb := kindS_size y
  have hy : 1 ≤ y ∧ y ≤ 12 := by
    refine Classical.byContradiction fun hn => h1 ?_
    by_cases h0 : y = 0
    · rw [h0]; decide
    · rw [kindS_out (by omega)]
  have hp : 0 < (kindS y).2.1 ∧ ((kindS y).2.1 = 1 ∨ (kindS y).2.1 = 2 ∨ (kindS y).2.1 = 4 ∨ (kindS y).2.1 = 8) := by
    rcases (by omega : y = 1 ∨ y = 2 ∨ y = 3 ∨ y = 4 ∨ y = 5 ∨ y = 6 ∨ y = 7 ∨ y = 8 ∨ y = 9 ∨ y = 10 ∨ y = 11 ∨ y = 12) with rfl | rfl | rfl | rfl | rfl | rfl | rfl | rfl | rfl | rfl | rfl | rfl <;> decide
  have hl : longS y k = d.length := by unfold longS; rw [if_neg (by omega), h4]
  have hL := longS_le y k
  refine ⟨hy.1, hy.2, h2, h3, by omega, hb.2, h4, hl, hp.1, ?_, by omega⟩
  unfold turnB mayB
  simp
  omega
theorem bytesV_eq {x : Tgs} {o : Int} (h : okT x = true) : bytesV x o = turnS x.2.2.2 (kindS x.2.1).2.1 o := by
  unfold bytesV
  unfold okT at h
  rw [if_pos h]
theorem bytesV_len {x : Tgs} {o : Int} (h : okT x = true) (ho : o = 1 ∨ o = 2) : (bytesV x o).length = x.2.2.2.length := by
  rw [bytesV_eq h, turnS_len2 (mayF h ho).turn]
theorem inlV_iff {x : Tgs} {o : Int} (h : okT x = true) (ho : o = 1 ∨ o = 2) (ht : tagB x.1 = true) : inlV x o = decide (outS x.2.1 x.2.2.1 = 0) := by
  have hm := mayF h ho
  have hlen : (1 : Int) ≤ x.2.2.2.length := by
    rw [hm.len]
    have h1 := hm.k1
    have h2 := hm.s1
    have := Int.mul_le_mul h1 h2 (by decide) (by omega)
    omega
  unfold inlV eofB outS
  rw [hm.long, bytesV_len h ho]
  have hp : putOk x.1 2 o = true := (putOk_iff ho).2 (by unfold tagB at ht; simp at ht; unfold topS; simp; omega)
  rw [hp, Bool.true_and]
  generalize x.2.2.2.length = q at hlen ⊢
  by_cases h4 : 4 < (q : Int)
  · rw [if_pos h4, decide_eq_false (show ¬ q ≤ 4 by omega), Bool.and_false, decide_eq_false (show ¬ (q : Int) = 0 by omega)]
  · rw [if_neg h4, decide_eq_true (show q ≠ 0 by omega), decide_eq_true (show q ≤ 4 by omega)]
    rfl
theorem outS_len {x : Tgs} {o : Int} (h : okT x = true) (ho : o = 1 ∨ o = 2) (hn : outS x.2.1 x.2.2.1 ≠ 0) : outS x.2.1 x.2.2.1 = (bytesV x o).length ∧ 4 < (bytesV x o).length := by
  have hm := mayF h ho
  rw [bytesV_len h ho]
  unfold outS at hn ⊢
  rw [hm.long] at hn ⊢
  split at hn
  · rename_i hc
    rw [if_pos hc]; omega
  · exact absurd rfl hn
theorem byt_turn2 {b : List Int} (h : Byt b) (s o : Int) : Byt (turnS b s o) := by
  unfold turnS
  split
  · split
    · intro x hx
      unfold turned at hx
      obtain ⟨i, _, rfl⟩ := List.mem_map.1 hx
      exact h.get _
    · exact h
  · intro x hx; cases hx
theorem byt_padB {b : List Int} (h : Byt b) : Byt (padB b) := h.append fun x hx => by
  have := (List.mem_replicate.1 hx).2
  omega
theorem padB_len4 {b : List Int} (h : b.length ≤ 4) : (padB b).length = 4 := by unfold padB; simp; omega
theorem slot_bound {x : Tgs} {o : Int} (hb : Byt x.2.2.2) (h : okT x = true) (ho : o = 1 ∨ o = 2) (hi : inlV x o = true) : 0 ≤ getV (padB (bytesV x o)) 0 4 o ∧ getV (padB (bytesV x o)) 0 4 o < 4294967296 := by
  have hl : (bytesV x o).length ≤ 4 := by
    unfold inlV eofB at hi
    simp at hi
    omega
  have hby : Byt (bytesV x o) := by rw [bytesV_eq h]; exact byt_turn2 hb _ _
  have := getV_bound (byt_padB hby) (p := 0) (s := 4) (o := o) (by decide) ho (by decide) (by rw [padB_len4 hl]; decide)
  rw [show topS 4 = 4294967296 by decide] at this
  exact this
/-- a value that is read where it stands is what it was -/
theorem ofS_back {x : Tgs} {o : Int} {b : List Int} (h : okT x = true) (ho : o = 1 ∨ o = 2) (hb : b.take (bytesV x o).length = bytesV x o) : ofS x.2.1 x.2.2.1 b o = some x.2.2.2 := by
  have hm := mayF h ho
  have hl := bytesV_len h ho
  have hbl : (bytesV x o).length ≤ b.length := by
    have := congrArg List.length hb
    rw [List.length_take] at this
    omega
  have e : (x.2.2.1 * (kindS x.2.1).1).toNat = (bytesV x o).length := by rw [← hm.len, hl]; simp
  have h1 := hm.s1
  have h2 := hm.k1
  have h3 := hm.k2
  have h4 := hm.len
  rw [ofS_yes (by omega), e, hb, bytesV_eq h, turnS_twice hm.turn hm.part, if_pos (show mayS x.2.1 x.2.2.1 x.2.2.2 = true from h)]
theorem inS_back {x : Tgs} {o : Int} (hb : Byt x.2.2.2) (h : okT x = true) (ho : o = 1 ∨ o = 2) (hi : inlV x o = true) (t : Int) : inS (t, x.2.1, x.2.2.1, getV (padB (bytesV x o)) 0 4 o) o = some (x.2.2.2, true) := by
  have hm := mayF h ho
  have hl : (bytesV x o).length ≤ 4 ∧ (bytesV x o).length ≠ 0 := by
    unfold inlV eofB at hi
    simp at hi
    refine ⟨by omega, fun e => hi.1.2 (List.length_eq_zero_iff.1 e)⟩
  have hby : Byt (bytesV x o) := by rw [bytesV_eq h]; exact byt_turn2 hb _ _
  have hbl := bytesV_len h ho
  have hp := put_getV (byt_padB hby) (p := 0) (s := 4) (o := o) (by decide) ho (by decide) (by rw [padB_len4 hl.1]; decide)
  have e4 : ((padB (bytesV x o)).drop (0 : Int).toNat).take (4 : Int).toNat = padB (bytesV x o) := by
    show ((padB (bytesV x o)).drop 0).take 4 = _
    rw [List.drop_zero, List.take_of_length_le (by rw [padB_len4 hl.1]; exact Nat.le_refl _)]
  rw [e4] at hp
  have hs := slot_bound hb h ho hi
  unfold inS
  simp only
  rw [hp, ofS_back h ho (by unfold padB; rw [List.take_left'] ; rfl)]
  have hk : putOk (getV (padB (bytesV x o)) 0 4 o) 4 o = true := (putOk_iff ho).2 (by rw [show topS 4 = 4294967296 by decide]; exact hs)
  have hil : inlB x.2.1 x.2.2.1 = true := by
    unfold inlB
    rw [hm.long]
    simp
    omega
  rw [hk, hil, if_pos (show (true && true) = true from rfl), Option.map_some]
  congr 2
  rw [← hbl]
  unfold padB zerosB
  rw [List.drop_left']
  · simp
  · rfl
end Go.Proofs.YtilennmeiaehnaaGreat
