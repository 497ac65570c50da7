/- Chapter 21: bytes with others in their place; where a spot is: the document. | Bytes that are laid over bytes: plain. | Numbers and values as bytes, and back: plain. -/
import Derived.Test.YtilennmeiaehnaaGreatCw15
import Derived.Test.YtilennmeiaehnaaGreatCw14
import Derived.Test.YtilennmeiaehnaaGreatCw00
namespace Go.Proofs.YtilennmeiaehnaaGreat
open Go.RowKit Tt
set_option linter.unusedVariables false
set_option linter.unusedSimpArgs false

set_option maxHeartbeats 1000000 in
theorem over_any (a : Option Addr) (n c : Nat) (z : List Int) (i : Nat) (b : Option Addr) (m d : Nat) (l : List Int) (w : World) (hz : Sl w a n c 1 (ints .u8 z)) (hl : Sl w b m d 1 (ints .u8 l)) (hn : n ≤ 1000000000000) (him : i + m ≤ n) :
    Calls Tryz.prog 44 #[.slice a n c, .int .i64 (i : Int), .slice b m d] w fun e w' => ∃ a' c', e = .returned (.slice a' n c') ∧ w'.ownsRow w.heap.size 5 1 (.slice a' n c') n (ints .u8 (splice z i l)) ∧ Below w.heap.size w w' := by
  obtain ⟨i0, hi, hz0, hz1, hz2⟩ := info_parts infoB
  have hzl := hz.ilen
  have hll := hl.ilen
  have hle := hz.le
  have hw1 : IntKind.i64.wrap ((i : Int) + m) = i + m := by rw [IntKind.wrap_i64]; omega
  obtain ⟨a1, hr1, hs1, _⟩ := sub_h (P := Tryz.prog) (T := 30) Tryz.underlying30 sizeB hz (i : Int) (by omega) (by omega) i rfl
  obtain ⟨a3, hr3, hs3, _⟩ := sub_l (P := Tryz.prog) (T := 30) Tryz.underlying30 sizeB hz ((i : Int) + m) (by omega) (by omega) (n - (i + m)) (c - (i + m)) (by omega) (by omega)
  have e1 : (ints .u8 z).take (i * 1) = ints .u8 (z.take i) := by rw [Nat.mul_one]; simp [ints]
  have e3 : (ints .u8 z).drop (((i : Int) + m).toNat * 1) = ints .u8 (z.drop (i + l.length)) := by rw [Nat.mul_one, hll, show ((i : Int) + m).toNat = i + m by omega]; simp [ints]
  rw [e1] at hs1
  rw [e3] at hs3
  have hs1' := Lib.hid hs1
  have hs3' := Lib.hid hs3
  have hl' := Lib.hid hl
  have hz' := Lib.hid hz
  have hzl' := Lib.hid hzl
  have hll' := Lib.hid hll
  clear hs1 hs3 hl hz hzl hll
  go_enter Tryz.func44, Tryz.ntmps44
  go_upto_region 2 with (at_builtin; refine wpList_app rfl _ _ 30 rfl w.heap.size 5 i0 _ 1 1 Tryz.underlying30 hi hz0 hz1 hz2 rfl (by decide) _ 0 [] rfl (own_new w w.heap.size 5 1 0 #[] (Nat.le_refl _) (by unfold maxLen; omega) rfl) a1 i c _ rfl (sl_alloc hs1'.out _) ints_one (by omega) (by decide) (by simp) ?_; intro b1 d1 w1 ob1 hb1 hg1; rw [Nat.zero_add, List.nil_append] at ob1; have Ob1 := Lib.hid ob1; have Hb1 := Lib.hid (((Below.refl w.heap.size w).alloc (Nat.le_refl _) (.cells #[] 5)).trans hb1); clear ob1 hb1 hg1)
  go_upto_region 3 with (at_builtin; refine wpList_app rfl _ _ 30 rfl w.heap.size 5 i0 _ 1 1 Tryz.underlying30 hi hz0 hz1 hz2 rfl (by decide) _ i _ rfl Ob1.out b m d _ rfl (hl'.out.mono Hb1.out) ints_one (by omega) (by decide) Hb1.out.size ?_; intro b2 d2 w2 ob2 hb2 hg2; have Ob2 := Lib.hid ob2; have Hb2 := Lib.hid (Hb1.out.trans hb2); clear ob2 hb2 hg2)
  go_wp2_with (at_builtin; refine wpList_app rfl _ _ 30 rfl w.heap.size 5 i0 _ 1 1 Tryz.underlying30 hi hz0 hz1 hz2 rfl (by decide) _ (i + m) _ rfl Ob2.out a3 (n - (i + m)) (c - (i + m)) _ rfl (hs3'.out.mono Hb2.out) ints_one (by omega) (by decide) Hb2.out.size ?_; intro b4 d4 w4 ob4 hb4 hg4; rw [show i + m + (n - (i + m)) = n by omega] at ob4; have Ob4 := Lib.hid ob4; have Hb4 := Lib.hid (Hb2.out.trans hb4); clear ob4 hb4 hg4)
  go_ret
  refine ⟨b4, d4, ret_eq (by congr 1), ?_, Hb4.out⟩
  have := Ob4.out
  rw [← ints_append, ← ints_append, List.append_assoc] at this
  exact this
theorem number_any (a : Option Addr) (n c : Nat) (z : List Int) (i : Nat) (v s o : Int) (w : World) (hz : Sl w a n c 1 (ints .u8 z)) (hn : n ≤ 1000000000000) (hk : putOk v s o = true) (him : i + s.toNat ≤ n) :
    Calls Tryz.prog 45 #[.slice a n c, .int .i64 (i : Int), .int .i64 v, .int .i64 s, .int .i64 o] w fun e w' => ∃ a' c', e = .returned (.slice a' n c') ∧ w'.ownsRow w.heap.size 5 1 (.slice a' n c') n (ints .u8 (splice z i (putS v s o))) ∧ Below w.heap.size w w' := by
  have hP := r1put_any v s o w
  rw [hk] at hP
  have hpl := putS_length hk
  obtain ⟨l, hl⟩ : ∃ l, putS v s o = l := ⟨_, rfl⟩
  rw [hl] at hP hpl ⊢
  have hP' := Lib.hid hP
  have hk' := Lib.hid hk
  have hl' := Lib.hid hl
  have hz' := Lib.hid hz
  have hpl' := Lib.hid hpl
  clear hP hk hl hz hpl
  go_enter Tryz.func45, Tryz.ntmps45
  go_wp2_with fail
  refine hP'.out.mono ?_
  rintro e w2 ⟨a2, m2, c2, rfl, ho2, hb2⟩
  have hs2 := (Sl.of_own ho2).1
  have hm2 : m2 = s.toNat := by rw [← hpl'.out]; exact hs2.ilen.symm
  subst hm2
  have ho2' := Lib.hid ho2
  have hs2' := Lib.hid hs2
  have hb2' := Lib.hid hb2
  clear ho2 hs2 hb2
  go_wp2_with fail
  refine (over_any a n c z i a2 _ c2 l w2 (hz'.out.mono hb2'.out) hs2'.out hn him).mono ?_
  rintro e w3 ⟨a3, c3, rfl, ho3, hb3⟩
  have ho4 := own_mono ho3 hb2'.out.size
  have hb4 := hb2'.out.trans (hb3.mono hb2'.out.size)
  have ho3' := Lib.hid ho3
  have ho4' := Lib.hid ho4
  have hb3' := Lib.hid hb3
  have hb4' := Lib.hid hb4
  clear ho3 ho4 hb3 hb4
  go_wp2_with fail
  go_ret
  exact ⟨a3, c3, rfl, ho4'.out, hb4'.out⟩
theorem find_at {α : Type} {p : α → Bool} {l : List α} {k : Nat} (hk : k < l.length) (h : p l[k] = true) (hn : ∀ i (hi : i < l.length), i < k → p l[i] = false) : l.find? p = some l[k] := by
  rw [List.find?_eq_some_iff_getElem]
  exact ⟨h, k, hk, rfl, fun j hj => by rw [hn j (by omega) hj]; rfl⟩
theorem find_no {α : Type} {p : α → Bool} {l : List α} (hn : ∀ i (hi : i < l.length), p l[i] = false) : l.find? p = none := by
  rw [List.find?_eq_none]
  intro x hx
  obtain ⟨i, hi, rfl⟩ := List.getElem_of_mem hx
  rw [hn i hi]; decide
set_option maxHeartbeats 2000000 in
theorem rat_any (a : Option Addr) (n c : Nat) (ls : List Spt) (what no tag : Int) (w : World) (hs : Sl w a n c 5 (fl spC ls)) :
    Calls Tryz.prog 47 #[.slice a n c, .int .i64 what, .int .i64 no, .int .i64 tag] w fun e w' => e = .returned (.int .i64 (atS ls what no tag)) ∧ Below w.heap.size w w' := by
  have hl := hs.flen spC_len (by decide)
  have hm := hs.max
  have hle := hs.le
  have hs' := Lib.hid hs
  have hl' := Lib.hid hl
  clear hs hl
  go_enter Tryz.func47, Tryz.ntmps47
  go_wp2_with fail
  go_loopw [9] (fun iv wr => ∃ k : Nat, k ≤ n ∧ iv = .int .i64 k ∧ Hid (∀ i (hi : i < ls.length), i < k → atP what no tag ls[i] = false) ∧ Hid (Below w.heap.size w wr)) (fun iv _ => n - (intOf iv).toNat)
  case atStart => exact ⟨0, by omega, rfl, Lib.hid (fun j _ hj => by omega), Lib.hid (Below.refl _ _)⟩
  case round =>
    obtain ⟨k, hk, rfl, hall, hb⟩ := hrel
    by_cases hlt : k < n
    · have hww : IntKind.i64.wrap ((k : Int) + 1) = k + 1 := by rw [IntKind.wrap_i64]; omega
      have hil : (k : Int) < (n : Int) := by omega
      have hkl : k < ls.length := by rw [hl'.out]; exact hlt
      obtain ⟨b, o, rfl, hbb, f⟩ := (hs'.out.mono hb.out).elem spC_len (by decide) (0, 0, 0, 0, 0) hlt
      rw [getD_el hkl] at f
      have f0 := f 0 _ rfl
      have f1 := f 1 _ rfl
      have f2 := f 2 _ rfl
      have f3 := f 3 _ rfl
      clear f
      rw [Nat.add_zero] at f0
      have hp : atP what no tag ls[k] = (ls[k].1 == what && ls[k].2.1 == no && ls[k].2.2.1 == tag) := rfl
      have hfd : atP what no tag ls[k] = true → atS ls what no tag = ls[k].2.2.2.1 := fun h => by
        unfold atS
        rw [find_at hkl h (fun i hi h2 => hall.out i hi h2)]
      have hnx : atP what no tag ls[k] = false → ∀ i (hi : i < ls.length), i < k + 1 → atP what no tag ls[i] = false := fun h i hi h2 => by
        rcases Nat.lt_or_ge i k with h1 | h1
        · exact hall.out i hi h1
        · obtain rfl : i = k := by omega
          exact h
      generalize ls[k] = x at *
      obtain ⟨x0, x1, x2, x3, x4⟩ := x
      simp only at hp f0 f1 f2 f3 hfd
      obtain ⟨b0, hb0⟩ : ∃ b, (x0 == what) = b := ⟨_, rfl⟩
      obtain ⟨b1, hbb⟩ : ∃ b, (x1 == no) = b := ⟨_, rfl⟩
      obtain ⟨b2, hb2⟩ : ∃ b, (x2 == tag) = b := ⟨_, rfl⟩
      rw [hb0, hbb, hb2] at hp
      cases b0
      · have hn := hnx hp
        clear hfd hnx hp
        have hn' := Lib.hid hn
        clear hn
        go_wp2_with fail
        go_roundw
        case rel => exact ⟨k + 1, by omega, by go_num, hn', hb⟩
        case measure => simp [intOf]; omega
      · cases b1
        · have hn := hnx hp
          clear hfd hnx hp
          have hn' := Lib.hid hn
          clear hn
          go_wp2_with fail
          go_roundw
          case rel => exact ⟨k + 1, by omega, by go_num, hn', hb⟩
          case measure => simp [intOf]; omega
        · cases b2
          · have hn := hnx hp
            clear hfd hnx hp
            have hn' := Lib.hid hn
            clear hn
            go_wp2_with fail
            go_roundw
            case rel => exact ⟨k + 1, by omega, by go_num, hn', hb⟩
            case measure => simp [intOf]; omega
          · have hf := hfd hp
            clear hfd hnx hp
            have hf' := Lib.hid hf
            clear hf
            go_wp2_with fail
            go_ret
            exact ⟨by rw [hf'.out]; rfl, hb.out⟩
    · obtain rfl : k = n := by omega
      go_wp2_with fail
      go_ret
      refine ⟨?_, hb.out⟩
      unfold atS
      rw [find_no (fun i hi => hall.out i hi (by rw [hl'.out] at hi; exact hi))]
      rfl
end Go.Proofs.YtilennmeiaehnaaGreat

namespace Go.Proofs.YtilennmeiaehnaaGreat
open Go.RowKit Tt
set_option linter.unusedVariables false
set_option linter.unusedSimpArgs false

/-- two patches do not meet -/
def Dj (p q : Pt) : Prop := p.1 + p.2.length ≤ q.1 ∨ q.1 + q.2.length ≤ p.1
theorem Dj.symm {p q : Pt} (h : Dj p q) : Dj q p := Or.symm h
theorem splice_getD {b c : List Int} {i : Nat} (h : i + c.length ≤ b.length) (k : Nat) : (splice b i c).getD k 0 = if i ≤ k ∧ k < i + c.length then c.getD (k - i) 0 else b.getD k 0 := by
  unfold splice
  simp only [List.getD_eq_getElem?_getD, List.getElem?_append, List.getElem?_take, List.getElem?_drop, List.length_take]
  by_cases h1 : k < i
  · rw [if_pos (by omega), if_pos h1, if_neg (by omega)]
  · rw [if_neg (by omega)]
    by_cases h2 : k < i + c.length
    · rw [if_pos (by omega), if_pos (by omega), Nat.min_eq_left (by omega)]
    · rw [if_neg (by omega), if_neg (by omega)]
      congr 2
      omega
theorem list_ext0 {a b : List Int} (hl : a.length = b.length) (h : ∀ k, k < a.length → a.getD k 0 = b.getD k 0) : a = b := by
  refine List.ext_getElem hl fun k h1 h2 => ?_
  have := h k h1
  rwa [List.getD_eq_getElem?_getD, List.getD_eq_getElem?_getD, List.getElem?_eq_getElem h1, List.getElem?_eq_getElem h2] at this
theorem splice_comm {b : List Int} {p q : Pt} (h : Dj p q) (hp : p.1 + p.2.length ≤ b.length) (hq : q.1 + q.2.length ≤ b.length) : splice (splice b p.1 p.2) q.1 q.2 = splice (splice b q.1 q.2) p.1 p.2 := by
  have e1 := splice_len hp
  have e2 := splice_len hq
  refine list_ext0 ((splice_len (by omega)).trans (e1.trans (e2.symm.trans (splice_len (by omega)).symm))) fun k hk => ?_
  rw [splice_getD (by omega), splice_getD (by omega), splice_getD (by omega), splice_getD (by omega)]
  rcases h with h | h
  · by_cases h1 : q.1 ≤ k ∧ k < q.1 + q.2.length
    · rw [if_pos h1, if_neg (by omega), if_pos h1]
    · rw [if_neg h1]; by_cases h2 : p.1 ≤ k ∧ k < p.1 + p.2.length
      · rw [if_pos h2, if_pos h2]
      · rw [if_neg h2, if_neg h2, if_neg h1]
  · by_cases h1 : q.1 ≤ k ∧ k < q.1 + q.2.length
    · rw [if_pos h1, if_neg (by omega), if_pos h1]
    · rw [if_neg h1]; by_cases h2 : p.1 ≤ k ∧ k < p.1 + p.2.length
      · rw [if_pos h2, if_pos h2]
      · rw [if_neg h2, if_neg h2, if_neg h1]
def InB (n : Nat) (ps : List Pt) : Prop := ∀ p ∈ ps, p.1 + p.2.length ≤ n
theorem apP_cons (p : Pt) (ps : List Pt) (b : List Int) : apP (p :: ps) b = apP ps (splice b p.1 p.2) := rfl
theorem apP_perm {ps qs : List Pt} (hpm : ps.Perm qs) : ∀ (b : List Int), InB b.length ps → ps.Pairwise Dj → apP ps b = apP qs b := by
  induction hpm with
  | nil => intros; rfl
  | cons p _ ih =>
    intro b h hd
    have h1 := splice_len (h p (List.mem_cons_self ..))
    rw [apP_cons, apP_cons]
    exact ih _ (by rw [h1]; exact fun r hr => h r (List.mem_cons_of_mem _ hr)) (List.pairwise_cons.1 hd).2
  | swap p q l =>
    intro b h hd
    have hq := h q (List.mem_cons_self ..)
    have hp := h p (List.mem_cons_of_mem _ (List.mem_cons_self ..))
    have hdj := (List.pairwise_cons.1 hd).1 p (List.mem_cons_self ..)
    rw [apP_cons, apP_cons, apP_cons, apP_cons, splice_comm hdj hq hp]
  | trans h1 _ ih1 ih2 =>
    intro b h hd
    rw [ih1 b h hd]
    exact ih2 b (fun r hr => h r (h1.mem_iff.2 hr)) ((h1.pairwise_iff (fun {_ _} h => Dj.symm h)).1 hd)
theorem flatMap_perm {α β : Type} {f g : α → List β} : ∀ (l : List α), (∀ x ∈ l, (f x).Perm (g x)) → (l.flatMap f).Perm (l.flatMap g)
  | [], _ => List.Perm.refl _
  | x :: l, h => by
    rw [List.flatMap_cons, List.flatMap_cons]
    exact (h x (List.mem_cons_self ..)).append (flatMap_perm l fun y hy => h y (List.mem_cons_of_mem _ hy))

/-- what is laid, behind an end: what, no, tag, long -/
abbrev Itm := Int × Int × Int × Int
def pushI (l : List Spt) (x : Itm) : List Spt := addS l x.1 x.2.1 x.2.2.1 x.2.2.2
def placed : Int → List Itm → List Spt
  | _, [] => []
  | e, x :: r => (x.1, x.2.1, x.2.2.1, evenS e, x.2.2.2) :: placed (evenS e + x.2.2.2) r
def endP : Int → List Itm → Int
  | e, [] => e
  | e, x :: r => endP (evenS e + x.2.2.2) r
theorem endS_push (l : List Spt) (x : Itm) : endS (pushI l x) = evenS (endS l) + x.2.2.2 := endS_add ..
theorem push_all : ∀ (is : List Itm) (l : List Spt), is.foldl pushI l = l ++ placed (endS l) is ∧ endS (is.foldl pushI l) = endP (endS l) is
  | [], l => by simp [placed, endP]
  | x :: is, l => by
    have ih := push_all is (pushI l x)
    rw [List.foldl_cons, ih.2, ih.1, endS_push]
    refine ⟨?_, rfl⟩
    unfold pushI addS
    rw [List.append_assoc]
    rfl
theorem endP_le : ∀ (is : List Itm) (e : Int), 0 ≤ e → (∀ x ∈ is, 0 ≤ x.2.2.2) → e ≤ endP e is
  | [], e, _, _ => Int.le_refl _
  | x :: is, e, h, hx => by
    have h1 := evenS_le h
    have h2 := hx x (List.mem_cons_self ..)
    have := endP_le is (evenS e + x.2.2.2) (by omega) fun y hy => hx y (List.mem_cons_of_mem _ hy)
    show e ≤ endP (evenS e + x.2.2.2) is
    omega
theorem placed_in : ∀ (is : List Itm) (e : Int), 0 ≤ e → (∀ x ∈ is, 0 ≤ x.2.2.2) → ∀ s ∈ placed e is, e ≤ s.2.2.2.1 ∧ s.2.2.2.1 % 2 = 0 ∧ 0 ≤ s.2.2.2.2 ∧ s.2.2.2.1 + s.2.2.2.2 ≤ endP e is
  | [], _, _, _, s, hs => by cases hs
  | x :: is, e, h, hx, s, hs => by
    have h1 := evenS_le h
    have h2 := hx x (List.mem_cons_self ..)
    have hx' := fun y hy => hx y (List.mem_cons_of_mem _ hy)
    rcases List.mem_cons.1 hs with rfl | hs
    · have := endP_le is (evenS e + x.2.2.2) (by omega) hx'
      refine ⟨h1.1, ?_, h2, this⟩
      show evenS e % 2 = 0
      unfold evenS; omega
    · have := placed_in is (evenS e + x.2.2.2) (by omega) hx' s hs
      exact ⟨by omega, this.2⟩
/-- one spot lies ahead of another one -/
def Ahead (s t : Spt) : Prop := s.2.2.2.1 + s.2.2.2.2 ≤ t.2.2.2.1
theorem placed_ahead : ∀ (is : List Itm) (e : Int), 0 ≤ e → (∀ x ∈ is, 0 ≤ x.2.2.2) → (placed e is).Pairwise Ahead
  | [], _, _, _ => List.Pairwise.nil
  | x :: is, e, h, hx => by
    have h1 := evenS_le h
    have h2 := hx x (List.mem_cons_self ..)
    have hx' := fun y hy => hx y (List.mem_cons_of_mem _ hy)
    exact List.Pairwise.cons (fun s hs => (placed_in is _ (by omega) hx' s hs).1) (placed_ahead is _ (by omega) hx')
def keyI (x : Itm) : Int × Int × Int := (x.1, x.2.1, x.2.2.1)
def keyS (x : Spt) : Int × Int × Int := (x.1, x.2.1, x.2.2.1)
theorem placed_keys : ∀ (is : List Itm) (e : Int), (placed e is).map keyS = is.map keyI
  | [], _ => rfl
  | x :: is, e => by
    show keyS _ :: (placed _ is).map keyS = keyI x :: is.map keyI
    rw [placed_keys is]; rfl
theorem placed_mem : ∀ (is : List Itm) (e : Int) (x : Itm), x ∈ is → ∃ s ∈ placed e is, keyS s = keyI x ∧ s.2.2.2.2 = x.2.2.2
  | [], _, _, h => by cases h
  | y :: is, e, x, h => by
    rcases List.mem_cons.1 h with rfl | h
    · exact ⟨_, List.mem_cons_self .., rfl, rfl⟩
    · obtain ⟨s, h1, h2⟩ := placed_mem is (evenS e + y.2.2.2) x h
      exact ⟨s, List.mem_cons_of_mem _ h1, h2⟩
theorem atP_key {a b c : Int} {s : Spt} : atP a b c s = true ↔ keyS s = (a, b, c) := by
  unfold atP keyS
  simp [Prod.ext_iff, and_assoc]
theorem atS_key {l : List Spt} (hd : (l.map keyS).Nodup) {s : Spt} (hs : s ∈ l) : l.any (atP s.1 s.2.1 s.2.2.1) = true ∧ atS l s.1 s.2.1 s.2.2.1 = s.2.2.2.1 := by
  induction l with
  | nil => cases hs
  | cons t l ih =>
    obtain ⟨h1, h2⟩ := List.nodup_cons.1 hd
    rcases List.mem_cons.1 hs with rfl | hs
    · have : atP s.1 s.2.1 s.2.2.1 s = true := atP_key.2 rfl
      unfold atS
      simp [List.find?, this]
    · obtain ⟨i1, i2⟩ := ih h2 hs
      have hne : atP s.1 s.2.1 s.2.2.1 t = false := by
        cases hh : atP s.1 s.2.1 s.2.2.1 t with
        | false => rfl
        | true => exact absurd (List.mem_map.2 ⟨s, hs, (atP_key.1 hh).symm⟩) h1
      unfold atS at i2 ⊢
      rw [List.any_cons, hne, List.find?, hne]
      exact ⟨by simpa using i1, i2⟩
/-- a patch lies in a spot of a kind -/
def InQ (l : List Spt) (Q : Spt → Prop) (p : Pt) : Prop := ∃ s ∈ l, Q s ∧ s.2.2.2.1 ≤ p.1 ∧ (p.1 : Int) + p.2.length ≤ s.2.2.2.1 + s.2.2.2.2
theorem ahead_two {l : List Spt} (h : l.Pairwise Ahead) {s t : Spt} (hs : s ∈ l) (ht : t ∈ l) (hn : s ≠ t) : Ahead s t ∨ Ahead t s := by
  induction l with
  | nil => cases hs
  | cons u l ih =>
    obtain ⟨h1, h2⟩ := List.pairwise_cons.1 h
    rcases List.mem_cons.1 hs with e1 | hs2 <;> rcases List.mem_cons.1 ht with e2 | ht2
    · exact absurd (e1.trans e2.symm) hn
    · exact .inl (e1 ▸ h1 _ ht2)
    · exact .inr (e2 ▸ h1 _ hs2)
    · exact ih h2 hs2 ht2
theorem dj_of {l : List Spt} (h : l.Pairwise Ahead) {Q R : Spt → Prop} {p q : Pt} (hp : InQ l Q p) (hq : InQ l R q) (hx : ∀ s, Q s → R s → False) : Dj p q := by
  obtain ⟨s, hs, h1, h2, h3⟩ := hp
  obtain ⟨t, ht, h4, h5, h6⟩ := hq
  have hn : s ≠ t := fun e => hx s h1 (e ▸ h4)
  unfold Dj
  rcases ahead_two h hs ht hn with h7 | h7 <;> unfold Ahead at h7 <;> omega
theorem InQ.mono {l : List Spt} {Q R : Spt → Prop} {p : Pt} (h : InQ l Q p) (hx : ∀ s, Q s → R s) : InQ l R p := by
  obtain ⟨s, h1, h2, h3⟩ := h
  exact ⟨s, h1, hx s h2, h3⟩
end Go.Proofs.YtilennmeiaehnaaGreat

namespace Go.Proofs.YtilennmeiaehnaaGreat
open Go.RowKit Tt
set_option linter.unusedVariables false
set_option linter.unusedSimpArgs false

theorem pow_topS {s : Int} (h : s = 1 ∨ s = 2 ∨ s = 4) : topS s = 256 ^ s.toNat := by
  rcases h with rfl | rfl | rfl <;> decide
theorem putOk_iff {n s o : Int} (ho : o = 1 ∨ o = 2) : putOk n s o = true ↔ 0 ≤ n ∧ n < topS s := by
  unfold putOk
  simp
  omega
theorem putS_eq {n s o : Int} (h : putOk n s o = true) : putS n s o = if o = 1 then leb s.toNat n else (leb s.toNat n).reverse := by
  unfold putS; rw [if_pos h]
theorem putS_len2 {n s o : Int} (h : putOk n s o = true) : (putS n s o).length = s.toNat := by
  rw [putS_eq h]; split <;> simp [leb_len]
theorem getV_in {z : List Int} {p s o : Int} (hs : s = 1 ∨ s = 2 ∨ s = 4) (ho : o = 1 ∨ o = 2) (h0 : 0 ≤ p) (h1 : p + s ≤ z.length) : getV z p s o = be (getL z p.toNat s.toNat o) := by
  unfold getV
  rw [if_pos (getB_in hs ho h0 h1)]
theorem getV_bound {z : List Int} (hb : Byt z) {p s o : Int} (hs : s = 1 ∨ s = 2 ∨ s = 4) (ho : o = 1 ∨ o = 2) (h0 : 0 ≤ p) (h1 : p + s ≤ z.length) : 0 ≤ getV z p s o ∧ getV z p s o < topS s := by
  rw [getV_in hs ho h0 h1]
  have hl : (getL z p.toNat s.toNat o).length = s.toNat := getL_len (by omega)
  have := be_bound (getL_byt hb p.toNat s.toNat o) (Nat.le_refl _)
  rw [List.take_of_length_le (Nat.le_refl _), hl] at this
  rw [pow_topS hs]
  exact this
theorem turnS_len2 {b : List Int} {s o : Int} (h : turnB s o = true) : (turnS b s o).length = b.length := by
  unfold turnS
  rw [if_pos h]
  split
  · exact turned_len _ _
  · rfl
/-- what may be has a kind -/
structure MayF (y k : Int) (d : List Int) (o : Int) : Prop where
  y1 : 1 ≤ y
  y2 : y ≤ 12
  k1 : 1 ≤ k
  k2 : k ≤ 65536
  s1 : 1 ≤ (kindS y).1
  s8 : (kindS y).1 ≤ 8
  len : (d.length : Int) = k * (kindS y).1
  long : longS y k = d.length
  part : 0 < (kindS y).2.1
  turn : turnB (kindS y).2.1 o = true
  small : d.length ≤ 524288
theorem mayF {y k : Int} {d : List Int} {o : Int} (h : mayS y k d = true) (ho : o = 1 ∨ o = 2) : MayF y k d o := by
  unfold mayS at h
  simp only [Bool.and_eq_true, decide_eq_true_eq] at h
  obtain ⟨⟨⟨⟨h1, h2⟩, h3⟩, h4⟩, _⟩ := h
  have hb := kindS_size y
  have hy : 1 ≤ y ∧ y ≤ 12 := by
    refine Classical.byContradiction fun hn => h1 ?_
    by_cases h0 : y = 0
    · rw [h0]; decide
    · rw [kindS_out (by omega)]
  have hp : 0 < (kindS y).2.1 ∧ ((kindS y).2.1 = 1 ∨ (kindS y).2.1 = 2 ∨ (kindS y).2.1 = 4 ∨ (kindS y).2.1 = 8) := by
    rcases (by omega : y = 1 ∨ y = 2 ∨ y = 3 ∨ y = 4 ∨ y = 5 ∨ y = 6 ∨ y = 7 ∨ y = 8 ∨ y = 9 ∨ y = 10 ∨ y = 11 ∨ y = 12) with rfl | rfl | rfl | rfl | rfl | rfl | rfl | rfl | rfl | rfl | rfl | rfl <;> decide
  have hl : longS y k = d.length := by unfold longS; rw [if_neg (by omega), h4]
  have hL := longS_le y k
  refine ⟨hy.1, hy.2, h2, h3, by omega, hb.2, h4, hl, hp.1, ?_, by omega⟩
  unfold turnB mayB
  simp
  omega
theorem bytesV_eq {x : Tgs} {o : Int} (h : okT x = true) : bytesV x o = turnS x.2.2.2 (kindS x.2.1).2.1 o := by
  unfold bytesV
  unfold okT at h
  rw [if_pos h]
theorem bytesV_len {x : Tgs} {o : Int} (h : okT x = true) (ho : o = 1 ∨ o = 2) : (bytesV x o).length = x.2.2.2.length := by
  rw [bytesV_eq h, turnS_len2 (mayF h ho).turn]
theorem inlV_iff {x : Tgs} {o : Int} (h : okT x = true) (ho : o = 1 ∨ o = 2) (ht : tagB x.1 = true) : inlV x o = decide (outS x.2.1 x.2.2.1 = 0) := by
  have hm := mayF h ho
  have hlen : (1 : Int) ≤ x.2.2.2.length := by
    rw [hm.len]
    have h1 := hm.k1
    have h2 := hm.s1
    have := Int.mul_le_mul h1 h2 (by decide) (by omega)
    omega
  unfold inlV eofB outS
  rw [hm.long, bytesV_len h ho]
  have hp : putOk x.1 2 o = true := (putOk_iff ho).2 (by unfold tagB at ht; simp at ht; unfold topS; simp; omega)
  rw [hp, Bool.true_and]
  generalize x.2.2.2.length = q at hlen ⊢
  by_cases h4 : 4 < (q : Int)
  · rw [if_pos h4, decide_eq_false (show ¬ q ≤ 4 by omega), Bool.and_false, decide_eq_false (show ¬ (q : Int) = 0 by omega)]
  · rw [if_neg h4, decide_eq_true (show q ≠ 0 by omega), decide_eq_true (show q ≤ 4 by omega)]
    rfl
theorem outS_len {x : Tgs} {o : Int} (h : okT x = true) (ho : o = 1 ∨ o = 2) (hn : outS x.2.1 x.2.2.1 ≠ 0) : outS x.2.1 x.2.2.1 = (bytesV x o).length ∧ 4 < (bytesV x o).length := by
  have hm := mayF h ho
  rw [bytesV_len h ho]
  unfold outS at hn ⊢
  rw [hm.long] at hn ⊢
  split at hn
  · rename_i hc
    rw [if_pos hc]; omega
  · exact absurd rfl hn
theorem byt_turn2 {b : List Int} (h : Byt b) (s o : Int) : Byt (turnS b s o) := by
  unfold turnS
  split
  · split
    · intro x hx
      unfold turned at hx
      obtain ⟨i, _, rfl⟩ := List.mem_map.1 hx
      exact h.get _
    · exact h
  · intro x hx; cases hx
theorem byt_padB {b : List Int} (h : Byt b) : Byt (padB b) := h.append fun x hx => by
  have := (List.mem_replicate.1 hx).2
  omega
theorem padB_len4 {b : List Int} (h : b.length ≤ 4) : (padB b).length = 4 := by unfold padB; simp; omega
theorem slot_bound {x : Tgs} {o : Int} (hb : Byt x.2.2.2) (h : okT x = true) (ho : o = 1 ∨ o = 2) (hi : inlV x o = true) : 0 ≤ getV (padB (bytesV x o)) 0 4 o ∧ getV (padB (bytesV x o)) 0 4 o < 4294967296 := by
  have hl : (bytesV x o).length ≤ 4 := by
    unfold inlV eofB at hi
    simp at hi
    omega
  have hby : Byt (bytesV x o) := by rw [bytesV_eq h]; exact byt_turn2 hb _ _
  have := getV_bound (byt_padB hby) (p := 0) (s := 4) (o := o) (by decide) ho (by decide) (by rw [padB_len4 hl]; decide)
  rw [show topS 4 = 4294967296 by decide] at this
  exact this
end Go.Proofs.YtilennmeiaehnaaGreat
