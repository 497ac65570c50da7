/- Chapter 22: what any bytes are read as has the shapes, and is not long. Plain. | Chapter 22: the plain law of WalkAgain. -/
import Derived.Test.YtilennmeiaehnaaGreatCa28
import Derived.Test.YtilennmeiaehnaaGreatCa31
import Derived.Test.YtilennmeiaehnaaGreatCa36
namespace Go.Proofs.YtilennmeiaehnaaGreat
open Go.RowKit Tt
set_option linter.unusedVariables false
set_option linter.unusedSimpArgs false

theorem count3 (s : Shp) : ∀ l : List Ent, l.length = (l.filter fun x => !ownP s x.1).length + (l.filter fun x => linkP s x.1).length + (l.filter fun x => !linkP s x.1 && pairP s x.1).length
  | [] => rfl
  | x :: l => by
    have ih := count3 s l; have ho : ownP s x.1 = (linkP s x.1 || pairP s x.1) := rfl
    cases h1 : linkP s x.1 with
    | true =>
      rw [h1] at ho; rw [List.filter_cons_of_neg (by simp [ho]), List.filter_cons_of_pos (p := fun y : Ent => linkP s y.1) h1, List.filter_cons_of_neg (by simp [h1]), List.length_cons, List.length_cons]
      omega
    | false =>
      cases h2 : pairP s x.1 with
      | true =>
        rw [h1, h2] at ho; rw [List.filter_cons_of_neg (by simp [ho]), List.filter_cons_of_neg (by simp [h1]), List.filter_cons_of_pos (by simp [h1, h2]), List.length_cons, List.length_cons]
        omega
      | false =>
        rw [h1, h2] at ho; rw [List.filter_cons_of_pos (by simp [ho]), List.filter_cons_of_neg (by simp [h1]), List.filter_cons_of_neg (by simp [h2]), List.length_cons, List.length_cons]
        omega
theorem blobS_item {z : List Int} (hb : Byt z) {sh : Shp} {l : List Ent} {no : Int} {s : St} {b : List Int} {s' : St} (h : blobS z sh l no s = .ok (b, s')) :
    s'.spots.map itmOf = s.spots.map itmOf ++ itmB no b ∧ s'.no = s.no ∧ Byt b ∧ b.length ≤ z.length ∧ (0 < b.length ↔ (l.filter (fun x => !linkP sh x.1 && pairP sh x.1)).length = 2) := by
  unfold blobS at h
  split at h
  · rename_i x y heq
    split at h
    · rename_i h0
      cases ht : takeS z.length (4, no, 0, x.2.2.2, y.2.2.2) s with
      | error e => rw [ht] at h; cases h
      | ok s1 =>
        rw [ht] at h; injection h with h; injection h with h1 h2; obtain ⟨hf, _, hs1⟩ := takeS_ok ht; have hf := fit_of hf; simp only at hf
        have hlen : (((z.drop x.2.2.2.toNat).take y.2.2.2.toNat).length : Int) = y.2.2.2 := by
          rw [List.length_take, List.length_drop]; omega
        rw [h1] at hlen; subst h2; rw [hs1]; refine ⟨?_, rfl, ?_, by omega, ?_⟩
        · unfold itmB
          rw [if_pos (by omega), List.map_append, hlen]
          rfl
        · rw [← h1]
          exact fun w hw => hb w (List.mem_of_mem_drop (List.mem_of_mem_take hw))
        · rw [heq]
          simp
          omega
    · cases h
  · rename_i hn
    injection h with h; injection h with h1 h2; subst h1 h2; refine ⟨by simp [itmB], rfl, fun w hw => (by cases hw), Nat.zero_le _, ?_⟩
    constructor
    · intro h; simp at h
    · intro h2
      obtain ⟨x, y, e⟩ : ∃ x y, l.filter (fun x => !linkP sh x.1 && pairP sh x.1) = [x, y] := by
        generalize l.filter (fun x => !linkP sh x.1 && pairP sh x.1) = q at h2
        match q, h2 with
        | [x, y], _ => exact ⟨x, y, rfl⟩
      exact absurd e (hn x y)
theorem mem_map_fst {α β : Type} {g : α → Int} {k : β → Int} {a : List α} {b : List β} (h : a.map g = b.map k) {x : α} (hx : x ∈ a) : ∃ y ∈ b, k y = g x := by
  have : g x ∈ b.map k := by rw [← h]; exact List.mem_map.2 ⟨x, hx, rfl⟩
  obtain ⟨y, hy, e⟩ := List.mem_map.1 this; exact ⟨y, hy, e⟩
section
variable {z : List Int} {o : Int} {L : List Shp} (hb : Byt z) (ho : o = 1 ∨ o = 2) (hL : shapesB L = true) (hz : z.length ≤ 6000)
include hb ho hL hz
theorem dirG_step {f : Nat} (ih : DirG z o L f) : DirG z o L (f + 1) := by
  intro p sh s r s' h h0 h1 h2 hs0 hs1; obtain ⟨l, s1, tags, s2, subs, s3, hE, hT, hone, hD, blob, hB, rfl⟩ := dirS_parts h; obtain ⟨c0, hl, ht, hr⟩ := entriesS_parts hE; obtain ⟨hf, _, hs1e⟩ := takeS_ok ht; have hf := fit_of hf; simp only at hf; have hcb := getV_bound hb (p := p) (s := 2) (o := o) (by decide) ho (by omega) (by omega); rw [show topS 2 = 65536 by decide] at hcb; obtain ⟨c, hc⟩ : ∃ c : Nat, getV z p 2 o = c := ⟨(getV z p 2 o).toNat, by omega⟩; rw [hc] at c0 hl hs1e hf hcb; rw [Int.toNat_natCast] at hl; have hll : l.length = c := by rw [hl]; unfold entsS; simp
  have m1 : s1.spots.length = s.spots.length + 1 := by rw [hs1e]; simp
  have m2 : s1.spots.length ≤ s2.spots.length := loopS_keep (P := fun a : List Tgs × St => s1.spots.length ≤ a.2.spots.length) (fun a y b h hp => Nat.le_trans hp (stepT_keeps (keeps_more z.length a.2) h (Nat.le_refl _))) hT (Nat.le_refl _); have m4 : s3.spots.length ≤ s'.spots.length := blobS_keeps (keeps_more z.length s3) hB (Nat.le_refl _); obtain ⟨ts, e1, e2, e3, e4, e5⟩ := vals_items hb l ([], s1) (tags, s2) hT; simp only [List.nil_append] at e1 e4 e5; subst e1
  have m3 : s2.spots.length ≤ s3.spots.length := loopS_keep (P := fun a : List (Int × DirT f) × St => s2.spots.length ≤ a.2.spots.length) (fun a y b h hp => Nat.le_trans hp (by
    unfold stepD at h
    split at h
    · cases hr : dirS z o L f y.2.2.2 ((L.getD sh.toNat shp0).1.getD (fst (fun w => w.1 == y.1) (L.getD sh.toNat shp0).1).toNat (0, 0)).2 a.2 with
      | error e => rw [hr] at h; cases h
      | ok q =>
        obtain ⟨⟨d, nx⟩, s9⟩ := q; rw [hr] at h; simp only at h
        split at h
        · injection h with h
          subst h; exact dirS_keeps (keeps_more z.length a.2) hr (Nat.le_refl _)
        · cases h
    · injection h with h
      subst h; exact Nat.le_refl _)) hD (Nat.le_refl _)
  have hno1 : s1.no = s.no + 1 := by
    rw [hs1e]; exact wrap_in (by omega) (by omega)
  obtain ⟨us, g1, g2, g3, g4, g5⟩ := subs_items hL ih hs0 hs1 l ([], s2) (subs, s3) hD (by show 0 ≤ s2.no; omega) (by show s2.no ≤ (s2.spots.length : Int); omega) (by show s3.spots.length < _; omega); simp only [List.nil_append] at g1 g4 g5; subst g1; obtain ⟨b1, b2, b3, b4, b5⟩ := blobS_item hb hB; have hrl := rises_lt hr; have hp2 := pair_two (s := L.getD sh.toNat shp0) l hrl; have hc3 := count3 (L.getD sh.toNat shp0) l; have hts : tags.length = (l.filter fun x => !ownP (L.getD sh.toNat shp0) x.1).length := by have := congrArg List.length e2; simpa using this
  have hus : subs.length = (l.filter fun x => linkP (L.getD sh.toNat shp0) x.1).length := by have := congrArg List.length g2; simpa using this
  have hen : entN tags.length subs.length blob.length = c := by
    unfold entN
    split
    · rename_i hbl
      have := b5.1 hbl
      omega
    · rename_i hbl
      have : ¬ (l.filter fun x => !linkP (L.getD sh.toNat shp0) x.1 && pairP (L.getD sh.toNat shp0) x.1).length = 2 := fun e => hbl (b5.2 e)
      omega
  have hfl : (flatS (f + 1) ((tags, subs, blob) : DirT (f + 1))).length = (flats f subs).length + 1 := by rw [show flatS (f + 1) ((tags, subs, blob) : DirT (f + 1)) = (tags, subs.length, blob) :: subs.flatMap fun s => flatS f s.2 from flatS_succ f _]; rfl
  have hmem : ∀ y ∈ l, 0 ≤ y.1 ∧ y.1 < 65536 := fun y hy => by
    rw [hl] at hy; unfold entsS at hy; obtain ⟨i, hi, rfl⟩ := List.mem_map.1 hy; have hi := List.mem_range.1 hi; exact ent_bound hb ho (by omega) (by omega)
  have hit : s1.spots.map itmOf = s.spots.map itmOf ++ [(2, s.no, 0, 6 + 12 * (c : Int))] := by
    rw [hs1e, List.map_append]; rfl
  refine ⟨?_, ?_, hasF_iff.2 ⟨?_, ?_, ?_, fun x hx => ?_, ?_, fun j hj => ?_, ?_⟩, ⟨fun x hx => (e3 x hx).2, fun u hu => (g3 u hu).2.1, b3⟩, ⟨?_, ?_, ?_, fun u hu => (g3 u hu).2.2⟩⟩
  · rw [b1, g4, e4, hit, e5, hno1]
    show _ = s.spots.map itmOf ++ ((2, s.no, 0, 6 + 12 * ((entN tags.length subs.length blob.length : Nat) : Int)) :: (itmV s.no tags ++ (itmSs (itmD f) subs (s.no + 1) ++ itmB s.no blob)))
    rw [hen]; simp only [List.append_assoc]
    rfl
  · rw [b2, g5, e5, hno1]
    show _ = s.no + ((flatS (f + 1) ((tags, subs, blob) : DirT (f + 1))).length : Int)
    rw [hfl]
    omega
  · show 1 ≤ entN tags.length subs.length blob.length
    omega
  · show entN tags.length subs.length blob.length ≤ 65535
    omega
  · show blob.length = 0 ∨ _
    by_cases hbl : 0 < blob.length
    · refine .inr ?_
      have h2 := b5.1 hbl; obtain ⟨x, hx⟩ : ∃ x, x ∈ l.filter (fun x => !linkP (L.getD sh.toNat shp0) x.1 && pairP (L.getD sh.toNat shp0) x.1) := List.exists_mem_of_length_pos (by omega); have := (List.mem_filter.1 hx).2; simp only [Bool.and_eq_true] at this; have h3 := this.2; unfold pairP at h3; simp only [Bool.and_eq_true, decide_eq_true_eq] at h3
      omega
    · exact .inl (by omega)
  · obtain ⟨y, hy, e⟩ := mem_map_fst e2 hx
    have hy2 := List.mem_filter.1 hy; have hyb := hmem y hy2.1; rw [e] at hyb hy2; refine ⟨by unfold tagB; simp; omega, by simpa using hy2.2, (e3 x hx).1⟩
  · have hpw : ((l.filter fun x => !ownP (L.getD sh.toNat shp0) x.1).map (·.1)).Pairwise (· < ·) := by rw [List.pairwise_map]; exact hrl.filter _
    rw [← e2, List.pairwise_map] at hpw; exact hpw
  · have hju : subs.getD j (0, dirZ f) ∈ subs := by rw [getD_el hj]; exact List.getElem_mem hj
    obtain ⟨y, hy, e⟩ := mem_map_fst g2 hju; have hy2 := (List.mem_filter.1 hy).2; rw [e] at hy2; exact ⟨hy2, (g3 _ hju).1⟩
  · have hpw : ((l.filter fun x => linkP (L.getD sh.toNat shp0) x.1).map (·.1)).Pairwise (· < ·) := by rw [List.pairwise_map]; exact hrl.filter _
    rw [← g2, List.pairwise_map] at hpw; exact hpw
  · show tags.length ≤ 500
    omega
  · show blob.length ≤ 1000000
    omega
  · show subs.length ≤ 500
    omega
theorem dirG_any : ∀ f, DirG z o L f := by
  intro f
  induction f with
  | zero => intro p sh s r s' h; cases h
  | succ f ih => exact dirG_step hb ho hL hz ih
theorem chain_items {g : Nat} : ∀ (n : Nat) (acc : List (DirT g)) (p sh : Int) (s : St) (r : List (DirT g)) (s' : St), chainG z o L g n acc p sh s = .ok (r, s') → sh = nxtS L acc.length → 0 ≤ s.no → s.no ≤ s.spots.length → s'.spots.length < 4611686018427387904 →
    ∃ ds, r = acc ++ ds ∧ s'.spots.map itmOf = s.spots.map itmOf ++ itmSs (itmD g) (prs g ds) s.no ∧ (∀ k, acc.length ≤ k → k < r.length → 0 ≤ nxtS L k ∧ hasS L g (r.getD k (dirZ g)) (nxtS L k) = true) ∧ (∀ d ∈ ds, bytD g d ∧ smallD g d) ∧ (acc.length = 0 → ds ≠ [])
  | 0, _, _, _, _, _, _, h, _, _, _, _ => by cases h
  | n + 1, acc, p, sh, s, r, s', h, hsh, h0, h1, h2 => by
    unfold chainG at h
    split at h
    · split at h
      · rename_i hs0
        cases hr : dirS z o L g p sh s with
        | error e => rw [hr] at h; cases h
        | ok q =>
          obtain ⟨⟨d, nx⟩, s9⟩ := q; rw [hr] at h; simp only at h; have hm : s9.spots.length ≤ s'.spots.length := chainG_keeps (keeps_more z.length s9) h (Nat.le_refl _); have hnl := nxt_lt hL acc.length; obtain ⟨g1, g2, g3, g4, g5⟩ := dirG_any hb ho hL hz g p sh s (d, nx) s9 hr h0 h1 (by omega) hs0 (by omega); simp only at g1 g2 g3 g4 g5; have hg1 := congrArg List.length g1; rw [List.length_map, List.length_append, List.length_map] at hg1; have hmd := itmD_more g d s.no; obtain ⟨ds, e1, e2, e3, e4, e5⟩ := chain_items n (acc ++ [d]) nx _ s9 r s' h (by rw [List.length_append, hsh]; rfl) (by omega) (by omega) h2; refine ⟨d :: ds, by rw [e1]; simp, ?_, fun k hk1 hk2 => ?_, fun x hx => ?_, fun _ => by simp⟩
          · rw [e2, g1, g2, List.append_assoc]
            rfl
          · by_cases hka : k = acc.length
            · subst hka
              have : r.getD acc.length (dirZ g) = d := by rw [e1]; simp [List.getD]
              rw [this, ← hsh]; exact ⟨hs0, g3⟩
            · exact e3 k (by rw [List.length_append]; simp; omega) hk2
          · rcases List.mem_cons.1 hx with rfl | hx
            · exact ⟨g4, g5⟩
            · exact e4 x hx
      · cases h
    · rename_i hc
      injection h with h; injection h with h3 h4; subst h3 h4; refine ⟨[], by simp, by simp [prs, itmSs], fun k hk1 hk2 => by omega, fun x hx => (by cases hx), fun e => absurd (.inr e) hc⟩
end
theorem has_flat {L : List Shp} : ∀ (f : Nat) (d : DirT f) (i : Int), hasS L f d i = true → ∀ x ∈ flatS f d, okF x = true
  | 0, _, _, _, x, hx => by cases hx
  | f + 1, d, i, h, x, hx => by
    have hf := hasF_iff.1 h; rw [flatS_succ] at hx
    rcases List.mem_cons.1 hx with rfl | hx
    · unfold okF
      simp only [Bool.and_eq_true, decide_eq_true_eq]; exact ⟨⟨hf.e1, hf.e2⟩, List.all_eq_true.2 fun t ht => (hf.tg t ht).2.2⟩
    · obtain ⟨s, hs, hx⟩ := List.mem_flatMap.1 hx
      obtain ⟨j, hj, rfl⟩ := mem_getD hs (0, dirZ f); exact has_flat f _ _ (hf.sb j hj).2 x hx
theorem cntN_range {n a : Nat} {p : Nat → Bool} : ∀ (m : Nat) {q : Nat → Bool}, (∀ k, p k = true → q k = true) → (∀ i, i < m → p (a + i) = false ∧ q (a + i) = true) → a + m ≤ n → cntN n p + m ≤ cntN n q
  | 0, q, h, _, _ => cntN_mono h n
  | m + 1, q, h, hi, hn => by
    have h1 : cntN n p + m ≤ cntN n (fun k => q k && !(k == a + m)) := cntN_range m (fun k hk => by
      have : ¬ k = a + m := fun e => by rw [e, (hi m (by omega)).1] at hk; cases hk
      simp [h k hk, this]) (fun i hi2 => ⟨(hi i (by omega)).1, by
      have : ¬ a + i = a + m := by omega
      simp [(hi i (by omega)).2]; omega⟩) (by omega)
    have h2 := cntN_lt (p := fun k => q k && !(k == a + m)) (q := q) (fun k hk => by simp at hk; exact hk.1) (k := a + m) (by simp) (hi m (by omega)).2 n (by omega)
    omega
def sumL (l : List Spt) : Int := (l.map fun x => x.2.2.2.2).sum
theorem keeps_sum (n : Nat) : Keeps n (fun s => sumL s.spots ≤ (cntN n (fun k => takenB s k) : Nat)) := ⟨fun x s s' h1 h hp => by
  obtain ⟨hf, hfr, rfl⟩ := takeS_ok h; have hf := fit_of hf; have e : sumL (s.spots ++ [x]) = sumL s.spots + x.2.2.2.2 := by unfold sumL; simp
  have hr := cntN_range (n := n) (a := x.2.2.2.1.toNat) (p := fun k => takenB s k) x.2.2.2.2.toNat (q := fun k => takenB { s with spots := s.spots ++ [x] } k) (fun k hk => by unfold takenB at hk ⊢; rw [List.any_append, hk]; rfl) (fun i hi => by
    unfold freeB at hfr; have := List.all_eq_true.1 hfr i (List.mem_range.2 hi); have e1 : (((x.2.2.2.1.toNat + i : Nat)) : Int) = x.2.2.2.1 + i := by omega
    refine ⟨by rw [e1]; simpa using this, taken_spot (s := { s with spots := s.spots ++ [x] }) (x := x) (List.mem_append.2 (.inr (List.mem_singleton.2 rfl))) _ (by omega) (by omega)⟩) (by omega)
  show sumL (s.spots ++ [x]) ≤ _
  rw [e]
  show sumL s.spots + x.2.2.2.2 ≤ ((cntN n (fun k => takenB { s with spots := s.spots ++ [x] } k) : Nat) : Int)
  omega, fun s s' h hp => by
  have : (fun k : Nat => takenB s' k) = (fun k : Nat => takenB s k) := funext fun k => takenB_of h k; rw [this, h]; exact hp⟩
theorem keeps_one (n : Nat) : Keeps n (fun s => ∀ x ∈ s.spots, 1 ≤ x.2.2.2.2 ∧ 0 ≤ x.2.2.2.1 ∧ x.2.2.2.1 % 2 = 0 ∧ x.2.2.2.1 + x.2.2.2.2 ≤ n) := ⟨fun x s s' h1 h hp y hy => by
  obtain ⟨hf, _, rfl⟩ := takeS_ok h; have hf := fit_of hf
  rcases List.mem_append.1 hy with hy | hy
  · exact hp y hy
  · obtain rfl : y = x := by simpa using hy
    omega, fun s s' h hp => by rw [h]; exact hp⟩
/-- two spots do not meet -/
def Apart (x y : Spt) : Prop := x.2.2.2.1 + x.2.2.2.2 ≤ y.2.2.2.1 ∨ y.2.2.2.1 + y.2.2.2.2 ≤ x.2.2.2.1
theorem keeps_apart (n : Nat) : Keeps n (fun s => (∀ x ∈ s.spots, 1 ≤ x.2.2.2.2 ∧ 0 ≤ x.2.2.2.1) ∧ s.spots.Pairwise Apart) := ⟨fun x s s' h1 h hp => by
  obtain ⟨hf, hfr, rfl⟩ := takeS_ok h; have hf := fit_of hf; refine ⟨fun y hy => ?_, ?_⟩
  · rcases List.mem_append.1 hy with hy | hy
    · exact hp.1 y hy
    · obtain rfl : y = x := by simpa using hy
      omega
  · show (s.spots ++ [x]).Pairwise Apart
    rw [List.pairwise_append]; refine ⟨hp.2, List.Pairwise.cons (fun _ h => by cases h) List.Pairwise.nil, fun y hy w hw => ?_⟩; obtain rfl : w = x := by simpa using hw
    have hy1 := hp.1 y hy; refine Classical.byContradiction fun hn => ?_; unfold Apart at hn
    -- a byte of both
    obtain ⟨k, hk⟩ : ∃ k : Nat, (k : Int) = max y.2.2.2.1 w.2.2.2.1 := ⟨(max y.2.2.2.1 w.2.2.2.1).toNat, by omega⟩; have ht := taken_spot (s := s) hy k (by omega) (by omega); unfold freeB at hfr; have := List.all_eq_true.1 hfr (k - w.2.2.2.1.toNat) (List.mem_range.2 (by omega)); rw [show w.2.2.2.1 + ((k - w.2.2.2.1.toNat : Nat) : Int) = (k : Int) by omega, ht] at this
    simp at this, fun s s' h hp => by rw [h]; exact hp⟩
theorem sumI_spots : ∀ (l : List Spt), sumI (l.map itmOf) = sumL l + l.length
  | [] => rfl
  | x :: l => by
    have ih := sumI_spots l; have e1 : sumI ((x :: l).map itmOf) = x.2.2.2.2 + 1 + sumI (l.map itmOf) := rfl; have e2 : sumL (x :: l) = x.2.2.2.2 + sumL l := rfl; rw [e1, e2, ih, List.length_cons]
    omega
theorem sumL_ge : ∀ (l : List Spt), (∀ x ∈ l, 1 ≤ x.2.2.2.2) → (l.length : Int) ≤ sumL l
  | [], _ => by simp [sumL]
  | x :: l, h => by
    have h1 := h x (List.mem_cons_self ..); have h2 := sumL_ge l fun y hy => h y (List.mem_cons_of_mem _ hy); have e2 : sumL (x :: l) = x.2.2.2.2 + sumL l := rfl; rw [e2, List.length_cons]
    omega
theorem sumI_nn : ∀ (l : List Itm), (∀ x ∈ l, 0 ≤ x.2.2.2) → 0 ≤ sumI l
  | [], _ => Int.le_refl _
  | x :: l, h => by
    have h1 := h x (List.mem_cons_self ..); have h2 := sumI_nn l fun y hy => h y (List.mem_cons_of_mem _ hy); have e1 : sumI (x :: l) = x.2.2.2 + 1 + sumI l := rfl
    omega
theorem sum_more {L : List Shp} : ∀ (f : Nat) (d : DirT f) (no i : Int), hasS L f d i = true → ((flatS f d).length : Int) * 19 ≤ sumI (itmD f d no)
  | 0, _, _, _, h => absurd h (by simp [hasS])
  | f + 1, d, no, i, h => by
    have hf := hasF_iff.1 h
    have hS : ∀ (ss : List (Int × DirT f)) (no : Int), (∀ s ∈ ss, ∃ i, hasS L f s.2 i = true) → ((flats f ss).length : Int) * 19 ≤ sumI (itmSs (itmD f) ss no) := by
      intro ss
      induction ss with
      | nil => intro no _; simp [flats, itmSs, sumI]
      | cons s ss ih =>
        intro no hh; obtain ⟨j, hj⟩ := hh s (List.mem_cons_self ..); have h1 := sum_more f s.2 no j hj; have h2 := ih (no + (flatS f s.2).length) fun x hx => hh x (List.mem_cons_of_mem _ hx); have e1 : (flats f (s :: ss)).length = (flatS f s.2).length + (flats f ss).length := by unfold flats; rw [List.flatMap_cons, List.length_append]
        have e2 : itmSs (itmD f) (s :: ss) no = itmD f s.2 no ++ itmSs (itmD f) ss (no + (flatS f s.2).length) := rfl; rw [e1, e2, sumI_app]
        omega
    have hfl : (flatS (f + 1) d).length = (flats f d.2.1).length + 1 := by rw [flatS_succ]; rfl
    have h1 := hS d.2.1 (no + 1) fun s hs => by
      obtain ⟨j, hj, rfl⟩ := mem_getD hs (0, dirZ f); exact ⟨_, (hf.sb j hj).2⟩
    have h2 : 0 ≤ sumI (itmV no d.1) := sumI_nn _ fun x hx => by
      obtain ⟨t, _, rfl⟩ := List.mem_map.1 hx; exact outV_nn t
    have h3 : 0 ≤ sumI (itmB no d.2.2) := sumI_nn _ fun x hx => by
      unfold itmB at hx
      split at hx
      · obtain rfl : x = _ := by simpa using hx
        show (0 : Int) ≤ (d.2.2.length : Nat)
        omega
      · cases hx
    have he := hf.e1; rw [itmD_succ]; have e1 : sumI ((2, no, 0, 6 + 12 * ((entN d.1.length d.2.1.length d.2.2.length : Nat) : Int)) :: (itmV no d.1 ++ (itmSs (itmD f) d.2.1 (no + 1) ++ itmB no d.2.2))) = 6 + 12 * ((entN d.1.length d.2.1.length d.2.2.length : Nat) : Int) + 1 + sumI (itmV no d.1 ++ (itmSs (itmD f) d.2.1 (no + 1) ++ itmB no d.2.2)) := rfl; rw [e1, sumI_app, sumI_app, hfl]
    omega
/-- what any bytes are read as -/
structure ReadOk (z : List Int) (L : List Shp) (ds : List (DirT 16)) (s : St) : Prop where
  chk : checkS 16 (orderS z) ds L = 0
  byt : ∀ d ∈ ds, bytD 16 d
  sml : ∀ d ∈ ds, smallD 16 d
  len : ds.length ≤ 16
  flt : (flatT 16 ds).length < 1000
  two : 2 ≤ s.spots.length
  one : ∀ x ∈ s.spots, 1 ≤ x.2.2.2.2 ∧ 0 ≤ x.2.2.2.1 ∧ x.2.2.2.1 % 2 = 0 ∧ x.2.2.2.1 + x.2.2.2.2 ≤ z.length
  apart : s.spots.Pairwise Apart
  bnd : s.spots.length ≤ z.length
  lng : longT 16 ds ≤ 20000
theorem read_ok {z : List Int} (hb : Byt z) (hz : z.length ≤ 6000) {L : List Shp} {ds : List (DirT 16)} {s : St} (h : readS z L = .ok (ds, s)) : ReadOk z L ds s := by
  rw [← readG_16] at h; have k1 := readG_keeps (keeps_one z.length) h (fun x hx => by cases hx); have k2 := readG_keeps (keeps_apart z.length) h ⟨fun x hx => (by cases hx), List.Pairwise.nil⟩; have k3 := readG_keeps (keeps_sum z.length) h (by show (0 : Int) ≤ _; omega); have k4 := cntN_le z.length (fun k => takenB s k); have k5 := sumL_ge s.spots fun x hx => (k1 x hx).1; have hbnd : s.spots.length ≤ z.length := by omega
  have hh := h; unfold readG at hh
  split at hh
  · rename_i hL
    cases hd : headS z with
    | error e => rw [hd] at hh; cases hh
    | ok s0 =>
      rw [hd] at hh; simp only at hh; have hd' := hd; unfold headS at hd
      split at hd
      · split at hd
        · rename_i h42
          obtain ⟨_, _, hs0⟩ := takeS_ok hd
          have ho : orderS z = 1 ∨ orderS z = 2 := by
            rcases orderS_cases z with e | e
            · rw [e] at h42; omega
            · exact e
          obtain ⟨us, e1, e2, e3, e4, e5⟩ := chain_items hb ho hL hz 18 [] _ 0 s0 ds s hh rfl (by rw [hs0]; decide) (by rw [hs0]; simp) (by omega); rw [List.nil_append] at e1; subst e1; have hit : s.spots.map itmOf = itmT 16 ds := by rw [e2, hs0]; rfl
          have hne : ds.length ≠ 0 := fun e => e5 rfl (List.length_eq_zero_iff.1 e)
          have hch : chainB L ds.length = true := by
            unfold chainB; exact rng_yes fun k hk => by simpa using (e3 k (Nat.zero_le _) hk).1
          have hha : hasAll L 16 ds = true := by
            unfold hasAll; exact rng_yes fun k hk => (e3 k (Nat.zero_le _) hk).2
          have hend := endP_sum (itmT 16 ds) 0 (Int.le_refl _) (itmT_nn 16 ds); rw [← hit, sumI_spots] at hend; have hle : endS (layT 16 ds) ≤ 20000 := by rw [(layT_eq 16 ds).2, ← hit]; omega
          have h8 := endT_ge 16 ds
          have hok : okAll 16 ds = true := by
            unfold okAll; rw [List.all_eq_true]; intro x hx; obtain ⟨d, hd2, hx⟩ := List.mem_flatMap.1 hx; obtain ⟨k, hk, rfl⟩ := mem_getD hd2 (dirZ 16); exact has_flat 16 _ _ (hasAll_get hha hk) x hx
          have hfit : fitT 16 ds = true := by
            unfold fitT; rw [hok]
            simp
            omega
          have hlong : longT 16 ds = endS (layT 16 ds) := by unfold longT; rw [if_pos hfit]
          have hchk : checkS 16 (orderS z) ds L = 0 := by
            unfold checkS; rw [if_pos (by simp only [Bool.and_eq_true, Bool.or_eq_true, Bool.not_eq_true', decide_eq_true_eq, decide_eq_false_iff_not]; exact ⟨⟨hL, ho⟩, hne⟩), if_pos hch, if_pos hha, if_neg (by omega)]
          have hcl := chain_len hchk
          have hflt : ((flatT 16 ds).length : Int) * 19 ≤ sumI (itmT 16 ds) := by
            have hS : ∀ (xs : List (DirT 16)) (no : Int), (∀ d ∈ xs, ∃ i, hasS L 16 d i = true) → ((flatT 16 xs).length : Int) * 19 ≤ sumI (itmSs (itmD 16) (prs 16 xs) no) := by
              intro xs
              induction xs with
              | nil => intro no _; simp [flatT, prs, itmSs, sumI]
              | cons d xs ih =>
                intro no hh; obtain ⟨j, hj⟩ := hh d (List.mem_cons_self ..); have h1 := sum_more 16 d no j hj; have h2 := ih (no + (flatS 16 d).length) fun x hx => hh x (List.mem_cons_of_mem _ hx); have e1 : (flatT 16 (d :: xs)).length = (flatS 16 d).length + (flatT 16 xs).length := by simp [flatT]
                have e2 : itmSs (itmD 16) (prs 16 (d :: xs)) no = itmD 16 d no ++ itmSs (itmD 16) (prs 16 xs) (no + (flatS 16 d).length) := rfl; rw [e1, e2, sumI_app]
                omega
            have h1 := hS ds 0 fun d hd2 => by
              obtain ⟨k, hk, rfl⟩ := mem_getD hd2 (dirZ 16); exact ⟨_, hasAll_get hha hk⟩
            have e1 : sumI (itmT 16 ds) = 8 + 1 + sumI (itmSs (itmD 16) (prs 16 ds) 0) := rfl
            omega
          rw [← hit, sumI_spots] at hflt
          have htwo : 2 ≤ s.spots.length := by
            have e6 : s.spots.length = (itmT 16 ds).length := by rw [← hit, List.length_map]
            have h1 := itmT_get (f := 16) (ds := ds) (k := 0) (by omega) _ (hasS_ent (hasAll_get hha (k := 0) (by omega)) (noT 16 ds 0)); have h2 : ((1, -1, 0, 8) : Itm) ∈ itmT 16 ds := List.mem_cons_self ..; rw [e6]
            match hq : itmT 16 ds, h1, h2 with
            | [], h1, _ => cases h1
            | [a], h1, h2 =>
              obtain rfl := List.mem_singleton.1 h2; have := congrArg (fun x => x.1) (List.mem_singleton.1 h1)
              simp at this
            | _ :: _ :: _, _, _ => simp
          exact ⟨hchk, fun d hd2 => (e4 d hd2).1, fun d hd2 => (e4 d hd2).2, hcl.1, by omega, htwo, k1, k2.2, hbnd, by omega⟩
        · cases hd
      · cases hd
  · cases hh
end Go.Proofs.YtilennmeiaehnaaGreat

namespace Go.Proofs.YtilennmeiaehnaaGreat
open Go.RowKit Tt
set_option linter.unusedVariables false
set_option linter.unusedSimpArgs false

def tkB (S : List Spt) (k : Nat) : Bool := S.any (inSpot k)
/-- which bytes the first spots take -/
def tkL (S : List Spt) (n : Nat) : List Int := (List.range n).map fun k => if tkB S k = true then 1 else 0
/-- and those of one more spot, up to a byte -/
def tkI (S : List Spt) (x : Spt) (n k : Nat) : List Int := (List.range n).map fun j => if (tkB S j || (decide (x.2.2.2.1 ≤ j) && decide (j < k))) = true then 1 else 0
theorem tkL_len (S : List Spt) (n : Nat) : (tkL S n).length = n := by unfold tkL; simp
theorem tkI_len (S : List Spt) (x : Spt) (n k : Nat) : (tkI S x n k).length = n := by unfold tkI; simp
theorem map_range_get {f : Nat → Int} {n k : Nat} (h : k < n) : ((List.range n).map f)[k]? = some (f k) := by
  rw [List.getElem?_map, List.getElem?_range h]; rfl
theorem tkI_start {S : List Spt} {x : Spt} {n a : Nat} (ha : x.2.2.2.1 = a) : tkI S x n a = tkL S n := by
  unfold tkI tkL; refine List.map_congr_left fun j _ => ?_; have : (decide (x.2.2.2.1 ≤ j) && decide (j < a)) = false := by rw [ha]; simp <;> omega
  rw [this, Bool.or_false]
theorem tkI_end {S : List Spt} {x : Spt} {n e : Nat} (he : x.2.2.2.1 + x.2.2.2.2 = e) : tkI S x n e = tkL (S ++ [x]) n := by
  unfold tkI tkL; refine List.map_congr_left fun j _ => ?_
  have : tkB (S ++ [x]) j = (tkB S j || (decide (x.2.2.2.1 ≤ j) && decide (j < e))) := by
    unfold tkB; rw [List.any_append]
    congr 1
    simp only [List.any_cons, List.any_nil, Bool.or_false]; unfold inSpot; rw [he]
    congr 1
    rw [Bool.eq_iff_iff]; simp only [decide_eq_true_eq]
    omega
  rw [this]
theorem tkI_step {S : List Spt} {x : Spt} {n k : Nat} (hk : k < n) (h0 : x.2.2.2.1 ≤ k) : (tkI S x n k).set k 1 = tkI S x n (k + 1) := by
  refine List.ext_getElem? fun j => ?_; rw [List.getElem?_set]
  by_cases hj : j < n
  · unfold tkI
    rw [map_range_get hj, map_range_get hj]
    by_cases hjk : k = j
    · subst hjk
      rw [if_pos rfl, if_pos (by simp; exact hk)]; have : (decide (x.2.2.2.1 ≤ (k : Int)) && decide (k < k + 1)) = true := by simp; exact h0
      rw [this, Bool.or_true, if_pos rfl]
    · rw [if_neg hjk]
      have : decide (j < k + 1) = decide (j < k) := by rw [Bool.eq_iff_iff]; simp only [decide_eq_true_eq]; omega
      rw [this]
  · rw [List.getElem?_eq_none (by rw [tkI_len]; omega), List.getElem?_eq_none (by rw [tkI_len]; omega)]
    by_cases hjk : k = j
    · rw [if_pos hjk, if_neg (by rw [tkI_len]; omega)]
    · rw [if_neg hjk]
theorem tkI_at {S : List Spt} {x : Spt} {n k : Nat} (hk : k < n) (hS : ∀ y ∈ S, Apart y x) (hy : ∀ y ∈ S, 1 ≤ y.2.2.2.2) (h0 : x.2.2.2.1 ≤ k) (h1 : (k : Int) < x.2.2.2.1 + x.2.2.2.2) : (tkI S x n k)[k]? = some 0 := by
  unfold tkI; rw [map_range_get hk]
  have h2 : tkB S k = false := by
    unfold tkB; rw [List.any_eq_false]; intro y hy2; have := hS y hy2; unfold Apart at this; unfold inSpot; simp only [Bool.and_eq_true, decide_eq_true_eq, not_and]
    omega
  rw [h2]
  simp
theorem tkL_at {S : List Spt} {n k : Nat} (hk : k < n) : (tkL S n)[k]? = some (if tkB S k = true then 1 else 0) := by unfold tkL; rw [map_range_get hk]
/-- the bytes with 0 where nothing was taken, up to a byte -/
def zeL (S : List Spt) (z : List Int) (k : Nat) : List Int := (List.range z.length).map fun j => if (decide (j < k) && !tkB S j) = true then 0 else z.getD j 0
def gapN (S : List Spt) (z : List Int) (k : Nat) : Nat := ((List.range k).filter fun j => !tkB S j && !decide (z.getD j 0 = 0)).length
theorem zeL_len (S : List Spt) (z : List Int) (k : Nat) : (zeL S z k).length = z.length := by unfold zeL; simp
theorem zeL_zero (S : List Spt) (z : List Int) : zeL S z 0 = z := by
  refine List.ext_getElem? fun j => ?_
  by_cases hj : j < z.length
  · unfold zeL
    rw [map_range_get hj, List.getD_eq_getElem?_getD, List.getElem?_eq_getElem hj]
    simp
  · rw [List.getElem?_eq_none (by rw [zeL_len]; omega), List.getElem?_eq_none (by omega)]
theorem zeL_get (S : List Spt) (z : List Int) {k j : Nat} (hj : j < z.length) : (zeL S z k).getD j 0 = if (decide (j < k) && !tkB S j) = true then 0 else z.getD j 0 := by
  rw [List.getD_eq_getElem?_getD]; unfold zeL; rw [map_range_get hj]
  rfl
theorem zeL_set {S : List Spt} {z : List Int} {k : Nat} (hk : k < z.length) (ht : tkB S k = false) : (zeL S z k).set k 0 = zeL S z (k + 1) := by
  refine list_ext0 (by rw [List.length_set, zeL_len, zeL_len]) fun j hj => ?_; rw [List.length_set, zeL_len] at hj; rw [zeL_get S z hj, List.getD_eq_getElem?_getD, List.getElem?_set]
  by_cases hjk : k = j
  · subst hjk
    rw [if_pos rfl, if_pos (by rw [zeL_len]; exact hk), if_pos (by simp [ht])]
    rfl
  · rw [if_neg hjk, ← List.getD_eq_getElem?_getD, zeL_get S z hj]
    have : decide (j < k + 1) = decide (j < k) := by rw [Bool.eq_iff_iff]; simp only [decide_eq_true_eq]; omega
    rw [this]
theorem zeL_same {S : List Spt} {z : List Int} {k : Nat} (h : tkB S k = true ∨ z.getD k 0 = 0) : zeL S z (k + 1) = zeL S z k := by
  unfold zeL; refine List.map_congr_left fun j hj => ?_
  by_cases hjk : j = k
  · subst hjk
    rcases h with h | h
    · simp [h]
    · rw [h]; simp
  · have : decide (j < k + 1) = decide (j < k) := by rw [Bool.eq_iff_iff]; simp only [decide_eq_true_eq]; omega
    rw [this]
theorem gapN_step (S : List Spt) (z : List Int) (k : Nat) : gapN S z (k + 1) = gapN S z k + if tkB S k = false ∧ z.getD k 0 ≠ 0 then 1 else 0 := by
  unfold gapN; rw [List.range_succ, List.filter_append, List.length_append]
  congr 1
  by_cases hc : tkB S k = false ∧ z.getD k 0 ≠ 0
  · rw [if_pos hc, List.filter_cons_of_pos (by simp only [Bool.and_eq_true, Bool.not_eq_true', decide_eq_false_iff_not]; exact hc)]
    rfl
  · rw [if_neg hc, List.filter_cons_of_neg (by simp only [Bool.and_eq_true, Bool.not_eq_true', decide_eq_false_iff_not]; exact hc)]
    rfl
theorem gapN_le (S : List Spt) (z : List Int) (k : Nat) : gapN S z k ≤ k := by
  unfold gapN; exact Nat.le_trans (List.length_filter_le _ _) (by simp)
section
variable {z : List Int} {L : List Shp} {ds : List (DirT 16)} {s : St} (h : readS z L = .ok (ds, s))
include h
theorem again_read : readS (zeL s.spots z z.length) L = .ok (ds, s) ∧ orderS (zeL s.spots z z.length) = orderS z := by
  rw [← readG_16] at h ⊢; refine readG_local h ⟨by rw [zeL_len]; exact Nat.le_refl _, fun k hk ht => ?_⟩; rw [zeL_get _ _ hk]; have : tkB s.spots k = true := ht; rw [this]
  simp
omit h in
theorem again_none (h0 : gapN s.spots z z.length = 0) : zeL s.spots z z.length = z := by
  refine list_ext0 (zeL_len _ _ _) fun k hk => ?_; rw [zeL_len] at hk; rw [zeL_get _ _ hk]
  split
  · rename_i hc
    have h1 := List.length_eq_zero_iff.1 h0; rw [List.filter_eq_nil_iff] at h1; have h2 := h1 k (List.mem_range.2 hk); simp only [Bool.and_eq_true, Bool.not_eq_true', decide_eq_true_eq] at hc; rw [hc.2] at h2
    simp at h2
    rw [List.getD_eq_getElem?_getD]; exact h2.symm
  · rfl
theorem again_some (h0 : gapN s.spots z z.length ≠ 0) : cleanS z L = false := by
  obtain ⟨k, hk⟩ : ∃ k, k ∈ (List.range z.length).filter fun j => !tkB s.spots j && !decide (z.getD j 0 = 0) := List.exists_mem_of_length_pos (by unfold gapN at h0; omega); obtain ⟨h1, h2⟩ := List.mem_filter.1 hk; have h1 := List.mem_range.1 h1; simp only [Bool.and_eq_true, Bool.not_eq_true', decide_eq_false_iff_not] at h2; unfold cleanS; rw [h]; simp only [Bool.and_eq_false_iff]; refine .inr ?_; rw [List.all_eq_false]; refine ⟨k, List.mem_range.2 h1, ?_⟩; have : takenB s k = false := h2.1
  simp [this]
  rw [List.getD_eq_getElem?_getD] at h2; exact h2.2
end
theorem takeS_err {n : Nat} {x : Spt} {s : St} {e : Int} (h : takeS n x s = .error e) : e ≤ 6 := by
  unfold takeS at h
  split at h
  · split at h
    · cases h
    · injection h with h; omega
  · injection h with h; omega
theorem entriesS_err {z : List Int} {o p no : Int} {s : St} {e : Int} (h : entriesS z o p no s = .error e) : e ≤ 6 := by
  unfold entriesS at h
  split at h
  · split at h
    · cases ht : takeS z.length (2, no, 0, p, 6 + 12 * getV z p 2 o) s with
      | error x => rw [ht] at h; injection h with h; subst h; exact takeS_err ht
      | ok s1 =>
        rw [ht] at h; simp only at h
        split at h
        · cases h
        · injection h with h; omega
    · injection h with h; omega
  · injection h with h; omega
theorem valueS_err {z : List Int} {o : Int} {x : Ent} {no : Int} {s : St} {e : Int} (h : valueS z o x no s = .error e) : e ≤ 6 := by
  unfold valueS at h
  split at h
  · split at h
    · cases ht : takeS z.length (3, no, x.1, x.2.2.2, outS x.2.1 x.2.2.1) s with
      | error x => rw [ht] at h; injection h with h; subst h; exact takeS_err ht
      | ok s1 =>
        rw [ht] at h; simp only at h
        cases hv : ofS x.2.1 x.2.2.1 (z.drop x.2.2.2.toNat) o with
        | none => rw [hv] at h; injection h with h; omega
        | some d => rw [hv] at h; cases h
    · cases hv : inS x o with
      | none => rw [hv] at h; injection h with h; omega
      | some d => rw [hv] at h; cases h
  · injection h with h; omega
theorem loopS_err {α σ : Type} {step : σ → α → Except Int σ} (hs : ∀ s a e, step s a = .error e → e ≤ 6) : ∀ {l : List α} {s : σ} {e : Int}, loopS step l s = .error e → e ≤ 6
  | [], _, _, h => by cases h
  | x :: l, s, e, h => by
    rw [loopS_cons] at h
    cases hx : step s x with
    | error y => rw [hx] at h; injection h with h; subst h; exact hs _ _ _ hx
    | ok s1 => rw [hx] at h; exact loopS_err hs h
theorem blobS_err {z : List Int} {sh : Shp} {l : List Ent} {no : Int} {s : St} {e : Int} (h : blobS z sh l no s = .error e) : e ≤ 6 := by
  unfold blobS at h
  split at h
  · split at h
    · rename_i x y _ _
      cases ht : takeS z.length (4, no, 0, x.2.2.2, y.2.2.2) s with
      | error x => rw [ht] at h; injection h with h; subst h; exact takeS_err ht
      | ok s1 => rw [ht] at h; cases h
    · injection h with h; omega
  · cases h
theorem dirS_err {z : List Int} {o : Int} {L : List Shp} : ∀ {f : Nat} {p sh : Int} {s : St} {e : Int}, dirS z o L f p sh s = .error e → e ≤ 6
  | 0, _, _, _, _, h => by injection h with h; omega
  | f + 1, p, sh, s, e, h => by
    rw [dirS_succ] at h
    cases hE : entriesS z o p s.no { s with no := IntKind.i64.wrap (s.no + 1) } with
    | error x => rw [hE] at h; injection h with h; subst h; exact entriesS_err hE
    | ok q =>
      obtain ⟨l, s1⟩ := q; rw [hE] at h; simp only at h
      cases hT : loopS (stepT z o (L.getD sh.toNat shp0) s.no) l ([], s1) with
      | error x =>
        rw [hT] at h; injection h with h; subst h
        exact loopS_err (fun a y e h => by
          unfold stepT at h
          split at h
          · split at h
            · cases h
            · injection h with h; omega
          · cases hv : valueS z o y s.no a.2 with
            | error x => rw [hv] at h; injection h with h; subst h; exact valueS_err hv
            | ok q => rw [hv] at h; cases h) hT
      | ok q =>
        obtain ⟨tags, s2⟩ := q; rw [hT] at h; simp only at h
        split at h
        · injection h with h; omega
        cases hD : loopS (stepD (dirS z o L f) (L.getD sh.toNat shp0)) l ([], s2) with
        | error x =>
          rw [hD] at h; injection h with h; subst h
          exact loopS_err (fun a y e h => by
            unfold stepD at h
            split at h
            · cases hr : dirS z o L f y.2.2.2 ((L.getD sh.toNat shp0).1.getD (fst (fun w => w.1 == y.1) (L.getD sh.toNat shp0).1).toNat (0, 0)).2 a.2 with
              | error x => rw [hr] at h; injection h with h; subst h; exact dirS_err hr
              | ok q =>
                obtain ⟨⟨d, nx⟩, s9⟩ := q; rw [hr] at h; simp only at h
                split at h
                · cases h
                · injection h with h; omega
            · cases h) hD
        | ok q =>
          obtain ⟨subs, s3⟩ := q; rw [hD] at h; simp only at h
          cases hB : blobS z (L.getD sh.toNat shp0) l s.no s3 with
          | error x => rw [hB] at h; injection h with h; subst h; exact blobS_err hB
          | ok q => rw [hB] at h; cases h
theorem chainG_err {z : List Int} {o : Int} {L : List Shp} {g : Nat} : ∀ {n : Nat} {acc : List (DirT g)} {p sh : Int} {s : St} {e : Int}, chainG z o L g n acc p sh s = .error e → e ≤ 6
  | 0, _, _, _, _, _, h => by injection h with h; omega
  | n + 1, acc, p, sh, s, e, h => by
    unfold chainG at h
    split at h
    · split at h
      · cases hr : dirS z o L g p sh s with
        | error x => rw [hr] at h; injection h with h; subst h; exact dirS_err hr
        | ok q =>
          obtain ⟨⟨d, nx⟩, s9⟩ := q; rw [hr] at h; exact chainG_err h
      · injection h with h; omega
    · cases h
theorem readS_err {z : List Int} {L : List Shp} {e : Int} (h : readS z L = .error e) : e ≤ 6 := by
  rw [← readG_16] at h; unfold readG at h
  split at h
  · cases hh : headS z with
    | error x =>
      rw [hh] at h; injection h with h; subst h; unfold headS at hh
      split at hh
      · split at hh
        · exact takeS_err hh
        · injection hh with hh; omega
      · injection hh with hh; omega
    | ok s => rw [hh] at h; exact chainG_err h
  · injection h with h; omega
end Go.Proofs.YtilennmeiaehnaaGreat
