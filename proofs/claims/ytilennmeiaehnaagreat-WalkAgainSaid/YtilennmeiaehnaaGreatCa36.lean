/- Chapter 22, the plain walk: there are no more spots than bytes. | Chapter 22: what stands while a directory is read. -/
import Derived.Shelf.Slices.In.SortNone
import Derived.Test.YtilennmeiaehnaaGreatCa33
import Derived.Test.YtilennmeiaehnaaGreatCa35
namespace Go.Proofs.YtilennmeiaehnaaGreat
open Go.RowKit Tt
set_option linter.unusedVariables false
set_option linter.unusedSimpArgs false

def cntN (n : Nat) (p : Nat → Bool) : Nat := ((List.range n).filter p).length
theorem cntN_succ (n : Nat) (p : Nat → Bool) : cntN (n + 1) p = cntN n p + (if p n = true then 1 else 0) := by
  unfold cntN; rw [List.range_succ, List.filter_append, List.length_append]
  congr 1
  cases h : p n <;> simp [h]
theorem cntN_le (n : Nat) (p : Nat → Bool) : cntN n p ≤ n := by
  unfold cntN; exact Nat.le_trans (List.length_filter_le _ _) (by simp)
theorem cntN_mono {p q : Nat → Bool} (h : ∀ k, p k = true → q k = true) : ∀ n, cntN n p ≤ cntN n q
  | 0 => by simp [cntN]
  | n + 1 => by
    rw [cntN_succ, cntN_succ]; have ih := cntN_mono h n
    by_cases hp : p n = true
    · rw [if_pos hp, if_pos (h n hp)]; omega
    · rw [if_neg hp]; split <;> omega
theorem cntN_lt {p q : Nat → Bool} (h : ∀ k, p k = true → q k = true) {k : Nat} (h1 : p k = false) (h2 : q k = true) : ∀ n, k < n → cntN n p + 1 ≤ cntN n q
  | 0, hk => by omega
  | n + 1, hk => by
    rw [cntN_succ, cntN_succ]
    by_cases hkn : k = n
    · subst hkn
      have := cntN_mono h k; rw [h2, h1]
      simp
      exact this
    · have ih := cntN_lt h h1 h2 n (by omega)
      by_cases hp : p n = true
      · rw [if_pos hp, if_pos (h n hp)]; omega
      · rw [if_neg hp]; split <;> omega
def Inv (n : Nat) (s : St) : Prop := s.spots.length ≤ cntN n (fun (k : Nat) => takenB s k)
theorem Inv.le {n : Nat} {s : St} (h : Inv n s) : s.spots.length ≤ n := Nat.le_trans h (cntN_le _ _)
theorem Inv.of_spots {n : Nat} {s s' : St} (h : Inv n s) (e : s'.spots = s.spots) : Inv n s' := by
  unfold Inv takenB at *; rw [e]; exact h
theorem takeS_inv {n : Nat} {x : Spt} {s s' : St} (h : takeS n x s = .ok s') (hl : 1 ≤ x.2.2.2.2) (hi : Inv n s) : Inv n s' := by
  have hf := takeS_fit h; unfold takeS at h; rw [if_pos hf] at h
  split at h
  · rename_i hfr
    injection h with h; subst h; unfold fitB roomB at hf; simp only [Bool.and_eq_true, decide_eq_true_eq] at hf; obtain ⟨A, hA⟩ : ∃ A : Nat, x.2.2.2.1 = A := ⟨x.2.2.2.1.toNat, by omega⟩
    have h0 : takenB s (A : Int) = false := by
      unfold freeB at hfr; have := List.all_eq_true.1 hfr 0 (List.mem_range.2 (by omega)); rw [hA] at this
      simpa using this
    have h1 : takenB { s with spots := s.spots ++ [x] } (A : Int) = true := by
      rw [takenB_snoc]; unfold inSpot; rw [hA]
      simp
      omega
    have := cntN_lt (p := fun (k : Nat) => takenB s k) (q := fun (k : Nat) => takenB { s with spots := s.spots ++ [x] } k) (fun k hk => by rw [takenB_snoc, hk]; rfl) h0 h1 n (by omega); unfold Inv at *; simp only [List.length_append, List.length_singleton]
    omega
  · cases h
theorem loopS_inv {α σ : Type} {step : σ → α → Except Int σ} {P : σ → Prop} (hs : ∀ s x s', step s x = .ok s' → P s → P s') : ∀ {l : List α} {s s' : σ}, loopS step l s = .ok s' → P s → P s'
  | [], s, s', h, hp => by
    injection h with h; subst h; exact hp
  | x :: r, s, s', h, hp => by
    simp only [loopS] at h
    cases hx : step s x with
    | error e => rw [hx] at h; cases h
    | ok s1 =>
      rw [hx] at h; exact loopS_inv hs h (hs _ _ _ hx hp)
theorem entriesS_inv {z : List Int} {o p no : Int} {s : St} {l : List Ent} {s' : St} (h : entriesS z o p no s = .ok (l, s')) (hi : Inv z.length s) : Inv z.length s' := by
  unfold entriesS at h
  split at h
  · split at h
    · rename_i h0
      cases ht : takeS z.length (2, no, 0, p, 6 + 12 * getV z p 2 o) s with
      | error e => rw [ht] at h; cases h
      | ok s1 =>
        rw [ht] at h; simp only at h
        split at h
        · injection h with h
          injection h with h1 h2; subst h2; exact takeS_inv ht (by show 1 ≤ 6 + 12 * getV z p 2 o; omega) hi
        · cases h
    · cases h
  · cases h
theorem valueS_inv {z : List Int} {o : Int} {x : Ent} {no : Int} {s : St} {v : Tgs} {s' : St} (h : valueS z o x no s = .ok (v, s')) (hi : Inv z.length s) : Inv z.length s' := by
  unfold valueS at h
  split at h
  · split at h
    · rename_i h0
      cases ht : takeS z.length (3, no, x.1, x.2.2.2, outS x.2.1 x.2.2.1) s with
      | error e => rw [ht] at h; cases h
      | ok s1 =>
        rw [ht] at h; simp only at h
        cases hv : ofS x.2.1 x.2.2.1 (z.drop x.2.2.2.toNat) o with
        | none => rw [hv] at h; cases h
        | some d =>
          rw [hv] at h; injection h with h; injection h with h1 h2; subst h2; exact takeS_inv ht (by show 1 ≤ outS x.2.1 x.2.2.1; omega) hi
    · cases hv : inS x o with
      | none => rw [hv] at h; cases h
      | some d =>
        rw [hv] at h; injection h with h; injection h with h1 h2; subst h2; exact hi.of_spots rfl
  · cases h
theorem stepT_inv {z : List Int} {o : Int} {sh : Shp} {no : Int} {acc acc' : List Tgs × St} {x : Ent} (h : stepT z o sh no acc x = .ok acc') (hi : Inv z.length acc.2) : Inv z.length acc'.2 := by
  unfold stepT at h
  split at h
  · split at h
    · injection h with h
      subst h; exact hi
    · cases h
  · cases hv : valueS z o x no acc.2 with
    | error e => rw [hv] at h; cases h
    | ok r =>
      obtain ⟨v, s'⟩ := r; rw [hv] at h; injection h with h; subst h; exact valueS_inv hv hi
theorem stepD_inv {z : List Int} {f : Nat} {rec : Int → Int → St → Except Int ((DirT f × Int) × St)} (hr : ∀ p sh s r s', rec p sh s = .ok (r, s') → Inv z.length s → Inv z.length s') {sh : Shp} {acc acc' : List (Int × DirT f) × St} {x : Ent} (h : stepD rec sh acc x = .ok acc') (hi : Inv z.length acc.2) : Inv z.length acc'.2 := by
  unfold stepD at h
  split at h
  · cases hv : rec x.2.2.2 (sh.1.getD (fst (fun y => y.1 == x.1) sh.1).toNat (0, 0)).2 acc.2 with
    | error e => rw [hv] at h; cases h
    | ok r =>
      obtain ⟨⟨d, next⟩, s'⟩ := r; rw [hv] at h; simp only at h
      split at h
      · injection h with h
        subst h; exact hr _ _ _ _ _ hv hi
      · cases h
  · injection h with h
    subst h; exact hi
theorem blobS_inv {z : List Int} {sh : Shp} {l : List Ent} {no : Int} {s : St} {b : List Int} {s' : St} (h : blobS z sh l no s = .ok (b, s')) (hi : Inv z.length s) : Inv z.length s' := by
  unfold blobS at h
  split at h
  · rename_i x y _
    split at h
    · rename_i h0
      cases ht : takeS z.length (4, no, 0, x.2.2.2, y.2.2.2) s with
      | error e => rw [ht] at h; cases h
      | ok s1 =>
        rw [ht] at h; injection h with h; injection h with h1 h2; subst h2; exact takeS_inv ht (by show 1 ≤ y.2.2.2; omega) hi
    · cases h
  · injection h with h
    injection h with h1 h2; subst h2; exact hi
theorem dirS_inv {z : List Int} {o : Int} {L : List Shp} : ∀ {f : Nat} {p sh : Int} {s : St} {r : DirT f × Int} {s' : St}, dirS z o L f p sh s = .ok (r, s') → Inv z.length s → Inv z.length s'
  | 0, _, _, _, _, _, h, _ => by simp [dirS] at h
  | f + 1, p, sh, s, r, s', h, hi => by
    simp only [dirS] at h
    cases he : entriesS z o p s.no { s with no := IntKind.i64.wrap (s.no + 1) } with
    | error e => rw [he] at h; cases h
    | ok q =>
      obtain ⟨l, s1⟩ := q; rw [he] at h; simp only at h; have i1 := entriesS_inv he (hi.of_spots rfl)
      cases ht : loopS (stepT z o (L.getD sh.toNat shp0) s.no) l ([], s1) with
      | error e => rw [ht] at h; cases h
      | ok q =>
        obtain ⟨tags, s2⟩ := q; rw [ht] at h; simp only at h; have i2 := loopS_inv (P := fun a : List Tgs × St => Inv z.length a.2) (fun _ _ _ h hp => stepT_inv h hp) ht i1
        split at h
        · cases h
        · cases hd : loopS (stepD (dirS z o L f) (L.getD sh.toNat shp0)) l ([], s2) with
          | error e => rw [hd] at h; cases h
          | ok q =>
            obtain ⟨subs, s3⟩ := q; rw [hd] at h; simp only at h; have i3 := loopS_inv (P := fun a : List (Int × DirT f) × St => Inv z.length a.2) (fun _ _ _ h hp => stepD_inv (fun _ _ _ _ _ h hi => dirS_inv h hi) h hp) hd i2
            cases hb : blobS z (L.getD sh.toNat shp0) l s.no s3 with
            | error e => rw [hb] at h; cases h
            | ok q =>
              obtain ⟨blob, s4⟩ := q; rw [hb] at h; injection h with h; injection h with h1 h2; subst h2; exact blobS_inv hb i3
theorem getV4 {z : List Int} (hb : Byt z) (q o : Int) : 0 ≤ getV z q 4 o ∧ getV z q 4 o ≤ 4294967295 := by
  have := getV_lt hb q 4 o; rw [show ((4 : Nat) : Int) = 4 from rfl, show (256 : Int) ^ 4 = 4294967296 by decide] at this
  omega
theorem dirS_next {z : List Int} {o : Int} {L : List Shp} {f : Nat} {p sh : Int} {s : St} {d : DirT f} {nx : Int} {s' : St} (hb : Byt z) (h : dirS z o L f p sh s = .ok ((d, nx), s')) : 0 ≤ nx ∧ nx ≤ 4294967295 := by
  cases f with
  | zero => simp [dirS] at h
  | succ f =>
    simp only [dirS] at h
    split at h
    · cases h
    · split at h
      · cases h
      · split at h
        · cases h
        · split at h
          · cases h
          · split at h
            · cases h
            · injection h with h
              injection h with h1 h2; injection h1 with h3 h4; subst h4; exact getV4 hb _ _
end Go.Proofs.YtilennmeiaehnaaGreat

namespace Go.Proofs.YtilennmeiaehnaaGreat
open Go.RowKit Tt
set_option linter.unusedVariables false
set_option linter.unusedSimpArgs false

section
attribute [local go_sem] Lib.run_eql_slice_nil
set_option maxHeartbeats 1000000 in
theorem bclone_own (a : Option Addr) (n c : Nat) (z : List Int) (w : World) (hs : Sl w a n c 1 (ints .u8 z)) (hl : n ≤ 140737488355328) :
    Calls Tryz.prog 163 #[.slice a n c] w fun e w' => ∃ a' c', e = .returned (.slice a' n c') ∧ w'.ownsRow w.heap.size 5 1 (.slice a' n c') n (ints .u8 z) ∧ Below w.heap.size w w' := by
  obtain ⟨i0, hi, hz0, hz1, hz2⟩ := info_parts info8
  cases a with
  | none =>
    have hc := hs.fit rfl; subst hc; have hn : n = 0 := by have := hs.le; omega
    subst hn; have hp : z = [] := List.eq_nil_of_length_eq_zero hs.ilen; subst hp; clear hs
    go_enter Tryz.func163, Tryz.ntmps163
    go_wp2
    go_ret
    exact ⟨_, _, rfl, own_nil _ _ _ _, Below.refl _ _⟩
  | some ad =>
    have hs' := Lib.hid hs; clear hs
    go_enter Tryz.func163, Tryz.ntmps163
    go_wp2_with (at_builtin; refine wpList_app rfl _ _ 30 rfl w.heap.size 5 i0 _ 1 1 Tryz.underlying30 hi hz0 hz1 hz2 rfl (by decide) _ 0 [] rfl (own_new w w.heap.size 5 1 0 #[] (Nat.le_refl _) (by unfold maxLen; omega) rfl) _ n c _ rfl (sl_alloc hs'.out _) ints_one (by omega) (by decide) (by simp) ?_; intro a5 c5 w2 ob hb2 hg2; rw [Nat.zero_add] at ob ⊢; rw [List.nil_append] at ob; clear hg2; have Ob := Lib.hid ob; have Hb2 := Lib.hid (((Below.refl _ _).alloc (Nat.le_refl _) _).trans hb2); clear ob hb2)
    go_ret
    exact ⟨_, _, rfl, Ob.out, Hb2.out⟩
end
abbrev Xv (sv : Value) : Nat → Prop := fun k => sv.ownBlock = some k
theorem kp_trans {X Y Z : Nat → Prop} {B : Nat} {w w1 w2 : World} (h : Kp X Y B w w1) (k : Kp Y Z B w1 w2) : Kp X Z B w w2 :=
  ⟨Nat.le_trans h.size k.size, fun i hB hi hx => by
    have h1 := h.block i hB hi hx; have h2 := k.block i hB (Nat.lt_of_lt_of_le hi h.size) h1.2; exact ⟨h2.1.trans h1.1, h2.2⟩⟩
theorem grown_but {w w' : World} {r : Nat} (h : w.grownBy w' (some r)) : But r w w' := ⟨h.os, h.tape, h.output, h.size, fun k hk hne => h.block k hk (fun e => hne (by injection e))⟩
theorem grown_below {w w' : World} (h : w.grownBy w' none) : Below w.heap.size w w' := ⟨h.os, h.tape, h.output, h.size, fun k hk => h.block k hk (fun e => by cases e)⟩
structure Pst (K : WkS) (A B B2 gd gs : Nat) : Prop where
  g : K.g < A
  gt : K.gt < A
  w0 : K.w0.heap.size ≤ A
  gd1 : A ≤ gd
  gd2 : gd < B
  gs1 : A ≤ gs
  gs2 : gs < B
  gds : gd ≠ gs
  bb : B ≤ B2
/-- what stands: A: the heap's size at the start; B: behind the directory's own variables; B2: behind its entries -/
structure Pk (K : WkS) (A B B2 gd gs : Nat) (w w4 : World) (sv sv3 : Value) (zc : Array Value) (s : St) (svi : Value) (tk : List Nat) (vt vs vb : Value) (tags : List Tgs) (wr : World) : Prop where
  ok : WkOk K s svi tk wr
  inv : Inv K.n s
  mv : Mv K.g K.gt sv svi w wr
  nb : ∀ k, svi.ownBlock = some k → k < A ∨ B ≤ k
  kp : Kp (Xv sv3) (Xv svi) B w4 wr
  tg : TagsAt (Xv svi) B2 wr vt tags
  bD : Blk wr gd 42 #[vt, vs, vb]
  bS : Blk wr gs 50 zc
  sz : B2 ≤ wr.heap.size
section
variable {K : WkS} {A B B2 gd gs : Nat} {w w4 : World} {sv sv3 : Value} {zc : Array Value} {s : St} {svi : Value} {tk : List Nat} {vt vs vb : Value} {tags : List Tgs} {wr wr' : World}
theorem Pk.later (h : Pk K A B B2 gd gs w w4 sv sv3 zc s svi tk vt vs vb tags wr) (hb : Below wr.heap.size wr wr') : Pk K A B B2 gd gs w w4 sv sv3 zc s svi tk vt vs vb tags wr' :=
  ⟨h.ok.later hb, h.inv, h.mv.later hb, h.nb, kp_trans h.kp (Kp.later hb), h.tg.keep (Kp.later hb), h.bD.late hb, h.bS.late hb, Nat.le_trans h.sz hb.size⟩
theorem Pk.mv2 {s' : St} {sv' : Value} {tk' : List Nat} (h : Pk K A B B2 gd gs w w4 sv sv3 zc s svi tk vt vs vb tags wr) (p : Pst K A B B2 gd gs) (m : Mv K.g K.gt svi sv' wr wr') (ok' : WkOk K s' sv' tk' wr') (inv' : Inv K.n s') : Pk K A B B2 gd gs w w4 sv sv3 zc s' sv' tk' vt vs vb tags wr' :=
  have := p.g; have := p.gt; have := p.gd1; have := p.gd2; have := p.gs1; have := p.gs2; have := p.bb; have hsz := h.sz
  ⟨ok', inv', h.mv.trans m, fun k e => by rcases m.own k e with h1 | h1 <;> first | exact h.nb k h1 | omega, kp_trans h.kp (Kp.mv m (by omega) (by omega)), h.tg.keep (Kp.mv m (by omega) (by omega)),
   h.bD.mv m (by omega) (by omega) (fun e => by have := h.nb _ e; omega), h.bS.mv m (by omega) (by omega) (fun e => by have := h.nb _ e; omega), Nat.le_trans hsz m.size⟩
theorem Pk.setD {vt' vs' vb' : Value} {tags' : List Tgs} (h : Pk K A B B2 gd gs w w4 sv sv3 zc s svi tk vt vs vb tags wr) (p : Pst K A B B2 gd gs) (hb : But gd wr wr') (bD' : Blk wr' gd 42 #[vt', vs', vb']) (tg' : TagsAt (Xv svi) B2 wr vt' tags') (hw : w.heap.size = A) : Pk K A B B2 gd gs w w4 sv sv3 zc s svi tk vt' vs' vb' tags' wr' :=
  have := p.g; have := p.gt; have := p.gd1; have := p.gd2; have := p.w0; have := p.bb
  ⟨h.ok.but hb (by omega) (by omega) (fun e => by have := h.nb _ e; omega) (by omega), h.inv, h.mv.new_set (by omega) hb, h.nb, kp_trans h.kp (kp_but hb p.gd2), tg'.keep (kp_but hb (by omega)), bD', h.bS.but hb (Ne.symm p.gds), Nat.le_trans h.sz hb.size⟩
theorem Pk.butHi {vt' : Value} {tags' : List Tgs} {r : Nat} (h : Pk K A B B2 gd gs w w4 sv sv3 zc s svi tk vt vs vb tags wr) (p : Pst K A B B2 gd gs) (hb : But r wr wr') (hr : B2 ≤ r) (hx : svi.ownBlock ≠ some r) (hw4 : w4.heap.size = B2) (hw : w.heap.size = A) (tg' : TagsAt (Xv svi) B2 wr' vt tags) : Pk K A B B2 gd gs w w4 sv sv3 zc s svi tk vt vs vb tags wr' :=
  have := p.g; have := p.gt; have := p.gd1; have := p.gd2; have := p.w0; have := p.bb; have := p.gs2
  ⟨h.ok.but hb (by omega) (by omega) hx (by omega), h.inv, h.mv.new_set (by omega) hb, h.nb, ⟨Nat.le_trans h.kp.size hb.size, fun k hB hk hX => ⟨(hb.block k (Nat.lt_of_lt_of_le hk h.kp.size) (by omega)).trans (h.kp.block k hB hk hX).1, (h.kp.block k hB hk hX).2⟩⟩, tg', h.bD.but hb (by omega), h.bS.but hb (by omega), Nat.le_trans h.sz hb.size⟩
theorem Pk.app {w8 w9 w10 : World} {vt' vs' vb' : Value} {tags' : List Tgs} {row : Option Nat} (h : Pk K A B B2 gd gs w w4 sv sv3 zc s svi tk vt vs vb tags w8) (p : Pst K A B B2 gd gs) (hg : w8.grownBy w9 row) (hr : ∀ r, row = some r → B2 ≤ r ∧ svi.ownBlock ≠ some r) (hw4 : w4.heap.size = B2) (hw : w.heap.size = A)
    (hb : But gd w9 w10) (bD' : Blk w10 gd 42 #[vt', vs', vb']) (tg' : TagsAt (Xv svi) B2 w9 vt' tags') : Pk K A B B2 gd gs w w4 sv sv3 zc s svi tk vt' vs' vb' tags' w10 := by
  have := p.g; have := p.gt; have := p.gd1; have := p.gd2; have := p.w0; have := p.bb; have := p.gs2
  cases row with
  | none => exact (h.later (grown_below hg)).setD p hb bD' tg' hw
  | some r =>
    have hr := hr r rfl; have hbr := grown_but hg
    exact ⟨(h.ok.but hbr (by omega) (by omega) hr.2 (by omega)).but hb (by omega) (by omega) (fun e => by have := h.nb _ e; omega) (by omega), h.inv, (h.mv.new_set (by omega) hbr).new_set (by omega) hb, h.nb,
      ⟨Nat.le_trans h.kp.size (Nat.le_trans hbr.size hb.size), fun k hB hk hX => ⟨(hb.block k (Nat.lt_of_lt_of_le hk (Nat.le_trans h.kp.size hbr.size)) (by omega)).trans ((hbr.block k (Nat.lt_of_lt_of_le hk h.kp.size) (by omega)).trans (h.kp.block k hB hk hX).1), (h.kp.block k hB hk hX).2⟩⟩,
      tg'.keep (kp_but hb (by omega)), bD', (h.bS.but hbr (by omega)).but hb (Ne.symm p.gds), Nat.le_trans h.sz (Nat.le_trans hbr.size hb.size)⟩
end
theorem loopS_cons_ok {α σ : Type} {step : σ → α → Except Int σ} {x : α} {r : List α} {s s' : σ} (h : step s x = .ok s') : loopS step (x :: r) s = loopS step r s' := by simp [loopS, h]
theorem loopS_cons_err {α σ : Type} {step : σ → α → Except Int σ} {x : α} {r : List α} {s : σ} {e : Int} (h : step s x = .error e) : loopS step (x :: r) s = .error e := by simp [loopS, h]
theorem Sk.sl {X : Nat → Prop} {B B' : Nat} {w : World} {a : Option Addr} {n n' c sz : Nat} {cs : List Value} (h : Sk X B B' w (.slice a n c) sz n' cs) : n = n' ∧ Sl w a n c sz cs := by
  obtain ⟨a', c', e, h1, _⟩ := h.at_; injection e with e1 e2 e3; subst e1 e2 e3; exact ⟨rfl, h1⟩
theorem Sk.val {X : Nat → Prop} {B B' : Nat} {w : World} {v : Value} {n sz : Nat} {cs : List Value} (h : Sk X B B' w v sz n cs) : ∃ a c, v = .slice a n c := by
  obtain ⟨a', c', e, _⟩ := h.at_; exact ⟨a', c', e⟩
theorem Sk.tail {X : Nat → Prop} {B B' : Nat} {w : World} {a a2 : Option Addr} {n c n2 c2 sz : Nat} {cs cs2 : List Value} (h : Sk X B B' w (.slice a n c) sz n cs) (hs : Sl w a2 n2 c2 sz cs2) (hi : In a2 a) : Sk X B B' w (.slice a2 n2 c2) sz n2 cs2 := by
  obtain ⟨a', c', e, _, h2⟩ := h.at_; injection e with e1 e2 e3; subst e1 e3
  exact ⟨a2, c2, rfl, hs, fun x hx => by
    obtain ⟨y, hy, hb⟩ := hi x hx; rw [← hb]; exact h2 y hy⟩
theorem fl_drop {α : Type} {f : α → List Value} {k : Nat} (hf : ∀ x, (f x).length = k) (x : α) (r : List α) : (fl f (x :: r)).drop k = fl f r := by
  rw [fl_cons, List.drop_append, hf x, Nat.sub_self, List.drop_of_length_le (by rw [hf x]; exact Nat.le_refl _)]
  simp
theorem DirAt.slices {X : Nat → Prop} {B : Nat} {w : World} : ∀ {f : Nat} {d : DirT f} {v : Dz}, DirAt X B w f d v → ∃ a1 n1 c1 a2 n2 c2 a3 n3 c3, v = (.slice a1 n1 c1, .slice a2 n2 c2, .slice a3 n3 c3)
  | 0, _, _, h => h.elim
  | f + 1, d, v, h => by
    obtain ⟨_, ⟨zs, _, h1, _⟩, ⟨ds, _, h2, _⟩, h3⟩ := h; obtain ⟨a1, c1, e1⟩ := own_v' h1.1; obtain ⟨a2, c2, e2⟩ := own_v' h2.1; obtain ⟨a3, c3, e3⟩ := own_v' h3.1; obtain ⟨v1, v2, v3⟩ := v; simp only at e1 e2 e3; subst e1 e2 e3; exact ⟨_, _, _, _, _, _, _, _, _, rfl⟩
/-- how a directory is handed back -/
def DirIs (f : Nat) (w : World) (r : DirT f × Int) (sv' : Value) (e : Ending) (w' : World) : Prop :=
  ∃ v : Dz, e = .returned (.tuple #[.agg #[v.1, v.2.1, v.2.2], .int .i64 r.2]) ∧ DirAt (Xv sv') w.heap.size w' f r.1 v
end Go.Proofs.YtilennmeiaehnaaGreat
