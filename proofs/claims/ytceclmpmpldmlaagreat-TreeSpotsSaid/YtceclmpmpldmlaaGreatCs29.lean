/- Chapter 22: a tree's bytes are read as it. Plain. | Chapter 21: told and listed of the law TreeSpots. | Chapter 21: what holds of a directory's bytes: plain. | Chapter 21: are two trees the same: the program. -/
import Derived.Test.YtceclmpmpldmlaaGreatCs28
import Derived.Test.YtceclmpmpldmlaaGreatCs14
import Derived.Test.YtceclmpmpldmlaaGreatCs07
import Derived.Test.YtceclmpmpldmlaaGreatCs20
import Derived.Test.YtceclmpmpldmlaaGreatCs13
namespace Go.Proofs.YtceclmpmpldmlaaGreat
open Go.RowKit Tt
set_option linter.unusedVariables false
set_option linter.unusedSimpArgs false

section
variable {f : Nat} {o : Int} {ds : List (DirT f)} {L : List Shp} (h : checkS f o ds L = 0) (hb : ∀ d ∈ ds, bytD f d)
/-- bytes in which a tree stands -/
structure Holds (f : Nat) (o : Int) (ds : List (DirT f)) (L : List Shp) (z : List Int) : Prop where
  std : Std z (treeQ f o ds L)
  nul : ∀ (m : Int) (e : Nat), ((2, m, 0, 6 + 12 * (e : Int)) : Itm) ∈ itmT f ds → (∀ k, k + 1 < ds.length → noT f ds k ≠ m) → getV z (atS (layT f ds) 2 m 0 + 2 + 12 * (e : Int)) 4 o = 0
  len : endS (layT f ds) ≤ z.length
include h
theorem flat_pos {k : Nat} (hk : k < ds.length) : 0 < (flatS f (ds.getD k (dirZ f))).length := by
  have hh := hasAll_get (chk_of h).2.2.2.2.1 hk
  cases f with
  | zero => exact absurd hh (by simp [hasS])
  | succ f => rw [flatS_succ]; simp
theorem noT_lt {a b : Nat} (hab : a < b) (hbn : b ≤ ds.length) : noT f ds a < noT f ds b := by
  have h1 := noT_step f ds (show a < ds.length by omega); have h2 := flat_pos h (show a < ds.length by omega); have h3 := noT_mono f ds (show a + 1 ≤ b by omega)
  omega
include hb
theorem treeQ_parts {q : Pt} (hq : q ∈ treeQ f o ds L) : (InQ (layT f ds) (fun s => s.2.1 = -1) q) ∨ (∃ k, k < ds.length ∧ Lies (layT f ds) (fun s => noT f ds k ≤ s.2.1 ∧ s.2.1 < noT f ds (k + 1)) q) ∨
    (∃ k, k + 1 < ds.length ∧ ∃ s ∈ layT f ds, keyS s = (2, noT f ds k, 0) ∧ (q.1 : Int) = s.2.2.2.1 + s.2.2.2.2 - 4 ∧ q.2.length = 4 ∧ s.2.2.2.1 ≤ q.1) := by
  obtain ⟨s, s1, s2, s3, s4⟩ := head8 (f := f) (ds := ds); have ho := (chk_of h).2.1; have p42 : (putS 42 2 o).length = 2 := putS_len2 (n := 42) (s := 2) ((putOk_iff ho).2 (by decide)); have p8 : (putS 8 4 o).length = 4 := putS_len2 (n := 8) (s := 4) ((putOk_iff ho).2 (by decide)); have sg := signB_len (o := o)
  rcases List.mem_cons.1 hq with rfl | hq
  · exact .inl ⟨s, s1, s2, by rw [s3]; exact Int.le_refl _, by rw [s3, s4]; show ((0 : Nat) : Int) + (signB o).length ≤ _; omega⟩
  rcases List.mem_cons.1 hq with rfl | hq
  · exact .inl ⟨s, s1, s2, by rw [s3]; show (0 : Int) ≤ (2 : Nat); omega, by rw [s3, s4]; show ((2 : Nat) : Int) + (putS 42 2 o).length ≤ _; omega⟩
  rcases List.mem_cons.1 hq with rfl | hq
  · exact .inl ⟨s, s1, s2, by rw [s3]; show (0 : Int) ≤ (4 : Nat); omega, by rw [s3, s4]; show ((4 : Nat) : Int) + (putS 8 4 o).length ≤ _; omega⟩
  obtain ⟨k, hk, hq⟩ := List.mem_flatMap.1 hq; have hk := List.mem_range.1 hk
  rcases List.mem_append.1 hq with hq | hq
  · exact .inr (.inl ⟨k, hk, (dirT_apart h hb hk).1 q hq⟩)
  · obtain ⟨a1, a2, t, t1, t2, t3⟩ := nextQ_in h hb hk hq
    obtain ⟨v, i1, i2, i3, i4, i5, _⟩ := linkP2_at h hk; have hst : t = v := key_one (layT_keys f ds (hasAll_dis (chk_of h).2.2.2.2.1)) t1 i1 (t2.trans i2.symm); subst hst; exact .inr (.inr ⟨k, a1, t, t1, t2, t3, a2, by omega⟩)
/-- behind the entries of a directory that is not followed nothing is written -/
theorem tail_free {m : Int} {s : Spt} (hs : s ∈ layT f ds) (hsk : keyS s = (2, m, 0)) (hm : 0 ≤ m) (hne : ∀ k, k + 1 < ds.length → noT f ds k ≠ m) {q : Pt} (hq : q ∈ treeQ f o ds L) : (q.1 : Int) + q.2.length ≤ s.2.2.2.1 + s.2.2.2.2 - 4 ∨ s.2.2.2.1 + s.2.2.2.2 ≤ q.1 ∨ (q.1 : Int) + q.2.length ≤ s.2.2.2.1 := by
  have hA := layT_ahead f ds
  rcases treeQ_parts h hb hq with hp | ⟨k, hk, hp⟩ | ⟨k, hk, t, t1, t2, t3, t4, t5⟩
  · obtain ⟨t, t1, t2, t3, t4⟩ := hp
    have hn : t ≠ s := fun e => by rw [e, (key_no hsk).2.1] at t2; omega
    rcases ahead_two hA t1 hs hn with e | e <;> unfold Ahead at e <;> omega
  · obtain ⟨t, t1, t2, t3, t4⟩ := hp
    by_cases e : t = s
    · subst e
      rw [if_pos (key_no hsk).1] at t4
      omega
    · rcases ahead_two hA t1 hs e with e | e <;> unfold Ahead at e <;> split at t4 <;> omega
  · have hn : t ≠ s := fun e => by
      rw [e] at t2; have := (key_no (hsk.symm.trans t2 ▸ t2)).2.1; have h1 := (key_no hsk).2.1; have h2 := (key_no t2).2.1; exact hne k hk (h2.symm.trans h1)
    rcases ahead_two hA t1 hs hn with e | e <;> unfold Ahead at e <;> omega
omit h hb in
theorem getV_zero {z : List Int} {p o : Int} (ho : o = 1 ∨ o = 2) (h0 : 0 ≤ p) (h1 : p + 4 ≤ z.length) (hz : ∀ k : Nat, p ≤ k → (k : Int) < p + 4 → z.getD k 0 = 0) : getV z p 4 o = 0 := by
  have e : (z.drop p.toNat).take (4 : Int).toNat = [0, 0, 0, 0] := by
    refine list_ext0 (by simp; omega) fun k hk => ?_; have hk4 : k < 4 := by simp at hk; omega
    have h2 := hz (p.toNat + k) (by omega) (by omega); simp only [List.getD_eq_getElem?_getD, List.getElem?_take, List.getElem?_drop] at h2 ⊢; rw [if_pos (by omega), h2]
    rcases (by omega : k = 0 ∨ k = 1 ∨ k = 2 ∨ k = 3) with rfl | rfl | rfl | rfl <;> rfl
  rw [getV_in (by decide) ho h0 (by omega)]; unfold getL; rw [e]
  split <;> rfl
theorem holds_W (m : Nat) : Holds f o ds L (treeW f o ds L ++ List.replicate m 0) := by
  have hlen := treeW_len h hb; have hin := treeQ_inB h hb; have hLo := long_of (chk_of h).2.2.2.2.2; have ho := (chk_of h).2.1; refine ⟨fun p hp => ?_, fun n e hx hne => ?_, by rw [List.length_append, hlen]; omega⟩
  · have h1 := hin p hp
    have h2 := treeW_get h hb hp; refine ⟨by rw [List.length_append, hlen]; omega, ?_⟩; rw [List.drop_append_of_le_length (by rw [hlen]; omega), List.take_append_of_le_length (by rw [List.length_drop, hlen]; omega)]; exact h2
  · have hdis := hasAll_dis (chk_of h).2.2.2.2.1
    obtain ⟨s, g1, g2, g3, g4, _, g5, _, g6⟩ := layT_spot hdis hx; simp only at g3 g4 g6
    have hm : 0 ≤ n := by
      rcases List.mem_cons.1 hx with e1 | hx
      · have := congrArg (fun k => k.1) e1
        simp at this
      · obtain ⟨j, _, hx⟩ := itmSs_mem hx
        have := (itmD_no _ _ _ _ hx).1; simp only at this
        omega
    refine getV_zero ho (by omega) (by rw [List.length_append, hlen]; omega) fun k hk1 hk2 => ?_; have hkl : k < (treeW f o ds L).length := by rw [hlen]; omega
    rw [List.getD_eq_getElem?_getD, List.getElem?_append_left hkl, ← List.getD_eq_getElem?_getD, treeW_Q h hb, apP_out _ _ k (by simp only [List.length_replicate]; exact hin) fun q hq => ?_]
    · rw [List.getD_eq_getElem?_getD, List.getElem?_replicate]
      split <;> rfl
    · have := tail_free h hb g1 g2 hm hne hq
      intro hc
      omega
omit h hb in
theorem backD_of {z : List Int} (hH : Holds f o ds L z) : ∀ (g : Nat) (d : DirT g) (no i nx : Int), hasS L g d i = true → (∀ x ∈ itmD g d no, x ∈ itmT f ds) → (∀ p ∈ dirQ L (layT f ds) o g d no i, p ∈ treeQ f o ds L) →
    (∀ m, no < m → m < no + (flatS g d).length → ∀ k, k + 1 < ds.length → noT f ds k ≠ m) → getV z (atS (layT f ds) 2 no 0 + 2 + 12 * ((entD g d : Nat) : Int)) 4 o = nx → BackD z L (layT f ds) o g d no i nx
  | 0, _, _, _, _, hh, _, _, _, _ => absurd hh (by simp [hasS])
  | g + 1, d, no, i, nx, hh, hin, hq, hm, hnx => by
    have hf := hasF_iff.1 hh; have hfl : (flatS (g + 1) d).length = (flats g d.2.1).length + 1 := by rw [flatS_succ]; rfl
    refine ⟨fun p hp => hH.std p (hq p (by rw [dirQ_succ]; exact List.mem_append.2 (.inr hp))), hnx, fun j hj => ?_⟩; have h1 := subN_step g d.2.1 no hj; have h2 := subN_le g d.2.1 no j; have h3 := subN_le g d.2.1 no (j + 1)
    have hpos : 0 < (flatS g (d.2.1.getD j (0, dirZ g)).2).length := by
      have hh2 := (hf.sb j hj).2
      cases g with
      | zero => exact absurd hh2 (by simp [hasS])
      | succ g => rw [flatS_succ]; simp
    refine backD_of hH g _ _ _ _ (hf.sb j hj).2 (fun x hx => hin x (itmD_sub hj x hx)) (fun p hp => hq p ?_) (fun m a b => hm m (by omega) (by omega)) (hH.nul _ _ (hin _ (itmD_sub hj _ (hasS_ent (hf.sb j hj).2 _))) (hm _ (by omega) (by omega))); rw [dirQ_succ]; refine List.mem_append.2 (.inl (List.mem_flatMap.2 ⟨j, List.mem_range.2 hj, hp⟩))
/-- where the next directory of the chain is told to be -/
def nextP (f : Nat) (ds : List (DirT f)) (k : Nat) : Int := if k < ds.length then atS (layT f ds) 2 (noT f ds k) 0 else 0
theorem backT_of {z : List Int} (hH : Holds f o ds L z) {k : Nat} (hk : k < ds.length) : BackD z L (layT f ds) o f (ds.getD k (dirZ f)) (noT f ds k) (nxtS L k) (nextP f ds (k + 1)) := by
  have hAll := (chk_of h).2.2.2.2.1; have ho := (chk_of h).2.1; have hh := hasAll_get hAll hk; have hst := noT_step f ds hk; obtain ⟨s, g1, g2, g3, g4, g5, g6⟩ := linkP2_at h hk; refine backD_of hH f _ _ _ _ hh (itmT_get hk) (fun p hp => ?_) (fun m a b j hj e => ?_) ?_
  · refine List.mem_cons_of_mem _ (List.mem_cons_of_mem _ (List.mem_cons_of_mem _ (List.mem_flatMap.2 ⟨k, List.mem_range.2 hk, List.mem_append.2 (.inl hp)⟩)))
  · rw [← hst] at b
    rcases Nat.lt_trichotomy j k with c | c | c
    · have := noT_mono f ds (show j ≤ k by omega); omega
    · subst c; omega
    · have := noT_mono f ds (show k + 1 ≤ j by omega); omega
  · unfold nextP
    by_cases hk1 : k + 1 < ds.length
    · rw [if_pos hk1]
      have hpk := (okt_of h hb).pk (k + 1) hk1; have hl := hH.std (linkP2 (layT f ds) o f ds (k + 1)) (List.mem_cons_of_mem _ (List.mem_cons_of_mem _ (List.mem_cons_of_mem _ (List.mem_flatMap.2 ⟨k, List.mem_range.2 hk, List.mem_append.2 (.inr (by unfold nextQ; rw [if_pos hk1]; exact List.mem_singleton.2 rfl))⟩)))); unfold linkP2 at hl; have hlk : lnkT (layT f ds) f ds (k + 1) = atS (layT f ds) 2 (noT f ds k) 0 + 2 + 12 * ((entD f (ds.getD k (dirZ f)) : Nat) : Int) := rfl; rw [hlk] at hl; simp only [show (putS (atS (layT f ds) 2 (noT f ds (k + 1)) 0) 4 o).length = 4 from putS_len2 hpk] at hl; exact getV_put (by decide) ho (by omega) (by have := hH.len; omega) hpk hl.2
    · rw [if_neg hk1]
      refine hH.nul _ _ (itmT_get hk _ (hasS_ent hh _)) fun j hj e => ?_; have := noT_lt h (show j < k by omega) (by omega)
      omega
end
end Go.Proofs.YtceclmpmpldmlaaGreat

namespace Go.Proofs.YtceclmpmpldmlaaGreat
open Go.RowKit Tt
set_option linter.unusedVariables false
set_option linter.unusedSimpArgs false

set_option maxHeartbeats 2000000 in
theorem told_any (a : Option Addr) (n c : Nat) (ls : List Spt) (what no tag at_ : Int) (w : World) (hs : Sl w a n c 5 (fl spC ls)) (hany : ls.any (atP what no tag) = true) (hat : atS ls what no tag = at_) :
    Calls Tryz.prog 53 #[.slice a n c, .int .i64 what, .int .i64 no, .int .i64 tag, .int .i64 at_] w fun e w' => e = .returned (.bool true) ∧ Below w.heap.size w w' := by
  have hl := hs.flen spC_len (by decide); have hm := hs.max; have hle := hs.le; have hs' := Lib.hid hs; have hl' := Lib.hid hl; have hany' := Lib.hid hany; have hat' := Lib.hid hat; clear hs hl hany hat
  go_enter Tryz.func53, Tryz.ntmps53
  go_wp2_with fail
  go_loopw [11] (fun iv wr => ∃ k : Nat, k ≤ n ∧ iv = .int .i64 k ∧ Hid (∀ i (hi : i < ls.length), i < k → atP what no tag ls[i] = false) ∧ Hid (Below w.heap.size w wr)) (fun iv _ => n - (intOf iv).toNat)
  case atStart => exact ⟨0, by omega, rfl, Lib.hid (fun j _ hj => by omega), Lib.hid (Below.refl _ _)⟩
  case round =>
    obtain ⟨k, hk, rfl, hall, hb⟩ := hrel
    by_cases hlt : k < n
    · have hww : IntKind.i64.wrap ((k : Int) + 1) = k + 1 := by rw [IntKind.wrap_i64]; omega
      have hil : (k : Int) < (n : Int) := by omega
      have hkl : k < ls.length := by rw [hl'.out]; exact hlt
      obtain ⟨b, o, rfl, hbb, f⟩ := (hs'.out.mono hb.out).elem spC_len (by decide) (0, 0, 0, 0, 0) hlt; rw [getD_el hkl] at f; have f0 := f 0 _ rfl; have f1 := f 1 _ rfl; have f2 := f 2 _ rfl; have f3 := f 3 _ rfl; clear f; rw [Nat.add_zero] at f0; have hp : atP what no tag ls[k] = (ls[k].1 == what && ls[k].2.1 == no && ls[k].2.2.1 == tag) := rfl
      have hfd : atP what no tag ls[k] = true → (ls[k].2.2.2.1 == at_) = true := fun h => by
        have h2 := hat'.out; unfold atS at h2; rw [find_at hkl h (fun i hi h2 => hall.out i hi h2)] at h2
        simpa using h2
      have hnx : atP what no tag ls[k] = false → ∀ i (hi : i < ls.length), i < k + 1 → atP what no tag ls[i] = false := fun h i hi h2 => by
        rcases Nat.lt_or_ge i k with h1 | h1
        · exact hall.out i hi h1
        · obtain rfl : i = k := by omega
          exact h
      generalize ls[k] = x at *
      obtain ⟨x0, x1, x2, x3, x4⟩ := x; simp only at hp f0 f1 f2 f3 hfd; obtain ⟨b0, hb0⟩ : ∃ b, (x0 == what) = b := ⟨_, rfl⟩; obtain ⟨b1, hbb⟩ : ∃ b, (x1 == no) = b := ⟨_, rfl⟩; obtain ⟨b2, hb2⟩ : ∃ b, (x2 == tag) = b := ⟨_, rfl⟩; rw [hb0, hbb, hb2] at hp
      cases b0
      · have hn := hnx hp
        clear hfd hnx hp; have hn' := Lib.hid hn; clear hn
        go_wp2_with fail
        go_roundw
        case rel => exact ⟨k + 1, by omega, by go_num, hn', hb⟩
        case measure => simp [intOf]; omega
      · cases b1
        · have hn := hnx hp
          clear hfd hnx hp; have hn' := Lib.hid hn; clear hn
          go_wp2_with fail
          go_roundw
          case rel => exact ⟨k + 1, by omega, by go_num, hn', hb⟩
          case measure => simp [intOf]; omega
        · cases b2
          · have hn := hnx hp
            clear hfd hnx hp; have hn' := Lib.hid hn; clear hn
            go_wp2_with fail
            go_roundw
            case rel => exact ⟨k + 1, by omega, by go_num, hn', hb⟩
            case measure => simp [intOf]; omega
          · have hq := hfd hp
            clear hfd hnx hp
            go_wp2_with fail
            go_ret
            exact ⟨rfl, hb.out⟩
    · exfalso
      obtain ⟨s, h1, h2⟩ := List.any_eq_true.1 hany'.out; obtain ⟨i, hi, rfl⟩ := List.getElem_of_mem h1; have h3 := hall.out i hi (by have := hl'.out; omega); rw [h3] at h2
      cases h2
theorem pair_uniq {E : List Ent} (hd : E.Pairwise fun x y => x.1 ≠ y.1) {x y : Ent} (hx : x ∈ E) (hy : y ∈ E) (h : x.1 = y.1) : x = y := by
  induction E with
  | nil => cases hx
  | cons u E ih =>
    obtain ⟨h1, h2⟩ := List.pairwise_cons.1 hd
    rcases List.mem_cons.1 hx with e1 | hx2 <;> rcases List.mem_cons.1 hy with e2 | hy2
    · exact e1.trans e2.symm
    · exact absurd (e1 ▸ h) (h1 y hy2)
    · exact absurd (e2 ▸ h.symm) (h1 x hx2)
    · exact ih h2 hx2 hy2
set_option maxRecDepth 20000 in
set_option maxHeartbeats 2000000 in
theorem listed_any (a : Option Addr) (n c : Nat) (z : List Int) (o p : Int) (k : Nat) (tag : Int) (x : Ent) (E : List Ent) (w : World) (hs : Sl w a n c 1 (ints .u8 z)) (hb : Byt z) (ho : o = 1 ∨ o = 2) (h0 : 0 ≤ p) (h1 : p + 2 + 12 * (k : Int) ≤ n) (hn : n ≤ 1000000000)
    (hE : entsS z o p k = E) (hd : E.Pairwise fun x y => x.1 ≠ y.1) (hx : x ∈ E) (ht : x.1 = tag) :
    Calls Tryz.prog 16 #[.slice a n c, .int .i64 p, .int .i64 k, .int .i64 tag, .int .i64 o] w fun e w' => e = .returned (.tuple #[entV x, .bool true]) ∧ Below w.heap.size w w' := by
  have hEl : E.length = k := by rw [← hE]; unfold entsS; simp
  have hEi : ∀ i (hi : i < E.length), E[i] = entAt z o (p + 2 + 12 * (i : Int)) := fun i hi => by
    have h2 : E = (List.range k).map (fun (i : Nat) => entAt z o (p + 2 + 12 * (i : Int))) := hE.symm; subst h2; rw [List.getElem_map, List.getElem_range]
  have hR := fun (i : Nat) W (hi : i < k) (h : Below w.heap.size w W) => eread_any a n c z o (p + 2 + 12 * (i : Int)) W (hs.mono h) hb ho (by omega) (by omega) hn; have hal := (Below.refl w.heap.size w).alloc (Nat.le_refl _) (.cells #[.int .i64 0, .int .i64 0, .int .i64 0, .int .i64 0] 55); have b0 := Blk.new w 55 #[.int .i64 0, .int .i64 0, .int .i64 0, .int .i64 0]; have hwa : IntKind.i64.wrap (p + 2) = p + 2 := by rw [IntKind.wrap_i64]; omega
  have hs' := Lib.hid hs; have hb' := Lib.hid hb; have ho' := Lib.hid ho; have hE' := Lib.hid hE; have hd' := Lib.hid hd; have hx' := Lib.hid hx; have ht' := Lib.hid ht; have hEl' := Lib.hid hEl; have hEi' := Lib.hid hEi; have hR' := Lib.hid hR; have hal' := Lib.hid hal; have b0' := Lib.hid b0; clear hs hb ho hE hd hx ht hEl hEi hR hal b0
  go_enter Tryz.func16, Tryz.ntmps16
  go_wp2_with fail
  go_loopw [12] (fun iv wr => ∃ i : Nat, i ≤ k ∧ iv = .int .i64 i ∧ Hid (∀ j (hj : j < E.length), j < i → E[j].1 ≠ tag) ∧ Hid (Blk wr w.heap.size 55 #[.int .i64 0, .int .i64 0, .int .i64 0, .int .i64 0]) ∧ Hid (Below w.heap.size w wr)) (fun iv _ => k - (intOf iv).toNat)
  case atStart => exact ⟨0, by omega, rfl, Lib.hid (fun j _ hj => by omega), b0', hal'⟩
  case round =>
    obtain ⟨i, hi, rfl, hall, hbl, hbr⟩ := hrel
    by_cases hlt : i < k
    · have hil : (i : Int) < (k : Int) := by omega
      have hww : IntKind.i64.wrap ((i : Int) + 1) = i + 1 := by rw [IntKind.wrap_i64]; omega
      have hwb : IntKind.i64.wrap (12 * (i : Int)) = 12 * i := by rw [IntKind.wrap_i64]; omega
      have hwc : IntKind.i64.wrap (p + 2 + 12 * (i : Int)) = p + 2 + 12 * i := by rw [IntKind.wrap_i64]; omega
      have hkl : i < E.length := by rw [hEl'.out]; exact hlt
      have hRi := hR'.out i wr hlt hbr.out; rw [← hEi'.out i hkl] at hRi; have hfd : E[i].1 = tag → E[i] = x := fun h => pair_uniq hd'.out (List.getElem_mem hkl) hx'.out (h.trans ht'.out.symm)
      have hnx : E[i].1 ≠ tag → ∀ j (hj : j < E.length), j < i + 1 → E[j].1 ≠ tag := fun h j hj h2 => by
        rcases Nat.lt_or_ge j i with h1 | h1
        · exact hall.out j hj h1
        · obtain rfl : j = i := by omega
          exact h
      obtain ⟨⟨x0, x1, x2, x3⟩, hxx⟩ : ∃ q, E[i] = q := ⟨_, rfl⟩; rw [hxx] at hfd hnx hRi; unfold entV at hRi; simp only at hfd hnx hRi; have hRi' := Lib.hid hRi; have hxx' := Lib.hid hxx; clear hRi hxx
      go_wp2_with fail
      refine hRi'.out.mono ?_; rintro e w2 ⟨rfl, hb2⟩; have hbw2 := hbr.out.trans (hb2.mono hbr.out.size); have bl2 := hbl.out.late hb2; have hal2 := (Below.refl w2.heap.size w2).alloc (Nat.le_refl _) (.cells #[.int .i64 x0, .int .i64 x1, .int .i64 x2, .int .i64 x3] 55); have bN := Blk.new w2 55 #[.int .i64 x0, .int .i64 x1, .int .i64 x2, .int .i64 x3]; have hbw3 := hbw2.trans (hal2.mono hbw2.size); have bl3 := bl2.late hal2; have n0 := bN.cell (i := 0) rfl; have n1 := bN.cell (i := 1) rfl; have n2 := bN.cell (i := 2) rfl; have n3 := bN.cell (i := 3) rfl
      by_cases hxt : x0 = tag
      · have e0 : (x0 == tag) = true := by simpa using hxt
        have hxe := hfd hxt; have p0 := bl3.cell (i := 0) rfl; have p1 := bl3.cell (i := 1) rfl; have p2 := bl3.cell (i := 2) rfl; have p3 := bl3.cell (i := 3) rfl; have y0 := bl3.frozen 0; have y1 := bl3.frozen 1; have y2 := bl3.frozen 2; have y3 := bl3.frozen 3; clear hfd hnx hxt; have hb2' := Lib.hid hb2; have hbw2' := Lib.hid hbw2; have bl2' := Lib.hid bl2; have hal2' := Lib.hid hal2; have bN' := Lib.hid bN; have hbw3' := Lib.hid hbw3; have bl3' := Lib.hid bl3; have hxe' := Lib.hid hxe; clear hb2 hbw2 bl2 hal2 bN hbw3 bl3 hxe
        go_wp2_with fail
        refine bodyPost_ret (results_blk_tmp rfl _ _ w.heap.size 55 #[.int .i64 x0, .int .i64 x1, .int .i64 x2, .int .i64 x3] _ rfl (bl3'.out.set4 _ _ _ _) Tryz.underlying55 rfl (by kernel_rfl)) rfl ?_; exact ⟨by rw [← hxe'.out]; rfl, below_set4 hbw3'.out (Nat.le_refl _) _ _ _ _⟩
      · have e0 : (x0 == tag) = false := by simpa using hxt
        have hn2 := hnx hxt; clear hfd hnx hxt; have hb2' := Lib.hid hb2; have hbw2' := Lib.hid hbw2; have bl2' := Lib.hid bl2; have hal2' := Lib.hid hal2; have bN' := Lib.hid bN; have hbw3' := Lib.hid hbw3; have bl3' := Lib.hid bl3; have hn2' := Lib.hid hn2; clear hb2 hbw2 bl2 hal2 bN hbw3 bl3 hn2
        go_wp2_with fail
        go_roundw
        case rel => exact ⟨i + 1, by omega, by go_num, hn2', bl3', hbw3'⟩
        case measure => simp [intOf]; omega
    · exfalso
      obtain ⟨j, hj, hjx⟩ := List.getElem_of_mem hx'.out; exact hall.out j hj (by have := hEl'.out; omega) (by rw [hjx]; exact ht'.out)
end Go.Proofs.YtceclmpmpldmlaaGreat

namespace Go.Proofs.YtceclmpmpldmlaaGreat
open Go.RowKit Tt
set_option linter.unusedVariables false
set_option linter.unusedSimpArgs false

structure HoldD (z : List Int) (l : List Spt) (o no p : Int) (ts : List Tgs) (b : List Int) (s : Shp) (E : List Ent) : Prop where
  p0 : 0 ≤ p
  pl : p + 2 + 12 * (E.length : Int) ≤ z.length
  big : E.length ≤ 65535
  cnt : getV z p 2 o = E.length
  ents : entsS z o p E.length = E
  lt : E.Pairwise fun x y => x.1 < y.1
  nn : ∀ x ∈ E, 0 ≤ x.1
  tg : ∀ x ∈ ts, entT l o no x ∈ E ∧ tagB x.1 = true ∧ okT x = true ∧ Byt x.2.2.2 ∧ (inlV x o = false → l.any (atP 3 no x.1) = true ∧ 0 ≤ atS l 3 no x.1 ∧ atS l 3 no x.1 + (bytesV x o).length ≤ z.length ∧ (z.drop (atS l 3 no x.1).toNat).take (bytesV x o).length = bytesV x o)
  bl : 0 < b.length → (s.2.1, 4, 1, atS l 4 no 0) ∈ E ∧ (s.2.2.1, 4, 1, (b.length : Int)) ∈ E ∧ l.any (atP 4 no 0) = true ∧ 0 ≤ atS l 4 no 0 ∧ atS l 4 no 0 + b.length ≤ z.length ∧ (z.drop (atS l 4 no 0).toNat).take b.length = b
theorem HoldD.ne {z : List Int} {l : List Spt} {o no p : Int} {ts : List Tgs} {b : List Int} {s : Shp} {E : List Ent} (h : HoldD z l o no p ts b s E) : E.Pairwise fun x y => x.1 ≠ y.1 := h.lt.imp fun h => by omega
theorem holdD_of {z : List Int} {l : List Spt} {o no i nx : Int} {n f : Nat} {d : DirT (f + 1)} {L : List Shp} (hi : 0 ≤ i) (hh : hasS L (f + 1) d i = true) (hby : bytD (f + 1) d) (hw : okW L l n o (f + 1) d no i) (hn : n ≤ z.length) (hbk : BackD z L l o (f + 1) d no i nx) :
    HoldD z l o no (atS l 2 no 0) d.1 d.2.2 (L.getD i.toNat shp0) (sortE (entsD f l o no (L.getD i.toNat shp0) d)) ∧ (sortE (entsD f l o no (L.getD i.toNat shp0) d)).length = entN d.1.length d.2.1.length d.2.2.length := by
  have hf := hasF_iff.1 hh; obtain ⟨k1, k2, k3, k4, k5, k6, ho, k8, k9⟩ := okW_succ hw; obtain ⟨hS, hnx, hsub⟩ := hbk; have hel := entsD_len f l o no (L.getD i.toNat shp0) d; rw [putP_eq] at hS; have hSH : Std z (headQ l o no (entsD f l o no (L.getD i.toNat shp0) d)) := fun p hp => hS p (List.mem_append.2 (.inr hp)); have hSV : Std z (d.1.flatMap (patV l o no)) := fun p hp => hS p (List.mem_append.2 (.inl (List.mem_append.2 (.inl hp)))); have hSB : Std z (blobP l d.2.2 no) := fun p hp => hS p (List.mem_append.2 (.inl (List.mem_append.2 (.inr hp)))); obtain ⟨j1, j2, j3⟩ := k4; have hlen : (sortE (entsD f l o no (L.getD i.toNat shp0) d)).length = (entsD f l o no (L.getD i.toNat shp0) d).length := sortE_len _; refine ⟨⟨j2, by rw [hlen]; omega, by rw [hlen]; exact k6, ?_, by rw [hlen]; exact ents_back ho j2 k8 k9 hSH, sortE_lt k8, fun x hx => ?_, fun x hx => ?_, fun hb => ?_⟩, by rw [hlen, hel]⟩
  · rw [hlen]
    have h := hSH ((atS l 2 no 0).toNat, putS ((entsD f l o no (L.getD i.toNat shp0) d).length : Nat) 2 o) (by unfold headQ; exact List.mem_cons_self ..); have hpk : putOk ((entsD f l o no (L.getD i.toNat shp0) d).length : Nat) 2 o = true := (putOk_iff ho).2 (by rw [show topS 2 = 65536 by decide]; omega); have hl2 : (putS (((entsD f l o no (L.getD i.toNat shp0) d).length : Nat) : Int) 2 o).length = 2 := putS_len2 hpk; simp only [hl2] at h; exact getV_put (by decide) ho j2 (by omega) hpk h.2
  · have h := k9 x ((sortE_perm _).subset hx)
    unfold entOk at h; simp only [Bool.and_eq_true] at h; exact ((putOk_iff ho).1 h.1.1.1).1
  · have hm : entT l o no x ∈ entsD f l o no (L.getD i.toNat shp0) d := by
      unfold entsD; exact List.mem_append.2 (.inl (List.mem_append.2 (.inl (List.mem_map.2 ⟨x, hx, rfl⟩))))
    refine ⟨(sortE_perm _).symm.subset hm, (hf.tg x hx).1, (hf.tg x hx).2.2, hby.1 x hx, fun hin => ?_⟩; have hk := (k1 x hx).1; unfold okV at hk; rw [hin] at hk; obtain ⟨_, f1, f2, f3⟩ := hk.resolve_left (by decide); have hp := hSV ((atS l 3 no x.1).toNat, bytesV x o) (List.mem_flatMap.2 ⟨x, hx, by unfold patV; rw [hin, if_neg (by decide)]; exact List.mem_singleton.2 rfl⟩); simp only at hp; exact ⟨f1, f2, by omega, hp.2⟩
  · have hm : ∀ e ∈ blobE l (L.getD i.toNat shp0) d.2.2 no, e ∈ sortE (entsD f l o no (L.getD i.toNat shp0) d) := fun e he => (sortE_perm _).symm.subset (by
      unfold entsD; exact List.mem_append.2 (.inr he))
    unfold blobE at hm; rw [if_pos hb] at hm; obtain ⟨f1, f2, f3⟩ := k3 hb; have hp := hSB ((atS l 4 no 0).toNat, d.2.2) (by unfold blobP; rw [if_pos hb]; exact List.mem_singleton.2 rfl); simp only at hp; exact ⟨hm _ (List.mem_cons_self ..), hm _ (List.mem_cons_of_mem _ (List.mem_cons_self ..)), f1, f2, by omega, hp.2⟩
end Go.Proofs.YtceclmpmpldmlaaGreat

namespace Go.Proofs.YtceclmpmpldmlaaGreat
open Go.RowKit Tt
set_option linter.unusedVariables false
set_option linter.unusedSimpArgs false

theorem bequal_any (a a' : Option Addr) (n n' c c' : Nat) (x y : List Int) (w : World) (hx : Sl w a n c 1 (ints .u8 x)) (hy : Sl w a' n' c' 1 (ints .u8 y)) (hbx : Byt x) (hby : Byt y) :
    Calls Tryz.prog 73 #[.slice a n c, .slice a' n' c'] w fun e w' => e = .returned (.bool (x == y)) ∧ w = w' := by
  have e1 := conv_run (P := Tryz.prog) hx 24 5 9 Tryz.underlying24 Tryz.underlying5 Tryz.underlying9; have e2 := conv_run (P := Tryz.prog) hy 24 5 9 Tryz.underlying24 Tryz.underlying5 Tryz.underlying9; have e3 := str_beq hbx hby
  generalize (x == y) = r at *
  have hx' := Lib.hid hx; have hy' := Lib.hid hy; have hbx' := Lib.hid hbx; have hby' := Lib.hid hby
  clear hx hy hbx hby
  go_enter Tryz.func73, Tryz.ntmps73
  go_wp2
  go_ret
  exact ⟨rfl, rfl⟩
set_option maxHeartbeats 1000000 in
theorem tsame_any (y k y2 k2 : Int) (a a' : Option Addr) (n c n' c' : Nat) (d d2 : List Int) (w : World) (hs : Sl w a n c 1 (ints .u8 d)) (hs2 : Sl w a' n' c' 1 (ints .u8 d2)) (hd : Byt d) (hd2 : Byt d2) :
    Calls Tryz.prog 52 #[.agg #[.int .i64 y, .int .i64 k, .slice a n c], .agg #[.int .i64 y2, .int .i64 k2, .slice a' n' c']] w fun e w' => e = .returned (.bool (y == y2 && k == k2 && d == d2)) ∧ Below w.heap.size w w' := by
  have hb0 := ((Below.refl w.heap.size w).alloc (Nat.le_refl _) (.cells #[.int .i64 y, .int .i64 k, .slice a n c] 72)).alloc (by simp) (.cells #[.int .i64 y2, .int .i64 k2, .slice a' n' c'] 72); have HC := bequal_any a a' n n' c c' d d2 _ (hs.mono hb0) (hs2.mono hb0) hd hd2; obtain ⟨b3, h3⟩ : ∃ b, (d == d2) = b := ⟨_, rfl⟩; rw [h3] at HC; rw [h3]; have hs' := Lib.hid hs; have hs2' := Lib.hid hs2; have HC' := Lib.hid HC; have h3' := Lib.hid h3; have hb0' := Lib.hid hb0; have hd' := Lib.hid hd; have hd2' := Lib.hid hd2; clear hs hs2 HC h3 hb0 hd hd2
  go_enter Tryz.func52, Tryz.ntmps52
  cases h1 : (y == y2) with
  | false =>
    go_wp2_with fail
    go_ret
    exact ⟨rfl, hb0'.out⟩
  | true =>
    cases h2 : (k == k2) with
    | false =>
      go_wp2_with fail
      go_ret
      exact ⟨rfl, hb0'.out⟩
    | true =>
      go_wp2_with fail
      refine HC'.out.mono ?_; rintro e w2 ⟨rfl, rfl⟩
      go_wp2_with fail
      go_ret
      exact ⟨by cases b3 <;> rfl, hb0'.out⟩
end Go.Proofs.YtceclmpmpldmlaaGreat
