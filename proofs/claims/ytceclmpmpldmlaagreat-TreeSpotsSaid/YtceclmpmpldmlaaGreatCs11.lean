/- Chapter 20: the spots of a directory's values: program and document. | Chapter 20: the spots of a directory and all within it: the plain law's bounds; the program. | Chapter 20: a directory, and all within it, in order: the document. | Chapter 20: all directories of a tree, in order: the document. | Chapter 20: Of, Long: the document. | Chapter 20: Long: the document. -/
import Derived.Test.YtceclmpmpldmlaaGreatCs10
namespace Go.Proofs.YtceclmpmpldmlaaGreat
open Go.RowKit Tt
set_option linter.unusedVariables false
set_option linter.unusedSimpArgs false

theorem outS_le (ty cnt : Int) : 0 ≤ outS ty cnt ∧ outS ty cnt ≤ 524288 := by
  unfold outS; have := longS_le ty cnt
  split <;> omega
theorem addS_le (l : List Spt) (a b c e : Int) (h : 0 ≤ endS l) (he : 0 ≤ e) : 0 ≤ endS (addS l a b c e) ∧ endS (addS l a b c e) ≤ endS l + e + 1 := by
  rw [endS_add]; have := evenS_le h
  omega
theorem valsS_snoc (no : Int) (ts : List Tgs) (x : Tgs) (l : List Spt) : valsS no (ts ++ [x]) l = if 0 < outS x.2.1 x.2.2.1 then addS (valsS no ts l) 3 no x.1 (outS x.2.1 x.2.2.1) else valsS no ts l := by
  unfold valsS; rw [List.foldl_append]
  rfl
def valS1 (no : Int) (x : Tgs) (l : List Spt) : List Spt := if 0 < outS x.2.1 x.2.2.1 then addS l 3 no x.1 (outS x.2.1 x.2.2.1) else l
theorem valS1_pos {no y t k s : Int} {d : List Int} {l : List Spt} (hs : outS t k = s) (h : 0 < s) : valS1 no (y, t, k, d) l = addS l 3 no y s := by unfold valS1; simp only [hs]; rw [if_pos h]
theorem valS1_neg {no y t k s : Int} {d : List Int} {l : List Spt} (hs : outS t k = s) (h : ¬ 0 < s) : valS1 no (y, t, k, d) l = l := by unfold valS1; simp only [hs]; rw [if_neg h]
theorem valsS_step (no : Int) (l : List Spt) {zs : List Tz} {i : Nat} (hi : i < zs.length) : valsS no ((zs.map tagz).take (i + 1)) l = valS1 no (tagz (zs.getD i tz0)) (valsS no ((zs.map tagz).take i) l) := by
  rw [List.take_add_one, List.getElem?_eq_getElem (by rw [List.length_map]; exact hi), Option.toList_some, valsS_snoc, List.getElem_map, ← getD_el hi tz0]
  rfl
theorem valsS_le (no : Int) : ∀ (ts : List Tgs) (l : List Spt), 0 ≤ endS l → 0 ≤ endS (valsS no ts l) ∧ endS (valsS no ts l) ≤ endS l + ts.length * 524289 ∧ (valsS no ts l).length ≤ l.length + ts.length
  | [], l, h => ⟨h, by simp [valsS], by simp [valsS]⟩
  | x :: ts, l, h => by
    have ho := outS_le x.2.1 x.2.2.1; have e : valsS no (x :: ts) l = valsS no ts (if 0 < outS x.2.1 x.2.2.1 then addS l 3 no x.1 (outS x.2.1 x.2.2.1) else l) := rfl; rw [e]
    split
    · have h1 := addS_le l 3 no x.1 _ h ho.1
      have h2 := valsS_le no ts _ h1.1; rw [addS_len] at h2; simp only [List.length_cons]
      omega
    · have h2 := valsS_le no ts l h
      simp only [List.length_cons]
      omega
set_option maxRecDepth 20000 in
set_option maxHeartbeats 2000000 in
theorem pvals_any (g : Nat) (dir no : Int) (v : Value) (l : List Spt) (ta sa ba : Option Addr) (tn tc sn sc bn bc : Nat) (zs : List Tz) (w0 w : World) (ht : Tgr w0 ta tn tc zs) (hb0 : Below w0.heap.size w0 w) (hg0 : w0.heap.size ≤ g)
    (h : Pln g w no v l) (h0 : 0 ≤ endS l) (h1 : endS l < 1000000000000) (hl : l.length < 600000) (hn : tn < 1000) :
    Calls Tryz.prog 104 #[.pointer (some ⟨g, 0, none⟩), .agg #[.slice ta tn tc, .slice sa sn sc, .slice ba bn bc], .int .i64 dir, .func (.func 45) #[.pointer (some ⟨g, 0, none⟩)] #[]] w fun e w' => ∃ v', e = .returned (.tuple #[]) ∧ Pln g w' no v' (valsS dir (zs.map tagz) l) ∧ Mv g g v v' w w' := by
  have hzl := ht.len; have hb1 := (Below.refl w.heap.size w).alloc (Nat.le_refl _) (.cells #[.slice ta tn tc, .slice sa sn sc, .slice ba bn bc] 26); have hown : ∀ k, v.ownBlock = some k → w0.heap.size ≤ k := fun k e => by have := (h.spots.lt k e).1; omega
  have hgw := h.blk.lt
  have hLB : ∀ i, i ≤ tn → 0 ≤ endS (valsS dir ((zs.map tagz).take i) l) ∧ endS (valsS dir ((zs.map tagz).take i) l) < 4611686018427387 ∧ (valsS dir ((zs.map tagz).take i) l).length < 1000000 := fun i hi => by
    have := valsS_le dir ((zs.map tagz).take i) l h0; have hlen : ((zs.map tagz).take i).length ≤ i := by simp; omega
    omega
  have ht' := Lib.hid ht; have hb0' := Lib.hid hb0; have h' := Lib.hid h; have hzl' := Lib.hid hzl; have hb1' := Lib.hid hb1; have hown' := Lib.hid hown; have hLB' := Lib.hid hLB; clear ht hb0 h hzl hb1 hown hLB
  go_enter Tryz.func104, Tryz.ntmps104
  go_wp2_with fail
  go_loopw [14] (fun iv wr => ∃ (i : Nat) (v' : Value), i ≤ tn ∧ iv = .int .i64 i ∧ Hid (Pln g wr no v' (valsS dir ((zs.map tagz).take i) l)) ∧ Hid (Mv g g v v' w wr)) (fun iv _ => tn - (intOf iv).toNat)
  case atStart => exact ⟨0, v, by omega, rfl, Lib.hid (by simpa [valsS] using h'.out.later hb1'.out), Lib.hid (Mv.of_below hb1'.out)⟩
  case round =>
    obtain ⟨i, v', hin, rfl, hp, hm⟩ := hrel
    by_cases hi : i < tn
    · have hil : (i : Int) < (tn : Int) := by omega
      have hw1 : IntKind.i64.wrap ((i : Int) + 1) = i + 1 := by rw [IntKind.wrap_i64]; omega
      have hbr := hb0'.out.trans (hm.out.below (by omega) (by omega) hown'.out hb0'.out.size); obtain ⟨b, o, rfl, hblt, f0, f1, f2, f3, hrd⟩ := (ht'.out.mono hbr).at hi; have hnx := valsS_step dir l (show i < zs.length by rw [hzl'.out]; exact hi); obtain ⟨⟨⟨y, t, k, xa, xn, xc⟩, d⟩, hzi⟩ : ∃ z, zs.getD i tz0 = z := ⟨_, rfl⟩; rw [hzi] at f0 f1 f2 f3 hrd hnx; simp only [tagz] at f0 f1 f2 f3 hnx; have hO := fun W => out_any t k W; have hol := outS_le t k; obtain ⟨s, hs⟩ : ∃ s, outS t k = s := ⟨_, rfl⟩; rw [hs] at hO hol; have hL0 := hLB'.out i hin; obtain ⟨L, hL⟩ : ∃ L, valsS dir ((zs.map tagz).take i) l = L := ⟨_, rfl⟩; rw [hL] at hp hnx hL0; have hal := (Below.refl wr.heap.size wr).alloc (Nat.le_refl _) (.cells #[.int .i64 y, .int .i64 t, .int .i64 k, .slice xa xn xc] 74); have bk := Blk.new wr 74 #[.int .i64 y, .int .i64 t, .int .i64 k, .slice xa xn xc]; have hbr' := Lib.hid hbr; have hrd' := Lib.hid hrd; have hzi' := Lib.hid hzi; have hO' := Lib.hid hO; have hs' := Lib.hid hs; have hL' := Lib.hid hL; have hnx' := Lib.hid hnx; have hal' := Lib.hid hal; have bk' := Lib.hid bk; clear hbr hrd hzi hO hs hL hnx hal bk
      go_wp2_with fail
      refine (hO'.out _).mono ?_; rintro e w2 ⟨rfl, hb2⟩; have bk2 := bk'.out.late hb2; have hal2 := hal'.out.trans (hb2.mono hal'.out.size); have c0 : w2.cell? ⟨wr.heap.size, 0, none⟩ = some (.int .i64 y) := bk2.cell rfl; clear f0 f1 f2 f3; have hb2' := Lib.hid hb2; have bk2' := Lib.hid bk2; have hal2' := Lib.hid hal2; clear hb2 bk2 hal2
      by_cases hs0 : 0 < s
      · have hnx2 := hnx'.out.trans (valS1_pos hs'.out hs0)
        have hP := pput_any g no v' L 3 dir y s w2 (hp.out.later hal2'.out) hL0.1 hL0.2.1 hol.1 (by omega) hL0.2.2; rw [← hnx2] at hP; clear hnx2; have hP' := Lib.hid hP; clear hP
        go_wp2_with fail
        refine hP'.out.mono ?_; rintro e w3 ⟨v2, rfl, hp3, hm3⟩; have hm4 := (hm.out.later hal2'.out).trans hm3; clear hm3 c0; have hp3' := Lib.hid hp3; have hm4' := Lib.hid hm4; clear hp3 hm4
        go_wp2_with fail
        go_roundw
        case rel => exact ⟨i + 1, v2, by omega, by go_num, hp3', hm4'⟩
        case measure => simp [intOf]; omega
      · have hnx2 := hnx'.out.trans (valS1_neg hs'.out hs0)
        have hd : decide (0 < s) = false := by simp; omega
        have hp3 : Pln g w2 no v' (valsS dir ((zs.map tagz).take (i + 1)) l) := by rw [hnx2]; exact hp.out.later hal2'.out
        have hm4 := hm.out.later hal2'.out; clear c0 hnx2; have hp3' := Lib.hid hp3; have hm4' := Lib.hid hm4; clear hp3 hm4
        go_wp2_with fail
        go_roundw
        case rel => exact ⟨i + 1, v', by omega, by go_num, hp3', hm4'⟩
        case measure => simp [intOf]; omega
    · obtain rfl : i = tn := by omega
      have hfull : (zs.map tagz).take i = zs.map tagz := List.take_of_length_le (by rw [List.length_map, hzl'.out]; omega); rw [hfull] at hp
      go_wp2_with fail
      refine bodyPost_end (results_none rfl _ _ _) rfl ?_; exact ⟨v', rfl, hp.out, hm.out⟩
end Go.Proofs.YtceclmpmpldmlaaGreat

namespace Tt
open Go Go.RowKit
theorem Blk.mv {g gt : Nat} {v v' : Value} {w w' : World} {k : Nat} {T : TypeId} {cs : Array Value} (h : Blk w k T cs) (hm : Mv g gt v v' w w') (h1 : k ≠ g) (h2 : k ≠ gt) (h3 : v.ownBlock ≠ some k) : Blk w' k T cs := (hm.block k h.lt h1 h2 h3).trans h
end Tt
namespace Go.Proofs.YtceclmpmpldmlaaGreat
open Go.RowKit Tt
set_option linter.unusedVariables false
set_option linter.unusedSimpArgs false

def flats (f : Nat) (ss : List (Int × DirT f)) : List Flt := ss.flatMap fun s => flatS f s.2
def laySubs (f : Nat) (ss : List (Int × DirT f)) (r : List Spt × Int) : List Spt × Int := ss.foldl (fun (r : List Spt × Int) s => (layS f s.2 r.2 r.1, r.2 + (flatS f s.2).length)) r
theorem layS_succ (f : Nat) (d : DirT (f + 1)) (no : Int) (l : List Spt) : layS (f + 1) d no l =
    if 0 < d.2.2.length then addS (laySubs f d.2.1 (valsS no d.1 (addS l 2 no 0 (6 + 12 * (entN d.1.length d.2.1.length d.2.2.length : Nat))), no + 1)).1 4 no 0 (d.2.2.length : Nat)
    else (laySubs f d.2.1 (valsS no d.1 (addS l 2 no 0 (6 + 12 * (entN d.1.length d.2.1.length d.2.2.length : Nat))), no + 1)).1 := rfl
/-- no more than is gone through -/
def smallD : (f : Nat) → DirT f → Prop
  | 0, _ => True
  | f + 1, d => d.1.length ≤ 500 ∧ d.2.2.length ≤ 1000000 ∧ d.2.1.length ≤ 500 ∧ ∀ s ∈ d.2.1, smallD f s.2
theorem entN_le {t s b : Nat} (ht : t ≤ 500) (hs : s ≤ 500) : entN t s b ≤ 1002 := by unfold entN; split <;> omega
theorem laySubs_cons (f : Nat) (s : Int × DirT f) (ss : List (Int × DirT f)) (r : List Spt × Int) : laySubs f (s :: ss) r = laySubs f ss (layS f s.2 r.2 r.1, r.2 + (flatS f s.2).length) := rfl
theorem laySubs_snoc (f : Nat) (s : Int × DirT f) (ss : List (Int × DirT f)) (r : List Spt × Int) : laySubs f (ss ++ [s]) r = (layS f s.2 (laySubs f ss r).2 (laySubs f ss r).1, (laySubs f ss r).2 + (flatS f s.2).length) := by
  unfold laySubs; rw [List.foldl_append]
  rfl
theorem laySubs_le (f : Nat) (ih : ∀ (d : DirT f) (no : Int) (l : List Spt), smallD f d → 0 ≤ endS l → 0 ≤ endS (layS f d no l) ∧ endS (layS f d no l) ≤ endS l + (flatS f d).length * 270000000 ∧ (layS f d no l).length ≤ l.length + (flatS f d).length * 502) :
    ∀ (ss : List (Int × DirT f)) (r : List Spt × Int), (∀ s ∈ ss, smallD f s.2) → 0 ≤ endS r.1 → 0 ≤ endS (laySubs f ss r).1 ∧ endS (laySubs f ss r).1 ≤ endS r.1 + (flats f ss).length * 270000000 ∧ (laySubs f ss r).1.length ≤ r.1.length + (flats f ss).length * 502 ∧ (laySubs f ss r).2 = r.2 + (flats f ss).length
  | [], r, _, h => ⟨h, by simp [laySubs, flats], by simp [laySubs, flats], by simp [laySubs, flats]⟩
  | s :: ss, r, hs, h => by
    have h1 := ih s.2 r.2 r.1 (hs s (List.mem_cons_self ..)) h; have h2 := laySubs_le f ih ss (layS f s.2 r.2 r.1, r.2 + (flatS f s.2).length) (fun x hx => hs x (List.mem_cons_of_mem _ hx)) h1.1; rw [laySubs_cons]; have e : (flats f (s :: ss)).length = (flatS f s.2).length + (flats f ss).length := by simp [flats]
    rw [e]; simp only at h2
    omega
theorem layS_le : ∀ (f : Nat) (d : DirT f) (no : Int) (l : List Spt), smallD f d → 0 ≤ endS l → 0 ≤ endS (layS f d no l) ∧ endS (layS f d no l) ≤ endS l + (flatS f d).length * 270000000 ∧ (layS f d no l).length ≤ l.length + (flatS f d).length * 502 := by
  intro f
  induction f with
  | zero => intro d no l _ h; exact ⟨h, by simp [layS, flatS], by simp [layS, flatS]⟩
  | succ f ih =>
    intro d no l hs h; obtain ⟨h1, h2, h3, h4⟩ := hs; have he := entN_le (b := d.2.2.length) h1 h3; have a1 := addS_le l 2 no 0 (6 + 12 * (entN d.1.length d.2.1.length d.2.2.length : Nat)) h (by omega); have b1 := valsS_le no d.1 _ a1.1; have c1 := laySubs_le f ih d.2.1 (valsS no d.1 (addS l 2 no 0 (6 + 12 * (entN d.1.length d.2.1.length d.2.2.length : Nat))), no + 1) h4 b1.1; have e1 := addS_le (laySubs f d.2.1 (valsS no d.1 (addS l 2 no 0 (6 + 12 * (entN d.1.length d.2.1.length d.2.2.length : Nat))), no + 1)).1 4 no 0 (d.2.2.length : Nat) c1.1 (by omega); have e : (flatS (f + 1) d).length = (flats f d.2.1).length + 1 := by rw [flatS_succ]; rfl
    rw [layS_succ, e]; rw [addS_len] at b1; simp only at c1
    split
    · rw [addS_len]; omega
    · omega
theorem flats_take_le (f : Nat) (ss : List (Int × DirT f)) (i : Nat) : (flats f (ss.take i)).length ≤ (flats f ss).length := by
  conv => rhs; rw [← List.take_append_drop i ss]
  unfold flats; rw [List.flatMap_append, List.length_append]
  omega
theorem flats_step (f : Nat) (ss : List (Int × DirT f)) {i : Nat} (hi : i < ss.length) : (flats f (ss.take (i + 1))).length = (flats f (ss.take i)).length + (flatS f ss[i].2).length := by
  rw [List.take_add_one, List.getElem?_eq_getElem hi, Option.toList_some]; unfold flats; rw [List.flatMap_append, List.length_append]
  simp
theorem laySubs_step (f : Nat) (ss : List (Int × DirT f)) (r : List Spt × Int) {i : Nat} (hi : i < ss.length) : laySubs f (ss.take (i + 1)) r = (layS f ss[i].2 (laySubs f (ss.take i) r).2 (laySubs f (ss.take i) r).1, (laySubs f (ss.take i) r).2 + (flatS f ss[i].2).length) := by
  rw [List.take_add_one, List.getElem?_eq_getElem hi, Option.toList_some, laySubs_snoc]
theorem DirR.v {w : World} : ∀ {f : Nat} {d : DirT f} {v : Dz}, DirR w f d v → ∃ (ta : Option Addr) (tn tc : Nat) (sa : Option Addr) (sn sc : Nat) (ba : Option Addr) (bn bc : Nat), v = (.slice ta tn tc, .slice sa sn sc, .slice ba bn bc)
  | 0, _, _, h => h.elim
  | f + 1, d, v, h => by
    obtain ⟨ta, tn, tc, zs, sa, sn, sc, ds, ba, bn, bc, h1, _⟩ := h; exact ⟨ta, tn, tc, sa, sn, sc, ba, bn, bc, h1⟩
/-- what the program's dir does -/
def PDir (f : Nat) : Prop := ∀ (g : Nat) (no : Int) (v : Value) (l : List Spt) (w0 w : World) (d : DirT f) (dv : Dz), DirR w0 f d dv → Below w0.heap.size w0 w → w0.heap.size ≤ g → Pln g w no v l → smallD f d →
    0 ≤ no → no + (flatS f d).length < 1000000 → 0 ≤ endS l → endS l + (flatS f d).length * 270000000 < 1000000000000 → l.length + (flatS f d).length * 502 < 600000 →
    Calls Tryz.prog 46 #[.pointer (some ⟨g, 0, none⟩), .agg #[dv.1, dv.2.1, dv.2.2]] w fun e w' => ∃ v', e = .returned (.tuple #[]) ∧ Pln g w' (no + (flatS f d).length) v' (layS f d no l) ∧ Mv g g v v' w w'
set_option maxRecDepth 20000 in
set_option maxHeartbeats 4000000 in
theorem pdir_step (f : Nat) (ih : PDir f) : PDir (f + 1) := by
  intro g no v l w0 w d dv hd hb0 hg0 hp hs hno hno2 he0 he1 hl; obtain ⟨ta, tn, tc, zs, sa, sn, sc, ds, ba, bn, bc, rfl, htg, hdt, hsl, hdl, hsub, hbl⟩ := hd; obtain ⟨h1, h2, h3, h4⟩ := hs; have e : (flatS (f + 1) d).length = (flats f d.2.1).length + 1 := by rw [flatS_succ]; rfl
  have hle := layS_succ f d no l; rw [e] at hno2 he1 hl; rw [e]; have htn : d.1.length = tn := by rw [hdt, List.length_map]; exact htg.len
  have hsn : d.2.1.length = sn := by rw [← hdl]; exact hsl.flen sbC_len (by decide)
  have hbn : d.2.2.length = bn := hbl.ilen; have htn60 : tn ≤ 500 := by omega
  have hsn6 : sn ≤ 500 := by omega
  have hbn600 : bn ≤ 1000000 := by omega
  have hm68 := entN_le (b := d.2.2.length) h1 h3; have a1 := addS_le l 2 no 0 (6 + 12 * (entN d.1.length d.2.1.length d.2.2.length : Nat)) he0 (by omega); have b1 := valsS_le no d.1 _ a1.1; rw [addS_len] at b1; have hE := fun W => ent_any ta sa ba tn tc sn sc bn bc W (by omega) (by omega); rw [htn, hsn, hbn] at hle hm68 a1 b1
  generalize entN tn sn bn = m at *
  have hw1 : IntKind.i64.wrap (12 * (m : Int)) = 12 * m := by rw [IntKind.wrap_i64]; omega
  have hw2 : IntKind.i64.wrap (2 + 12 * (m : Int)) = 2 + 12 * m := by rw [IntKind.wrap_i64]; omega
  have hw3 : IntKind.i64.wrap (2 + 12 * (m : Int) + 4) = 6 + 12 * m := by rw [IntKind.wrap_i64]; omega
  have hw4 : IntKind.i64.wrap (no + 1) = no + 1 := by rw [IntKind.wrap_i64]; omega
  have hb1 := (Below.refl w.heap.size w).alloc (Nat.le_refl _) (.cells #[.slice ta tn tc, .slice sa sn sc, .slice ba bn bc] 26); have bk := Blk.new w 26 #[.slice ta tn tc, .slice sa sn sc, .slice ba bn bc]; have hp1 := hp.later hb1; have c1 := hp1.blk.cell (i := 1) rfl; have f1 := hp1.blk.frozen 1; have hown : ∀ k, v.ownBlock = some k → w0.heap.size ≤ k := fun k e => by have := (hp.spots.lt k e).1; omega
  have hne : v.ownBlock ≠ some w.heap.size := fun e => by have := (hp.spots.lt _ e).2; omega
  have hgw := hp.blk.lt; obtain ⟨W1, hW1⟩ : ∃ W1, w.alloc (.cells #[.slice ta tn tc, .slice sa sn sc, .slice ba bn bc] 26) = W1 := ⟨_, rfl⟩; rw [hW1] at hb1 bk hp1 c1 f1; have hp2 : Pln g (W1.setCell ⟨g, 1, none⟩ (.int .i64 (no + 1))) (no + 1) v l := ⟨hp1.blk.set 1 _, own_set_other hp1.spots (by omega) 1 _⟩; have hm2 : Mv g g v v W1 (W1.setCell ⟨g, 1, none⟩ (.int .i64 (no + 1))) := Mv.of_but ((But.refl g W1).set 1 _) (.inl rfl); have bk2 := bk.mv hm2 (by omega) (by omega) hne; have hsz1 : w.heap.size < W1.heap.size := bk.lt; have d0 : W1.cell? ⟨w.heap.size, 0, none⟩ = some (.slice ta tn tc) := bk.cell rfl; have d1 : W1.cell? ⟨w.heap.size, 1, none⟩ = some (.slice sa sn sc) := bk.cell rfl; have d2 : W1.cell? ⟨w.heap.size, 2, none⟩ = some (.slice ba bn bc) := bk.cell rfl; have hb0' := Lib.hid hb0; have hp' := Lib.hid hp; have htg' := Lib.hid htg; have hsl' := Lib.hid hsl; have hsub' := Lib.hid hsub; have hbl' := Lib.hid hbl; have hdt' := Lib.hid hdt; have hle' := Lib.hid hle; have hE' := Lib.hid hE; have hb1' := Lib.hid hb1; have bk' := Lib.hid bk; have hp1' := Lib.hid hp1; have hp2' := Lib.hid hp2; have hm2' := Lib.hid hm2; have bk2' := Lib.hid bk2; have hown' := Lib.hid hown; have hne' := Lib.hid hne; have h4' := Lib.hid h4; have ih' := Lib.hid ih; have htn' := Lib.hid htn; have hsn' := Lib.hid hsn; have hbn' := Lib.hid hbn; have e' := Lib.hid e; clear hb0 hp htg hsl hsub hbl hdt hle hE hb1 bk hp1 hp2 hm2 bk2 hown hne h4 ih htn hsn hbn e
  go_enter Tryz.func46, Tryz.ntmps46
  go_wp2_with fail
  refine (hE'.out _).mono ?_; rintro e w3 ⟨rfl, hb3⟩; have hp3 := hp2'.out.later hb3; have hm3 := hm2'.out.later hb3; have bk3 := bk2'.out.late hb3; clear c1 f1 d0 d1 d2; have d0 : w3.cell? ⟨w.heap.size, 0, none⟩ = some (.slice ta tn tc) := bk3.cell rfl; have d1 : w3.cell? ⟨w.heap.size, 1, none⟩ = some (.slice sa sn sc) := bk3.cell rfl; have d2 : w3.cell? ⟨w.heap.size, 2, none⟩ = some (.slice ba bn bc) := bk3.cell rfl; have hP := pput_any g (no + 1) v l 2 no 0 (6 + 12 * m) w3 hp3 he0 (by omega) (by omega) (by omega) (by omega); have hb3' := Lib.hid hb3; have hp3' := Lib.hid hp3; have hm3' := Lib.hid hm3; have bk3' := Lib.hid bk3; have hP' := Lib.hid hP; clear hb3 hp3 hm3 bk3 hP
  go_wp2_with fail
  refine hP'.out.mono ?_; rintro e w4 ⟨v4, rfl, hp4, hm4⟩; have hm4 := hm3'.out.trans hm4; have bk4 := bk'.out.mv hm4 (by omega) (by omega) hne'.out; have hb4 := hb0'.out.trans (hb1'.out.mono hb0'.out.size |>.trans (hm4.below (by omega) (by omega) hown'.out (by have := hb0'.out.size; omega))); have ho4 : ∀ k, v4.ownBlock = some k → w0.heap.size ≤ k := fun k e => by have := (hp4.spots.lt k e).1; omega
  clear d0 d1 d2; have d0 : w4.cell? ⟨w.heap.size, 0, none⟩ = some (.slice ta tn tc) := bk4.cell rfl; have d1 : w4.cell? ⟨w.heap.size, 1, none⟩ = some (.slice sa sn sc) := bk4.cell rfl; have d2 : w4.cell? ⟨w.heap.size, 2, none⟩ = some (.slice ba bn bc) := bk4.cell rfl; have hV := pvals_any g no (no + 1) v4 _ ta sa ba tn tc sn sc bn bc zs w0 w4 htg'.out hb4 hg0 hp4 a1.1 (by omega) (by rw [addS_len]; omega) (by omega); rw [← hdt'.out] at hV; have hp4' := Lib.hid hp4; have hm4' := Lib.hid hm4; have bk4' := Lib.hid bk4; have hb4' := Lib.hid hb4; have ho4' := Lib.hid ho4; have hV' := Lib.hid hV; clear hp4 hm4 bk4 hb4 ho4 hV
  go_wp2_with fail
  refine hV'.out.mono ?_; rintro e w5 ⟨v5, rfl, hp5, hm5⟩; have hm5 := hm4'.out.trans hm5; have bk5 := bk'.out.mv hm5 (by omega) (by omega) hne'.out; clear d0 d1 d2; have d1 : w5.cell? ⟨w.heap.size, 1, none⟩ = some (.slice sa sn sc) := bk5.cell rfl; obtain ⟨L1, hL1⟩ : ∃ L1, valsS no d.1 (addS l 2 no 0 (6 + 12 * m)) = L1 := ⟨_, rfl⟩; rw [hL1] at hp5 b1 hle'; have hp5' := Lib.hid hp5; have hm5' := Lib.hid hm5; have bk5' := Lib.hid bk5; clear hp5 hm5 bk5
  go_wp2_with fail
  go_loopw [35] (fun iv wr => ∃ (i : Nat) (v' : Value), i ≤ sn ∧ iv = .int .i64 i ∧ Hid (Pln g wr (laySubs f (d.2.1.take i) (L1, no + 1)).2 v' (laySubs f (d.2.1.take i) (L1, no + 1)).1) ∧ Hid (Mv g g v v' W1 wr)) (fun iv _ => sn - (intOf iv).toNat)
  case atStart => exact ⟨0, v5, by omega, rfl, Lib.hid (by simpa [laySubs] using hp5'.out), hm5'⟩
  case round =>
    obtain ⟨i, v', hin, rfl, hpr, hmr⟩ := hrel
    by_cases hi : i < sn
    · have hil : (i : Int) < (sn : Int) := by omega
      have hw5 : IntKind.i64.wrap ((i : Int) + 1) = i + 1 := by rw [IntKind.wrap_i64]; omega
      have hbr := hb0'.out.trans (hb1'.out.mono hb0'.out.size |>.trans (hmr.out.below (by omega) (by omega) hown'.out (by have := hb0'.out.size; omega))); have hid : i < d.2.1.length := by rw [hsn'.out]; exact hi
      have hids : i < ds.length := by rw [hdl]; exact hid
      obtain ⟨b, o, rfl, hblt, fe⟩ := (hsl'.out.mono hbr).elem sbC_len (by decide) (0, (.slice none 0 0, .slice none 0 0, .slice none 0 0)) hi; rw [getD_el hids] at fe; obtain ⟨hq1, hq2⟩ := hsub'.out i hids hid; obtain ⟨ua, un, uc, pa, pn, pc, ra, rn, rc, hv⟩ := hq2.v; have g0 := fe 0 _ rfl; have g1 := fe 1 _ rfl; have g2 := fe 2 _ rfl; have g3 := fe 3 _ rfl; simp only [Nat.add_zero] at g0 g1 g2 g3; clear fe hq1; rw [hv] at hq2 g1 g2 g3; simp only at g0 g1 g2 g3
      generalize ds[i].1 = y at g0
      have hst := laySubs_step f d.2.1 (L1, no + 1) hid; have hft := flats_step f d.2.1 hid; have hftl := flats_take_le f d.2.1 (i + 1); have hsm : smallD f d.2.1[i].2 := h4'.out _ (List.getElem_mem hid); have hbd := laySubs_le f (layS_le f) (d.2.1.take i) (L1, no + 1) (fun x hx => h4'.out x (List.mem_of_mem_take hx)) b1.1; simp only at hbd
      generalize laySubs f (d.2.1.take i) (L1, no + 1) = R at hst hbd hpr
      generalize d.2.1[i].2 = dd at hst hft hsm hq2
      obtain ⟨Ls, ns⟩ := R; simp only at hbd hpr hst; have hal := (Below.refl wr.heap.size wr).alloc (Nat.le_refl _) (.cells #[.int .i64 y, .slice ua un uc, .slice pa pn pc, .slice ra rn rc] 28); have bs := Blk.new wr 28 #[.int .i64 y, .slice ua un uc, .slice pa pn pc, .slice ra rn rc]; have hI := ih'.out g ns v' Ls w0 _ dd _ hq2 (hbr.trans (hal.mono hbr.size)) hg0 (hpr.out.later hal) hsm (by omega) (by omega) hbd.1 (by omega) (by omega); have hbr' := Lib.hid hbr; have hq2' := Lib.hid hq2; have hft' := Lib.hid hft; have hftl' := Lib.hid hftl; have hsm' := Lib.hid hsm; have hal' := Lib.hid hal; have bs' := Lib.hid bs; have hI' := Lib.hid hI; have hv' := Lib.hid hv; have hst' := Lib.hid hst; clear hbr hq2 hft hftl hsm hal bs hI hv hst
      go_wp2_with fail
      refine hI'.out.mono ?_; rintro e w7 ⟨v7, rfl, hp7, hm7⟩; have hm7 := (hmr.out.later hal'.out).trans hm7; have hp7' := Lib.hid hp7; have hm7' := Lib.hid hm7; clear hp7 hm7; clear g0 g1 g2 g3
      go_wp2_with fail
      go_roundw
      case rel => exact ⟨i + 1, v7, by omega, by go_num, by rw [hst'.out]; exact hp7', hm7'⟩
      case measure => simp [intOf]; omega
    · obtain rfl : i = sn := by omega
      have hfull : d.2.1.take i = d.2.1 := List.take_of_length_le (by rw [hsn'.out]; omega); rw [hfull] at hpr; have hbd := laySubs_le f (layS_le f) d.2.1 (L1, no + 1) h4'.out b1.1
      generalize laySubs f d.2.1 (L1, no + 1) = R at *
      obtain ⟨Ls, ns⟩ := R; simp only at hbd hpr; have bkr := bk'.out.mv hmr.out (by omega) (by omega) hne'.out; have d2 : wr.cell? ⟨w.heap.size, 2, none⟩ = some (.slice ba bn bc) := bkr.cell rfl
      by_cases hbn0 : 0 < bn
      · rw [if_pos hbn0] at hle'
        have hdc : decide ((0 : Int) < bn) = true := by simp; omega
        have hP := pput_any g ns v' Ls 4 no 0 bn wr hpr.out hbd.1 (by omega) (by omega) (by omega) (by omega); have hP' := Lib.hid hP; have bkr' := Lib.hid bkr; clear hP bkr
        go_wp2_with fail
        refine hP'.out.mono ?_; rintro e w8 ⟨v8, rfl, hp8, hm8⟩; have hm8 := hmr.out.trans hm8
        have hp9 : Pln g w8 (no + ((flats f d.2.1).length + 1 : Nat)) v8 (layS (f + 1) d no l) := by
          rw [hle'.out, show no + (((flats f d.2.1).length + 1 : Nat) : Int) = ns by omega]; exact hp8
        clear d2; have hp8' := Lib.hid hp8; have hm8' := Lib.hid hm8; have hp9' := Lib.hid hp9; clear hp8 hm8 hp9
        go_wp2_with fail
        refine bodyPost_end (results_none rfl _ _ _) rfl ?_; exact ⟨v8, rfl, hp9'.out, (Mv.of_below hb1'.out).trans hm8'.out⟩
      · rw [if_neg hbn0] at hle'
        have hdc : decide ((0 : Int) < bn) = false := by simp; omega
        have hp9 : Pln g wr (no + ((flats f d.2.1).length + 1 : Nat)) v' (layS (f + 1) d no l) := by
          rw [hle'.out, show no + (((flats f d.2.1).length + 1 : Nat) : Int) = ns by omega]; exact hpr.out
        have hp9' := Lib.hid hp9; have bkr' := Lib.hid bkr; clear hp9 bkr
        go_wp2_with fail
        refine bodyPost_end (results_none rfl _ _ _) rfl ?_; exact ⟨rfl, v', hp9'.out, (Mv.of_below hb1'.out).trans hmr.out⟩
theorem pdir_any : ∀ f, PDir f := by
  intro f
  induction f with
  | zero => intro g no v l w0 w d dv hd; exact hd.elim
  | succ f ih => exact pdir_step f ih
end Go.Proofs.YtceclmpmpldmlaaGreat

namespace Go.Proofs.YtceclmpmpldmlaaGreat
open Go.RowKit Tt
set_option linter.unusedVariables false
set_option linter.unusedSimpArgs false

/-- a directory without what lies within, in memory -/
def FltR (w : World) (x : Flt) (v : Dz) : Prop := ∃ (ta : Option Addr) (tc : Nat) (sa : Option Addr) (sc : Nat) (ba : Option Addr) (bc : Nat) (zs : List Tz),
  v = (.slice ta x.1.length tc, .slice sa x.2.1 sc, .slice ba x.2.2.length bc) ∧ Tgr w ta x.1.length tc zs ∧ x.1 = zs.map tagz ∧ Sl w ba x.2.2.length bc 1 (ints .u8 x.2.2)
theorem FltR.mono {w w' : World} {x : Flt} {v : Dz} (h : FltR w x v) (hb : Below w.heap.size w w') : FltR w' x v := by
  obtain ⟨ta, tc, sa, sc, ba, bc, zs, h1, h2, h3, h4⟩ := h; exact ⟨ta, tc, sa, sc, ba, bc, zs, h1, h2.mono hb, h3, h4.mono hb⟩
theorem DirR.flt {w : World} {f : Nat} {d : DirT (f + 1)} {v : Dz} (h : DirR w (f + 1) d v) : FltR w (d.1, d.2.1.length, d.2.2) v := by
  obtain ⟨ta, tn, tc, zs, sa, sn, sc, ds, ba, bn, bc, h1, h2, h3, h4, h5, h6, h7⟩ := h; have e1 : d.1.length = tn := by rw [h3, List.length_map]; exact h2.len
  have e2 : d.2.1.length = sn := by rw [← h5]; exact h4.flen sbC_len (by decide)
  have e3 : d.2.2.length = bn := h7.ilen; subst e1 e2 e3; exact ⟨ta, tc, sa, sc, ba, bc, zs, h1, h2, h3, h7⟩
theorem flats_next (f : Nat) (ss : List (Int × DirT f)) {i : Nat} (hi : i < ss.length) : flats f (ss.take (i + 1)) = flats f (ss.take i) ++ flatS f ss[i].2 := by
  rw [List.take_add_one, List.getElem?_eq_getElem hi, Option.toList_some]; unfold flats; rw [List.flatMap_append, List.flatMap_cons, List.flatMap_nil, List.append_nil]
end Go.Proofs.YtceclmpmpldmlaaGreat

namespace Go.Proofs.YtceclmpmpldmlaaGreat
open Go.RowKit Tt
set_option linter.unusedVariables false
set_option linter.unusedSimpArgs false

def flatT (f : Nat) (ds : List (DirT f)) : List Flt := ds.flatMap (flatS f)
theorem flatT_next (f : Nat) (ds : List (DirT f)) {i : Nat} (hi : i < ds.length) : flatT f (ds.take (i + 1)) = flatT f (ds.take i) ++ flatS f ds[i] := by
  rw [List.take_add_one, List.getElem?_eq_getElem hi, Option.toList_some]; unfold flatT; rw [List.flatMap_append, List.flatMap_cons, List.flatMap_nil, List.append_nil]
end Go.Proofs.YtceclmpmpldmlaaGreat

namespace Go.Proofs.YtceclmpmpldmlaaGreat
open Go.RowKit Tt
set_option linter.unusedVariables false
set_option linter.unusedSimpArgs false

def prs (f : Nat) (ds : List (DirT f)) : List (Int × DirT f) := ds.map (Prod.mk 0)
theorem flats_prs (f : Nat) (ds : List (DirT f)) : flats f (prs f ds) = flatT f ds := by
  unfold flats prs flatT; rw [List.flatMap_map]
theorem prs_get (f : Nat) (ds : List (DirT f)) {i : Nat} (h : i < (prs f ds).length) (h' : i < ds.length) : (prs f ds)[i].2 = ds[i] := by simp [prs]
def layT (f : Nat) (ds : List (DirT f)) : List Spt := (laySubs f (prs f ds) (addS [] 1 (-1) 0 8, 0)).1
def okAll (f : Nat) (ds : List (DirT f)) : Bool := (flatT f ds).all okF
def fitT (f : Nat) (ds : List (DirT f)) : Bool := okAll f ds && decide (endS (layT f ds) ≤ 4294967295)
def longT (f : Nat) (ds : List (DirT f)) : Int := if fitT f ds = true then endS (layT f ds) else 0
def smallF (x : Flt) : Prop := x.1.length ≤ 500 ∧ x.2.1 ≤ 500 ∧ x.2.2.length ≤ 1000000
theorem flat_small : ∀ (f : Nat) (d : DirT f), smallD f d → ∀ x ∈ flatS f d, smallF x := by
  intro f
  induction f with
  | zero => intro d _ x hx; simp [flatS] at hx
  | succ f ih =>
    intro d hs x hx; obtain ⟨h1, h2, h3, h4⟩ := hs; rw [flatS_succ, List.mem_cons] at hx
    rcases hx with rfl | hx
    · exact ⟨h1, h3, h2⟩
    · obtain ⟨s, hs, hx⟩ := List.mem_flatMap.1 hx
      exact ih s.2 (h4 s hs) x hx
theorem okF_iff {x : Flt} (h : smallF x) : okF x = (decide (1 ≤ entN x.1.length x.2.1 x.2.2.length) && x.1.all okT) := by
  unfold okF; have := entN_le (b := x.2.2.length) h.1 h.2.1; rw [show decide (entN x.1.length x.2.1 x.2.2.length ≤ 65535) = true by simp; omega, Bool.and_true]
end Go.Proofs.YtceclmpmpldmlaaGreat

namespace Go.Proofs.YtceclmpmpldmlaaGreat
open Go.RowKit Tt
set_option linter.unusedVariables false
set_option linter.unusedSimpArgs false

theorem layT_bounds (f : Nat) (ds : List (DirT f)) (hs : ∀ d ∈ ds, smallD f d) (hN : (flatT f ds).length < 1000) : 0 ≤ endS (layT f ds) ∧ endS (layT f ds) < 1000000000000 := by
  have hsml : ∀ x ∈ prs f ds, smallD f x.2 := fun x hx => by
    obtain ⟨d, hd, rfl⟩ := List.mem_map.1 hx; exact hs d hd
  have hbd := laySubs_le f (layS_le f) (prs f ds) (addS [] 1 (-1) 0 8, 0) hsml (by decide); have he8 : endS (addS [] 1 (-1) 0 8) = 8 := rfl; rw [flats_prs] at hbd; simp only [he8] at hbd; unfold layT
  omega
end Go.Proofs.YtceclmpmpldmlaaGreat
