/- Chapter 20: a directory, and all within it, in order: the document. | Chapter 20: the spots of a directory and all within it: the document. | Chapter 20: all directories of a tree, in order: the document. | Chapter 20: Of, Long: the document. | Chapter 20: Long: the document. | Chapter 20: is any of a directory's values one that may not be: the program. -/
import Derived.Test.YtilennmeiaehnaaGreatCo12
namespace Go.Proofs.YtilennmeiaehnaaGreat
open Go.RowKit Tt
set_option linter.unusedVariables false
set_option linter.unusedSimpArgs false

theorem dirI1 : (Tryz.prog.info? 42).map (fun i => (i.size, i.bytes)) = some (3, 72) := by kernel_rfl
theorem dirI2 : (Tryz.prog.info? 42).map (fun i => i.zero.map (fun z => z.cells.size)) = some (some 3) := by kernel_rfl
/-- a directory without what lies within, in memory -/
def FltR (w : World) (x : Flt) (v : Dz) : Prop := ∃ (ta : Option Addr) (tc : Nat) (sa : Option Addr) (sc : Nat) (ba : Option Addr) (bc : Nat) (zs : List Tz),
  v = (.slice ta x.1.length tc, .slice sa x.2.1 sc, .slice ba x.2.2.length bc) ∧ Tgr w ta x.1.length tc zs ∧ x.1 = zs.map tagz ∧ Sl w ba x.2.2.length bc 1 (ints .u8 x.2.2)
def FlsR (w : World) : List Flt → List Dz → Prop
  | [], [] => True
  | x :: xs, v :: vs => FltR w x v ∧ FlsR w xs vs
  | _, _ => False
theorem FltR.mono {w w' : World} {x : Flt} {v : Dz} (h : FltR w x v) (hb : Below w.heap.size w w') : FltR w' x v := by
  obtain ⟨ta, tc, sa, sc, ba, bc, zs, h1, h2, h3, h4⟩ := h
  exact ⟨ta, tc, sa, sc, ba, bc, zs, h1, h2.mono hb, h3, h4.mono hb⟩
theorem FlsR.mono {w w' : World} (hb : Below w.heap.size w w') : ∀ {xs : List Flt} {vs : List Dz}, FlsR w xs vs → FlsR w' xs vs
  | [], [], _ => trivial
  | x :: xs, v :: vs, h => ⟨h.1.mono hb, FlsR.mono hb h.2⟩
  | [], _ :: _, h => h
  | _ :: _, [], h => h
theorem FlsR.append {w : World} : ∀ {xs ys : List Flt} {vs us : List Dz}, FlsR w xs vs → FlsR w ys us → FlsR w (xs ++ ys) (vs ++ us)
  | [], _, [], _, _, h => h
  | x :: xs, _, v :: vs, _, h, k => ⟨h.1, h.2.append k⟩
  | [], _, _ :: _, _, h, _ => h.elim
  | _ :: _, _, [], _, h, _ => h.elim
theorem FlsR.len {w : World} : ∀ {xs : List Flt} {vs : List Dz}, FlsR w xs vs → vs.length = xs.length
  | [], [], _ => rfl
  | x :: xs, v :: vs, h => by simp [h.2.len]
  | [], _ :: _, h => h.elim
  | _ :: _, [], h => h.elim
theorem FlsR.one {w : World} : ∀ {xs : List Flt} {vs : List Dz}, FlsR w xs vs → ∀ u ∈ fl dvC vs, u.oneCell' = true
  | [], [], _ => by simp [fl]
  | x :: xs, v :: vs, h => by
    intro u hu
    rw [fl_cons, List.mem_append] at hu
    rcases hu with hu | hu
    · obtain ⟨ta, tc, sa, sc, ba, bc, zs, rfl, _⟩ := h.1
      simp only [dvC, List.mem_cons, List.not_mem_nil, or_false] at hu
      rcases hu with rfl | rfl | rfl <;> rfl
    · exact h.2.one u hu
  | [], _ :: _, h => h.elim
  | _ :: _, [], h => h.elim
theorem FlsR.get {w : World} : ∀ {xs : List Flt} {vs : List Dz}, FlsR w xs vs → ∀ (i : Nat) (h : i < xs.length) (h' : i < vs.length), FltR w xs[i] vs[i]
  | [], [], _, i, h, _ => by simp at h
  | x :: xs, v :: vs, hh, 0, _, _ => hh.1
  | x :: xs, v :: vs, hh, i + 1, h, h' => by simpa using hh.2.get i (by simpa using h) (by simpa using h')
  | [], _ :: _, h, _, _, _ => h.elim
  | _ :: _, [], h, _, _, _ => h.elim
theorem DirR.flt {w : World} {f : Nat} {d : DirT (f + 1)} {v : Dz} (h : DirR w (f + 1) d v) : FltR w (d.1, d.2.1.length, d.2.2) v := by
  obtain ⟨ta, tn, tc, zs, sa, sn, sc, ds, ba, bn, bc, h1, h2, h3, h4, h5, h6, h7⟩ := h
  have e1 : d.1.length = tn := by rw [h3, List.length_map]; exact h2.len
  have e2 : d.2.1.length = sn := by rw [← h5]; exact h4.flen sbC_len (by decide)
  have e3 : d.2.2.length = bn := h7.ilen
  subst e1 e2 e3
  exact ⟨ta, tc, sa, sc, ba, bc, zs, h1, h2, h3, h7⟩
theorem flats_next (f : Nat) (ss : List (Int × DirT f)) {i : Nat} (hi : i < ss.length) : flats f (ss.take (i + 1)) = flats f (ss.take i) ++ flatS f ss[i].2 := by
  rw [List.take_add_one, List.getElem?_eq_getElem hi, Option.toList_some]
  unfold flats
  rw [List.flatMap_append, List.flatMap_cons, List.flatMap_nil, List.append_nil]
/-- what the document's within does -/
def RWithin (f : Nat) : Prop := ∀ (w0 w : World) (d : DirT f) (dv : Dz), DirR w0 f d dv → Below w0.heap.size w0 w → (flatS f d).length < 1000000 →
    Calls Tryz.prog 74 #[.agg #[dv.1, dv.2.1, dv.2.2]] w fun e w' => ∃ (a : Addr) (c : Nat) (vs : List Dz), e = .returned (.slice (some a) (flatS f d).length c) ∧ w'.ownsRow w.heap.size 42 3 (.slice (some a) (flatS f d).length c) (flatS f d).length (fl dvC vs) ∧ FlsR w0 (flatS f d) vs ∧ Below w.heap.size w w'
theorem own_addr {w : World} {B : Nat} {E : TypeId} {sz : Nat} {a : Option Addr} {n c m : Nat} {xs : List Value} (h : w.ownsRow B E sz (.slice a n c) m xs) (hm : 0 < m) : ∃ x, a = some x := by
  rcases h.2 with ⟨e, h0⟩ | ⟨g, cap, cur, e, _⟩
  · omega
  · cases e; exact ⟨_, rfl⟩
set_option maxRecDepth 20000 in
set_option maxHeartbeats 4000000 in
theorem rwithin_step (f : Nat) (ih : RWithin f) : RWithin (f + 1) := by
  intro w0 w d dv hd hb0 hN
  obtain ⟨i0, z0, hi0, hz, hz1, hz2, hz3⟩ := info_of dirI1 dirI2
  have hflt := hd.flt
  obtain ⟨ta, tn, tc, zs, sa, sn, sc, ds, ba, bn, bc, rfl, htg, hdt, hsl, hdl, hsub, hbl⟩ := hd
  have e : flatS (f + 1) d = (d.1, d.2.1.length, d.2.2) :: flats f d.2.1 := rfl
  rw [e] at hN ⊢
  rw [List.length_cons] at hN ⊢
  have hsn : d.2.1.length = sn := by rw [← hdl]; exact hsl.flen sbC_len (by decide)
  have hsmax := hsl.max
  have hsle := hsl.le
  generalize ((d.1, d.2.1.length, d.2.2) : Flt) = hd0 at *
  have hb1 := (Below.refl w.heap.size w).alloc (Nat.le_refl _) (.cells #[.slice ta tn tc, .slice sa sn sc, .slice ba bn bc] 42)
  have bk := Blk.new w 42 #[.slice ta tn tc, .slice sa sn sc, .slice ba bn bc]
  obtain ⟨W1, hW1⟩ : ∃ W1, w.alloc (.cells #[.slice ta tn tc, .slice sa sn sc, .slice ba bn bc] 42) = W1 := ⟨_, rfl⟩
  have hsz1 : W1.heap.size = w.heap.size + 1 := by rw [← hW1]; simp
  rw [hW1] at hb1 bk
  have d0 : W1.cell? ⟨w.heap.size, 0, none⟩ = some (.slice ta tn tc) := bk.cell rfl
  have d1 : W1.cell? ⟨w.heap.size, 1, none⟩ = some (.slice sa sn sc) := bk.cell rfl
  have d2 : W1.cell? ⟨w.heap.size, 2, none⟩ = some (.slice ba bn bc) := bk.cell rfl
  have hal := (Below.refl W1.heap.size W1).alloc (Nat.le_refl _) (.cells #[.slice ta tn tc, .slice sa sn sc, .slice ba bn bc] 42)
  have hrow := own_new W1 W1.heap.size 42 3 1 #[.slice ta tn tc, .slice sa sn sc, .slice ba bn bc] (Nat.le_refl _) (by unfold maxLen; omega) rfl
  have bk2 := bk.late hal
  rw [hsz1] at hrow
  have hb0' := Lib.hid hb0
  have htg' := Lib.hid htg
  have hsl' := Lib.hid hsl
  have hsub' := Lib.hid hsub
  have hbl' := Lib.hid hbl
  have hdt' := Lib.hid hdt
  have hb1' := Lib.hid hb1
  have bk' := Lib.hid bk
  have ih' := Lib.hid ih
  have hsn' := Lib.hid hsn
  have e' := Lib.hid e
  have hal' := Lib.hid hal
  have hrow' := Lib.hid hrow
  have bk2' := Lib.hid bk2
  have hflt' := Lib.hid hflt
  clear hb0 htg hsl hsub hbl hdt hb1 bk ih hsn e hal hrow bk2 hflt
  go_enter Tryz.func74, Tryz.ntmps74
  go_wp2_with fail
  go_loopw [3, 4] (fun rv iv wr => ∃ (i : Nat) (a : Addr) (c : Nat) (vs : List Dz), i ≤ sn ∧ iv = .int .i64 i ∧ rv = .slice (some a) ((flats f (d.2.1.take i)).length + 1) c ∧ Hid (wr.ownsRow (w.heap.size + 1) 42 3 (.slice (some a) ((flats f (d.2.1.take i)).length + 1) c) ((flats f (d.2.1.take i)).length + 1) (fl dvC vs)) ∧ Hid (FlsR w0 (hd0 :: flats f (d.2.1.take i)) vs) ∧ Hid (Below W1.heap.size W1 wr)) (fun _ iv _ => sn - (intOf iv).toNat)
  case atStart => 
    exact ⟨0, _, _, [(.slice ta tn tc, .slice sa sn sc, .slice ba bn bc)], by omega, rfl, rfl, hrow', Lib.hid ⟨hflt'.out, trivial⟩, hal'⟩
  case round =>
    obtain ⟨i, a, c, vs, hin, rfl, rfl, hown, hfls, hbr⟩ := hrel
    have bkr := bk'.out.late hbr.out
    have q1 : wr.cell? ⟨w.heap.size, 1, none⟩ = some (.slice sa sn sc) := bkr.cell rfl
    by_cases hi : i < sn
    · have hil : (i : Int) < (sn : Int) := by omega
      have hw5 : IntKind.i64.wrap ((i : Int) + 1) = i + 1 := by rw [IntKind.wrap_i64]; omega
      have hb01 := hb0'.out.trans (hb1'.out.mono hb0'.out.size)
      have hb0r := hb01.trans (hbr.out.mono hb01.size)
      have hid : i < d.2.1.length := by rw [hsn'.out]; exact hi
      have hids : i < ds.length := by rw [hdl]; exact hid
      obtain ⟨b, o, rfl, hblt, fe⟩ := (hsl'.out.mono hb0r).elem sbC_len (by decide) (0, (.slice none 0 0, .slice none 0 0, .slice none 0 0)) hi
      rw [getD_el hids] at fe
      obtain ⟨hq1, hq2⟩ := hsub'.out i hids hid
      obtain ⟨ua, un, uc, pa, pn, pc, ra, rn, rc, hv⟩ := hq2.v
      have g1 := fe 1 _ rfl
      have g2 := fe 2 _ rfl
      have g3 := fe 3 _ rfl
      clear fe hq1
      rw [hv] at hq2 g1 g2 g3
      simp only at g1 g2 g3
      have hft := flats_step f d.2.1 hid
      have hft2 := flats_next f d.2.1 hid
      have hftl := flats_take_le f d.2.1 (i + 1)
      have hI := ih'.out w0 wr d.2.1[i].2 _ hq2 hb0r (by omega)
      simp only at hI
      generalize d.2.1[i].2 = dd at hft hft2 hI
      clear hq2 hv
      have hft' := Lib.hid hft
      have hftl' := Lib.hid hftl
      have hft2' := Lib.hid hft2
      have hI' := Lib.hid hI
      have hb0r' := Lib.hid hb0r
      have hb01' := Lib.hid hb01
      have bkr' := Lib.hid bkr
      clear hft hftl hft2 hI hb0r hb01 bkr
      go_wp2_with fail
      refine hI'.out.mono ?_
      rintro e w6 ⟨a6, c6, us, rfl, ho6, hfl6, hb6⟩
      have hownr := own_later hown.out hb6
      have hsl6 := (Sl.of_own ho6).1
      have hbr6 := hbr.out.trans (hb6.mono hbr.out.size)
      have hsz6 := hbr6.size
      clear g1 g2 g3 q1
      have hownr' := Lib.hid hownr
      have hsl6' := Lib.hid hsl6
      have hbr6' := Lib.hid hbr6
      have ho6' := Lib.hid ho6
      have hb6' := Lib.hid hb6
      have hfl6' := Lib.hid hfl6
      clear hownr hsl6 hbr6 ho6 hb6 hfl6
      go_wp2_with (at_builtin; refine wpList_app2 rfl _ _ 22 rfl (w.heap.size + 1) 42 i0 z0 3 72 Tryz.underlying22 hi0 hz hz1 hz2 hz3 (by decide) (.slice (some a) ((flats f (d.2.1.take i)).length + 1) c) ((flats f (d.2.1.take i)).length + 1) _ rfl hownr'.out a6 (flatS f dd).length c6 (fl dvC us) rfl hsl6'.out hfl6'.out.one (by have := hft'.out; have := hftl'.out; omega) (by decide) (by omega) ?_; intro a8 c8 w8 ob hg8 hown8; have Ob := Lib.hid ob; have Hg8 := Lib.hid hg8; have Ho8 := Lib.hid hown8; clear ob hg8 hown8)
      have hnm : (flats f (d.2.1.take i)).length + 1 + (flatS f dd).length = (flats f (d.2.1.take (i + 1))).length + 1 := by have := hft'.out; omega
      have ho8 := Ob.out
      rw [hnm, ← fl_append] at ho8
      obtain ⟨x8, rfl⟩ := own_addr ho8 (by omega)
      have hbr8 : Below W1.heap.size W1 w8 := below_grown hbr6'.out Hg8.out hbr6'.out.size (by rw [hsz1]; exact hownr'.out)
      have hfl8 := hfls.out.append hfl6'.out
      rw [List.cons_append, ← hft2'.out] at hfl8
      have ho8' := Lib.hid ho8
      have hbr8' := Lib.hid hbr8
      have hfl8' := Lib.hid hfl8
      clear ho8 hbr8 hfl8
      go_wp2_with fail
      go_roundw
      case rel => exact ⟨i + 1, x8, c8, vs ++ us, by omega, by go_num, by rw [hnm], ho8', hfl8', hbr8'⟩
      case measure => simp [intOf]; omega
    · obtain rfl : i = sn := by omega
      have hfull : d.2.1.take i = d.2.1 := List.take_of_length_le (by rw [hsn'.out]; omega)
      rw [hfull] at hown hfls
      have hbw := hb1'.out.trans (hbr.out.mono hb1'.out.size)
      have hbw' := Lib.hid hbw
      clear hbw
      rw [hfull]
      go_wp2_with fail
      go_ret
      exact ⟨a, c, vs, rfl, own_mono hown.out (by omega), hfls.out, hbw'.out⟩
theorem rwithin_any : ∀ f, RWithin f := by
  intro f
  induction f with
  | zero => intro w0 w d dv hd; exact hd.elim
  | succ f ih => exact rwithin_step f ih
end Go.Proofs.YtilennmeiaehnaaGreat

namespace Tt
open Go Go.RowKit
theorem Gr.ne {v v' : Value} {w w' : World} (h : Gr v v' w w') {k : Nat} (hk : k < w.heap.size) (hne : v.ownBlock ≠ some k) : v'.ownBlock ≠ some k := fun e => by
  rcases h.own k e with e' | e' <;> first | exact hne e' | omega
end Tt
namespace Go.Proofs.YtilennmeiaehnaaGreat
open Go.RowKit Tt
set_option linter.unusedVariables false
set_option linter.unusedSimpArgs false

theorem Spr.later {B : Nat} {w w' : World} {v : Value} {l : List Spt} (h : Spr B w v l) (hb : Below w.heap.size w w') : Spr B w' v l := own_later h hb
end Go.Proofs.YtilennmeiaehnaaGreat

namespace Go.Proofs.YtilennmeiaehnaaGreat
open Go.RowKit Tt
set_option linter.unusedVariables false
set_option linter.unusedSimpArgs false

def flatT (f : Nat) (ds : List (DirT f)) : List Flt := ds.flatMap (flatS f)
theorem flatT_next (f : Nat) (ds : List (DirT f)) {i : Nat} (hi : i < ds.length) : flatT f (ds.take (i + 1)) = flatT f (ds.take i) ++ flatS f ds[i] := by
  rw [List.take_add_one, List.getElem?_eq_getElem hi, Option.toList_some]
  unfold flatT
  rw [List.flatMap_append, List.flatMap_cons, List.flatMap_nil, List.append_nil]
theorem flatT_take_le (f : Nat) (ds : List (DirT f)) (i : Nat) : (flatT f (ds.take i)).length ≤ (flatT f ds).length := by
  conv => rhs; rw [← List.take_append_drop i ds]
  unfold flatT
  rw [List.flatMap_append, List.length_append]
  omega
end Go.Proofs.YtilennmeiaehnaaGreat

namespace Go.Proofs.YtilennmeiaehnaaGreat
open Go.RowKit Tt
set_option linter.unusedVariables false
set_option linter.unusedSimpArgs false

def prs (f : Nat) (ds : List (DirT f)) : List (Int × DirT f) := ds.map (Prod.mk 0)
theorem flats_prs (f : Nat) (ds : List (DirT f)) : flats f (prs f ds) = flatT f ds := by
  unfold flats prs flatT
  rw [List.flatMap_map]
theorem prs_get (f : Nat) (ds : List (DirT f)) {i : Nat} (h : i < (prs f ds).length) (h' : i < ds.length) : (prs f ds)[i].2 = ds[i] := by simp [prs]
def layT (f : Nat) (ds : List (DirT f)) : List Spt := (laySubs f (prs f ds) (addS [] 1 (-1) 0 8, 0)).1
def okAll (f : Nat) (ds : List (DirT f)) : Bool := (flatT f ds).all okF
def fitT (f : Nat) (ds : List (DirT f)) : Bool := okAll f ds && decide (endS (layT f ds) ≤ 4294967295)
def longT (f : Nat) (ds : List (DirT f)) : Int := if fitT f ds = true then endS (layT f ds) else 0
def smallF (x : Flt) : Prop := x.1.length ≤ 60 ∧ x.2.1 ≤ 6 ∧ x.2.2.length ≤ 600
theorem flat_small : ∀ (f : Nat) (d : DirT f), smallD f d → ∀ x ∈ flatS f d, smallF x := by
  intro f
  induction f with
  | zero => intro d _ x hx; simp [flatS] at hx
  | succ f ih =>
    intro d hs x hx
    obtain ⟨h1, h2, h3, h4⟩ := hs
    rw [flatS_succ, List.mem_cons] at hx
    rcases hx with rfl | hx
    · exact ⟨h1, h3, h2⟩
    · obtain ⟨s, hs, hx⟩ := List.mem_flatMap.1 hx
      exact ih s.2 (h4 s hs) x hx
theorem okF_iff {x : Flt} (h : smallF x) : okF x = (decide (1 ≤ entN x.1.length x.2.1 x.2.2.length) && x.1.all okT) := by
  unfold okF
  have := entN_le (b := x.2.2.length) h.1 h.2.1
  rw [show decide (entN x.1.length x.2.1 x.2.2.length ≤ 65535) = true by simp; omega, Bool.and_true]
end Go.Proofs.YtilennmeiaehnaaGreat

namespace Go.Proofs.YtilennmeiaehnaaGreat
open Go.RowKit Tt
set_option linter.unusedVariables false
set_option linter.unusedSimpArgs false

theorem layT_bounds (f : Nat) (ds : List (DirT f)) (hs : ∀ d ∈ ds, smallD f d) (hN : (flatT f ds).length < 1000) : 0 ≤ endS (layT f ds) ∧ endS (layT f ds) < 1000000000000 := by
  have hsml : ∀ x ∈ prs f ds, smallD f x.2 := fun x hx => by
    obtain ⟨d, hd, rfl⟩ := List.mem_map.1 hx
    exact hs d hd
  have hbd := laySubs_le f (layS_le f) (prs f ds) (addS [] 1 (-1) 0 8, 0) hsml (by decide)
  have he8 : endS (addS [] 1 (-1) 0 8) = 8 := rfl
  rw [flats_prs] at hbd
  simp only [he8] at hbd
  unfold layT
  omega
end Go.Proofs.YtilennmeiaehnaaGreat

namespace Go.Proofs.YtilennmeiaehnaaGreat
open Go.RowKit Tt
set_option linter.unusedVariables false
set_option linter.unusedSimpArgs false

theorem may1_any (y t k : Int) (xa : Option Addr) (xn xc : Nat) (d : List Int) (w : World) (hs : Sl w xa xn xc 1 (ints .u8 d)) (hd : Byt d) :
    Calls Tryz.prog 106 #[.agg #[.int .i64 y, .int .i64 t, .int .i64 k, .slice xa xn xc]] w fun e w' => e = .returned (.bool (!mayS t k d)) ∧ Below w.heap.size w w' := by
  have hb1 := (Below.refl w.heap.size w).alloc (Nat.le_refl _) (.cells #[.int .i64 y, .int .i64 t, .int .i64 k, .slice xa xn xc] 78)
  have hM := may_any t k xa xn xc d _ (hs.mono hb1) hd
  generalize mayS t k d = r at *
  have hb1' := Lib.hid hb1
  have hM' := Lib.hid hM
  have hs' := Lib.hid hs
  have hd' := Lib.hid hd
  clear hb1 hM hs hd
  go_enter Tryz.func106, Tryz.ntmps106
  go_wp2_with fail
  refine hM'.out.mono ?_
  rintro e w2 ⟨rfl, hb2⟩
  have hb := hb1'.out.trans (hb2.mono hb1'.out.size)
  clear hb2
  have hb' := Lib.hid hb
  clear hb
  go_wp2_with fail
  go_ret
  exact ⟨rfl, hb'.out⟩
def badT (x : Tgs) : Bool := !okT x
set_option maxHeartbeats 1000000 in
theorem tidx_any (a : Option Addr) (n c : Nat) (zs : List Tz) (w : World) (hs : Tgr w a n c zs) (hbt : ∀ z ∈ zs, Byt z.2) :
    Calls Tryz.prog 145 #[.slice a n c, .func (.func 106) #[] #[]] w fun e w' => e = .returned (.int .i64 (fst badT (zs.map tagz))) ∧ Below w.heap.size w w' := by
  have hl : (zs.map tagz).length = n := by rw [List.length_map]; exact hs.len
  have hzl := hs.len
  have hm := hs.row.max
  have hle := hs.row.le
  have hs' := Lib.hid hs
  have hl' := Lib.hid hl
  have hbt' := Lib.hid hbt
  clear hs hl hbt
  go_enter Tryz.func145, Tryz.ntmps145
  go_wp2
  go_loopw [8] (fun iv wr => ∃ k : Nat, k ≤ n ∧ iv = .int .i64 k ∧ Hid (∀ i (hi : i < (zs.map tagz).length), i < k → badT (zs.map tagz)[i] = false) ∧ Hid (Below w.heap.size w wr)) (fun iv _ => n - (intOf iv).toNat)
  case atStart => exact ⟨0, by omega, rfl, Lib.hid (fun j _ hj => by omega), Lib.hid (Below.refl _ _)⟩
  case round =>
    obtain ⟨i, hk, rfl, hall, hb⟩ := hrel
    by_cases hlt : i < n
    · have hww : IntKind.i64.wrap ((i : Int) + 1) = i + 1 := by rw [IntKind.wrap_i64]; omega
      have hil : (i : Int) < (n : Int) := by omega
      have hkl : i < (zs.map tagz).length := by rw [hl'.out]; exact hlt
      have hkz : i < zs.length := by omega
      obtain ⟨b, o, rfl, hbb, f0, f1, f2, f3, hrd⟩ := (hs'.out.mono hb.out).at hlt
      have hxk : (zs.map tagz)[i] = tagz (zs.getD i tz0) := by rw [List.getElem_map, getD_el hkz]
      have hbd : Byt (zs.getD i tz0).2 := by rw [getD_el hkz]; exact hbt'.out _ (List.getElem_mem hkz)
      obtain ⟨⟨⟨y, t, kk, xa, xn, xc⟩, dd⟩, hzi⟩ : ∃ z, zs.getD i tz0 = z := ⟨_, rfl⟩
      rw [hzi] at f0 f1 f2 f3 hrd hxk hbd
      simp only [tagz] at f0 f1 f2 f3 hxk hrd hbd
      have HC := may1_any y t kk xa xn xc dd wr hrd hbd
      have hbx : badT (zs.map tagz)[i] = !mayS t kk dd := by rw [hxk]; rfl
      obtain ⟨r, hr⟩ : ∃ r, (!mayS t kk dd) = r := ⟨_, rfl⟩
      rw [hr] at HC hbx
      clear hxk
      have HC' := Lib.hid HC
      have hr' := Lib.hid hr
      have hbx' := Lib.hid hbx
      have hrd' := Lib.hid hrd
      have hbd' := Lib.hid hbd
      have hzi' := Lib.hid hzi
      clear HC hr hbx hrd hbd hzi
      go_wp2_with fail
      refine HC'.out.mono ?_
      rintro e w2 ⟨rfl, hb2⟩
      have hbw := hb.out.trans (hb2.mono hb.out.size)
      clear hb2 f0 f1 f2 f3
      cases r with
      | true =>
        have hbw' := Lib.hid hbw
        clear hbw
        go_wp2
        go_ret
        exact ⟨by rw [fst_at hkl hbx'.out (fun j hj => hall.out j (by omega) hj)]; rfl, hbw'.out⟩
      | false =>
        have hall2 : ∀ j (hj : j < (zs.map tagz).length), j < i + 1 → badT (zs.map tagz)[j] = false := fun j hj h => by
          rcases Nat.lt_or_ge j i with h1 | h1
          · exact hall.out j hj h1
          · obtain rfl : j = i := by omega
            exact hbx'.out
        have hbw' := Lib.hid hbw
        have hall2' := Lib.hid hall2
        clear hbw hall2
        go_wp2
        go_roundw
        case rel => exact ⟨i + 1, by omega, by go_num, hall2', hbw'⟩
        case measure => simp [intOf]; omega
    · obtain rfl : i = n := by omega
      go_wp2
      go_ret
      exact ⟨by rw [fst_no (fun j hj => hall.out j hj (by rw [hl'.out] at hj; exact hj))]; rfl, hb.out⟩
theorem tcon_any (a : Option Addr) (n c : Nat) (zs : List Tz) (w : World) (hs : Tgr w a n c zs) (hbt : ∀ z ∈ zs, Byt z.2) :
    Calls Tryz.prog 105 #[.slice a n c, .func (.func 106) #[] #[]] w fun e w' => e = .returned (.bool (!(zs.map tagz).all okT)) ∧ Below w.heap.size w w' := by
  have hI := tidx_any a n c zs w hs hbt
  have e1 : (!(zs.map tagz).all okT) = decide (0 ≤ fst badT (zs.map tagz)) := by
    rw [fst_any]
    generalize zs.map tagz = l
    induction l with
    | nil => rfl
    | cons x l ih => simp only [List.all_cons, List.any_cons, badT] at ih ⊢; rw [← ih]; cases okT x <;> rfl
  rw [e1]
  generalize fst badT (zs.map tagz) = q at *
  have hI' := Lib.hid hI
  have hs' := Lib.hid hs
  have hbt' := Lib.hid hbt
  clear hI hs hbt
  go_enter Tryz.func105, Tryz.ntmps105
  go_wp2_with fail
  refine hI'.out.mono ?_
  rintro e w2 ⟨rfl, hb2⟩
  have hb2' := Lib.hid hb2
  clear hb2
  go_wp2_with fail
  go_ret
  exact ⟨by congr 2, hb2'.out⟩
end Go.Proofs.YtilennmeiaehnaaGreat
