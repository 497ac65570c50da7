/- Chapter 20: a directory, and all within it, in order: the document. | Chapter 20: the spots of a directory and all within it: the document. -/
import Derived.Test.YtilennmeiaehnaaGreatCw11
namespace Go.Proofs.YtilennmeiaehnaaGreat
open Go.RowKit Tt
set_option linter.unusedVariables false
set_option linter.unusedSimpArgs false

theorem dirI1 : (Tryz.prog.info? 42).map (fun i => (i.size, i.bytes)) = some (3, 72) := by kernel_rfl
theorem dirI2 : (Tryz.prog.info? 42).map (fun i => i.zero.map (fun z => z.cells.size)) = some (some 3) := by kernel_rfl
/-- a directory without what lies within, in memory -/
def FltR (w : World) (x : Flt) (v : Dz) : Prop := ∃ (ta : Option Addr) (tc : Nat) (sa : Option Addr) (sc : Nat) (ba : Option Addr) (bc : Nat) (zs : List Tz),
  v = (.slice ta x.1.length tc, .slice sa x.2.1 sc, .slice ba x.2.2.length bc) ∧ Tgr w ta x.1.length tc zs ∧ x.1 = zs.map tagz ∧ Sl w ba x.2.2.length bc 1 (ints .u8 x.2.2)
def FlsR (w : World) : List Flt → List Dz → Prop
  | [], [] => True
  | x :: xs, v :: vs => FltR w x v ∧ FlsR w xs vs
  | _, _ => False
theorem FltR.mono {w w' : World} {x : Flt} {v : Dz} (h : FltR w x v) (hb : Below w.heap.size w w') : FltR w' x v := by
  obtain ⟨ta, tc, sa, sc, ba, bc, zs, h1, h2, h3, h4⟩ := h
  exact ⟨ta, tc, sa, sc, ba, bc, zs, h1, h2.mono hb, h3, h4.mono hb⟩
theorem FlsR.mono {w w' : World} (hb : Below w.heap.size w w') : ∀ {xs : List Flt} {vs : List Dz}, FlsR w xs vs → FlsR w' xs vs
  | [], [], _ => trivial
  | x :: xs, v :: vs, h => ⟨h.1.mono hb, FlsR.mono hb h.2⟩
  | [], _ :: _, h => h
  | _ :: _, [], h => h
theorem FlsR.append {w : World} : ∀ {xs ys : List Flt} {vs us : List Dz}, FlsR w xs vs → FlsR w ys us → FlsR w (xs ++ ys) (vs ++ us)
  | [], _, [], _, _, h => h
  | x :: xs, _, v :: vs, _, h, k => ⟨h.1, h.2.append k⟩
  | [], _, _ :: _, _, h, _ => h.elim
  | _ :: _, _, [], _, h, _ => h.elim
theorem FlsR.len {w : World} : ∀ {xs : List Flt} {vs : List Dz}, FlsR w xs vs → vs.length = xs.length
  | [], [], _ => rfl
  | x :: xs, v :: vs, h => by simp [h.2.len]
  | [], _ :: _, h => h.elim
  | _ :: _, [], h => h.elim
theorem FlsR.one {w : World} : ∀ {xs : List Flt} {vs : List Dz}, FlsR w xs vs → ∀ u ∈ fl dvC vs, u.oneCell' = true
  | [], [], _ => by simp [fl]
  | x :: xs, v :: vs, h => by
    intro u hu
    rw [fl_cons, List.mem_append] at hu
    rcases hu with hu | hu
    · obtain ⟨ta, tc, sa, sc, ba, bc, zs, rfl, _⟩ := h.1
      simp only [dvC, List.mem_cons, List.not_mem_nil, or_false] at hu
      rcases hu with rfl | rfl | rfl <;> rfl
    · exact h.2.one u hu
  | [], _ :: _, h => h.elim
  | _ :: _, [], h => h.elim
theorem FlsR.get {w : World} : ∀ {xs : List Flt} {vs : List Dz}, FlsR w xs vs → ∀ (i : Nat) (h : i < xs.length) (h' : i < vs.length), FltR w xs[i] vs[i]
  | [], [], _, i, h, _ => by simp at h
  | x :: xs, v :: vs, hh, 0, _, _ => hh.1
  | x :: xs, v :: vs, hh, i + 1, h, h' => by simpa using hh.2.get i (by simpa using h) (by simpa using h')
  | [], _ :: _, h, _, _, _ => h.elim
  | _ :: _, [], h, _, _, _ => h.elim
theorem DirR.flt {w : World} {f : Nat} {d : DirT (f + 1)} {v : Dz} (h : DirR w (f + 1) d v) : FltR w (d.1, d.2.1.length, d.2.2) v := by
  obtain ⟨ta, tn, tc, zs, sa, sn, sc, ds, ba, bn, bc, h1, h2, h3, h4, h5, h6, h7⟩ := h
  have e1 : d.1.length = tn := by rw [h3, List.length_map]; exact h2.len
  have e2 : d.2.1.length = sn := by rw [← h5]; exact h4.flen sbC_len (by decide)
  have e3 : d.2.2.length = bn := h7.ilen
  subst e1 e2 e3
  exact ⟨ta, tc, sa, sc, ba, bc, zs, h1, h2, h3, h7⟩
theorem flats_next (f : Nat) (ss : List (Int × DirT f)) {i : Nat} (hi : i < ss.length) : flats f (ss.take (i + 1)) = flats f (ss.take i) ++ flatS f ss[i].2 := by
  rw [List.take_add_one, List.getElem?_eq_getElem hi, Option.toList_some]
  unfold flats
  rw [List.flatMap_append, List.flatMap_cons, List.flatMap_nil, List.append_nil]
/-- what the document's within does -/
def RWithin (f : Nat) : Prop := ∀ (w0 w : World) (d : DirT f) (dv : Dz), DirR w0 f d dv → Below w0.heap.size w0 w → (flatS f d).length < 1000000 →
    Calls Tryz.prog 74 #[.agg #[dv.1, dv.2.1, dv.2.2]] w fun e w' => ∃ (a : Addr) (c : Nat) (vs : List Dz), e = .returned (.slice (some a) (flatS f d).length c) ∧ w'.ownsRow w.heap.size 42 3 (.slice (some a) (flatS f d).length c) (flatS f d).length (fl dvC vs) ∧ FlsR w0 (flatS f d) vs ∧ Below w.heap.size w w'
theorem own_addr {w : World} {B : Nat} {E : TypeId} {sz : Nat} {a : Option Addr} {n c m : Nat} {xs : List Value} (h : w.ownsRow B E sz (.slice a n c) m xs) (hm : 0 < m) : ∃ x, a = some x := by
  rcases h.2 with ⟨e, h0⟩ | ⟨g, cap, cur, e, _⟩
  · omega
  · cases e; exact ⟨_, rfl⟩
set_option maxRecDepth 20000 in
set_option maxHeartbeats 4000000 in
theorem rwithin_step (f : Nat) (ih : RWithin f) : RWithin (f + 1) := by
  intro w0 w d dv hd hb0 hN
  obtain ⟨i0, z0, hi0, hz, hz1, hz2, hz3⟩ := info_of dirI1 dirI2
  have hflt := hd.flt
  obtain ⟨ta, tn, tc, zs, sa, sn, sc, ds, ba, bn, bc, rfl, htg, hdt, hsl, hdl, hsub, hbl⟩ := hd
  have e : flatS (f + 1) d = (d.1, d.2.1.length, d.2.2) :: flats f d.2.1 := rfl
  rw [e] at hN ⊢
  rw [List.length_cons] at hN ⊢
  have hsn : d.2.1.length = sn := by rw [← hdl]; exact hsl.flen sbC_len (by decide)
  have hsmax := hsl.max
  have hsle := hsl.le
  generalize ((d.1, d.2.1.length, d.2.2) : Flt) = hd0 at *
  have hb1 := (Below.refl w.heap.size w).alloc (Nat.le_refl _) (.cells #[.slice ta tn tc, .slice sa sn sc, .slice ba bn bc] 42)
  have bk := Blk.new w 42 #[.slice ta tn tc, .slice sa sn sc, .slice ba bn bc]
  obtain ⟨W1, hW1⟩ : ∃ W1, w.alloc (.cells #[.slice ta tn tc, .slice sa sn sc, .slice ba bn bc] 42) = W1 := ⟨_, rfl⟩
  have hsz1 : W1.heap.size = w.heap.size + 1 := by rw [← hW1]; simp
  rw [hW1] at hb1 bk
  have d0 : W1.cell? ⟨w.heap.size, 0, none⟩ = some (.slice ta tn tc) := bk.cell rfl
  have d1 : W1.cell? ⟨w.heap.size, 1, none⟩ = some (.slice sa sn sc) := bk.cell rfl
  have d2 : W1.cell? ⟨w.heap.size, 2, none⟩ = some (.slice ba bn bc) := bk.cell rfl
  have hal := (Below.refl W1.heap.size W1).alloc (Nat.le_refl _) (.cells #[.slice ta tn tc, .slice sa sn sc, .slice ba bn bc] 42)
  have hrow := own_new W1 W1.heap.size 42 3 1 #[.slice ta tn tc, .slice sa sn sc, .slice ba bn bc] (Nat.le_refl _) (by unfold maxLen; omega) rfl
  have bk2 := bk.late hal
  rw [hsz1] at hrow
  have hb0' := Lib.hid hb0
  have htg' := Lib.hid htg
  have hsl' := Lib.hid hsl
  have hsub' := Lib.hid hsub
  have hbl' := Lib.hid hbl
  have hdt' := Lib.hid hdt
  have hb1' := Lib.hid hb1
  have bk' := Lib.hid bk
  have ih' := Lib.hid ih
  have hsn' := Lib.hid hsn
  have e' := Lib.hid e
  have hal' := Lib.hid hal
  have hrow' := Lib.hid hrow
  have bk2' := Lib.hid bk2
  have hflt' := Lib.hid hflt
  clear hb0 htg hsl hsub hbl hdt hb1 bk ih hsn e hal hrow bk2 hflt
  go_enter Tryz.func74, Tryz.ntmps74
  go_wp2_with fail
  go_loopw [3, 4] (fun rv iv wr => ∃ (i : Nat) (a : Addr) (c : Nat) (vs : List Dz), i ≤ sn ∧ iv = .int .i64 i ∧ rv = .slice (some a) ((flats f (d.2.1.take i)).length + 1) c ∧ Hid (wr.ownsRow (w.heap.size + 1) 42 3 (.slice (some a) ((flats f (d.2.1.take i)).length + 1) c) ((flats f (d.2.1.take i)).length + 1) (fl dvC vs)) ∧ Hid (FlsR w0 (hd0 :: flats f (d.2.1.take i)) vs) ∧ Hid (Below W1.heap.size W1 wr)) (fun _ iv _ => sn - (intOf iv).toNat)
  case atStart => 
    exact ⟨0, _, _, [(.slice ta tn tc, .slice sa sn sc, .slice ba bn bc)], by omega, rfl, rfl, hrow', Lib.hid ⟨hflt'.out, trivial⟩, hal'⟩
  case round =>
    obtain ⟨i, a, c, vs, hin, rfl, rfl, hown, hfls, hbr⟩ := hrel
    have bkr := bk'.out.late hbr.out
    have q1 : wr.cell? ⟨w.heap.size, 1, none⟩ = some (.slice sa sn sc) := bkr.cell rfl
    by_cases hi : i < sn
    · have hil : (i : Int) < (sn : Int) := by omega
      have hw5 : IntKind.i64.wrap ((i : Int) + 1) = i + 1 := by rw [IntKind.wrap_i64]; omega
      have hb01 := hb0'.out.trans (hb1'.out.mono hb0'.out.size)
      have hb0r := hb01.trans (hbr.out.mono hb01.size)
      have hid : i < d.2.1.length := by rw [hsn'.out]; exact hi
      have hids : i < ds.length := by rw [hdl]; exact hid
      obtain ⟨b, o, rfl, hblt, fe⟩ := (hsl'.out.mono hb0r).elem sbC_len (by decide) (0, (.slice none 0 0, .slice none 0 0, .slice none 0 0)) hi
      rw [getD_el hids] at fe
      obtain ⟨hq1, hq2⟩ := hsub'.out i hids hid
      obtain ⟨ua, un, uc, pa, pn, pc, ra, rn, rc, hv⟩ := hq2.v
      have g1 := fe 1 _ rfl
      have g2 := fe 2 _ rfl
      have g3 := fe 3 _ rfl
      clear fe hq1
      rw [hv] at hq2 g1 g2 g3
      simp only at g1 g2 g3
      have hft := flats_step f d.2.1 hid
      have hft2 := flats_next f d.2.1 hid
      have hftl := flats_take_le f d.2.1 (i + 1)
      have hI := ih'.out w0 wr d.2.1[i].2 _ hq2 hb0r (by omega)
      simp only at hI
      generalize d.2.1[i].2 = dd at hft hft2 hI
      clear hq2 hv
      have hft' := Lib.hid hft
      have hftl' := Lib.hid hftl
      have hft2' := Lib.hid hft2
      have hI' := Lib.hid hI
      have hb0r' := Lib.hid hb0r
      have hb01' := Lib.hid hb01
      have bkr' := Lib.hid bkr
      clear hft hftl hft2 hI hb0r hb01 bkr
      go_wp2_with fail
      refine hI'.out.mono ?_
      rintro e w6 ⟨a6, c6, us, rfl, ho6, hfl6, hb6⟩
      have hownr := own_later hown.out hb6
      have hsl6 := (Sl.of_own ho6).1
      have hbr6 := hbr.out.trans (hb6.mono hbr.out.size)
      have hsz6 := hbr6.size
      clear g1 g2 g3 q1
      have hownr' := Lib.hid hownr
      have hsl6' := Lib.hid hsl6
      have hbr6' := Lib.hid hbr6
      have ho6' := Lib.hid ho6
      have hb6' := Lib.hid hb6
      have hfl6' := Lib.hid hfl6
      clear hownr hsl6 hbr6 ho6 hb6 hfl6
      go_wp2_with (at_builtin; refine wpList_app2 rfl _ _ 22 rfl (w.heap.size + 1) 42 i0 z0 3 72 Tryz.underlying22 hi0 hz hz1 hz2 hz3 (by decide) (.slice (some a) ((flats f (d.2.1.take i)).length + 1) c) ((flats f (d.2.1.take i)).length + 1) _ rfl hownr'.out a6 (flatS f dd).length c6 (fl dvC us) rfl hsl6'.out hfl6'.out.one (by have := hft'.out; have := hftl'.out; omega) (by decide) (by omega) ?_; intro a8 c8 w8 ob hg8 hown8; have Ob := Lib.hid ob; have Hg8 := Lib.hid hg8; have Ho8 := Lib.hid hown8; clear ob hg8 hown8)
      have hnm : (flats f (d.2.1.take i)).length + 1 + (flatS f dd).length = (flats f (d.2.1.take (i + 1))).length + 1 := by have := hft'.out; omega
      have ho8 := Ob.out
      rw [hnm, ← fl_append] at ho8
      obtain ⟨x8, rfl⟩ := own_addr ho8 (by omega)
      have hbr8 : Below W1.heap.size W1 w8 := below_grown hbr6'.out Hg8.out hbr6'.out.size (by rw [hsz1]; exact hownr'.out)
      have hfl8 := hfls.out.append hfl6'.out
      rw [List.cons_append, ← hft2'.out] at hfl8
      have ho8' := Lib.hid ho8
      have hbr8' := Lib.hid hbr8
      have hfl8' := Lib.hid hfl8
      clear ho8 hbr8 hfl8
      go_wp2_with fail
      go_roundw
      case rel => exact ⟨i + 1, x8, c8, vs ++ us, by omega, by go_num, by rw [hnm], ho8', hfl8', hbr8'⟩
      case measure => simp [intOf]; omega
    · obtain rfl : i = sn := by omega
      have hfull : d.2.1.take i = d.2.1 := List.take_of_length_le (by rw [hsn'.out]; omega)
      rw [hfull] at hown hfls
      have hbw := hb1'.out.trans (hbr.out.mono hb1'.out.size)
      have hbw' := Lib.hid hbw
      clear hbw
      rw [hfull]
      go_wp2_with fail
      go_ret
      exact ⟨a, c, vs, rfl, own_mono hown.out (by omega), hfls.out, hbw'.out⟩
theorem rwithin_any : ∀ f, RWithin f := by
  intro f
  induction f with
  | zero => intro w0 w d dv hd; exact hd.elim
  | succ f ih => exact rwithin_step f ih
end Go.Proofs.YtilennmeiaehnaaGreat

namespace Tt
open Go Go.RowKit
theorem Gr.ne {v v' : Value} {w w' : World} (h : Gr v v' w w') {k : Nat} (hk : k < w.heap.size) (hne : v.ownBlock ≠ some k) : v'.ownBlock ≠ some k := fun e => by
  rcases h.own k e with e' | e' <;> first | exact hne e' | omega
end Tt
namespace Go.Proofs.YtilennmeiaehnaaGreat
open Go.RowKit Tt
set_option linter.unusedVariables false
set_option linter.unusedSimpArgs false

theorem Spr.later {B : Nat} {w w' : World} {v : Value} {l : List Spt} (h : Spr B w v l) (hb : Below w.heap.size w w') : Spr B w' v l := own_later h hb
/-- what the document's laid does -/
def RLaid (f : Nat) : Prop := ∀ (B : Nat) (no : Int) (v : Value) (l : List Spt) (w0 w : World) (d : DirT f) (dv : Dz), DirR w0 f d dv → Below w0.heap.size w0 w → w0.heap.size ≤ B → B ≤ w.heap.size → Spr B w v l → smallD f d →
    0 ≤ no → no + (flatS f d).length < 1000000 → 0 ≤ endS l → endS l + (flatS f d).length * 40000000 < 1000000000000 → l.length + (flatS f d).length * 62 < 100000 →
    Calls Tryz.prog 89 #[v, .agg #[dv.1, dv.2.1, dv.2.2], .int .i64 no] w fun e w' => ∃ v', e = .returned v' ∧ Spr B w' v' (layS f d no l) ∧ Gr v v' w w'
set_option maxRecDepth 20000 in
set_option maxHeartbeats 4000000 in
theorem rlaid_step (f : Nat) (ih : RLaid f) : RLaid (f + 1) := by
  intro B no v l w0 w d dv hd hb0 hB0 hBw hp hs hno hno2 he0 he1 hl
  obtain ⟨ta, tn, tc, zs, sa, sn, sc, ds, ba, bn, bc, rfl, htg, hdt, hsl, hdl, hsub, hbl⟩ := hd
  obtain ⟨h1, h2, h3, h4⟩ := hs
  have e : (flatS (f + 1) d).length = (flats f d.2.1).length + 1 := by rw [flatS_succ]; rfl
  have hle := layS_succ f d no l
  rw [e] at hno2 he1 hl
  have htn : d.1.length = tn := by rw [hdt, List.length_map]; exact htg.len
  have hsn : d.2.1.length = sn := by rw [← hdl]; exact hsl.flen sbC_len (by decide)
  have hbn : d.2.2.length = bn := hbl.ilen
  have htn60 : tn ≤ 60 := by omega
  have hsn6 : sn ≤ 6 := by omega
  have hbn600 : bn ≤ 600 := by omega
  have hm68 := entN_le (b := d.2.2.length) h1 h3
  have a1 := addS_le l 2 no 0 (6 + 12 * (entN d.1.length d.2.1.length d.2.2.length : Nat)) he0 (by omega)
  have b1 := valsS_le no d.1 _ a1.1
  have hLB : ∀ i, i ≤ tn → 0 ≤ endS (valsS no ((zs.map tagz).take i) (addS l 2 no 0 (6 + 12 * (entN d.1.length d.2.1.length d.2.2.length : Nat)))) ∧ endS (valsS no ((zs.map tagz).take i) (addS l 2 no 0 (6 + 12 * (entN d.1.length d.2.1.length d.2.2.length : Nat)))) < 4611686018427387 ∧ (valsS no ((zs.map tagz).take i) (addS l 2 no 0 (6 + 12 * (entN d.1.length d.2.1.length d.2.2.length : Nat)))).length < 1000000 := fun i hi => by
    have := valsS_le no ((zs.map tagz).take i) _ a1.1
    have hlen : ((zs.map tagz).take i).length ≤ i := by simp; omega
    rw [addS_len] at this
    omega
  rw [addS_len] at b1
  have hE := fun W => rent_any ta sa ba tn tc sn sc bn bc W (by omega) (by omega)
  rw [htn, hsn, hbn] at hle hm68 a1 b1 hLB
  have hzl := htg.len
  generalize entN tn sn bn = m at *
  have hw1 : IntKind.i64.wrap (12 * (m : Int)) = 12 * m := by rw [IntKind.wrap_i64]; omega
  have hw2 : IntKind.i64.wrap (6 + 12 * (m : Int)) = 6 + 12 * m := by rw [IntKind.wrap_i64]; omega
  have hw4 : IntKind.i64.wrap (no + 1) = no + 1 := by rw [IntKind.wrap_i64]; omega
  have hb1 := (Below.refl w.heap.size w).alloc (Nat.le_refl _) (.cells #[.slice ta tn tc, .slice sa sn sc, .slice ba bn bc] 42)
  have bk := Blk.new w 42 #[.slice ta tn tc, .slice sa sn sc, .slice ba bn bc]
  have hp1 := hp.later hb1
  have hown : ∀ k, v.ownBlock = some k → w0.heap.size ≤ k := fun k e => by have := (World.ownsRow.lt hp k e).1; omega
  have hne : v.ownBlock ≠ some w.heap.size := fun e => by have := (World.ownsRow.lt hp _ e).2; omega
  obtain ⟨W1, hW1⟩ : ∃ W1, w.alloc (.cells #[.slice ta tn tc, .slice sa sn sc, .slice ba bn bc] 42) = W1 := ⟨_, rfl⟩
  rw [hW1] at hb1 bk hp1
  have hsz1 : w.heap.size < W1.heap.size := bk.lt
  have d0 : W1.cell? ⟨w.heap.size, 0, none⟩ = some (.slice ta tn tc) := bk.cell rfl
  have d1 : W1.cell? ⟨w.heap.size, 1, none⟩ = some (.slice sa sn sc) := bk.cell rfl
  have d2 : W1.cell? ⟨w.heap.size, 2, none⟩ = some (.slice ba bn bc) := bk.cell rfl
  have hb01 := hb0.trans (hb1.mono hb0.size)
  have hb0' := Lib.hid hb0
  have hp' := Lib.hid hp
  have htg' := Lib.hid htg
  have hsl' := Lib.hid hsl
  have hsub' := Lib.hid hsub
  have hbl' := Lib.hid hbl
  have hdt' := Lib.hid hdt
  have hle' := Lib.hid hle
  have hE' := Lib.hid hE
  have hb1' := Lib.hid hb1
  have bk' := Lib.hid bk
  have hp1' := Lib.hid hp1
  have hown' := Lib.hid hown
  have hne' := Lib.hid hne
  have h4' := Lib.hid h4
  have ih' := Lib.hid ih
  have htn' := Lib.hid htn
  have hsn' := Lib.hid hsn
  have hbn' := Lib.hid hbn
  have e' := Lib.hid e
  have hLB' := Lib.hid hLB
  have hb01' := Lib.hid hb01
  clear hb0 hp htg hsl hsub hbl hdt hle hE hb1 bk hp1 hown hne h4 ih htn hsn hbn e hLB hb01
  go_enter Tryz.func89, Tryz.ntmps89
  go_wp2_with fail
  refine (hE'.out _).mono ?_
  rintro e w3 ⟨rfl, hb3⟩
  have hp3 := hp1'.out.later hb3
  have bk3 := bk'.out.late hb3
  clear d0 d1 d2
  have hP := rwith_any B v l 2 no 0 (6 + 12 * m) w3 hp3 (by have := hb3.size; omega) he0 (by omega) (by omega)
  have hb3' := Lib.hid hb3
  have hp3' := Lib.hid hp3
  have bk3' := Lib.hid bk3
  have hP' := Lib.hid hP
  clear hb3 hp3 bk3 hP
  go_wp2_with fail
  refine hP'.out.mono ?_
  rintro e w4 ⟨v4, rfl, hp4, hm4⟩
  have hm4 := (Gr.of_below hb3'.out).trans hm4
  obtain ⟨L0, hL0⟩ : ∃ L0, addS l 2 no 0 (6 + 12 * m) = L0 := ⟨_, rfl⟩
  rw [hL0] at hp4 hle' hLB' b1 a1
  have hp4' := Lib.hid hp4
  have hm4' := Lib.hid hm4
  clear hp4 hm4
  go_wp2_with fail
  go_loopw [0, 7] (fun r0 iv wr => ∃ (i : Nat) (rv : Value), i ≤ tn ∧ iv = .int .i64 i ∧ rv = r0 ∧ Hid (Spr B wr rv (valsS no ((zs.map tagz).take i) L0)) ∧ Hid (Gr v rv W1 wr)) (fun _ iv _ => tn - (intOf iv).toNat)
  case atStart => exact ⟨0, v4, by omega, rfl, rfl, Lib.hid (by simpa [valsS] using hp4'.out), hm4'⟩
  case round =>
    obtain ⟨i, rv, hin, rfl, rfl, hpr, hmr⟩ := hrel
    have bkr := bk'.out.gr hmr.out hne'.out
    have q0 : wr.cell? ⟨w.heap.size, 0, none⟩ = some (.slice ta tn tc) := bkr.cell rfl
    by_cases hi : i < tn
    · have hil : (i : Int) < (tn : Int) := by omega
      have hw5 : IntKind.i64.wrap ((i : Int) + 1) = i + 1 := by rw [IntKind.wrap_i64]; omega
      have hb0r := hb01'.out.trans (hmr.out.below hown'.out (by have := hb0'.out.size; omega))
      obtain ⟨b, o, rfl, hblt, f0, f1, f2, f3, hrd⟩ := (htg'.out.mono hb0r).at hi
      have hnx := valsS_step no L0 (show i < zs.length by rw [hzl]; exact hi)
      obtain ⟨⟨⟨y, t, k, xa, xn, xc⟩, dd⟩, hzi⟩ : ∃ z, zs.getD i tz0 = z := ⟨_, rfl⟩
      rw [hzi] at f0 f1 f2 f3 hrd hnx
      simp only [tagz] at f0 f1 f2 f3 hnx
      have hol := outS_le t k
      have HG := fun W => rout_any t k W
      obtain ⟨x, hx⟩ : ∃ x, outS t k = x := ⟨_, rfl⟩
      rw [hx] at HG hol
      have hL1 := hLB'.out i hin
      obtain ⟨L, hL⟩ : ∃ L, valsS no ((zs.map tagz).take i) L0 = L := ⟨_, rfl⟩
      rw [hL] at hpr hnx hL1
      obtain ⟨Ty, ff, hne2, hbel, hsurj⟩ := later_worlds wr
      have z0 : ∀ s, (ff s).cell? ⟨w.heap.size, 0, none⟩ = some (.slice (some ⟨b, o, none⟩) tn tc) := fun s => late (hbel s) bkr.lt q0
      have z1 : ∀ s, (ff s).cell? ⟨b, o + i * 4 + 1, none⟩ = some (.int .i64 t) := fun s => late (hbel s) hblt f1
      have z2 : ∀ s, (ff s).cell? ⟨b, o + i * 4 + 2, none⟩ = some (.int .i64 k) := fun s => late (hbel s) hblt f2
      have z3 : ∀ s, (ff s).cell? ⟨b, o + i * 4, none⟩ = some (.int .i64 y) := fun s => late (hbel s) hblt f0
      have HS := Lib.hid (hsurj _ ((Below.refl _ _).drew))
      clear f0 f1 f2 f3 hrd
      have hb0r' := Lib.hid hb0r
      have hbel' := Lib.hid hbel
      have hsurj' := Lib.hid hsurj
      have hzi' := Lib.hid hzi
      have hx' := Lib.hid hx
      have hL' := Lib.hid hL
      have hnx' := Lib.hid hnx
      have bkr' := Lib.hid bkr
      have HG' := Lib.hid HG
      clear hb0r hbel hsurj hzi hx hL hnx bkr HG
      go_wp2_with fail
      clear q0
      refine wp_quiet_in ff (by kernel_rfl) (by kernel_rfl) HS.out ?_
      iterate 16 (go_big_quiet_step ((go_at_call 136; refine (HG'.out _).mono ?_; rintro e w3 ⟨rfl, hb3⟩; exact ⟨rfl, hsurj'.out _ ((hbel'.out _).trans (hb3.mono (hbel'.out _).size))⟩)))
      refine wpQuiet_nil ?_
      intro s
      have hbs := hbel'.out s
      have q0 := z0 s
      have q3 := z3 s
      have hprs := hpr.out.later hbs
      have hmrs := hmr.out.trans (Gr.of_below hbs)
      have hszs := hmrs.size
      generalize ff s = ws at *
      clear z0 z1 z2 z3
      have hbs' := Lib.hid hbs
      have hprs' := Lib.hid hprs
      have hmrs' := Lib.hid hmrs
      clear hbs hprs hmrs
      by_cases hx0 : 0 < x
      · have hnx2 := hnx'.out.trans (valS1_pos hx'.out hx0)
        have hP := rwith_any B rv L 3 no y x ws hprs'.out (by omega) hL1.1 (by omega) hL1.2.2
        rw [← hnx2] at hP
        clear hnx2
        have hP' := Lib.hid hP
        clear hP
        go_wp2_with fail
        refine hP'.out.mono ?_
        rintro e w8 ⟨v8, rfl, hp8, hm8⟩
        have hm9 := hmrs'.out.trans hm8
        clear q0 q3
        have hp8' := Lib.hid hp8
        have hm9' := Lib.hid hm9
        clear hp8 hm9
        go_wp2_with fail
        go_roundw
        case rel => exact ⟨i + 1, v8, by omega, by go_num, rfl, hp8', hm9'⟩
        case measure => simp [intOf]; omega
      · have hnx2 := hnx'.out.trans (valS1_neg hx'.out hx0)
        have hd : decide (0 < x) = false := by simp; omega
        have hp8 : Spr B ws rv (valsS no ((zs.map tagz).take (i + 1)) L0) := by rw [hnx2]; exact hprs'.out
        clear hnx2 q0 q3
        have hp8' := Lib.hid hp8
        clear hp8
        go_wp2_with fail
        go_roundw
        case rel => exact ⟨i + 1, rv, by omega, by go_num, rfl, hp8', hmrs'⟩
        case measure => simp [intOf]; omega
    · obtain rfl : i = tn := by omega
      have hfull : (zs.map tagz).take i = zs.map tagz := List.take_of_length_le (by rw [List.length_map, hzl]; omega)
      rw [hfull, ← hdt'.out] at hpr
      clear hLB'
      obtain ⟨L1, hL1⟩ : ∃ L1, valsS no d.1 L0 = L1 := ⟨_, rfl⟩
      rw [hL1] at hpr b1 hle'
      have bkr' := Lib.hid bkr
      clear bkr
      go_wp2_with fail
      go_loopw [0, 9, 10] (fun r0 av iv wx => ∃ (i : Nat) (rv : Value), i ≤ sn ∧ iv = .int .i64 i ∧ av = .int .i64 (laySubs f (d.2.1.take i) (L1, no + 1)).2 ∧ rv = r0 ∧ Hid (Spr B wx rv (laySubs f (d.2.1.take i) (L1, no + 1)).1) ∧ Hid (Gr v rv W1 wx)) (fun _ _ iv _ => sn - (intOf iv).toNat)
      case atStart => exact ⟨0, rv, by omega, rfl, rfl, rfl, Lib.hid (by simpa [laySubs] using hpr.out), hmr⟩
      clear q0 hmr hpr bkr'
      case round =>
        obtain ⟨i, rv, hin, rfl, rfl, rfl, hpr, hmr⟩ := hrel
        have bkr := bk'.out.gr hmr.out hne'.out
        have q1 : wr.cell? ⟨w.heap.size, 1, none⟩ = some (.slice sa sn sc) := bkr.cell rfl
        by_cases hi : i < sn
        · have hil : (i : Int) < (sn : Int) := by omega
          have hw5 : IntKind.i64.wrap ((i : Int) + 1) = i + 1 := by rw [IntKind.wrap_i64]; omega
          have hb0r := hb01'.out.trans (hmr.out.below hown'.out (by have := hb0'.out.size; omega))
          have hid : i < d.2.1.length := by rw [hsn'.out]; exact hi
          have hids : i < ds.length := by rw [hdl]; exact hid
          obtain ⟨b, o, rfl, hblt, fe⟩ := hsl'.out.elem sbC_len (by decide) (0, (.slice none 0 0, .slice none 0 0, .slice none 0 0)) hi
          rw [getD_el hids] at fe
          obtain ⟨hq1, hq2⟩ := hsub'.out i hids hid
          obtain ⟨ua, un, uc, pa, pn, pc, ra, rn, rc, hv⟩ := hq2.v
          have k1 := fe 1 _ rfl
          have k2 := fe 2 _ rfl
          have k3 := fe 3 _ rfl
          clear fe hq1
          rw [hv] at hq2 k1 k2 k3
          simp only at k1 k2 k3
          have g1 := late hb0r hblt k1
          have g2 := late hb0r hblt k2
          have g3 := late hb0r hblt k3
          have hst := laySubs_step f d.2.1 (L1, no + 1) hid
          have hft := flats_step f d.2.1 hid
          have hftl := flats_take_le f d.2.1 (i + 1)
          have hsm : smallD f d.2.1[i].2 := h4'.out _ (List.getElem_mem hid)
          have hbd := laySubs_le f (layS_le f) (d.2.1.take i) (L1, no + 1) (fun x hx => h4'.out x (List.mem_of_mem_take hx)) b1.1
          simp only at hbd
          generalize d.2.1[i].2 = dd at hst hft hsm hq2
          generalize laySubs f (d.2.1.take i) (L1, no + 1) = R at hst hbd hpr ⊢
          obtain ⟨Ls, ns⟩ := R
          simp only at hbd hpr hst ⊢
          have hw6 : IntKind.i64.wrap (ns + (flatS f dd).length) = ns + (flatS f dd).length := by rw [IntKind.wrap_i64]; omega
          have hI := ih'.out B ns rv Ls w0 wr dd _ hq2 hb0r hB0 (by have := hmr.out.size; omega) hpr.out hsm (by omega) (by omega) hbd.1 (by omega) (by omega)
          have hW := fun W (h : Below w0.heap.size w0 W) => rwithin_any f w0 W dd _ hq2 h (by omega)
          simp only at hI hW
          have hb0r' := Lib.hid hb0r
          have hq2' := Lib.hid hq2
          have hft' := Lib.hid hft
          have hftl' := Lib.hid hftl
          have hsm' := Lib.hid hsm
          have hI' := Lib.hid hI
          have hv' := Lib.hid hv
          have hst' := Lib.hid hst
          have hW' := Lib.hid hW
          have bkr' := Lib.hid bkr
          have k1' := Lib.hid k1
          have k2' := Lib.hid k2
          have k3' := Lib.hid k3
          have hbd' := Lib.hid hbd
          clear hb0r hq2 hft hftl hsm hI hv hst hW bkr k1 k2 k3 hbd
          go_wp2_with fail
          refine hI'.out.mono ?_
          rintro e w7 ⟨v7, rfl, hp7, hm7⟩
          have hm7 := hmr.out.trans hm7
          have bk7 := bk'.out.gr hm7 hne'.out
          have hb07 := hb01'.out.trans (hm7.below hown'.out (by have := hb0'.out.size; omega))
          clear q1 g1 g2 g3
          have q1 : w7.cell? ⟨w.heap.size, 1, none⟩ = some (.slice (some ⟨b, o, none⟩) sn sc) := bk7.cell rfl
          have g1 := late hb07 hblt k1'.out
          have g2 := late hb07 hblt k2'.out
          have g3 := late hb07 hblt k3'.out
          have hWW := hW'.out w7 hb07
          have hp7' := Lib.hid hp7
          have hm7' := Lib.hid hm7
          have bk7' := Lib.hid bk7
          have hb07' := Lib.hid hb07
          have hWW' := Lib.hid hWW
          clear hp7 hm7 bk7 hb07 hWW
          go_wp2_with fail
          refine hWW'.out.mono ?_
          rintro e w8 ⟨a8, c8, us, rfl, ho8, hfl8, hb8⟩
          have hp8 := hp7'.out.later hb8
          have hm8 := hm7'.out.trans (Gr.of_below hb8)
          clear q1 g1 g2 g3 ho8 hfl8
          have hp8' := Lib.hid hp8
          have hm8' := Lib.hid hm8
          have hb8' := Lib.hid hb8
          clear hp8 hm8 hb8
          go_wp2_with fail
          go_roundw
          case rel => exact ⟨i + 1, v7, by omega, by go_num, by rw [hst'.out], rfl, by rw [hst'.out]; exact hp8', hm8'⟩
          case measure => simp [intOf]; omega
        · obtain rfl : i = sn := by omega
          have hfull : d.2.1.take i = d.2.1 := List.take_of_length_le (by rw [hsn'.out]; omega)
          rw [hfull] at hpr
          have hbd := laySubs_le f (layS_le f) d.2.1 (L1, no + 1) h4'.out b1.1
          generalize laySubs f d.2.1 (L1, no + 1) = R at *
          obtain ⟨Ls, ns⟩ := R
          simp only at hbd hpr
          have d2 : wr.cell? ⟨w.heap.size, 2, none⟩ = some (.slice ba bn bc) := bkr.cell rfl
          by_cases hbn0 : 0 < bn
          · rw [if_pos hbn0] at hle'
            have hdc : decide ((0 : Int) < bn) = true := by simp; omega
            have hP := rwith_any B rv Ls 4 no 0 bn wr hpr.out (by have := hmr.out.size; omega) hbd.1 (by omega) (by omega)
            have hP' := Lib.hid hP
            have bkr' := Lib.hid bkr
            clear hP bkr
            go_wp2_with fail
            refine hP'.out.mono ?_
            rintro e w8 ⟨v8, rfl, hp8, hm8⟩
            have hm8 := (Gr.of_below hb1'.out).trans (hmr.out.trans hm8)
            have hp9 : Spr B w8 v8 (layS (f + 1) d no l) := by rw [hle'.out]; exact hp8
            clear d2 q1
            have hp8' := Lib.hid hp8
            have hm8' := Lib.hid hm8
            have hp9' := Lib.hid hp9
            clear hp8 hm8 hp9
            go_wp2_with fail
            go_ret
            exact ⟨v8, rfl, hp9'.out, hm8'.out⟩
          · rw [if_neg hbn0] at hle'
            have hdc : decide ((0 : Int) < bn) = false := by simp; omega
            have hp9 : Spr B wr rv (layS (f + 1) d no l) := by rw [hle'.out]; exact hpr.out
            have hm8 := (Gr.of_below hb1'.out).trans hmr.out
            have hp9' := Lib.hid hp9
            have bkr' := Lib.hid bkr
            have hm8' := Lib.hid hm8
            clear hp9 bkr hm8
            go_wp2_with fail
            go_ret
            exact ⟨rv, rfl, hp9'.out, hm8'.out⟩
theorem rlaid_any : ∀ f, RLaid f := by
  intro f
  induction f with
  | zero => intro B no v l w0 w d dv hd; exact hd.elim
  | succ f ih => exact rlaid_step f ih
end Go.Proofs.YtilennmeiaehnaaGreat
