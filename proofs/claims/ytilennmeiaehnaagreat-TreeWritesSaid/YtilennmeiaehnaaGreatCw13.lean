/- Chapter 20: all directories of a tree, in order: the document. | Chapter 20: Of, Long: the document. | Chapter 20: Long: the document. -/
import Derived.Test.YtilennmeiaehnaaGreatCw12
namespace Go.Proofs.YtilennmeiaehnaaGreat
open Go.RowKit Tt
set_option linter.unusedVariables false
set_option linter.unusedSimpArgs false

def flatT (f : Nat) (ds : List (DirT f)) : List Flt := ds.flatMap (flatS f)
theorem flatT_next (f : Nat) (ds : List (DirT f)) {i : Nat} (hi : i < ds.length) : flatT f (ds.take (i + 1)) = flatT f (ds.take i) ++ flatS f ds[i] := by
  rw [List.take_add_one, List.getElem?_eq_getElem hi, Option.toList_some]
  unfold flatT
  rw [List.flatMap_append, List.flatMap_cons, List.flatMap_nil, List.append_nil]
theorem flatT_take_le (f : Nat) (ds : List (DirT f)) (i : Nat) : (flatT f (ds.take i)).length ≤ (flatT f ds).length := by
  conv => rhs; rw [← List.take_append_drop i ds]
  unfold flatT
  rw [List.flatMap_append, List.length_append]
  omega
set_option maxRecDepth 20000 in
set_option maxHeartbeats 4000000 in
theorem rdirs_any (f : Nat) (o : Int) (sa : Option Addr) (sn sc : Nat) (ds : List (DirT f)) (w : World) (h : DirsR f w sa sn sc ds) (hN : (flatT f ds).length < 1000000) :
    Calls Tryz.prog 36 #[.agg #[.int .i64 o, .slice sa sn sc]] w fun e w' => ∃ (a : Option Addr) (c : Nat) (vs : List Dz), e = .returned (.slice a (flatT f ds).length c) ∧ w'.ownsRow w.heap.size 42 3 (.slice a (flatT f ds).length c) (flatT f ds).length (fl dvC vs) ∧ FlsR w (flatT f ds) vs ∧ Below w.heap.size w w' := by
  obtain ⟨i0, z0, hi0, hz, hz1, hz2, hz3⟩ := info_of dirI1 dirI2
  obtain ⟨dvs, hdl, hsl, hsub⟩ := h
  have hsn : ds.length = sn := by rw [← hdl]; exact hsl.flen dvC_len (by decide)
  have hsmax := hsl.max
  have hsle := hsl.le
  have hb1 := (Below.refl w.heap.size w).alloc (Nat.le_refl _) (.cells #[.int .i64 o, .slice sa sn sc] 24)
  have bk := Blk.new w 24 #[.int .i64 o, .slice sa sn sc]
  obtain ⟨W1, hW1⟩ : ∃ W1, w.alloc (.cells #[.int .i64 o, .slice sa sn sc] 24) = W1 := ⟨_, rfl⟩
  have hsz1 : W1.heap.size = w.heap.size + 1 := by rw [← hW1]; simp
  rw [hW1] at hb1 bk
  have hsl' := Lib.hid hsl
  have hsub' := Lib.hid hsub
  have hb1' := Lib.hid hb1
  have bk' := Lib.hid bk
  have hsn' := Lib.hid hsn
  clear hsl hsub hb1 bk hsn
  go_enter Tryz.func36, Tryz.ntmps36
  go_wp2_with fail
  go_loopw [3, 4] (fun r0 iv wr => ∃ (i : Nat) (a : Option Addr) (c : Nat) (vs : List Dz), i ≤ sn ∧ iv = .int .i64 i ∧ r0 = .slice a (flatT f (ds.take i)).length c ∧ Hid (wr.ownsRow (w.heap.size + 1) 42 3 (.slice a (flatT f (ds.take i)).length c) (flatT f (ds.take i)).length (fl dvC vs)) ∧ Hid (FlsR w (flatT f (ds.take i)) vs) ∧ Hid (Below W1.heap.size W1 wr)) (fun _ iv _ => sn - (intOf iv).toNat)
  case atStart => exact ⟨0, none, 0, [], by omega, rfl, rfl, Lib.hid (own_nil _ _ _ _), Lib.hid trivial, Lib.hid (Below.refl _ _)⟩
  case round =>
    obtain ⟨i, a, c, vs, hin, rfl, rfl, hown, hfls, hbr⟩ := hrel
    have bkr := bk'.out.late hbr.out
    have q1 : wr.cell? ⟨w.heap.size, 1, none⟩ = some (.slice sa sn sc) := bkr.cell rfl
    by_cases hi : i < sn
    · have hil : (i : Int) < (sn : Int) := by omega
      have hw5 : IntKind.i64.wrap ((i : Int) + 1) = i + 1 := by rw [IntKind.wrap_i64]; omega
      have hb0r := hb1'.out.trans (hbr.out.mono hb1'.out.size)
      have hid : i < ds.length := by rw [hsn'.out]; exact hi
      have hids : i < dvs.length := by rw [hdl]; exact hid
      obtain ⟨b, o', rfl, hblt, fe⟩ := (hsl'.out.mono hb0r).elem dvC_len (by decide) (.slice none 0 0, .slice none 0 0, .slice none 0 0) hi
      rw [getD_el hids] at fe
      have hq2 := hsub'.out i hids hid
      obtain ⟨ua, un, uc, pa, pn, pc, ra, rn, rc, hv⟩ := hq2.v
      have g0 := fe 0 _ rfl
      have g1 := fe 1 _ rfl
      have g2 := fe 2 _ rfl
      clear fe
      rw [hv] at hq2 g0 g1 g2
      simp only [Nat.add_zero] at g0 g1 g2
      have hft2 := flatT_next f ds hid
      have hft := congrArg List.length hft2
      rw [List.length_append] at hft
      have hftl := flatT_take_le f ds (i + 1)
      have hI := rwithin_any f w wr ds[i] _ hq2 hb0r (by omega)
      simp only at hI
      generalize ds[i] = dd at hft hft2 hI
      clear hq2 hv
      have hft' := Lib.hid hft
      have hftl' := Lib.hid hftl
      have hft2' := Lib.hid hft2
      have hI' := Lib.hid hI
      have hb0r' := Lib.hid hb0r
      have bkr' := Lib.hid bkr
      clear hft hftl hft2 hI hb0r bkr
      go_wp2_with fail
      refine hI'.out.mono ?_
      rintro e w6 ⟨a6, c6, us, rfl, ho6, hfl6, hb6⟩
      have hownr := own_later hown.out hb6
      have hsl6 := (Sl.of_own ho6).1
      have hbr6 := hbr.out.trans (hb6.mono hbr.out.size)
      have hsz6 := hbr6.size
      clear g0 g1 g2 q1
      have hownr' := Lib.hid hownr
      have hsl6' := Lib.hid hsl6
      have hbr6' := Lib.hid hbr6
      have ho6' := Lib.hid ho6
      have hb6' := Lib.hid hb6
      have hfl6' := Lib.hid hfl6
      clear hownr hsl6 hbr6 ho6 hb6 hfl6
      go_wp2_with (at_builtin; refine wpList_app2 rfl _ _ 22 rfl (w.heap.size + 1) 42 i0 z0 3 72 Tryz.underlying22 hi0 hz hz1 hz2 hz3 (by decide) (.slice a (flatT f (ds.take i)).length c) (flatT f (ds.take i)).length _ rfl hownr'.out a6 (flatS f dd).length c6 (fl dvC us) rfl hsl6'.out hfl6'.out.one (by have := hft'.out; have := hftl'.out; omega) (by decide) (by omega) ?_; intro a8 c8 w8 ob hg8 hown8; have Ob := Lib.hid ob; have Hg8 := Lib.hid hg8; have Ho8 := Lib.hid hown8; clear ob hg8 hown8)
      have hnm : (flatT f (ds.take i)).length + (flatS f dd).length = (flatT f (ds.take (i + 1))).length := hft'.out.symm
      have ho8 := Ob.out
      rw [hnm, ← fl_append] at ho8
      have hbr8 : Below W1.heap.size W1 w8 := below_grown hbr6'.out Hg8.out hbr6'.out.size (by rw [hsz1]; exact hownr'.out)
      have hfl8 := hfls.out.append hfl6'.out
      rw [← hft2'.out] at hfl8
      have ho8' := Lib.hid ho8
      have hbr8' := Lib.hid hbr8
      have hfl8' := Lib.hid hfl8
      clear ho8 hbr8 hfl8
      go_wp2_with fail
      go_roundw
      case rel => exact ⟨i + 1, a8, c8, vs ++ us, by omega, by go_num, by rw [hnm], ho8', hfl8', hbr8'⟩
      case measure => simp [intOf]; omega
    · obtain rfl : i = sn := by omega
      have hfull : ds.take i = ds := List.take_of_length_le (by rw [hsn'.out]; omega)
      rw [hfull] at hown hfls
      have hbw := hb1'.out.trans (hbr.out.mono hb1'.out.size)
      have hbw' := Lib.hid hbw
      clear hbw
      rw [hfull]
      go_wp2_with fail
      go_ret
      exact ⟨a, c, vs, rfl, own_mono hown.out (by omega), hfls.out, hbw'.out⟩
end Go.Proofs.YtilennmeiaehnaaGreat

namespace Go.Proofs.YtilennmeiaehnaaGreat
open Go.RowKit Tt
set_option linter.unusedVariables false
set_option linter.unusedSimpArgs false

def prs (f : Nat) (ds : List (DirT f)) : List (Int × DirT f) := ds.map (Prod.mk 0)
theorem flats_prs (f : Nat) (ds : List (DirT f)) : flats f (prs f ds) = flatT f ds := by
  unfold flats prs flatT
  rw [List.flatMap_map]
theorem prs_get (f : Nat) (ds : List (DirT f)) {i : Nat} (h : i < (prs f ds).length) (h' : i < ds.length) : (prs f ds)[i].2 = ds[i] := by simp [prs]
def layT (f : Nat) (ds : List (DirT f)) : List Spt := (laySubs f (prs f ds) (addS [] 1 (-1) 0 8, 0)).1
def okAll (f : Nat) (ds : List (DirT f)) : Bool := (flatT f ds).all okF
def fitT (f : Nat) (ds : List (DirT f)) : Bool := okAll f ds && decide (endS (layT f ds) ≤ 4294967295)
def longT (f : Nat) (ds : List (DirT f)) : Int := if fitT f ds = true then endS (layT f ds) else 0
def smallF (x : Flt) : Prop := x.1.length ≤ 60 ∧ x.2.1 ≤ 6 ∧ x.2.2.length ≤ 600
theorem flat_small : ∀ (f : Nat) (d : DirT f), smallD f d → ∀ x ∈ flatS f d, smallF x := by
  intro f
  induction f with
  | zero => intro d _ x hx; simp [flatS] at hx
  | succ f ih =>
    intro d hs x hx
    obtain ⟨h1, h2, h3, h4⟩ := hs
    rw [flatS_succ, List.mem_cons] at hx
    rcases hx with rfl | hx
    · exact ⟨h1, h3, h2⟩
    · obtain ⟨s, hs, hx⟩ := List.mem_flatMap.1 hx
      exact ih s.2 (h4 s hs) x hx
theorem flatT_small (f : Nat) (ds : List (DirT f)) (h : ∀ d ∈ ds, smallD f d) : ∀ x ∈ flatT f ds, smallF x := fun x hx => by
  obtain ⟨d, hd, hx⟩ := List.mem_flatMap.1 hx
  exact flat_small f d (h d hd) x hx
theorem okF_iff {x : Flt} (h : smallF x) : okF x = (decide (1 ≤ entN x.1.length x.2.1 x.2.2.length) && x.1.all okT) := by
  unfold okF
  have := entN_le (b := x.2.2.length) h.1 h.2.1
  rw [show decide (entN x.1.length x.2.1 x.2.2.length ≤ 65535) = true by simp; omega, Bool.and_true]
theorem all_not {α : Type} {p : α → Bool} {l : List α} {i : Nat} (h : i < l.length) (hp : p l[i] = false) : l.all p = false := by
  rw [List.all_eq_false]
  exact ⟨l[i], List.getElem_mem h, by simp [hp]⟩
theorem all_yes {α : Type} {p : α → Bool} {l : List α} (h : ∀ i (hi : i < l.length), p l[i] = true) : l.all p = true := by
  rw [List.all_eq_true]
  intro x hx
  obtain ⟨i, hi, rfl⟩ := List.getElem_of_mem hx
  exact h i hi
set_option maxRecDepth 20000 in
set_option maxHeartbeats 4000000 in
theorem rlof_any (f : Nat) (o : Int) (sa : Option Addr) (sn sc : Nat) (ds : List (DirT f)) (w : World) (h : DirsR f w sa sn sc ds) (hs : ∀ d ∈ ds, smallD f d) (hN : (flatT f ds).length < 1000) :
    Calls Tryz.prog 42 #[.agg #[.int .i64 o, .slice sa sn sc]] w fun e w' => ((fitT f ds = true ∧ ∃ v, e = .returned (.tuple #[v, .bool true]) ∧ Spr w.heap.size w' v (layT f ds)) ∨ (fitT f ds = false ∧ e = .returned (.tuple #[.slice none 0 0, .bool false]))) ∧ Below w.heap.size w w' := by
  have hsmf := flatT_small f ds hs
  have hb1 := (Below.refl w.heap.size w).alloc (Nat.le_refl _) (.cells #[.int .i64 o, .slice sa sn sc] 24)
  have bk := Blk.new w 24 #[.int .i64 o, .slice sa sn sc]
  obtain ⟨W1, hW1⟩ : ∃ W1, w.alloc (.cells #[.int .i64 o, .slice sa sn sc] 24) = W1 := ⟨_, rfl⟩
  have hsz1 : W1.heap.size = w.heap.size + 1 := by rw [← hW1]; simp
  rw [hW1] at hb1 bk
  have hD := rdirs_any f o sa sn sc ds W1 (h.mono hb1) (by omega)
  have d0 : W1.cell? ⟨w.heap.size, 0, none⟩ = some (.int .i64 o) := bk.cell rfl
  have d1 : W1.cell? ⟨w.heap.size, 1, none⟩ = some (.slice sa sn sc) := bk.cell rfl
  have h' := Lib.hid h
  have hb1' := Lib.hid hb1
  have bk' := Lib.hid bk
  have hD' := Lib.hid hD
  have hs' := Lib.hid hs
  have hsmf' := Lib.hid hsmf
  clear h hb1 bk hD hs hsmf
  go_enter Tryz.func42, Tryz.ntmps42
  go_wp2_with fail
  refine hD'.out.mono ?_
  rintro e w2 ⟨ra, rc, vs, rfl, hown, hfls, hb2⟩
  have hrow := (Sl.of_own hown).1
  have hlv := hfls.len
  have hbw2 := hb1'.out.trans (hb2.mono hb1'.out.size)
  clear d0 d1
  have hown' := Lib.hid hown
  have hfls' := Lib.hid hfls
  have hb2' := Lib.hid hb2
  have hrow' := Lib.hid hrow
  have hlv' := Lib.hid hlv
  have hbw2' := Lib.hid hbw2
  clear hown hfls hb2 hrow hlv hbw2
  go_wp2_with fail
  go_loopw [5] (fun iv wr => ∃ (i : Nat), i ≤ (flatT f ds).length ∧ iv = .int .i64 i ∧ Hid (∀ j (hj : j < (flatT f ds).length), j < i → okF (flatT f ds)[j] = true) ∧ Hid (Below w2.heap.size w2 wr)) (fun iv _ => (flatT f ds).length - (intOf iv).toNat)
  case atStart => exact ⟨0, by omega, rfl, Lib.hid (fun j _ hj => by omega), Lib.hid (Below.refl _ _)⟩
  case round =>
    obtain ⟨i, hin, rfl, hall, hbr⟩ := hrel
    by_cases hi : i < (flatT f ds).length
    · have hil : (i : Int) < ((flatT f ds).length : Int) := by omega
      have hw5 : IntKind.i64.wrap ((i : Int) + 1) = i + 1 := by rw [IntKind.wrap_i64]; omega
      have hiv : i < vs.length := by rw [hlv'.out]; exact hi
      obtain ⟨b, o', rfl, hblt, fe⟩ := (hrow'.out.mono hbr.out).elem dvC_len (by decide) dzz hi
      rw [getD_el hiv] at fe
      have hfx := hfls'.out.get i hi hiv
      have hsx := hsmf'.out _ (List.getElem_mem hi)
      have hokx := okF_iff hsx
      have hbad : okF (flatT f ds)[i] = false → fitT f ds = false := fun e => by unfold fitT okAll; rw [all_not hi e]; rfl
      have hnext : okF (flatT f ds)[i] = true → ∀ j (hj : j < (flatT f ds).length), j < i + 1 → okF (flatT f ds)[j] = true := fun e j hj h1 => by
        rcases Nat.lt_or_ge j i with h2 | h2
        · exact hall.out j hj h2
        · obtain rfl : j = i := by omega
          exact e
      obtain ⟨x, hx⟩ : ∃ x, (flatT f ds)[i] = x := ⟨_, rfl⟩
      rw [hx] at hfx hsx hokx hbad hnext
      obtain ⟨xt, xs, xb⟩ := x
      obtain ⟨ta, tc, ua, uc, ba, bc, zs, hv, htg, hxt, hbl⟩ := hfx
      rw [hv] at fe
      simp only at hokx htg hxt
      have g0 := fe 0 _ rfl
      have g1 := fe 1 _ rfl
      have g2 := fe 2 _ rfl
      simp only [Nat.add_zero] at g0 g1 g2
      clear fe
      have htn60 : xt.length ≤ 60 := hsx.1
      have hsn6 : xs ≤ 6 := hsx.2.1
      have hE := fun W => rent_any ta ua ba xt.length tc xs uc xb.length bc W (by omega) (by omega)
      have hm := entN_le (b := xb.length) htn60 hsn6
      have hbb := hbw2'.out.trans (hbr.out.mono hbw2'.out.size)
      have hb1r := hb2'.out.trans (hbr.out.mono hb2'.out.size)
      generalize entN xt.length xs xb.length = m at *
      have hsx' := Lib.hid hsx
      have hokx' := Lib.hid hokx
      have hbad' := Lib.hid hbad
      have hnext' := Lib.hid hnext
      have hx' := Lib.hid hx
      have hv' := Lib.hid hv
      have hxt' := Lib.hid hxt
      have hE' := Lib.hid hE
      have hbl' := Lib.hid hbl
      have hbb' := Lib.hid hbb
      clear hsx hokx hbad hnext hx hv hxt hE hbl hbb
      by_cases hm1 : 1 ≤ m
      · have e1 : decide ((m : Int) < 1) = false := by simp; omega
        have e2 : decide ((65535 : Int) < m) = false := by simp; omega
        go_wp2_with fail
        refine (hE'.out _).mono ?_
        rintro e w3 ⟨rfl, hb3⟩
        have p0 := late hb3 hblt g0
        have p1 := late hb3 hblt g1
        have p2 := late hb3 hblt g2
        clear g0 g1 g2
        have hb3' := Lib.hid hb3
        clear hb3
        go_wp2_with fail
        refine (hE'.out _).mono ?_
        rintro e w4 ⟨rfl, hb4⟩
        have hb34 := hb3'.out.trans (hb4.mono hb3'.out.size)
        have hbr4 := hbr.out.trans (hb34.mono hbr.out.size)
        have r0 := late hb4 (Nat.lt_of_lt_of_le hblt hb3'.out.size) p0
        have hb4l : b < w4.heap.size := Nat.lt_of_lt_of_le hblt hb34.size
        have htg4 := htg.mono (hb1r.trans (hb34.mono hb1r.size))
        have hbw4 := hbb'.out.trans (hb34.mono hbb'.out.size)
        have hzl : zs.length = xt.length := htg.len
        clear p0 p1 p2 htg hb1r hblt
        have hb34' := Lib.hid hb34
        have hbr4' := Lib.hid hbr4
        have htg4' := Lib.hid htg4
        have hbw4' := Lib.hid hbw4
        have hb4' := Lib.hid hb4
        have hall' := Lib.hid hall
        have hbr' := Lib.hid hbr
        clear hb34 hbr4 htg4 hbw4 hb4 hall hbr
        go_wp2_with fail
        go_loopw [6] (fun kv wx => ∃ (k : Nat), k ≤ xt.length ∧ kv = .int .i64 k ∧ Hid (∀ j (hj : j < xt.length), j < k → okT xt[j] = true) ∧ Hid (Below w4.heap.size w4 wx)) (fun kv _ => xt.length - (intOf kv).toNat)
        case atStart => exact ⟨0, by omega, rfl, Lib.hid (fun j _ hj => by omega), Lib.hid (Below.refl _ _)⟩
        case round =>
          obtain ⟨k, hkn, rfl, hallk, hbk⟩ := hrel
          have s0 := late hbk.out hb4l r0
          have hbwr := hbw4'.out.trans (hbk.out.mono hbw4'.out.size)
          by_cases hk : k < xt.length
          · have hkl : (k : Int) < (xt.length : Int) := by omega
            have hw6 : IntKind.i64.wrap ((k : Int) + 1) = k + 1 := by rw [IntKind.wrap_i64]; omega
            obtain ⟨b2, o2, rfl, hb2lt, f0, f1, f2, f3, hrd⟩ := (htg4'.out.mono hbk.out).at hk
            have hxk : xt[k] = tagz (zs.getD k tz0) := by
              have : xt[k] = (zs.map tagz)[k]'(by rw [List.length_map, hzl]; exact hk) := by simp only [← hxt'.out]
              rw [this, List.getElem_map, ← getD_el (by rw [hzl]; exact hk) tz0]
            obtain ⟨⟨⟨y, t, kk, xa, xn, xc⟩, dd⟩, hzi⟩ : ∃ z, zs.getD k tz0 = z := ⟨_, rfl⟩
            rw [hzi] at f0 f1 f2 f3 hrd hxk
            simp only [tagz] at f0 f1 f2 f3 hxk hrd
            have hM := fun W (h : Below wr.heap.size wr W) => rmay_any t kk xa xn xc dd W (hrd.mono h)
            have hok : okT xt[k] = mayS t kk dd := by rw [hxk]; rfl
            obtain ⟨r, hr⟩ : ∃ r, mayS t kk dd = r := ⟨_, rfl⟩
            rw [hr] at hM hok
            have hMM := hM wr (Below.refl _ _)
            clear hM hxk
            have hMM' := Lib.hid hMM
            have hok' := Lib.hid hok
            have hr' := Lib.hid hr
            have hzi' := Lib.hid hzi
            have hrd' := Lib.hid hrd
            have hbwr' := Lib.hid hbwr
            clear hMM hok hr hzi hrd hbwr
            go_wp2_with fail
            refine hMM'.out.mono ?_
            rintro e w7 ⟨rfl, hb7⟩
            have hb7w := hbwr'.out.trans (hb7.mono hbwr'.out.size)
            have hbk7 := hbk.out.trans (hb7.mono hbk.out.size)
            clear f0 f1 f2 f3 s0
            have hb7' := Lib.hid hb7
            have hb7w' := Lib.hid hb7w
            have hbk7' := Lib.hid hbk7
            clear hb7 hb7w hbk7
            cases r with
            | false =>
              have hf0 : fitT f ds = false := hbad'.out (by rw [hokx'.out, all_not hk hok'.out, Bool.and_false])
              go_wp2_with fail
              refine bodyPost_ret (results_tmp2 rfl _ _ _) rfl ?_
              exact ⟨.inr ⟨hf0, rfl⟩, hb7w'.out⟩
            | true =>
              go_wp2_with fail
              go_roundw
              case rel =>
                refine ⟨k + 1, by omega, by go_num, Lib.hid (fun j hj h1 => ?_), hbk7'⟩
                rcases Nat.lt_or_ge j k with h2 | h2
                · exact hallk.out j hj h2
                · obtain rfl : j = k := by omega
                  exact hok'.out
              case measure => simp [intOf]; omega
          · have hok1 : okF (xt, xs, xb) = true := by
              rw [hokx'.out, decide_eq_true hm1, all_yes (fun j hj => hallk.out j hj (by omega))]; rfl
            have hnx := hnext'.out hok1
            have hbr9 := hbr4'.out.trans (hbk.out.mono hbr4'.out.size)
            have hnx' := Lib.hid hnx
            have hbr9' := Lib.hid hbr9
            have hbwr' := Lib.hid hbwr
            clear hnx hbr9 hbwr
            go_wp2_with fail
            go_roundw
            case rel => exact ⟨i + 1, by omega, by go_num, hnx', hbr9'⟩
            case measure => simp [intOf]; omega
      · have e1 : decide ((m : Int) < 1) = true := by simp; omega
        go_wp2_with fail
        refine (hE'.out _).mono ?_
        rintro e w3 ⟨rfl, hb3⟩
        have hbw := hbb'.out.trans (hb3.mono hbb'.out.size)
        have hf0 : fitT f ds = false := hbad'.out (by rw [hokx'.out, decide_eq_false hm1]; rfl)
        clear g0 g1 g2
        have hb3' := Lib.hid hb3
        have hbw' := Lib.hid hbw
        clear hb3 hbw
        go_wp2_with fail
        refine bodyPost_ret (results_tmp2 rfl _ _ _) rfl ?_
        exact ⟨.inr ⟨hf0, rfl⟩, hbw'.out⟩
    · obtain ⟨wo, hwo⟩ : ∃ wo, wo = wr := ⟨_, rfl⟩
      subst hwo
      have hok : okAll f ds = true := all_yes (fun j hj => hall.out j hj (by omega))
      have hbw := hbw2'.out.trans (hbr.out.mono hbw2'.out.size)
      have hb1r := hb2'.out.trans (hbr.out.mono hb2'.out.size)
      have hP := rwith_any wo.heap.size (.slice none 0 0) [] 1 (-1) 0 8 wo (own_nil _ _ _ _) (Nat.le_refl _) (by decide) (by decide) (by decide)
      clear hall hin
      have hok' := Lib.hid hok
      have hbw' := Lib.hid hbw
      have hb1r' := Lib.hid hb1r
      have hP' := Lib.hid hP
      have hbr' := Lib.hid hbr
      clear hok hbw hb1r hP hbr
      go_wp2_with fail
      refine hP'.out.mono ?_
      rintro e w3 ⟨v3, rfl, hp3, hm3⟩
      have bk3 := (bk'.out.late hb1r'.out).gr hm3 (by intro h; cases h)
      have hb13 := hb1r'.out.trans (hm3.below (fun k e => by cases e) hb1r'.out.size)
      have hp3' := Lib.hid hp3
      have hm3' := Lib.hid hm3
      have bk3' := Lib.hid bk3
      have hb13' := Lib.hid hb13
      clear hp3 hm3 bk3 hb13
      go_wp2_with fail
      go_loopw [7, 8, 9] (fun r0 nv iv wx => ∃ (i : Nat) (rv : Value), i ≤ sn ∧ iv = .int .i64 i ∧ nv = .int .i64 (laySubs f ((prs f ds).take i) (addS [] 1 (-1) 0 8, 0)).2 ∧ rv = r0 ∧ Hid (Spr wo.heap.size wx rv (laySubs f ((prs f ds).take i) (addS [] 1 (-1) 0 8, 0)).1) ∧ Hid (Gr (.slice none 0 0) rv wo wx)) (fun _ _ iv _ => sn - (intOf iv).toNat)
      case atStart => exact ⟨0, v3, by omega, rfl, rfl, rfl, Lib.hid (by simpa [laySubs] using hp3'.out), hm3'⟩
      clear hp3' hm3' bk3' hb13'
      case round =>
        obtain ⟨i, rv, hin, rfl, rfl, rfl, hpr, hmr⟩ := hrel
        have hbo := hmr.out.below (fun k e => by cases e) (Nat.le_refl _)
        have hb1w := hb1r'.out.trans (hbo.mono hb1r'.out.size)
        have hbw0 := hbw'.out.trans (hbo.mono hbw'.out.size)
        have bkr := bk'.out.late hb1w
        have q1 : wr.cell? ⟨w.heap.size, 1, none⟩ = some (.slice sa sn sc) := bkr.cell rfl
        have hdn : ds.length = sn := by
          obtain ⟨dvs, hdl, hsl, _⟩ := h'.out
          rw [← hdl]; exact hsl.flen dvC_len (by decide)
        have he8 : endS (addS [] 1 (-1) 0 8) = 8 := rfl
        have hpl : (prs f ds).length = sn := by unfold prs; rw [List.length_map]; exact hdn
        have hsml : ∀ x ∈ prs f ds, smallD f x.2 := fun x hx => by
          obtain ⟨d, hd, rfl⟩ := List.mem_map.1 hx
          exact hs'.out d hd
        have hbd := laySubs_le f (layS_le f) ((prs f ds).take i) (addS [] 1 (-1) 0 8, 0) (fun x hx => hsml x (List.mem_of_mem_take hx)) (by decide)
        have hfl0 : flats f (prs f ds) = flatT f ds := flats_prs f ds
        have hftl := flats_take_le f (prs f ds) i
        have hal1 : (addS [] 1 (-1) 0 8).length = 1 := rfl
        simp only [he8, hal1] at hbd
        by_cases hi : i < sn
        · have hil : (i : Int) < (sn : Int) := by omega
          obtain ⟨dvs, hdl, hsl, hsub⟩ := h'.out
          have hmx := hsl.max
          have hml := hsl.le
          have hw5 : IntKind.i64.wrap ((i : Int) + 1) = i + 1 := by rw [IntKind.wrap_i64]; omega
          have hid : i < ds.length := by omega
          have hids : i < dvs.length := by omega
          have hip : i < (prs f ds).length := by omega
          have hpi := prs_get f ds hip hid
          obtain ⟨b, o', rfl, hblt, fe⟩ := hsl.elem dvC_len (by decide) dzz hi
          rw [getD_el hids] at fe
          have hq2 := hsub i hids hid
          obtain ⟨ua, un, uc, pa, pn, pc, ra, rn, rc, hv⟩ := hq2.v
          have k0 := fe 0 _ rfl
          have k1 := fe 1 _ rfl
          have k2 := fe 2 _ rfl
          clear fe
          rw [hv] at hq2 k0 k1 k2
          simp only [Nat.add_zero] at k0 k1 k2
          have g0 := late hbw0 hblt k0
          have g1 := late hbw0 hblt k1
          have g2 := late hbw0 hblt k2
          have hst := laySubs_step f (prs f ds) (addS [] 1 (-1) 0 8, 0) hip
          have hft := flats_step f (prs f ds) hip
          have hftl2 := flats_take_le f (prs f ds) (i + 1)
          rw [hpi] at hst hft
          have hsm : smallD f ds[i] := hs'.out _ (List.getElem_mem hid)
          rw [hfl0] at hftl hftl2
          generalize ds[i] = dd at hst hft hsm hq2
          generalize laySubs f ((prs f ds).take i) (addS [] 1 (-1) 0 8, 0) = R at hst hbd hpr ⊢
          obtain ⟨Ls, ns⟩ := R
          simp only at hbd hpr hst ⊢
          have hw6 : IntKind.i64.wrap (ns + (flatS f dd).length) = ns + (flatS f dd).length := by rw [IntKind.wrap_i64]; omega
          have hI := rlaid_any f wo.heap.size ns rv Ls w wr dd _ hq2 hbw0 hbw'.out.size hbo.size hpr.out hsm (by omega) (by omega) hbd.1 (by omega) (by omega)
          have hW := fun W (h : Below w.heap.size w W) => rwithin_any f w W dd _ hq2 h (by omega)
          simp only at hI hW
          clear hsl hsub hv hdl
          have hbo' := Lib.hid hbo
          have hb1w' := Lib.hid hb1w
          have hbw0' := Lib.hid hbw0
          have bkr' := Lib.hid bkr
          have hdn' := Lib.hid hdn
          have he8' := Lib.hid he8
          have hpl' := Lib.hid hpl
          have hsml' := Lib.hid hsml
          have hbd' := Lib.hid hbd
          have hfl0' := Lib.hid hfl0
          have hal1' := Lib.hid hal1
          have hpi' := Lib.hid hpi
          have hq2' := Lib.hid hq2
          have k0' := Lib.hid k0
          have k1' := Lib.hid k1
          have k2' := Lib.hid k2
          have hst' := Lib.hid hst
          have hft' := Lib.hid hft
          have hsm' := Lib.hid hsm
          have hI' := Lib.hid hI
          have hW' := Lib.hid hW
          clear hbo hb1w hbw0 bkr hdn he8 hpl hsml hbd hfl0 hal1 hpi hq2 k0 k1 k2 hst hft hsm hI hW
          go_wp2_with fail
          refine hI'.out.mono ?_
          rintro e w7 ⟨v7, rfl, hp7, hm7⟩
          have hm7 := hmr.out.trans hm7
          have hbo7 := hm7.below (fun k e => by cases e) (Nat.le_refl _)
          have hb07 := hbw'.out.trans (hbo7.mono hbw'.out.size)
          have bk7 := bk'.out.late (hb1r'.out.trans (hbo7.mono hb1r'.out.size))
          clear q1 g0 g1 g2
          have q1 : w7.cell? ⟨w.heap.size, 1, none⟩ = some (.slice (some ⟨b, o', none⟩) sn sc) := bk7.cell rfl
          have g0 := late hb07 hblt k0'.out
          have g1 := late hb07 hblt k1'.out
          have g2 := late hb07 hblt k2'.out
          have hWW := hW'.out w7 hb07
          have hp7' := Lib.hid hp7
          have hm7' := Lib.hid hm7
          have bk7' := Lib.hid bk7
          have hb07' := Lib.hid hb07
          have hWW' := Lib.hid hWW
          have hbo7' := Lib.hid hbo7
          clear hp7 hm7 bk7 hb07 hWW hbo7
          go_wp2_with fail
          refine hWW'.out.mono ?_
          rintro e w8 ⟨a8, c8, us, rfl, ho8, hfl8, hb8⟩
          have hp8 := hp7'.out.later hb8
          have hm8 := hm7'.out.trans (Gr.of_below hb8)
          clear q1 g0 g1 g2 ho8 hfl8
          have hp8' := Lib.hid hp8
          have hm8' := Lib.hid hm8
          have hb8' := Lib.hid hb8
          clear hp8 hm8 hb8
          go_wp2_with fail
          go_roundw
          case rel => exact ⟨i + 1, v7, by omega, by go_num, by rw [hst'.out], rfl, by rw [hst'.out]; exact hp8', hm8'⟩
          case measure => simp [intOf]; omega
        · obtain rfl : i = sn := by omega
          have hfull : (prs f ds).take i = prs f ds := List.take_of_length_le (by omega)
          rw [hfull] at hpr hbd
          have hLe : (laySubs f (prs f ds) (addS [] 1 (-1) 0 8, 0)).1 = layT f ds := rfl
          rw [hfl0] at hbd
          rw [hLe] at hpr hbd
          obtain ⟨xa, xc, rfl⟩ := row_slice hpr.out
          have hsl := (Sl.of_own hpr.out).1
          have hE := rend_any xa _ xc (layT f ds) wr hsl hbd.1 (by omega)
          have hfit : fitT f ds = decide (endS (layT f ds) ≤ 4294967295) := by unfold fitT; rw [hok'.out, Bool.true_and]
          have hspr := hpr.out
          have hbo' := Lib.hid hbo
          have hb1w' := Lib.hid hb1w
          have hbw0' := Lib.hid hbw0
          have bkr' := Lib.hid bkr
          have hdn' := Lib.hid hdn
          have he8' := Lib.hid he8
          have hpl' := Lib.hid hpl
          have hsml' := Lib.hid hsml
          have hbd' := Lib.hid hbd
          have hfl0' := Lib.hid hfl0
          have hal1' := Lib.hid hal1
          have hE' := Lib.hid hE
          have hfit' := Lib.hid hfit
          have hsl' := Lib.hid hsl
          have hspr' := Lib.hid hspr
          clear hbo hb1w hbw0 bkr hdn he8 hpl hsml hbd hfl0 hal1 hE hfit hsl hspr
          rw [hfull]
          go_wp2_with fail
          refine hE'.out.mono ?_
          rintro e w7 ⟨rfl, hb7⟩
          have hbw7 := hbw0'.out.trans (hb7.mono hbw0'.out.size)
          have hsp7 : Spr w.heap.size w7 (.slice xa (layT f ds).length xc) (layT f ds) := own_mono (own_later hspr'.out hb7) hbw'.out.size
          clear q1
          have hb7' := Lib.hid hb7
          have hbw7' := Lib.hid hbw7
          have hsp7' := Lib.hid hsp7
          clear hb7 hbw7 hsp7
          by_cases hfi : endS (layT f ds) ≤ 4294967295
          · have hdc : decide ((4294967295 : Int) < endS (layT f ds)) = false := by simp; omega
            rw [decide_eq_true hfi] at hfit'
            go_wp2_with fail
            refine bodyPost_ret (results_tmp2 rfl _ _ _) rfl ?_
            exact ⟨.inl ⟨hfit'.out, .slice xa (layT f ds).length xc, rfl, hsp7'.out⟩, hbw7'.out⟩
          · have hdc : decide ((4294967295 : Int) < endS (layT f ds)) = true := by simp; omega
            rw [decide_eq_false hfi] at hfit'
            go_wp2_with fail
            refine bodyPost_ret (results_tmp2 rfl _ _ _) rfl ?_
            exact ⟨.inr ⟨hfit'.out, rfl⟩, hbw7'.out⟩
end Go.Proofs.YtilennmeiaehnaaGreat

namespace Go.Proofs.YtilennmeiaehnaaGreat
open Go.RowKit Tt
set_option linter.unusedVariables false
set_option linter.unusedSimpArgs false

theorem layT_bounds (f : Nat) (ds : List (DirT f)) (hs : ∀ d ∈ ds, smallD f d) (hN : (flatT f ds).length < 1000) : 0 ≤ endS (layT f ds) ∧ endS (layT f ds) < 1000000000000 := by
  have hsml : ∀ x ∈ prs f ds, smallD f x.2 := fun x hx => by
    obtain ⟨d, hd, rfl⟩ := List.mem_map.1 hx
    exact hs d hd
  have hbd := laySubs_le f (layS_le f) (prs f ds) (addS [] 1 (-1) 0 8, 0) hsml (by decide)
  have he8 : endS (addS [] 1 (-1) 0 8) = 8 := rfl
  rw [flats_prs] at hbd
  simp only [he8] at hbd
  unfold layT
  omega
set_option maxHeartbeats 1000000 in
theorem rlng_any (f : Nat) (o : Int) (sa : Option Addr) (sn sc : Nat) (ds : List (DirT f)) (w : World) (h : DirsR f w sa sn sc ds) (hs : ∀ d ∈ ds, smallD f d) (hN : (flatT f ds).length < 1000) :
    Calls Tryz.prog 43 #[.agg #[.int .i64 o, .slice sa sn sc]] w fun e w' => e = .returned (.int .i64 (longT f ds)) ∧ Below w.heap.size w w' := by
  have hbd := layT_bounds f ds hs hN
  have hb1 := (Below.refl w.heap.size w).alloc (Nat.le_refl _) (.cells #[.int .i64 o, .slice sa sn sc] 24)
  have hO := rlof_any f o sa sn sc ds _ (h.mono hb1) hs hN
  have hx1 : fitT f ds = true → longT f ds = endS (layT f ds) := fun e => by unfold longT; rw [if_pos e]
  have hx2 : fitT f ds = false → longT f ds = 0 := fun e => by unfold longT; rw [if_neg (by rw [e]; decide)]
  generalize longT f ds = x at *
  have hb1' := Lib.hid hb1
  have hO' := Lib.hid hO
  have hs' := Lib.hid hs
  have h' := Lib.hid h
  have hx1' := Lib.hid hx1
  have hx2' := Lib.hid hx2
  clear hb1 hO hs h hx1 hx2
  go_enter Tryz.func43, Tryz.ntmps43
  go_wp2_with fail
  refine hO'.out.mono ?_
  rintro e w2 ⟨hc, hb2⟩
  have hbw := hb1'.out.trans (hb2.mono hb1'.out.size)
  rcases hc with ⟨hf, v, rfl, hsp⟩ | ⟨hf, rfl⟩
  · obtain ⟨xa, xc, rfl⟩ := row_slice hsp
    have hE := rend_any xa _ xc (layT f ds) w2 (Sl.of_own hsp).1 hbd.1 (by omega)
    obtain rfl := hx1'.out hf
    clear hx1' hx2'
    have hE' := Lib.hid hE
    have hbw' := Lib.hid hbw
    have hsp' := Lib.hid hsp
    have hb2' := Lib.hid hb2
    clear hE hbw hsp hb2
    go_wp2_with fail
    refine hE'.out.mono ?_
    rintro e w3 ⟨rfl, hb3⟩
    have hbw3 := hbw'.out.trans (hb3.mono hbw'.out.size)
    have hbw3' := Lib.hid hbw3
    have hb3' := Lib.hid hb3
    clear hbw3 hb3
    go_wp2_with fail
    go_ret
    exact ⟨rfl, hbw3'.out⟩
  · have hE := rend_any none 0 0 [] w2 (Sl.nil w2 5) (by decide) (by decide)
    obtain rfl := hx2'.out hf
    clear hx1' hx2'
    have hE' := Lib.hid hE
    have hbw' := Lib.hid hbw
    have hb2' := Lib.hid hb2
    clear hE hbw hb2
    go_wp2_with fail
    refine hE'.out.mono ?_
    rintro e w3 ⟨rfl, hb3⟩
    have hbw3 := hbw'.out.trans (hb3.mono hbw'.out.size)
    have hbw3' := Lib.hid hbw3
    have hb3' := Lib.hid hb3
    clear hbw3 hb3
    go_wp2_with fail
    go_ret
    exact ⟨rfl, hbw3'.out⟩
end Go.Proofs.YtilennmeiaehnaaGreat
