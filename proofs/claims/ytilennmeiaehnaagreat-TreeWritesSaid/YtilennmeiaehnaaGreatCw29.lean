/- Chapter 21: Check: the document. | Chapter 21: the examples: a tag with a SHORT: the document's values. | Chapter 21: the examples: a tag with a SHORT, what is answered. -/
import Derived.Test.YtilennmeiaehnaaGreatCw28
import Derived.LoopN
import Derived.Lib.ConvBytes
import Derived.Laws.AppendOwn
import Derived.Test.YtilennmeiaehnaaGreatCw27
import Derived.Test.YtilennmeiaehnaaGreatCw00
namespace Go.Proofs.YtilennmeiaehnaaGreat
open Go.RowKit Tt
set_option linter.unusedVariables false
set_option linter.unusedSimpArgs false

def hasN (L : List Shp) (f : Nat) (ds : List (DirT f)) (n : Nat) : Bool := (List.range n).all fun k => hasS L f (ds.getD k (dirZ f)) (nxtS L k)
theorem hasN_step (L : List Shp) (f : Nat) (ds : List (DirT f)) (n : Nat) : hasN L f ds (n + 1) = (hasN L f ds n && hasS L f (ds.getD n (dirZ f)) (nxtS L n)) := by
  unfold hasN
  rw [List.range_succ, List.all_append]
  simp
set_option maxRecDepth 20000 in
set_option maxHeartbeats 8000000 in
theorem rcheck_any (f : Nat) (o : Int) (sa : Option Addr) (sn sc : Nat) (ds : List (DirT f)) (a : Option Addr) (n c : Nat) (zs : List Shz) (w : World) (h : DirsR f w sa sn sc ds) (hz : ShR w a n c zs) (hs : ∀ d ∈ ds, smallD f d) (hN : (flatT f ds).length < 1000) (hsn : sn ≤ 6) :
    Calls Tryz.prog 20 #[.agg #[.int .i64 o, .slice sa sn sc], .slice a n c] w fun e w' => e = .returned (.int .i64 (checkS f o ds (shps zs))) ∧ Below w.heap.size w w' := by
  have hb1 := (Below.refl w.heap.size w).alloc (Nat.le_refl _) (.cells #[.int .i64 o, .slice sa sn sc] 24)
  have bk := Blk.new w 24 #[.int .i64 o, .slice sa sn sc]
  obtain ⟨W1, hW1⟩ : ∃ W1, w.alloc (.cells #[.int .i64 o, .slice sa sn sc] 24) = W1 := ⟨_, rfl⟩
  rw [hW1] at hb1 bk
  have hSh := rshapes_any a n c zs W1 (hz.mono hb1)
  have hzl := hz.len
  have hzle := hz.row.le
  have hzmx := hz.row.max
  obtain ⟨R, hR⟩ : ∃ R, checkS f o ds (shps zs) = R := ⟨_, rfl⟩
  rw [hR]
  unfold checkS at hR
  have hdn : ds.length = sn := by
    obtain ⟨dvs, hdl, hsl, _⟩ := h
    rw [← hdl]; exact hsl.flen dvC_len (by decide)
  obtain ⟨shb, hshb⟩ : ∃ b, shapesB (shps zs) = b := ⟨_, rfl⟩
  rw [hshb] at hSh hR
  rw [hdn] at hR
  have h' := Lib.hid h
  have hz' := Lib.hid hz
  have hs' := Lib.hid hs
  have hN' := Lib.hid hN
  have bk' := Lib.hid bk
  have hb1' := Lib.hid hb1
  have hW1' := Lib.hid hW1
  have hSh' := Lib.hid hSh
  have hzl' := Lib.hid hzl
  have hR' := Lib.hid hR
  have hdn' := Lib.hid hdn
  have hshb' := Lib.hid hshb
  clear h hz hs hN bk hb1 hW1 hSh hzl hR hdn hshb
  go_enter Tryz.func20, Tryz.ntmps20
  go_wp2_with fail
  refine ((by rw [hW1'.out]; exact hSh'.out) : Calls Tryz.prog 19 _ _ _).mono ?_
  rintro e w2 ⟨rfl, hb2⟩
  have bk2 := bk'.out.late hb2
  have hbw2 := hb1'.out.trans (hb2.mono hb1'.out.size)
  cases shb with
  | false =>
    obtain rfl : R = 1 := by rw [← hR'.out]; rfl
    have hb2' := Lib.hid hb2
    have bk2' := Lib.hid bk2
    have hbw2' := Lib.hid hbw2
    clear hb2 bk2 hbw2
    go_wp2_with fail
    go_ret
    exact ⟨rfl, hbw2'.out⟩
  | true =>
  have c0 : w2.cell? ⟨w.heap.size, 0, none⟩ = some (.int .i64 o) := bk2.cell rfl
  have c1 : w2.cell? ⟨w.heap.size, 1, none⟩ = some (.slice sa sn sc) := bk2.cell rfl
  rw [Bool.true_and] at hR'
  by_cases ho1 : o < 1
  · have h1 : decide (o < 1) = true := by simp; omega
    obtain rfl : R = 1 := by rw [← hR'.out, decide_eq_false (show ¬ o = 1 by omega), decide_eq_false (show ¬ o = 2 by omega)]; rfl
    clear ho1
    have hb2' := Lib.hid hb2
    have bk2' := Lib.hid bk2
    have hbw2' := Lib.hid hbw2
    clear hb2 bk2 hbw2
    go_wp2_with fail
    go_ret
    exact ⟨rfl, hbw2'.out⟩
  have h1 : decide (o < 1) = false := by simp; omega
  by_cases ho2 : 2 < o
  · have h2 : decide (2 < o) = true := by simp; omega
    obtain rfl : R = 1 := by rw [← hR'.out, decide_eq_false (show ¬ o = 1 by omega), decide_eq_false (show ¬ o = 2 by omega)]; rfl
    clear ho1 ho2
    have hb2' := Lib.hid hb2
    have bk2' := Lib.hid bk2
    have hbw2' := Lib.hid hbw2
    clear hb2 bk2 hbw2
    go_wp2_with fail
    go_ret
    exact ⟨rfl, hbw2'.out⟩
  have h2 : decide (2 < o) = false := by simp; omega
  have hoB : (decide (o = 1) || decide (o = 2)) = true := by
    have ho : o = 1 ∨ o = 2 := by omega
    simpa using ho
  rw [hoB, Bool.true_and] at hR'
  clear hoB ho1 ho2
  by_cases hs0 : sn = 0
  · have h3 : ((sn : Int) == 0) = true := by simp [hs0]
    have h4 : (sn == 0) = true := by simp [hs0]
    obtain rfl : R = 1 := by rw [← hR'.out, decide_eq_true hs0]; rfl
    clear hs0
    have hb2' := Lib.hid hb2
    have bk2' := Lib.hid bk2
    have hbw2' := Lib.hid hbw2
    clear hb2 bk2 hbw2
    go_wp2_with fail
    go_ret
    exact ⟨rfl, hbw2'.out⟩
  · have h3 : ((sn : Int) == 0) = false := by simp; omega
    have h4 : (sn == 0) = false := by simp; omega
    rw [decide_eq_false hs0, if_pos (by rfl)] at hR'
    have hb2' := Lib.hid hb2
    have bk2' := Lib.hid bk2
    have hbw2' := Lib.hid hbw2
    clear hb2 bk2 hbw2
    go_wp2_with fail
    clear h1 h2 h3 c0 c1
    go_loopw [5, 6, 7] (fun av ev iv wr => ∃ (i : Nat) (e0 : Int), i ≤ sn ∧ av = .int .i64 (nxtS (shps zs) i) ∧ ev = .int .i64 e0 ∧ iv = .int .i64 i ∧ Hid (e0 = if hasN (shps zs) f ds i = true then 0 else 6) ∧ Hid (chainB (shps zs) i = true) ∧ Hid (Below w2.heap.size w2 wr)) (fun _ _ iv _ => sn - (intOf iv).toNat)
    case atStart => exact ⟨0, 0, by omega, rfl, rfl, rfl, Lib.hid rfl, Lib.hid rfl, Lib.hid (Below.refl _ _)⟩
    case round =>
      obtain ⟨i, e0, hi, rfl, rfl, rfl, hhs, hch, hbb⟩ := hrel
      have bkr := bk2'.out.late hbb.out
      have c1 : wr.cell? ⟨w.heap.size, 1, none⟩ = some (.slice sa sn sc) := bkr.cell rfl
      have hnx := nxt_lt hshb'.out i
      have hzl2 : (shps zs).length = n := by unfold shps; rw [List.length_map]; exact hzl'.out
      rw [hzl2] at hnx
      have hst := chainB_step (L := shps zs) (n := i)
      rw [hch.out, Bool.true_and] at hst
      have hno := fun (hlt : i < sn) hh => chainB_no (L := shps zs) (n := sn) (k := i) hlt hh
      have hnS : nxtS (shps zs) (i + 1) = ((shps zs).getD (nxtS (shps zs) i).toNat shp0).2.2.2 := rfl
      have hhN := hasN_step (shps zs) f ds i
      have hbwr := hbw2'.out.trans (hbb.out.mono hbw2'.out.size)
      obtain ⟨at_, hat⟩ : ∃ x, nxtS (shps zs) i = x := ⟨_, rfl⟩
      rw [hat] at hnx hst hno hnS hhN ⊢
      by_cases hlt : i < sn
      · have hil : (i : Int) < (sn : Int) := by omega
        have hi0 : (0 : Int) ≤ (i : Int) := by omega
        have hw1 : IntKind.i64.wrap ((i : Int) + 1) = i + 1 := by rw [IntKind.wrap_i64]; omega
        by_cases ha : at_ < 0
        · have hcn := hno hlt ha
          obtain rfl : R = 1 := by rw [← hR'.out, hcn]; rfl
          have ha1 : decide (at_ < 0) = true := by simp; omega
          have bkr' := Lib.hid bkr
          have hst' := Lib.hid hst
          have hno' := Lib.hid hno
          have hnS' := Lib.hid hnS
          have hat' := Lib.hid hat
          have hbwr' := Lib.hid hbwr
          have hhN' := Lib.hid hhN
          clear bkr hst hno hnS hat hbwr hhN
          go_wp2_with fail
          go_ret
          exact ⟨rfl, hbwr'.out⟩
        · have ha1 : decide (at_ < 0) = false := by simp; omega
          obtain ⟨ai, rfl⟩ : ∃ ai : Nat, at_ = ai := ⟨at_.toNat, by omega⟩
          have hin : (ai : Int) < n := by omega
          have hin2 : ai < n := by omega
          have hai0 : (0 : Int) ≤ (ai : Int) := by omega
          obtain ⟨dvs, hdl, hsl, hsub⟩ := h'.out
          have hid : i < ds.length := by rw [hdn'.out]; exact hlt
          have hids : i < dvs.length := by rw [hdl]; exact hid
          obtain ⟨b, o2, rfl, hblt, fe⟩ := (hsl.mono hbwr).elem dvC_len (by decide) dzz hlt
          rw [getD_el hids] at fe
          have hq2 := hsub i hids hid
          obtain ⟨ua, un, uc, ra, rn, rc, ya, yn, yc, hv⟩ := hq2.v
          have g0 := fe 0 _ rfl
          have g1 := fe 1 _ rfl
          have g2 := fe 2 _ rfl
          clear fe hsl hsub
          rw [hv] at hq2 g0 g1 g2
          simp only [Nat.add_zero] at g0 g1 g2
          have hgi : ds.getD i (dirZ f) = ds[i] := by rw [getD_el hid]
          rw [hgi] at hhN
          have hsm := hs'.out _ (List.getElem_mem hid)
          have HC := rhas_any zs a n c f w wr ds[i] (.slice ua un uc, .slice ra rn rc, .slice ya yn yc) ai hz'.out hbwr hq2 hsm hshb'.out hin2
          simp only at HC
          obtain ⟨hx, hhx⟩ : ∃ hx, hasS (shps zs) f ds[i] ai = hx := ⟨_, rfl⟩
          rw [hhx] at HC hhN
          obtain ⟨b3, o3, ha3, hblt3, fe⟩ := (hz'.out.mono hbwr).row.elem shc_len (by decide) shz0 hin2
          subst ha3
          rw [Int.toNat_natCast, shps_get (by rw [hzl'.out]; exact hin2)] at hnS
          have l3 := fe 3 _ rfl
          rw [← hnS] at l3
          clear fe
          have hch2 : chainB (shps zs) (i + 1) = true := hst.trans (decide_eq_true (by omega))
          have bkr' := Lib.hid bkr
          have hst' := Lib.hid hst
          have hno' := Lib.hid hno
          have hnS' := Lib.hid hnS
          have hat' := Lib.hid hat
          have hbwr' := Lib.hid hbwr
          have hhN' := Lib.hid hhN
          have hgi' := Lib.hid hgi
          have hsm' := Lib.hid hsm
          have HC' := Lib.hid HC
          have hhx' := Lib.hid hhx
          have hq2' := Lib.hid hq2
          have hv' := Lib.hid hv
          have hch2' := Lib.hid hch2
          have hdl' := Lib.hid hdl
          clear bkr hst hno hnS hat hbwr hhN hgi hsm HC hhx hq2 hv hch2 hdl
          go_wp2_with fail
          refine HC'.out.mono ?_
          rintro e w3 ⟨rfl, hb3⟩
          have l3 := late hb3 hblt3 l3
          have hbb3 := hbb.out.trans (hb3.mono hbb.out.size)
          clear c1 g0 g1 g2
          cases hx
          · have hnx1 : Hid ((6 : Int) = if hasN (shps zs) f ds (i + 1) = true then 0 else 6) := Lib.hid (by rw [hhN'.out, Bool.and_false]; rfl)
            have hb3' := Lib.hid hb3
            have hbb3' := Lib.hid hbb3
            clear hb3 hbb3
            go_wp2_with fail
            go_roundw
            case rel => exact ⟨i + 1, 6, by omega, rfl, rfl, by go_num, hnx1, hch2', hbb3'⟩
            case measure => simp [intOf]; omega
          · have hnx1 : Hid (e0 = if hasN (shps zs) f ds (i + 1) = true then 0 else 6) := Lib.hid (by rw [hhN'.out, Bool.and_true]; exact hhs.out)
            have hb3' := Lib.hid hb3
            have hbb3' := Lib.hid hbb3
            clear hb3 hbb3
            go_wp2_with fail
            go_roundw
            case rel => exact ⟨i + 1, e0, by omega, rfl, rfl, by go_num, hnx1, hch2', hbb3'⟩
            case measure => simp [intOf]; omega
      · obtain rfl : i = sn := by omega
        obtain ⟨hb, hA⟩ : ∃ hb, hasN (shps zs) f ds i = hb := ⟨_, rfl⟩
        have hA2 : hasAll (shps zs) f ds = hb := by unfold hasAll; rw [hdn'.out]; exact hA
        rw [hch.out, hA2, if_pos (by rfl)] at hR'
        rw [hA] at hhs
        clear hA hA2
        have c0 : wr.cell? ⟨w.heap.size, 0, none⟩ = some (.int .i64 o) := bkr.cell rfl
        clear hnx hst hno hnS hhN
        have bkr' := Lib.hid bkr
        have hbwr' := Lib.hid hbwr
        have hat' := Lib.hid hat
        clear bkr hbwr hat
        cases hb
        · obtain rfl : R = 6 := hR'.out.symm
          obtain rfl : e0 = 6 := hhs.out
          go_wp2_with fail
          go_ret
          exact ⟨rfl, hbwr'.out⟩
        · obtain rfl : e0 = 0 := hhs.out
          have hL := rlng_any f o sa i sc ds wr (h'.out.mono hbwr'.out) hs'.out hN'.out
          rw [if_pos (by rfl)] at hR'
          obtain ⟨lg, hlg⟩ : ∃ x, longT f ds = x := ⟨_, rfl⟩
          rw [hlg] at hL hR'
          have hL' := Lib.hid hL
          have hlg' := Lib.hid hlg
          clear hL hlg
          go_wp2_with fail
          refine hL'.out.mono ?_
          rintro e w5 ⟨rfl, hb5⟩
          have hbw5 := hbwr'.out.trans (hb5.mono hbwr'.out.size)
          by_cases hl0 : lg = 0
          · have hz1 : (lg == 0) = true := by simp [hl0]
            obtain rfl : R = 7 := by rw [← hR'.out, if_pos hl0]
            have hbw5' := Lib.hid hbw5
            have hb5' := Lib.hid hb5
            clear hbw5 hb5
            go_wp2_with fail
            go_ret
            exact ⟨rfl, hbw5'.out⟩
          · have hz1 : (lg == 0) = false := by simp [hl0]
            obtain rfl : R = 0 := by rw [← hR'.out, if_neg hl0]
            have hbw5' := Lib.hid hbw5
            have hb5' := Lib.hid hb5
            clear hbw5 hb5
            go_wp2_with fail
            go_ret
            exact ⟨rfl, hbw5'.out⟩
end Go.Proofs.YtilennmeiaehnaaGreat

namespace Go.Proofs.YtilennmeiaehnaaGreat
open Go.RowKit Tt
set_option linter.unusedVariables false
set_option linter.unusedSimpArgs false

theorem sign3 (w : World) : Calls Tryz.prog 154 #[.int .i64 3] w fun e w' => e = .returned (.bool false) ∧ w = w' := by
  go_enter Tryz.func154, Tryz.ntmps154
  go_wp2
  go_ret
  exact ⟨rfl, rfl⟩
theorem part3 (w : World) : Calls Tryz.prog 156 #[.int .i64 3] w fun e w' => e = .returned (.int .i64 2) ∧ w = w' := by
  go_enter Tryz.func156, Tryz.ntmps156
  go_wp2_with (go_at_call 119; refine (rsize_any _ _).mono ?_; rintro e w' ⟨rfl, rfl⟩)
  go_ret
  exact ⟨rfl, rfl⟩

theorem put3 (n : Int) (h : putOk n 2 2 = true) (w : World) : Calls Tryz.prog 91 #[.int .i64 n, .int .i64 2, .int .i64 2] w fun e w' => ∃ a c, e = .returned (.tuple #[.slice a 2 c, .bool true]) ∧ Sl w' a 2 c 1 (ints .u8 (putS n 2 2)) ∧ Below w.heap.size w w' := by
  refine (r1put_any _ _ _ _).mono ?_
  rintro e w' ⟨a, m, c, rfl, ho, hb⟩
  have hs := (Sl.of_own ho).1
  obtain rfl : m = 2 := by have := hs.ilen; rw [putS_length h] at this; exact this.symm
  exact ⟨a, c, by rw [h], hs, hb⟩

set_option maxRecDepth 20000 in
set_option maxHeartbeats 4000000 in
theorem of3_ (n : Int) (hn : putOk n 2 2 = true) (hmt : mayS 3 1 (putS n 2 2) = true) (a : Option Addr) (c : Nat) (w : World) (hs : Sl w a 1 c 1 (ints .i64 [n])) :
    Calls Tryz.prog 120 #[.int .i64 3, .slice a 1 c, .int .i64 1] w fun e w' => ∃ a' c', e = .returned (.tuple #[.agg #[.int .i64 3, .int .i64 1, .slice a' 2 c'], .bool true]) ∧ w'.ownsRow w.heap.size 5 1 (.slice a' 2 c') 2 (ints .u8 (putS n 2 2)) ∧ Below w.heap.size w w' := by
  obtain ⟨i0, hi, hz0, hz1, hz2⟩ := info_parts info8
  obtain ⟨b, o, rfl, hbx, cx⟩ := hs.at (i := 0) (by omega)
  have c1 : w.cell? ⟨b, o, none⟩ = some (.int .i64 n) := cx 0 _ rfl
  clear cx
  have Hs := Lib.hid hs
  clear hs
  go_enter Tryz.func120, Tryz.ntmps120
  go_wp2
  obtain ⟨W0, hW0⟩ : ∃ W0, W0 = (w.alloc (.cells #[.int .i64 0, .int .i64 0, .slice none 0 0] 76)).alloc (.cells #[.int .i64 3, .int .i64 1, .slice none 0 0] 76) := ⟨_, rfl⟩
  obtain ⟨g, hg⟩ : ∃ g, g = w.heap.size + 1 := ⟨_, rfl⟩
  have B0 : Blk W0 w.heap.size 76 #[.int .i64 0, .int .i64 0, .slice none 0 0] := by rw [hW0]; exact (Blk.new _ _ _).alloc _
  have G0 : Blk W0 g 76 #[.int .i64 3, .int .i64 1, .slice none 0 0] := by rw [hW0, hg]; have := Blk.new (w.alloc (.cells #[.int .i64 0, .int .i64 0, .slice none 0 0] 76)) 76 #[.int .i64 3, .int .i64 1, .slice none 0 0]; simpa using this
  have BW : Below w.heap.size w W0 := by rw [hW0]; exact ((Below.refl _ _).alloc (Nat.le_refl _) _).alloc (by simp) _
  have B0 := Lib.hid B0
  have G0 := Lib.hid G0
  have BW := Lib.hid BW
  have Hg := Lib.hid hg
  have c2 : W0.cell? ⟨b, o, none⟩ = some (.int .i64 n) := late BW.out hbx c1
  rw [← hW0, ← hg]
  clear hW0 hg c1
  refine wp_loop_rounds 2 ?_
  rw [rounds_succ]
  go_wp2_with (first
    | (go_at_call 154; refine (sign3 _).mono ?_; rintro e w' ⟨rfl, rfl⟩)
    | (go_at_call 156; refine (part3 _).mono ?_; rintro e w' ⟨rfl, rfl⟩)
    | (go_at_call 91; refine (put3 n hn _).mono ?_; rintro e w1 ⟨a1, c1, rfl, hs1, hb1⟩; have Hs1 := Lib.hid hs1; have G1 := Lib.hid (G0.out.late hb1); have Hb1 := Lib.hid hb1; clear hs1 hb1; have q2 : w1.cell? ⟨g, 2, none⟩ = some (.slice none 0 0) := G1.out.cell rfl)
    | (at_builtin; refine wpList_app rfl _ _ 30 rfl W0.heap.size 5 i0 _ 1 1 Tryz.underlying30 hi hz0 hz1 hz2 rfl (by decide) _ 0 [] rfl (own_nil _ _ _ _) a1 2 c1 _ rfl Hs1.out ints_one (by omega) (by decide) Hb1.out.size ?_; intro a5 c5 w2 ob hb2 hg2; clear hg2; have Ob := Lib.hid ob; have Hb2 := Lib.hid (Hb1.out.trans hb2); clear ob hb2; have G2 := Lib.hid (G0.out.late Hb2.out); have z0 : w2.cell? ⟨g, 0, none⟩ = some (.int .i64 3) := G2.out.cell rfl; have z1 : w2.cell? ⟨g, 1, none⟩ = some (.int .i64 1) := G2.out.cell rfl; have z2 : w2.cell? ⟨g, 2, none⟩ = some (.slice none 0 0) := G2.out.cell rfl; have fz := G2.out.frozen 2))
  obtain ⟨w3, hw3⟩ : ∃ w3, w3 = w2.setCell ⟨g, 2, none⟩ (.slice a5 2 c5) := ⟨_, rfl⟩
  rw [← hw3]
  have B2 : Blk w2 w.heap.size 76 #[.int .i64 0, .int .i64 0, .slice none 0 0] := B0.out.late Hb2.out
  have G3 : Blk w3 g 76 #[.int .i64 3, .int .i64 1, .slice a5 2 c5] := by rw [hw3]; exact G2.out.set 2 _
  have B3 : Blk w3 w.heap.size 76 #[.int .i64 0, .int .i64 0, .slice none 0 0] := by rw [hw3]; exact B2.set_other (by have := Hg.out; omega) _ _
  have O3 : w3.ownsRow W0.heap.size 5 1 (.slice a5 2 c5) 2 (ints .u8 (putS n 2 2)) := by rw [hw3]; exact own_set_other Ob.out G0.out.lt _ _
  have BB : Below w.heap.size w w3 := by rw [hw3]; exact (BW.out.trans (Hb2.out.mono BW.out.size)).setCell (by show w.heap.size ≤ g; have := Hg.out; omega) _
  have S3 := Lib.hid (Sl.of_own O3).1
  have HO3 := Lib.hid O3
  have hlt0 : w.heap.size < W0.heap.size := by have h1 := G0.out.lt; have h2 := Hg.out; omega
  have Hlt0 := Lib.hid hlt0
  have G3 := Lib.hid G3
  have B3 := Lib.hid B3
  have BB := Lib.hid BB
  clear hw3 z0 z1 z2 fz B2 O3 q2 hlt0
  have z0 : w3.cell? ⟨g, 0, none⟩ = some (.int .i64 3) := G3.out.cell rfl
  have z1 : w3.cell? ⟨g, 1, none⟩ = some (.int .i64 1) := G3.out.cell rfl
  have z2 : w3.cell? ⟨g, 2, none⟩ = some (.slice a5 2 c5) := G3.out.cell rfl
  have Hmt := Lib.hid hmt
  rw [rounds_succ]
  go_wp2_with (go_at_call 87; refine (rmay_any 3 1 a5 2 c5 (putS n 2 2) _ S3.out).mono ?_; rw [Hmt.out]; rintro e w4 ⟨rfl, hb4⟩; have G4 := Lib.hid (G3.out.late hb4); have B4 := Lib.hid (B3.out.late hb4); have O4 := Lib.hid (own_later HO3.out hb4); have Hb4 := Lib.hid hb4; clear hb4; have y0 : w4.cell? ⟨g, 0, none⟩ = some (.int .i64 3) := G4.out.cell rfl; have y1 : w4.cell? ⟨g, 1, none⟩ = some (.int .i64 1) := G4.out.cell rfl; have y2 : w4.cell? ⟨g, 2, none⟩ = some (.slice a5 2 c5) := G4.out.cell rfl; have x0 : w4.cell? ⟨w.heap.size, 0, none⟩ = some (.int .i64 0) := B4.out.cell rfl; have x1 : w4.cell? ⟨w.heap.size, 1, none⟩ = some (.int .i64 0) := B4.out.cell rfl; have x2 : w4.cell? ⟨w.heap.size, 2, none⟩ = some (.slice none 0 0) := B4.out.cell rfl; have f0 := B4.out.frozen 0; have f1 := B4.out.frozen 1; have f2 := B4.out.frozen 2)
  have B5 := ((B4.out.set 0 (.int .i64 3)).set 1 (.int .i64 1)).set 2 (.slice a5 2 c5)
  refine bodyPost_ret (results_blk_tmp rfl _ _ w.heap.size 76 #[.int .i64 3, .int .i64 1, .slice a5 2 c5] _ rfl B5 Tryz.underlying76 rfl (by kernel_rfl)) rfl ?_
  have O5 := own_set_other (own_set_other (own_set_other O4.out Hlt0.out 0 (.int .i64 3)) Hlt0.out 1 (.int .i64 1)) Hlt0.out 2 (.slice a5 2 c5)
  exact ⟨_, _, rfl, own_mono O5 (Nat.le_of_lt Hlt0.out), (((BB.out.trans (Hb4.out.mono BB.out.size)).setCell (Nat.le_refl _) _).setCell (Nat.le_refl _) _).setCell (Nat.le_refl _) _⟩

set_option maxHeartbeats 4000000 in
theorem short3_any (n : Int) (hn : putOk n 2 2 = true) (hmt : mayS 3 1 (putS n 2 2) = true) (a : Option Addr) (c : Nat) (w : World) (hs : Sl w a 1 c 1 (ints .i64 [n])) :
    Calls Tryz.prog 69 #[.int .i64 3, .slice a 1 c] w fun e w' => ∃ a' c', e = .returned (.tuple #[.agg #[.int .i64 3, .int .i64 1, .slice a' 2 c'], .bool true]) ∧ w'.ownsRow w.heap.size 5 1 (.slice a' 2 c') 2 (ints .u8 (putS n 2 2)) ∧ Below w.heap.size w w' := by
  have Hs := Lib.hid hs
  clear hs
  go_enter Tryz.func69, Tryz.ntmps69
  obtain ⟨W0, hW0⟩ : ∃ W0, W0 = w.alloc (.cells #[.int .i64 0, .int .i64 0, .slice none 0 0] 76) := ⟨_, rfl⟩
  have B0 : Blk W0 w.heap.size 76 #[.int .i64 0, .int .i64 0, .slice none 0 0] := by rw [hW0]; exact Blk.new _ _ _
  have BW : Below w.heap.size w W0 := by rw [hW0]; exact (Below.refl _ _).alloc (Nat.le_refl _) _
  have B0 := Lib.hid B0
  have BW := Lib.hid BW
  have HS := Lib.hid (Hs.out.mono BW.out)
  have hlt0 : w.heap.size < W0.heap.size := B0.out.lt
  have Hlt0 := Lib.hid hlt0
  clear hlt0
  go_upto_region 1 with fail
  rw [← hW0]
  clear hW0
  go_wp2_with (first
    | (go_at_call 119; refine (rsize_any _ _).mono ?_; rintro e w' ⟨rfl, rfl⟩)
    | (go_at_call 120; refine (of3_ n hn hmt a c _ HS.out).mono ?_; rintro e w4 ⟨a5, c5, rfl, hs5, hb4⟩; have S4 := Lib.hid hs5; have B4 := Lib.hid (B0.out.late hb4); have Hb4 := Lib.hid hb4; clear hb4 hs5; have x0 : w4.cell? ⟨w.heap.size, 0, none⟩ = some (.int .i64 0) := B4.out.cell rfl; have x1 : w4.cell? ⟨w.heap.size, 1, none⟩ = some (.int .i64 0) := B4.out.cell rfl; have x2 : w4.cell? ⟨w.heap.size, 2, none⟩ = some (.slice none 0 0) := B4.out.cell rfl; have f0 := B4.out.frozen 0; have f1 := B4.out.frozen 1; have f2 := B4.out.frozen 2))
  have B5 := B4.out.set3 (.int .i64 3) (.int .i64 1) (.slice a5 2 c5)
  refine bodyPost_ret (results_blk_tmp rfl _ _ w.heap.size 76 #[.int .i64 3, .int .i64 1, .slice a5 2 c5] _ rfl B5 Tryz.underlying76 rfl (by kernel_rfl)) rfl ?_
  exact ⟨_, _, rfl, own_mono (own_set3 S4.out Hlt0.out _ _ _) (Nat.le_of_lt Hlt0.out), below_set3 (BW.out.trans (Hb4.out.mono BW.out.size)) (Nat.le_refl _) _ _ _⟩
end Go.Proofs.YtilennmeiaehnaaGreat

namespace Go.Proofs.YtilennmeiaehnaaGreat
open Go.RowKit Tt
set_option linter.unusedVariables false
set_option linter.unusedSimpArgs false

set_option maxHeartbeats 2000000 in
theorem lshort_any (tag n : Int) (hn : putOk n 2 2 = true) (hmt : mayS 3 1 (putS n 2 2) = true) (w : World) :
    Calls Tryz.prog 37 #[.int .i64 tag, .int .i64 n] w fun e w' => ∃ a c, e = .returned (.agg #[.int .i64 tag, .int .i64 3, .int .i64 1, .slice a 2 c]) ∧ w'.ownsRow w.heap.size 5 1 (.slice a 2 c) 2 (ints .u8 (putS n 2 2)) ∧ Below w.heap.size w w' := by
  obtain ⟨W1, hW1, b0, b1, hb1, s1⟩ := two_boxes w 78 #[.int .i64 0, .int .i64 0, .int .i64 0, .slice none 0 0] 3 #[.int .i64 n]
  have hsl : Sl W1 (some ⟨w.heap.size + 1, 0, none⟩) 1 1 1 (ints .i64 [n]) := by
    have h := Sl.new (w.alloc (.cells #[.int .i64 0, .int .i64 0, .int .i64 0, .slice none 0 0] 78)) 3 1 1 #[.int .i64 n] (0, 0) (by omega) rfl
    rw [show (w.alloc (.cells #[.int .i64 0, .int .i64 0, .int .i64 0, .slice none 0 0] 78)).heap.size = w.heap.size + 1 by simp] at h
    rw [← hW1]
    exact h
  have hS := short3_any n hn hmt _ 1 W1 hsl
  have hW1' := Lib.hid hW1
  have b0' := Lib.hid b0
  have b1' := Lib.hid b1
  have hb1' := Lib.hid hb1
  have s1' := Lib.hid s1
  have hsl' := Lib.hid hsl
  have hS' := Lib.hid hS
  clear hW1 b0 b1 hb1 s1 hsl hS
  go_enter Tryz.func37, Tryz.ntmps37
  go_wp2_with fail
  rw [hW1'.out]
  refine hS'.out.mono ?_
  rintro e w2 ⟨a, c, rfl, ho, hb⟩
  have b02 := b0'.out.late hb
  have hb2 := hb1'.out.trans (hb.mono hb1'.out.size)
  have hal := (Below.refl w2.heap.size w2).alloc (Nat.le_refl _) (.cells #[.int .i64 3, .int .i64 1, .slice a 2 c] 76)
  have b03 := b02.late hal
  have ho3 := own_later ho hal
  have hb3 := hb2.trans (hal.mono hb2.size)
  have p0 : (w2.alloc (.cells #[.int .i64 3, .int .i64 1, .slice a 2 c] 76)).cell? ⟨w.heap.size, 0, none⟩ = some (.int .i64 0) := b03.cell rfl
  have p1 : (w2.alloc (.cells #[.int .i64 3, .int .i64 1, .slice a 2 c] 76)).cell? ⟨w.heap.size, 1, none⟩ = some (.int .i64 0) := b03.cell rfl
  have p2 : (w2.alloc (.cells #[.int .i64 3, .int .i64 1, .slice a 2 c] 76)).cell? ⟨w.heap.size, 2, none⟩ = some (.int .i64 0) := b03.cell rfl
  have p3 : (w2.alloc (.cells #[.int .i64 3, .int .i64 1, .slice a 2 c] 76)).cell? ⟨w.heap.size, 3, none⟩ = some (.slice none 0 0) := b03.cell rfl
  have y0 := b03.frozen 0
  have y1 := b03.frozen 1
  have y2 := b03.frozen 2
  have y3 := b03.frozen 3
  have bN := (((b03.set 0 (.int .i64 tag)).set 1 (.int .i64 3)).set 2 (.int .i64 1)).set 3 (.slice a 2 c)
  have hbN := (((hb3.setCell (p := ⟨w.heap.size, 0, none⟩) (Nat.le_refl _) (.int .i64 tag)).setCell (p := ⟨w.heap.size, 1, none⟩) (Nat.le_refl _) (.int .i64 3)).setCell (p := ⟨w.heap.size, 2, none⟩) (Nat.le_refl _) (.int .i64 1)).setCell (p := ⟨w.heap.size, 3, none⟩) (Nat.le_refl _) (.slice a 2 c)
  have hlt1 : w.heap.size < W1.heap.size := by rw [s1'.out]; omega
  have hoN := own_set_other (own_set_other (own_set_other (own_set_other ho3 hlt1 0 (.int .i64 tag)) hlt1 1 (.int .i64 3)) hlt1 2 (.int .i64 1)) hlt1 3 (.slice a 2 c)
  have hoM := own_mono hoN (Nat.le_of_lt hlt1)
  clear hoN
  have hb' := Lib.hid hb
  have b02' := Lib.hid b02
  have hb2' := Lib.hid hb2
  have hal' := Lib.hid hal
  have b03' := Lib.hid b03
  have ho' := Lib.hid ho
  have ho3' := Lib.hid ho3
  have hb3' := Lib.hid hb3
  have bN' := Lib.hid bN
  have hbN' := Lib.hid hbN
  have hoM' := Lib.hid hoM
  clear hb b02 hb2 hal b03 ho ho3 hb3 bN hbN hoM
  go_wp2_with fail
  refine bodyPost_ret (results_cell_row rfl _ _ w.heap.size 78 #[.int .i64 tag, .int .i64 3, .int .i64 1, .slice a 2 c] (0, 0) _ rfl bN'.out Tryz.underlying78 rfl (by kernel_rfl)) rfl ?_
  exact ⟨a, c, rfl, hoM'.out, hbN'.out⟩

def shp1 : List Shp := [([], 0, 0, -1)]
def shz1 : List Shz := [((none, 0, 0), ([], 0, 0, -1))]
theorem shz1_shp : shps shz1 = shp1 := rfl
theorem shz1_r (W : World) : ShR (W.alloc (.cells #[.slice none 0 0, .int .i64 0, .int .i64 0, .int .i64 (-1)] 50)) (some ⟨W.heap.size, 0, none⟩) 1 1 shz1 :=
  ⟨Sl.new W 50 4 1 #[.slice none 0 0, .int .i64 0, .int .i64 0, .int .i64 (-1)] (0, 0) (by omega) rfl, fun z hz => by
    simp only [shz1, List.mem_cons, List.not_mem_nil, or_false] at hz
    subst hz
    exact Sl.nil _ _⟩
set_option maxHeartbeats 2000000 in
/-- an error is answered -/
theorem answered_any (f : Nat) (sa : Option Addr) (sn sc : Nat) (ds : List (DirT f)) (e0 : Int) (w : World) (h : DirsR f w sa sn sc ds) (hs : ∀ d ∈ ds, smallD f d) (hby : ∀ d ∈ ds, bytD f d) (hN : (flatT f ds).length < 1000) (hsn : sn ≤ 6) (hR : checkS f 2 ds shp1 = e0) (h0 : e0 ≠ 0) :
    Calls Tryz.prog 38 #[.int .i64 e0, .slice sa sn sc] w fun e w' => e = .returned (.bool true) ∧ Below w.heap.size w w' := by
  have hb1 := (Below.refl w.heap.size w).alloc (Nat.le_refl _) (.cells #[.slice none 0 0, .int .i64 0, .int .i64 0, .int .i64 (-1)] 50)
  have hT := twrite_any f 2 sa sn sc ds _ 1 1 shz1 _ (h.mono hb1) (shz1_r w) hs hby hN hsn (by rw [shz1_shp, hR]; intro e; exact absurd e h0)
  rw [shz1_shp, hR] at hT
  have hws : wrtS f 2 ds shp1 = [] := by unfold wrtS; rw [hR, if_neg h0]
  rw [hws] at hT
  have hee : (e0 == e0) = true := by simp
  have he0 : (e0 == 0) = false := by simp [h0]
  have h' := Lib.hid h
  have hb1' := Lib.hid hb1
  have hT' := Lib.hid hT
  have hws' := Lib.hid hws
  have hs' := Lib.hid hs
  have hby' := Lib.hid hby
  clear h hb1 hT hws hs hby
  go_enter Tryz.func38, Tryz.ntmps38
  go_wp2_with fail
  refine hT'.out.mono ?_
  rintro e w2 ⟨a, m, c, rfl, ho, hb⟩
  obtain rfl : m = 0 := by have := (Sl.of_own ho).1.ilen; simpa using this.symm
  have hb2 := hb1'.out.trans (hb.mono hb1'.out.size)
  have ho' := Lib.hid ho
  have hb' := Lib.hid hb
  have hb2' := Lib.hid hb2
  clear ho hb hb2
  go_wp2_with fail
  go_ret
  exact ⟨rfl, hb2'.out⟩
end Go.Proofs.YtilennmeiaehnaaGreat
