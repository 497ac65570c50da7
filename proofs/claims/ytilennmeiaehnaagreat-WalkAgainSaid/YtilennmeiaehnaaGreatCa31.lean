/- Chapter 21: are two trees the same: the program's Same. | Chapters 21, 22: a tree's bytes are bytes, and not too many. Plain. | Chapter 22: the walker: must, is, number. -/
import Derived.Test.YtilennmeiaehnaaGreatCa30
import Derived.Test.YtilennmeiaehnaaGreatCa27
import Derived.Test.YtilennmeiaehnaaGreatCa09
import Derived.Test.YtilennmeiaehnaaGreatCa11
import Derived.Test.YtilennmeiaehnaaGreatCa01
import Derived.Test.YtilennmeiaehnaaGreatCa10
import Derived.Test.YtilennmeiaehnaaGreatCa15
import Derived.Test.YtilennmeiaehnaaGreatCa23
import Derived.WalkLawsBesides
import Derived.Test.YtilennmeiaehnaaGreatCa08
namespace Go.Proofs.YtilennmeiaehnaaGreat
open Go.RowKit Tt
set_option linter.unusedVariables false
set_option linter.unusedSimpArgs false

set_option maxRecDepth 20000 in
set_option maxHeartbeats 4000000 in
theorem eqdirs_any (f : Nat) (a a' : Option Addr) (n c n' c' : Nat) (ss ss2 : List (DirT f)) (w0 w : World) (hb0 : Below w0.heap.size w0 w) (hx0 : DirsR f w0 a n c ss) (hy0 : DirsR f w0 a' n' c' ss2)
    (hbx : ∀ s ∈ ss, bytD f s) (hby : ∀ s ∈ ss2, bytD f s) (r : Bool) (hr : r = true ↔ ss = ss2) :
    Calls Tryz.prog 55 #[.slice a n c, .slice a' n' c', .func (.func 56) #[] #[]] w fun e w' => e = .returned (.bool r) ∧ Below w.heap.size w w' := by
  obtain ⟨ds, hxl, hx, hsx⟩ := hx0; obtain ⟨ds2, hyl, hy, hsy⟩ := hy0; have hxn : ss.length = n := by rw [← hxl]; exact hx.flen dvC_len (by decide)
  have hyn : ss2.length = n' := by rw [← hyl]; exact hy.flen dvC_len (by decide)
  have hmx := hx.max; have hle := hx.le; have hmy := hy.max; have hley := hy.le; have hx' := Lib.hid hx; have hy' := Lib.hid hy; have hxl' := Lib.hid hxl; have hyl' := Lib.hid hyl; have hbx' := Lib.hid hbx; have hby' := Lib.hid hby
  have hsx' := Lib.hid hsx; have hsy' := Lib.hid hsy; have hxn' := Lib.hid hxn; have hyn' := Lib.hid hyn; have hr' := Lib.hid hr; have hb0' := Lib.hid hb0; clear hx hy hxl hyl hbx hby hsx hsy hxn hyn hr hb0
  by_cases hnn : n = n'
  · subst hnn
    have hne : ((n : Int) != (n : Int)) = false := by simp
    go_enter Tryz.func55, Tryz.ntmps55
    go_wp2_with fail
    go_loopw [17] (fun iv wr => ∃ (i : Nat), i ≤ n ∧ iv = .int .i64 i ∧ Hid (ss.take i = ss2.take i) ∧ Hid (Below w.heap.size w wr)) (fun iv _ => n - (intOf iv).toNat)
    case atStart => exact ⟨0, by omega, rfl, Lib.hid rfl, Lib.hid (Below.refl _ _)⟩
    case round =>
      obtain ⟨i, hin, rfl, htk, hb⟩ := hrel
      by_cases hi : i < n
      · have hil : (i : Int) < (n : Int) := by omega
        have hw1 : IntKind.i64.wrap ((i : Int) + 1) = i + 1 := by rw [IntKind.wrap_i64]; omega
        have hbr := hb0'.out.trans (hb.out.mono hb0'.out.size); have hi1 : i < ss.length := by rw [hxn'.out]; exact hi
        have hi2 : i < ss2.length := by rw [hyn'.out]; exact hi
        have hj1 : i < ds.length := by rw [hxl'.out]; exact hi1
        have hj2 : i < ds2.length := by rw [hyl'.out]; exact hi2
        obtain ⟨b, o, rfl, hblt, fe⟩ := (hx'.out.mono hbr).elem dvC_len (by decide) dzz hi; obtain ⟨b2, o2, rfl, hblt2, ge⟩ := (hy'.out.mono hbr).elem dvC_len (by decide) dzz hi; rw [getD_el hj1] at fe; rw [getD_el hj2] at ge; have hd1 := hsx'.out i hj1 hi1; have hd2 := hsy'.out i hj2 hi2; obtain ⟨ta, tn, tc, sa, sn, sc, ba, bn, bc, hv1⟩ := hd1.v; obtain ⟨ta2, tn2, tc2, sa2, sn2, sc2, ba2, bn2, bc2, hv2⟩ := hd2.v; have f1 := fe 0 _ rfl; have f2 := fe 1 _ rfl; have f3 := fe 2 _ rfl; have g1 := ge 0 _ rfl; have g2 := ge 1 _ rfl; have g3 := ge 2 _ rfl; simp only [Nat.add_zero] at f1 f2 f3 g1 g2 g3; clear fe ge; rw [hv1] at hd1 f1 f2 f3; rw [hv2] at hd2 g1 g2 g3; simp only at f1 f2 f3 g1 g2 g3; have hal := ((Below.refl wr.heap.size wr).alloc (Nat.le_refl _) (.cells #[.slice ta tn tc, .slice sa sn sc, .slice ba bn bc] 42)).alloc (by simp) (.cells #[.slice ta2 tn2 tc2, .slice sa2 sn2 sc2, .slice ba2 bn2 bc2] 42)
        obtain ⟨q, hqe⟩ : ∃ q : Bool, q = true ↔ ss[i] = ss2[i] := by
          by_cases h : ss[i] = ss2[i]
          · exact ⟨true, by simp [h]⟩
          · exact ⟨false, by simp [h]⟩
        have HC := psame_any f w0 _ ss[i] ss2[i] _ _ hd1 hd2 (hbr.trans (hal.mono hbr.size)) (hbx'.out _ (List.getElem_mem hi1)) (hby'.out _ (List.getElem_mem hi2)) q hqe; simp only at HC; have hbr' := Lib.hid hbr; have hd1' := Lib.hid hd1; have hd2' := Lib.hid hd2; have hv1' := Lib.hid hv1; have hv2' := Lib.hid hv2; have hal' := Lib.hid hal; have HC' := Lib.hid HC; have hqe' := Lib.hid hqe; clear hbr hd1 hd2 hv1 hv2 hal HC hqe
        go_wp2_with fail
        refine HC'.out.mono ?_; rintro e w3 ⟨rfl, hb3⟩; have hbw := hb.out.trans ((hal'.out.trans (hb3.mono hal'.out.size)).mono hb.out.size); clear f1 f2 f3 g1 g2 g3; have hbw' := Lib.hid hbw; have hb3' := Lib.hid hb3; clear hbw hb3
        cases q with
        | true =>
          have hnext : Hid (ss.take (i + 1) = ss2.take (i + 1)) := Lib.hid (take_eq_succ hi1 hi2 htk.out (hqe'.out.1 rfl))
          go_wp2_with fail
          go_roundw
          case rel => exact ⟨i + 1, by omega, by go_num, hnext, hbw'⟩
          case measure => simp [intOf]; omega
        | false =>
          obtain rfl : r = false := by
            cases r
            · rfl
            · have e := hr'.out.1 rfl
              have : ss[i] = ss2[i] := by simp only [e]
              have := hqe'.out.2 this
              cases this
          go_wp2_with fail
          go_ret
          exact ⟨rfl, hbw'.out⟩
      · obtain rfl : i = n := by omega
        obtain rfl : r = true := hr'.out.2 (take_eq_all hxn'.out hyn'.out htk.out)
        go_wp2
        go_ret
        exact ⟨rfl, hb.out⟩
  · have hne : ((n : Int) != (n' : Int)) = true := by simp; omega
    obtain rfl : r = false := by
      cases r
      · rfl
      · have e := hr'.out.1 rfl
        exact absurd (hxn'.out.symm.trans (e ▸ hyn'.out)) hnn
    go_enter Tryz.func55, Tryz.ntmps55
    go_wp2
    go_ret
    exact ⟨rfl, Below.refl _ _⟩
set_option maxHeartbeats 1000000 in
theorem ptree_same (f : Nat) (o o2 : Int) (sa : Option Addr) (sn sc : Nat) (ra : Option Addr) (rn rc : Nat) (ds es : List (DirT f)) (w : World) (h : DirsR f w sa sn sc ds) (h2 : DirsR f w ra rn rc es) (hd : ∀ s ∈ ds, bytD f s) (he : ∀ s ∈ es, bytD f s) (b : Bool) (hb : b = true ↔ o = o2 ∧ ds = es) :
    Calls Tryz.prog 21 #[.agg #[.int .i64 o, .slice sa sn sc], .agg #[.int .i64 o2, .slice ra rn rc]] w fun e w' => e = .returned (.bool b) ∧ Below w.heap.size w w' := by
  obtain ⟨WC, hWC, bA, bB, hbC, sC⟩ := two_boxes w 24 #[.int .i64 o, .slice sa sn sc] 24 #[.int .i64 o2, .slice ra rn rc]
  by_cases ho : o = o2
  · subst ho
    have h1 : (o == o) = true := by simp
    have HC := eqdirs_any f sa ra sn sc rn rc ds es w WC hbC h h2 hd he b (hb.trans ⟨fun h => h.2, fun h => ⟨rfl, h⟩⟩); rw [← hWC] at HC; have h' := Lib.hid h; have h2' := Lib.hid h2; have hd' := Lib.hid hd; have he' := Lib.hid he; have hb' := Lib.hid hb; have bA' := Lib.hid bA; have bB' := Lib.hid bB; have hbC' := Lib.hid hbC; have sC' := Lib.hid sC; have hWC' := Lib.hid hWC; have HC' := Lib.hid HC; clear h h2 hd he hb bA bB hbC sC hWC HC
    go_enter Tryz.func21, Tryz.ntmps21
    go_wp2_with fail
    refine HC'.out.mono ?_; rintro e w2 ⟨rfl, hb2⟩; rw [hWC'.out] at hb2; have hbw := hbC'.out.trans (hb2.mono hbC'.out.size); have hbw' := Lib.hid hbw; have hb2' := Lib.hid hb2; clear hbw hb2
    go_wp2_with fail
    go_ret
    exact ⟨rfl, hbw'.out⟩
  · have h1 : (o == o2) = false := by simp [ho]
    obtain rfl : b = false := by
      cases b
      · rfl
      · exact absurd (hb.1 rfl).1 ho
    have h' := Lib.hid h; have h2' := Lib.hid h2; have hd' := Lib.hid hd; have he' := Lib.hid he; have hb' := Lib.hid hb; have bA' := Lib.hid bA; have bB' := Lib.hid bB; have hbC' := Lib.hid hbC; have sC' := Lib.hid sC; have hWC' := Lib.hid hWC; clear h h2 hd he hb bA bB hbC sC hWC
    go_enter Tryz.func21, Tryz.ntmps21
    go_wp2_with fail
    go_ret
    exact ⟨rfl, by rw [hWC'.out]; exact hbC'.out⟩
end Go.Proofs.YtilennmeiaehnaaGreat

namespace Go.Proofs.YtilennmeiaehnaaGreat
open Go.RowKit Tt
set_option linter.unusedVariables false
set_option linter.unusedSimpArgs false

theorem byt_apP : ∀ (ps : List Pt) (b : List Int), Byt b → (∀ p ∈ ps, Byt p.2) → Byt (apP ps b)
  | [], _, h, _ => h
  | p :: ps, b, h, hp => by
    rw [apP_cons]; refine byt_apP ps _ ?_ fun q hq => hp q (List.mem_cons_of_mem _ hq); have hpp := hp p (List.mem_cons_self ..); unfold splice; intro x hx
    rcases List.mem_append.1 hx with hx | hx
    · exact h x (List.mem_of_mem_take hx)
    · rcases List.mem_append.1 hx with hx | hx
      · exact hpp x hx
      · exact h x (List.mem_of_mem_drop hx)
theorem byt_entW (x : Ent) (o : Int) : Byt (entW x o) := by
  unfold entW; exact (((putS_byt _ _ _).append (putS_byt _ _ _)).append (putS_byt _ _ _)).append (putS_byt _ _ _)
theorem byt_dirQ {L : List Shp} {l : List Spt} {o : Int} : ∀ (f : Nat) (d : DirT f) (no i : Int), bytD f d → ∀ p ∈ dirQ L l o f d no i, Byt p.2
  | 0, _, _, _, _, p, hp => by cases hp
  | f + 1, d, no, i, hb, p, hp => by
    rw [dirQ_succ, putP_eq] at hp
    rcases List.mem_append.1 hp with hp | hp
    · obtain ⟨j, hj, hp⟩ := subP_mem hp
      exact byt_dirQ f _ _ _ (hb.2.1 _ (by rw [getD_el hj]; exact List.getElem_mem hj)) p hp
    rcases List.mem_append.1 hp with hp | hp
    · rcases List.mem_append.1 hp with hp | hp
      · obtain ⟨x, hx, hp⟩ := List.mem_flatMap.1 hp
        unfold patV at hp
        split at hp
        · cases hp
        · obtain rfl : p = _ := by simpa using hp
          exact byt_bytesV (hb.1 x hx)
      · unfold blobP at hp
        split at hp
        · obtain rfl : p = _ := by simpa using hp
          exact hb.2.2
        · cases hp
    · unfold headQ at hp
      rcases List.mem_cons.1 hp with rfl | hp
      · exact putS_byt _ _ _
      · obtain ⟨x, _, rfl⟩ := List.mem_map.1 hp
        exact byt_entW x o
theorem byt_treeW {f : Nat} {o : Int} {ds : List (DirT f)} {L : List Shp} (h : checkS f o ds L = 0) (hb : ∀ d ∈ ds, bytD f d) : Byt (treeW f o ds L) := by
  rw [treeW_Q h hb]; refine byt_apP _ _ (fun x hx => by rw [List.eq_of_mem_replicate hx]; decide) fun p hp => ?_
  rcases List.mem_cons.1 hp with rfl | hp
  · show Byt (signB o)
    unfold signB
    split <;> · intro x hx; simp at hx; omega
  rcases List.mem_cons.1 hp with rfl | hp
  · exact putS_byt _ _ _
  rcases List.mem_cons.1 hp with rfl | hp
  · exact putS_byt _ _ _
  obtain ⟨k, hk, hp⟩ := List.mem_flatMap.1 hp; have hk := List.mem_range.1 hk
  rcases List.mem_append.1 hp with hp | hp
  · exact byt_dirQ f _ _ _ (hb _ (by rw [getD_el hk]; exact List.getElem_mem hk)) p hp
  · unfold nextQ at hp
    split at hp
    · obtain rfl : p = _ := by simpa using hp
      exact putS_byt _ _ _
    · cases hp
def sumI (is : List Itm) : Int := (is.map fun x => x.2.2.2 + 1).sum
theorem sumI_app (a b : List Itm) : sumI (a ++ b) = sumI a + sumI b := by unfold sumI; rw [List.map_append, List.sum_append]
theorem endP_sum : ∀ (is : List Itm) (e : Int), 0 ≤ e → (∀ x ∈ is, 0 ≤ x.2.2.2) → endP e is ≤ e + sumI is
  | [], e, _, _ => by simp [endP, sumI]
  | x :: is, e, h, hx => by
    have h1 := evenS_le h; have h2 := hx x (List.mem_cons_self ..); have := endP_sum is (evenS e + x.2.2.2) (by omega) fun y hy => hx y (List.mem_cons_of_mem _ hy); have e1 : sumI (x :: is) = x.2.2.2 + 1 + sumI is := rfl
    show endP (evenS e + x.2.2.2) is ≤ _
    omega
end Go.Proofs.YtilennmeiaehnaaGreat

namespace Tt
open Go Go.RowKit
set_option linter.unusedVariables false

theorem or_u64 (a b : Nat) (ha : a < 18446744073709551616) (hb : b < 18446744073709551616) : bits .or .u64 (a : Int) (b : Int) = ((a ||| b : Nat) : Int) := by
  have hx : a ||| b < 2 ^ 64 := Nat.or_lt_two_pow (by omega) (by omega)
  have h1 : (BitVec.ofInt 64 (a : Int)).toNat = a := by rw [BitVec.ofInt_natCast, BitVec.toNat_ofNat]; exact Nat.mod_eq_of_lt (by omega)
  have h2 : (BitVec.ofInt 64 (b : Int)).toNat = b := by rw [BitVec.ofInt_natCast, BitVec.toNat_ofNat]; exact Nat.mod_eq_of_lt (by omega)
  show IntKind.u64.wrap ((BitVec.ofInt 64 (a : Int) ||| BitVec.ofInt 64 (b : Int)).toNat : Int) = _
  rw [BitVec.toNat_or, h1, h2, IntKind.wrap_u64]
  omega
theorem and_u64 (a b : Nat) (ha : a < 18446744073709551616) (hb : b < 18446744073709551616) : bits .and .u64 (a : Int) (b : Int) = ((a &&& b : Nat) : Int) := by
  have hx : a &&& b < 2 ^ 64 := Nat.and_lt_two_pow _ (by omega); have h1 : (BitVec.ofInt 64 (a : Int)).toNat = a := by rw [BitVec.ofInt_natCast, BitVec.toNat_ofNat]; exact Nat.mod_eq_of_lt (by omega)
  have h2 : (BitVec.ofInt 64 (b : Int)).toNat = b := by rw [BitVec.ofInt_natCast, BitVec.toNat_ofNat]; exact Nat.mod_eq_of_lt (by omega)
  show IntKind.u64.wrap ((BitVec.ofInt 64 (a : Int) &&& BitVec.ofInt 64 (b : Int)).toNat : Int) = _
  rw [BitVec.toNat_and, h1, h2, IntKind.wrap_u64]
  omega
theorem and63_u64 (n : Nat) (h : n < 18446744073709551616) : bits .and .u64 (n : Int) 63 = ((n % 64 : Nat) : Int) := by
  have h1 := and_u64 n 63 h (by decide); have h2 : n &&& 63 = n % 64 := Nat.and_two_pow_sub_one_eq_mod n 6; rw [h2] at h1; exact h1
theorem prop_worlds (p : World → Prop) (w : World) (h : p w) : ∃ (S : Type) (f : S → World), Nonempty S ∧ (∀ s, p (f s)) ∧ ∀ W, p W → ∃ s, W = f s :=
  ⟨{W : World // p W}, Subtype.val, ⟨⟨w, h⟩⟩, fun s => s.2, fun W h => ⟨⟨W, h⟩, rfl⟩⟩
theorem and1_u64 (n : Nat) (h : n < 18446744073709551616) : bits .and .u64 (n : Int) 1 = ((n % 2 : Nat) : Int) := by
  have h1 := and_u64 n 1 h (by decide); have h2 : n &&& 1 = n % 2 := Nat.and_two_pow_sub_one_eq_mod n 1; rw [h2] at h1; exact h1
end Tt
namespace Go.Proofs.YtilennmeiaehnaaGreat
open Go.RowKit Tt
set_option linter.unusedVariables false
set_option linter.unusedSimpArgs false

/-- what a walker gives up with -/
def pan (e : Int) : List PanicEntry := [{ v := .iface 182 (.agg #[.int .i64 e]), recovered := false }]
def mustE (b : Bool) (e : Int) : Ending := if b = true then .returned (.tuple #[]) else .panicked (pan e)
theorem must_any (b : Bool) (e : Int) (w : World) : Calls Tryz.prog 122 #[.bool b, .int .i64 e] w fun x w' => x = mustE b e ∧ w = w' := by
  cases b
  ·
    go_enter Tryz.func122, Tryz.ntmps122
    go_wp2
    exact ⟨rfl, rfl, rfl⟩
  ·
    go_enter Tryz.func122, Tryz.ntmps122
    go_wp2
    refine bodyPost_end (results_none rfl _ _ _) rfl ?_; exact ⟨rfl, rfl⟩
/-- the words of what is taken -/
def nats (l : List Nat) : List Int := l.map fun (x : Nat) => (x : Int)
theorem nats_get {l : List Nat} {i : Nat} (h : i < l.length) : (nats l).getD i 0 = ((l.getD i 0 : Nat) : Int) := by
  rw [getD_el (by simpa [nats] using h), getD_el h]; simp [nats]
theorem nats_set (l : List Nat) (i v : Nat) : (nats l).set i (v : Int) = nats (l.set i v) := by simp [nats, List.map_set]
def bitB (tk : List Nat) (k : Nat) : Bool := (tk.getD (k / 64) 0).testBit (k % 64)
theorem bitB_set {tk : List Nat} {k : Nat} (h : k / 64 < tk.length) (j : Nat) : bitB (tk.set (k / 64) ((tk.getD (k / 64) 0) ||| 2 ^ (k % 64))) j = (bitB tk j || decide (j = k)) := by
  unfold bitB
  by_cases hj : j / 64 = k / 64
  · rw [hj, List.getD_eq_getElem?_getD, List.getElem?_set_self h]
    simp only [Option.getD_some, Nat.testBit_or, Nat.testBit_two_pow]; rw [Bool.eq_iff_iff]; simp only [Bool.or_eq_true, decide_eq_true_eq]
    constructor <;> (rintro (h1 | h1) <;> first | exact .inl h1 | exact .inr (by omega))
  · rw [List.getD_eq_getElem?_getD, List.getElem?_set_ne (by omega), ← List.getD_eq_getElem?_getD]
    rw [decide_eq_false (show ¬ j = k by rintro rfl; exact hj rfl), Bool.or_false]
/-- what stays while a block is read -/
structure WkS where
  w0 : World
  a : Option Addr
  n : Nat
  c : Nat
  z : List Int
  o : Int
  sa : Option Addr
  sn : Nat
  sc : Nat
  zs : List Shz
  g : Nat
  gt : Nat
  tn : Nat
structure WkT (K : WkS) : Prop where
  hs : Sl K.w0 K.a K.n K.c 1 (ints .u8 K.z)
  hsh : ShR K.w0 K.sa K.sn K.sc K.zs
  byt : Byt K.z
  n1 : K.n ≤ 1000000000
  tn : K.tn = K.n / 64 + 1
  gB : K.w0.heap.size ≤ K.g
  gtB : K.w0.heap.size ≤ K.gt
  ne : K.g ≠ K.gt
/-- the walker, in the state s -/
structure WkOk (K : WkS) (s : St) (sv : Value) (tk : List Nat) (w : World) : Prop where
  old : Below K.w0.heap.size K.w0 w
  blk : Blk w K.g 130 #[.slice K.a K.n K.c, .int .i64 K.o, .slice K.sa K.sn K.sc, .slice (some ⟨K.gt, 0, none⟩) K.tn K.tn, sv, .int .i64 s.no, .int .i64 s.soiled]
  tak : Row w K.gt 188 .u64 (nats tk)
  tkl : tk.length = K.tn
  tkb : ∀ x ∈ tk, x < 18446744073709551616
  bits : ∀ k, k < K.n → bitB tk k = takenB s k
  spot : w.ownsRow K.w0.heap.size 57 5 sv s.spots.length (fl spC s.spots)
  sg : sv.ownBlock ≠ some K.g
  sgt : sv.ownBlock ≠ some K.gt
theorem WkOk.later {K : WkS} {s : St} {sv : Value} {tk : List Nat} {w w' : World} (h : WkOk K s sv tk w) (hb : Below w.heap.size w w') : WkOk K s sv tk w' :=
  ⟨h.old.trans (hb.mono h.old.size), h.blk.late hb, Blk.late (T := 188) h.tak hb, h.tkl, h.tkb, h.bits, own_later h.spot hb, h.sg, h.sgt⟩
theorem WkOk.byts {K : WkS} {s : St} {sv : Value} {tk : List Nat} {w : World} (h : WkOk K s sv tk w) (t : WkT K) : Sl w K.a K.n K.c 1 (ints .u8 K.z) := t.hs.mono h.old
theorem WkOk.shps {K : WkS} {s : St} {sv : Value} {tk : List Nat} {w : World} (h : WkOk K s sv tk w) (t : WkT K) : ShR w K.sa K.sn K.sc K.zs := t.hsh.mono h.old
theorem is_any (g gt tn : Nat) (cs : Array Value) (T : TypeId) (tk : List Nat) (k : Nat) (w : World) (hb : Blk w g T cs) (hc : cs[3]? = some (.slice (some ⟨gt, 0, none⟩) tn tn)) (hr : Row w gt 188 .u64 (nats tk)) (hl : tk.length = tn) (ht : ∀ x ∈ tk, x < 18446744073709551616) (hk : k / 64 < tn) (hk2 : k ≤ 4611686018427387904) :
    Calls Tryz.prog 73 #[.pointer (some ⟨g, 0, none⟩), .int .i64 k] w fun e w' => e = .returned (.bool (bitB tk k)) ∧ w = w' := by
  have c3 : w.cell? ⟨g, 3, none⟩ = some (.slice (some ⟨gt, 0, none⟩) tn tn) := hb.cell hc; obtain ⟨q, hq⟩ : ∃ q, k / 64 = q := ⟨_, rfl⟩; obtain ⟨r, hr2⟩ : ∃ r, k % 64 = r := ⟨_, rfl⟩; have hqi : (k : Int) / 64 = q := by omega
  have f0 := hr.cell (i := q) (by simp [nats, hl]; omega); rw [nats_get (by omega)] at f0; obtain ⟨x, hx⟩ : ∃ x, tk.getD q 0 = x := ⟨_, rfl⟩; rw [hx] at f0
  have hx64 : x < 18446744073709551616 := by
    rw [← hx, getD_el (show q < tk.length by omega)]; exact ht _ (List.getElem_mem _)
  have hbit : bitB tk k = ((((x / 2 ^ r) % 2 : Nat) : Int) == 1) := by
    unfold bitB; rw [hq, hr2, hx, Nat.testBit_eq_decide_div_mod_eq]
    generalize x / 2 ^ r = y
    rw [Bool.eq_iff_iff, beq_iff_eq, decide_eq_true_eq]
    omega
  rw [hbit]; have h1 : bits .and .u64 (k : Int) 63 = (r : Int) := by rw [and63_u64 k (by omega), hr2]
  have h2 : IntKind.u64.wrap (k : Int) = k := by rw [IntKind.wrap_u64]; omega
  have h3 : (x : Int) / 2 ^ r = ((x / 2 ^ r : Nat) : Int) := by simp
  have hrr : r ≤ 64 := by omega
  have h4 : bits .and .u64 ((x / 2 ^ r : Nat) : Int) 1 = (((x / 2 ^ r) % 2 : Nat) : Int) := and1_u64 _ (Nat.lt_of_le_of_lt (Nat.div_le_self _ _) hx64); have hqn : (q : Int) < tn := by omega
  generalize (x / 2 ^ r) = y at *
  clear hbit hx hr hb ht
  go_enter Tryz.func73, Tryz.ntmps73
  go_wp2
  go_ret
  exact ⟨rfl, rfl⟩
end Go.Proofs.YtilennmeiaehnaaGreat
