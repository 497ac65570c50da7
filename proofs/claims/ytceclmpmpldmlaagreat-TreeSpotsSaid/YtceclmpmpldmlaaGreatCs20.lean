/- Chapter 20: the program's iterator over all directories: what Dirs hands out, and gives to any round that may stop. -/
import Derived.Test.YtceclmpmpldmlaaGreatCs12
import Derived.Test.YtceclmpmpldmlaaGreatCs19
namespace Go.Proofs.YtceclmpmpldmlaaGreat
open Go.RowKit Tt
attribute [local go_sem] Oper.semAt_some
set_option linter.unusedVariables false
set_option linter.unusedSimpArgs false

theorem dirsfn_any (o : Int) (a : Option Addr) (n c : Nat) (w : World) :
    Calls Tryz.prog 99 #[.agg #[.int .i64 o, .slice a n c]] w fun e w' => e = .returned (.func (.func 156) #[] #[.pointer (some ⟨w.heap.size, 0, none⟩)]) ∧ w' = w.alloc (.cells #[.int .i64 o, .slice a n c] 39) := by
  go_enter Tryz.func99, Tryz.ntmps99
  go_wp2
  go_ret
  exact ⟨rfl, rfl⟩
/-- all values' bytes are such -/
def bytF (x : Flt) : Prop := ∀ t ∈ x.1, Byt t.2.2.2
def bytD : (f : Nat) → DirT f → Prop
  | 0, _ => True
  | f + 1, d => (∀ t ∈ d.1, Byt t.2.2.2) ∧ (∀ s ∈ d.2.1, bytD f s.2) ∧ Byt d.2.2
/-- what lies while the directories are gone through; l: the loop's record -/
structure FE (w : World) (N : Nat) (o : Int) (sa : Option Addr) (sn sc : Nat) (l : Loop) (W : World) : Prop where
  below : Below N w W
  rb : Blk W (N + 1) 4 #[.bool false]
  tb : Blk W (N + 2) 39 #[.int .i64 o, .slice sa sn sc]
  df : W.heap[N + 3]? = some (.deferred (some []))
  lb : W.heap[N + 4]? = some (.loop l)
theorem FE.later {w : World} {N : Nat} {o : Int} {sa : Option Addr} {sn sc : Nat} {l : Loop} {W W' : World} (h : FE w N o sa sn sc l W) (hb : Below W.heap.size W W') : FE w N o sa sn sc l W' := by
  obtain ⟨h1, h2, h3, h4, h5⟩ := h; have lt : ∀ {k o}, W.heap[k]? = some o → k < W.heap.size := fun h => (Array.getElem?_eq_some_iff.1 h).1; have e5 := lt h5; exact ⟨h1.trans (hb.mono (by omega)), h2.late hb, h3.late hb, (hb.block _ (lt h4)).trans h4, (hb.block _ e5).trans h5⟩
/-- the closure's boxes -/
structure FC (N : Nat) (W : World) : Prop where
  yb : Blk W (N + 5) 223 #[.func (.yield (N + 4)) #[] #[]]
  cb : ∃ j : Int, Blk W (N + 6) 3 #[.int .i64 j]
  eb : Blk W (N + 7) 135 #[.func (.func 157) #[] #[.pointer (some ⟨N + 6, 0, none⟩), .pointer (some ⟨N + 5, 0, none⟩), .pointer (some ⟨N + 7, 0, none⟩)]]
theorem FC.later {N : Nat} {W W' : World} (h : FC N W) (hb : Below W.heap.size W W') : FC N W' := by
  obtain ⟨h1, ⟨j, h2⟩, h3⟩ := h; exact ⟨h1.late hb, ⟨j, h2.late hb⟩, h3.late hb⟩
/-- blocks behind the closure's boxes stay -/
structure KeepA (N : Nat) (W W' : World) : Prop where
  size : W.heap.size ≤ W'.heap.size
  block : ∀ k, N + 7 < k → k < W.heap.size → W'.heap[k]? = W.heap[k]?
theorem KeepA.trans {N : Nat} {W W1 W2 : World} (h : KeepA N W W1) (k : KeepA N W1 W2) : KeepA N W W2 := ⟨Nat.le_trans h.size k.size, fun i h1 h2 => (k.block i h1 (Nat.lt_of_lt_of_le h2 h.size)).trans (h.block i h1 h2)⟩
theorem KeepA.of_below {N : Nat} {W W' : World} (h : Below W.heap.size W W') : KeepA N W W' := ⟨h.size, fun k _ hk => h.block k hk⟩
theorem KeepA.set {N : Nat} (W : World) (v : Value) : KeepA N W (W.setCell ⟨N + 6, 0, none⟩ v) := ⟨by simp, fun k h1 _ => Below.heap_setCell _ _ _ _ (show k ≠ N + 6 by omega)⟩
theorem keepA_blk {N : Nat} {W W' : World} {g : Nat} {T : TypeId} {cs : Array Value} (h : Blk W g T cs) (hk : KeepA N W W') (hg : N + 7 < g) : Blk W' g T cs := (hk.block g hg h.lt).trans h
/-- the counter is set anew -/
theorem FE.set {w : World} {N : Nat} {o : Int} {sa : Option Addr} {sn sc : Nat} {l : Loop} {W : World} (h : FE w N o sa sn sc l W) {b : Nat} (hb : N + 4 < b) (v : Value) : FE w N o sa sn sc l (W.setCell ⟨b, 0, none⟩ v) := by
  obtain ⟨h1, h2, h3, h4, h5⟩ := h; have e : ∀ j, j ≠ b → (W.setCell ⟨b, 0, none⟩ v).heap[j]? = W.heap[j]? := fun j hj => Below.heap_setCell _ _ _ _ hj; exact ⟨h1.setCell (by show N ≤ b; omega) v, (e _ (by omega)).trans h2, (e _ (by omega)).trans h3, (e _ (by omega)).trans h4, (e _ (by omega)).trans h5⟩
theorem FC.set {N : Nat} {W : World} (h : FC N W) (j : Int) : FC N (W.setCell ⟨N + 6, 0, none⟩ (.int .i64 j)) := by
  obtain ⟨h1, ⟨i, h2⟩, h3⟩ := h; have e : ∀ k, k ≠ N + 6 → (W.setCell ⟨N + 6, 0, none⟩ (.int .i64 j)).heap[k]? = W.heap[k]? := fun k hk => Below.heap_setCell _ _ _ _ hk; exact ⟨(e _ (by omega)).trans h1, ⟨j, h2.set 0 _⟩, (e _ (by omega)).trans h3⟩
/-- the loop's record behind a round -/
def recB (rec : LoopState → Option Code → Loop) (b : Bool) : Loop := if b = true then rec .ready none else rec .done (some .ret)
/-- what a round owes -/
def RndOk (w : World) (N : Nat) (o : Int) (sa : Option Addr) (sn sc : Nat) (rec : LoopState → Option Code → Loop) : Prop :=
  ∀ (k : Nat) (W : World) (j : Int) (x : Flt) (v : Dz), 9 ≤ k → FE w N o sa sn sc (rec .ready none) W → FC N W → FltR w x v → smallF x → bytF x →
    YieldAt Fence.wide k Tryz.prog (N + 4) #[.int .i64 j, .agg #[v.1, v.2.1, v.2.2]] W fun e W' => FC N W' ∧ KeepA N W W' ∧ e = .returned (.bool (okF x)) ∧ FE w N o sa sn sc (recB rec (okF x)) W'
def PEach (w : World) (N : Nat) (o : Int) (sa : Option Addr) (sn sc : Nat) (rec : LoopState → Option Code → Loop) (f : Nat) : Prop :=
  ∀ (k : Nat) (W : World) (d : DirT f) (dv : Dz), 10 + f ≤ k → DirR w f d dv → smallD f d → bytD f d → FE w N o sa sn sc (rec .ready none) W → FC N W →
    CallsIn Fence.wide k Tryz.prog 157 #[.agg #[dv.1, dv.2.1, dv.2.2], .pointer (some ⟨N + 6, 0, none⟩), .pointer (some ⟨N + 5, 0, none⟩), .pointer (some ⟨N + 7, 0, none⟩)] W fun e W' =>
      FC N W' ∧ KeepA N W W' ∧ e = .returned (.bool ((flatS f d).all okF)) ∧ FE w N o sa sn sc (recB rec ((flatS f d).all okF)) W'
theorem flats_all (f : Nat) (ss : List (Int × DirT f)) (p : Flt → Bool) {i : Nat} (hi : i < ss.length) : (flats f (ss.take (i + 1))).all p = ((flats f (ss.take i)).all p && (flatS f ss[i].2).all p) := by
  rw [flats_next f ss hi, List.all_append]
theorem flats_all_no (f : Nat) (ss : List (Int × DirT f)) (p : Flt → Bool) {i : Nat} (h : (flats f (ss.take i)).all p = false) : (flats f ss).all p = false := by
  have e : ss = ss.take i ++ ss.drop i := (List.take_append_drop i ss).symm; rw [e]; unfold flats at h ⊢; rw [List.flatMap_append, List.all_append, h]
  rfl
set_option maxRecDepth 100000 in
set_option maxHeartbeats 4000000 in
theorem each_step {w : World} {N : Nat} {o : Int} {sa : Option Addr} {sn sc : Nat} {rec : LoopState → Option Code → Loop} (hN : N = w.heap.size) (hr : RndOk w N o sa sn sc rec) (f : Nat) (ih : PEach w N o sa sn sc rec f) : PEach w N o sa sn sc rec (f + 1) := by
  intro k W d dv hk hd hs hby hF hC; have hbW : Below w.heap.size w W := hN ▸ hF.below; have hfl := hd.flt.mono hbW; obtain ⟨ta, tn, tc, zs, pa, pn, pc, ds, ba, bn, bc, rfl, htg, hdt, hsl, hdl, hsub, hbl⟩ := hd; obtain ⟨k, rfl⟩ : ∃ k', k = k' + 1 := ⟨k - 1, by omega⟩; have hpn : d.2.1.length = pn := by rw [← hdl]; exact hsl.flen sbC_len (by decide)
  have e : (flatS (f + 1) d).all okF = (okF (d.1, d.2.1.length, d.2.2) && (flats f d.2.1).all okF) := rfl; rw [e]; have hmx := hsl.max; have hml := hsl.le; have hsmF := flat_small (f + 1) d hs (d.1, d.2.1.length, d.2.2) (List.mem_cons_self ..); have hbyF : bytF (d.1, d.2.1.length, d.2.2) := hby.1; obtain ⟨j, hcb⟩ := hC.cb; have hal := (Below.refl W.heap.size W).alloc (Nat.le_refl _) (.cells #[.slice ta tn tc, .slice pa pn pc, .slice ba bn bc] 26); have bk := Blk.new W 26 #[.slice ta tn tc, .slice pa pn pc, .slice ba bn bc]; obtain ⟨j1, hj1⟩ : ∃ j1, IntKind.i64.wrap (j + 1) = j1 := ⟨_, rfl⟩; obtain ⟨j2, hj2⟩ : ∃ j2, IntKind.i64.wrap (j1 - 1) = j2 := ⟨_, rfl⟩; have hF1 := (hF.later hal).set (b := N + 6) (by omega) (.int .i64 j1); have hC1 := (hC.later hal).set j1; have hfl1 := (hfl.mono hal); have hNW : N + 7 < W.heap.size := hC.eb.lt; have hcb1 := hcb.late hal; have c6 : (W.alloc (.cells #[.slice ta tn tc, .slice pa pn pc, .slice ba bn bc] 26)).cell? ⟨N + 6, 0, none⟩ = some (.int .i64 j) := hcb1.cell rfl; have z6 := hcb1.frozen 0; have hfl2 : FltR w (d.1, d.2.1.length, d.2.2) (.slice ta tn tc, .slice pa pn pc, .slice ba bn bc) := DirR.flt (f := f) (d := d) ⟨ta, tn, tc, zs, pa, pn, pc, ds, ba, bn, bc, rfl, htg, hdt, hsl, hdl, hsub, hbl⟩; obtain ⟨fn, tmps, assign, body, hy, hR⟩ := hr k _ j2 _ _ (by omega) hF1 hC1 hfl2 hsmF hbyF; have q5 := hC1.yb.cell (i := 0) rfl; have q7 := hC1.eb.cell (i := 0) rfl; have bk1 : Blk ((W.alloc (.cells #[.slice ta tn tc, .slice pa pn pc, .slice ba bn bc] 26)).setCell ⟨N + 6, 0, none⟩ (.int .i64 j1)) W.heap.size 26 #[.slice ta tn tc, .slice pa pn pc, .slice ba bn bc] := (Below.heap_setCell _ _ _ _ (show W.heap.size ≠ N + 6 by omega)).trans bk; have d0 := bk1.cell (i := 0) rfl; have d1 := bk1.cell (i := 1) rfl; have d2 := bk1.cell (i := 2) rfl; have z5 := hC1.yb.frozen 0; have hbW' := Lib.hid hbW; have hfl' := Lib.hid hfl; have htg' := Lib.hid htg; have hdt' := Lib.hid hdt; have hsl' := Lib.hid hsl; have hdl' := Lib.hid hdl; have hsub' := Lib.hid hsub; have hbl' := Lib.hid hbl; have hpn' := Lib.hid hpn; have e' := Lib.hid e; have hsmF' := Lib.hid hsmF; have hbyF' := Lib.hid hbyF; have hcb' := Lib.hid hcb; have hal' := Lib.hid hal; have bk' := Lib.hid bk; have hF1' := Lib.hid hF1; have hC1' := Lib.hid hC1; have hfl1' := Lib.hid hfl1; have hcb1' := Lib.hid hcb1; have hfl2' := Lib.hid hfl2; have hR' := Lib.hid hR; have bk1' := Lib.hid bk1; have hF' := Lib.hid hF; have hC' := Lib.hid hC; have hs' := Lib.hid hs; have hby' := Lib.hid hby
  have ih' := Lib.hid ih; have hr' := Lib.hid hr; have hN' := Lib.hid hN; clear hbW hfl htg hdt hsl hdl hsub hbl hpn e hsmF hbyF hcb hal bk hF1 hC1 hfl1 hcb1 hfl2 hR bk1 hF hC hs hby ih hr hN; obtain ⟨okx, hokx⟩ : ∃ b, okF (d.1, d.2.1.length, d.2.2) = b := ⟨_, rfl⟩; rw [hokx]; rw [hokx] at hR'; obtain ⟨R, hRR⟩ : ∃ R, (okx && (flats f d.2.1).all okF) = R := ⟨_, rfl⟩; rw [hRR]; have hokx' := Lib.hid hokx; have hRR' := Lib.hid hRR; clear hokx hRR; refine callsIn_of_wp Tryz.func157 rfl trivial ?_ rfl; simp only [Tryz.ntmps157, List.size_toArray, List.length_cons, List.length_nil, Nat.reduceAdd, Nat.reduceSub, Array.replicate_succ, Array.replicate_zero, List.push_toArray, List.append_toArray, List.nil_append, List.cons_append]
  gi_wp2
  refine hR'.out.mono ?_; rintro e3 W3 ⟨hC3, hK3, rfl, hF3⟩; have hbkW : N + 7 < W.heap.size := hNW; have hK03 : KeepA N W W3 := (KeepA.of_below hal'.out).trans ((KeepA.set _ _).trans hK3); have bk3 := keepA_blk bk1'.out hK3 hbkW; clear hy hR' c6 z6 q5 q7 d0 d1 d2 z5
  cases okx
  case false =>
    obtain rfl : R = false := hRR'.out.symm; have hC3' := Lib.hid hC3; have hK3' := Lib.hid hK3; have hF3' := Lib.hid hF3; have hK03' := Lib.hid hK03; have bk3' := Lib.hid bk3; clear hC3 hK3 hF3 hK03 bk3
    gi_wp2
    go_ret
    exact ⟨hC3'.out, hK03'.out, rfl, hF3'.out⟩
  case true =>
  have hF3 : FE w N o sa sn sc (rec .ready none) W3 := hF3; have d1 : W3.cell? ⟨W.heap.size, 1, none⟩ = some (.slice pa pn pc) := bk3.cell rfl; have hbW3 : Below w.heap.size w W3 := hN'.out ▸ hF3.below; have hC3' := Lib.hid hC3; have hK3' := Lib.hid hK3; have hF3' := Lib.hid hF3; have hK03' := Lib.hid hK03; have bk3' := Lib.hid bk3; have hbW3' := Lib.hid hbW3; clear hC3 hK3 hF3 hK03 bk3 hbW3
  gi_wp2
  gi_loopw [19] (fun iv wr => ∃ i : Nat, i ≤ pn ∧ iv = .int .i64 i ∧ Hid ((flats f (d.2.1.take i)).all okF = true) ∧ Hid (FE w N o sa sn sc (rec .ready none) wr) ∧ Hid (FC N wr) ∧ Hid (KeepA N W wr)) (fun iv _ => pn - (intOf iv).toNat)
  case atStart => exact ⟨0, by omega, rfl, Lib.hid rfl, hF3', hC3', hK03'⟩
  case round =>
    obtain ⟨i, hi, rfl, hall, hFr, hCr, hKr⟩ := hrel
    by_cases hlt : i < pn
    · have hbr : Below w.heap.size w wr := hN'.out ▸ hFr.out.below
      have hid : i < d.2.1.length := by rw [hpn'.out]; exact hlt
      have hids : i < ds.length := by rw [hdl'.out]; exact hid
      obtain ⟨b, o2, rfl, hblt, fe⟩ := (hsl'.out.mono hbr).elem sbC_len (by decide) (0, (.slice none 0 0, .slice none 0 0, .slice none 0 0)) hlt; rw [getD_el hids] at fe; obtain ⟨hq1, hq2⟩ := hsub'.out i hids hid; obtain ⟨ua, un, uc, ra, rn, rc, xa, xn, xc, hv⟩ := hq2.v; have g0 := fe 0 _ rfl; have g1 := fe 1 _ rfl; have g2 := fe 2 _ rfl; have g3 := fe 3 _ rfl; simp only [Nat.add_zero] at g0 g1 g2 g3; clear fe hq1; rw [hv] at hq2 g1 g2 g3; simp only at g0 g1 g2 g3
      generalize ds[i].1 = y at g0
      have hw1 : IntKind.i64.wrap ((i : Int) + 1) = i + 1 := by rw [IntKind.wrap_i64]; omega
      have hil : (i : Int) < (pn : Int) := by omega
      have hal2 := (Below.refl wr.heap.size wr).alloc (Nat.le_refl _) (.cells #[.int .i64 y, .slice ua un uc, .slice ra rn rc, .slice xa xn xc] 28); have bs := Blk.new wr 28 #[.int .i64 y, .slice ua un uc, .slice ra rn rc, .slice xa xn xc]; have hCs := hCr.out.later hal2; have hFs := hFr.out.later hal2; have hst := flats_all f d.2.1 okF hid; have hI := ih'.out k _ d.2.1[i].2 _ (by omega) hq2 (hs'.out.2.2.2 _ (List.getElem_mem hid)) (hby'.out.2.1 _ (List.getElem_mem hid)) hFs hCs; have hno := fun h => flats_all_no f d.2.1 okF (i := i + 1) h; have hR := hRR'.out; rw [Bool.true_and] at hR; rw [hR] at hno; rw [hall.out, Bool.true_and] at hst; rw [← hst] at hI; have q7 := hCs.eb.cell (i := 0) rfl; have z7 := hCs.eb.frozen 0; have hKs := hKr.out.trans (KeepA.of_below hal2); obtain ⟨bb, hbb⟩ : ∃ b, (flats f (d.2.1.take (i + 1))).all okF = b := ⟨_, rfl⟩; rw [hbb] at hno hst hI; have hbr' := Lib.hid hbr; have hq2' := Lib.hid hq2; have hal2' := Lib.hid hal2; have bs' := Lib.hid bs; have hCs' := Lib.hid hCs; have hFs' := Lib.hid hFs; have hst' := Lib.hid hst; have hI' := Lib.hid hI; have hno' := Lib.hid hno; have hR' := Lib.hid hR; have hKs' := Lib.hid hKs; have hv' := Lib.hid hv; clear hbr hq2 hal2 bs hCs hFs hst hI hno hR hKs hv
      cases bb
      case false =>
        obtain rfl : R = false := hno'.out rfl; have hbb' := Lib.hid hbb; clear hbb
        gi_wp2_with (refine ⟨trivial, ?_⟩; gi_at_call 157; refine hI'.out.mono ?_; rintro e4 W4 ⟨hC4, hK4, rfl, hF4⟩; have HC4 := Lib.hid hC4; have HK4 := Lib.hid (hKs'.out.trans hK4); have HF4 := Lib.hid hF4; clear hC4 hK4 hF4)
        go_ret
        exact ⟨HC4.out, HK4.out, rfl, HF4.out⟩
      case true =>
        have hbb' := Lib.hid hbb; clear hbb
        gi_wp2_with (refine ⟨trivial, ?_⟩; gi_at_call 157; refine hI'.out.mono ?_; rintro e4 W4 ⟨hC4, hK4, rfl, hF4⟩; have HC4 := Lib.hid hC4; have HK4 := Lib.hid (hKs'.out.trans hK4); have HF4 := Lib.hid hF4; clear hC4 hK4 hF4)
        go_roundw
        case rel => exact ⟨i + 1, by omega, by go_num, hbb', HF4, HC4, HK4⟩
        case measure => simp [intOf]; omega
    · obtain rfl : i = pn := by omega
      have hfull : d.2.1.take i = d.2.1 := List.take_of_length_le (by rw [hpn'.out]; omega); rw [hfull] at hall; obtain rfl : R = true := by rw [← hRR'.out, hall.out]; rfl
      gi_wp2
      go_ret
      exact ⟨hCr.out, hKr.out, rfl, hFr.out⟩
end Go.Proofs.YtceclmpmpldmlaaGreat
