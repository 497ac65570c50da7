/- Chapter 20: may all directories be laid: the program, through its iterator. | Chapter 20: may all directories be laid: the program. -/
import Derived.Test.YtceclmpmpldmlaaGreatCs20
import Derived.Test.YtceclmpmpldmlaaGreatCs12
import Derived.Test.YtceclmpmpldmlaaGreatCs13
namespace Go.Proofs.YtceclmpmpldmlaaGreat
open Go.RowKit Tt
attribute [local go_sem] Oper.semAt_some
set_option linter.unusedVariables false
set_option linter.unusedSimpArgs false

theorem each_any {w : World} {N : Nat} {o : Int} {sa : Option Addr} {sn sc : Nat} {rec : LoopState → Option Code → Loop} (hN : N = w.heap.size) (hr : RndOk w N o sa sn sc rec) : ∀ f, PEach w N o sa sn sc rec f := by
  intro f
  induction f with
  | zero => intro k W d dv hk hd; exact hd.elim
  | succ f ih => exact each_step hN hr f ih
theorem flatT_all (f : Nat) (ds : List (DirT f)) (p : Flt → Bool) {i : Nat} (hi : i < ds.length) : (flatT f (ds.take (i + 1))).all p = ((flatT f (ds.take i)).all p && (flatS f ds[i]).all p) := by
  rw [flatT_next f ds hi, List.all_append]
theorem flatT_all_no (f : Nat) (ds : List (DirT f)) (p : Flt → Bool) {i : Nat} (h : (flatT f (ds.take i)).all p = false) : (flatT f ds).all p = false := by
  have e : ds = ds.take i ++ ds.drop i := (List.take_append_drop i ds).symm; rw [e]; unfold flatT at h ⊢; rw [List.flatMap_append, List.all_append, h]
  rfl
set_option maxRecDepth 100000 in
set_option maxHeartbeats 4000000 in
theorem dirs1_in {w : World} {N : Nat} {o : Int} {sa : Option Addr} {sn sc : Nat} {rec : LoopState → Option Code → Loop} (hN : N = w.heap.size) (hr : RndOk w N o sa sn sc rec) (f : Nat) (ds : List (DirT f)) (hd : DirsR f w sa sn sc ds) (hs : ∀ d ∈ ds, smallD f d) (hby : ∀ d ∈ ds, bytD f d)
    (W : World) (hsz : W.heap.size = N + 5) (h0 : FE w N o sa sn sc (rec .ready none) W) :
    CallsIn Fence.wide (f + 12) Tryz.prog 156 #[.func (.yield (N + 4)) #[] #[], .pointer (some ⟨N + 2, 0, none⟩)] W fun e W' => (∃ v, e = .returned v) ∧ FE w N o sa sn sc (recB rec (okAll f ds)) W' := by
  have hE := each_any hN hr f; obtain ⟨dvs, hdl, hsl, hsub⟩ := hd; have hdn : ds.length = sn := by rw [← hdl]; exact hsl.flen dvC_len (by decide)
  have hmx := hsl.max; have hml := hsl.le; obtain ⟨R, hR⟩ : ∃ R, okAll f ds = R := ⟨_, rfl⟩; rw [hR]; have hno : ∀ i, (flatT f (ds.take i)).all okF = false → R = false := fun i h => hR ▸ flatT_all_no f ds okF h; obtain ⟨V, hV, v1, v2, v3, hbV, sV⟩ := three_boxes W 223 #[.func (.yield (N + 4)) #[] #[]] 3 #[.int .i64 0] 135 #[.func (.func 157) #[] #[.pointer (some ⟨N + 5 + 1, 0, none⟩), .pointer (some ⟨N + 5, 0, none⟩), .pointer (some ⟨N + 5 + 1 + 1, 0, none⟩)]]; rw [hsz] at v1 v2 v3; have F3 := h0.later hbV; have C3 : FC N V := ⟨v1, ⟨0, v2⟩, v3⟩; have hr' := Lib.hid hr; have hsl' := Lib.hid hsl; have hsub' := Lib.hid hsub; have hs' := Lib.hid hs; have hby' := Lib.hid hby
  have h0' := Lib.hid h0; have hE' := Lib.hid hE; have hN' := Lib.hid hN; have hdl' := Lib.hid hdl; have hdn' := Lib.hid hdn; have hR' := Lib.hid hR; have hno' := Lib.hid hno; have v1' := Lib.hid v1; have v2' := Lib.hid v2; have v3' := Lib.hid v3; have hbV' := Lib.hid hbV; have hV' := Lib.hid hV; have F3' := Lib.hid F3; have C3' := Lib.hid C3; clear hr hsl hsub hs hby h0 hE hN hdl hdn hR hno v1 v2 v3 hbV hV F3 C3; refine callsIn_of_wp Tryz.func156 rfl trivial ?_ rfl; simp only [Tryz.ntmps156, List.size_toArray, List.length_cons, List.length_nil, Nat.reduceAdd, Nat.reduceSub, Array.replicate_succ, Array.replicate_zero, List.push_toArray, List.append_toArray, List.nil_append, List.cons_append]; have t2 := h0'.out.tb.cell (i := 1) rfl; have t2l := h0'.out.tb.lt; have hsf := fun (a : Addr) (c : Array Value) (w : World) => run_store Tryz.prog w a (.func (.func 157) #[] c) .plain rfl
  gi_wp2
  clear hsf; rw [hV'.out]; clear t2 t2l
  gi_loopw [11] (fun iv wr => ∃ i : Nat, i ≤ sn ∧ iv = .int .i64 i ∧ Hid ((flatT f (ds.take i)).all okF = true) ∧ Hid (FE w N o sa sn sc (rec .ready none) wr) ∧ Hid (FC N wr) ∧ Hid (KeepA N V wr)) (fun iv _ => sn - (intOf iv).toNat)
  case atStart => exact ⟨0, by omega, rfl, Lib.hid rfl, F3', C3', Lib.hid ⟨Nat.le_refl _, fun _ _ _ => rfl⟩⟩
  case round =>
    obtain ⟨i, hi, rfl, hall, hFr, hCr, hKr⟩ := hrel
    by_cases hlt : i < sn
    · have hbr : Below w.heap.size w wr := hN'.out ▸ hFr.out.below
      have hid : i < ds.length := by rw [hdn'.out]; exact hlt
      have hids : i < dvs.length := by rw [hdl'.out]; exact hid
      obtain ⟨b, o2, rfl, hblt, fe⟩ := (hsl'.out.mono hbr).elem dvC_len (by decide) dzz hlt; rw [getD_el hids] at fe; have hq2 := hsub'.out i hids hid; obtain ⟨ua, un, uc, ra, rn, rc, xa, xn, xc, hv⟩ := hq2.v; have g0 := fe 0 _ rfl; have g1 := fe 1 _ rfl; have g2 := fe 2 _ rfl; clear fe; rw [hv] at hq2 g0 g1 g2; simp only [Nat.add_zero] at g0 g1 g2; have hw1 : IntKind.i64.wrap ((i : Int) + 1) = i + 1 := by rw [IntKind.wrap_i64]; omega
      have hil : (i : Int) < (sn : Int) := by omega
      have hal2 := (Below.refl wr.heap.size wr).alloc (Nat.le_refl _) (.cells #[.slice ua un uc, .slice ra rn rc, .slice xa xn xc] 26); have hCs := hCr.out.later hal2; have hFs := hFr.out.later hal2; have hst := flatT_all f ds okF hid; have hI := hE'.out (f + 11) _ ds[i] _ (by omega) hq2 (hs'.out _ (List.getElem_mem hid)) (hby'.out _ (List.getElem_mem hid)) hFs hCs; have hno := hno'.out (i + 1); rw [hall.out, Bool.true_and] at hst; rw [← hst] at hI; have q7 := hCs.eb.cell (i := 0) rfl; have z7 := hCs.eb.frozen 0; have hKs := hKr.out.trans (KeepA.of_below hal2); obtain ⟨bb, hbb⟩ : ∃ b, (flatT f (ds.take (i + 1))).all okF = b := ⟨_, rfl⟩; rw [hbb] at hno hst hI; have hbr' := Lib.hid hbr; have hq2' := Lib.hid hq2; have hal2' := Lib.hid hal2; have hCs' := Lib.hid hCs; have hFs' := Lib.hid hFs; have hst' := Lib.hid hst; have hI' := Lib.hid hI; have hno' := Lib.hid hno; have hKs' := Lib.hid hKs; have hv' := Lib.hid hv; clear hbr hq2 hal2 hCs hFs hst hI hno hKs hv
      cases bb
      case false =>
        obtain rfl : R = false := hno'.out rfl; have hbb' := Lib.hid hbb; clear hbb
        gi_wp2_with (refine ⟨trivial, ?_⟩; gi_at_call 157; refine hI'.out.mono ?_; rintro e4 W4 ⟨hC4, hK4, rfl, hF4⟩; have HC4 := Lib.hid hC4; have HK4 := Lib.hid (hKs'.out.trans hK4); have HF4 := Lib.hid hF4; clear hC4 hK4 hF4)
        refine bodyPost_ret (results_none rfl _ _ _) rfl ?_; exact ⟨⟨_, rfl⟩, HF4.out⟩
      case true =>
        have hbb' := Lib.hid hbb; clear hbb
        gi_wp2_with (refine ⟨trivial, ?_⟩; gi_at_call 157; refine hI'.out.mono ?_; rintro e4 W4 ⟨hC4, hK4, rfl, hF4⟩; have HC4 := Lib.hid hC4; have HK4 := Lib.hid (hKs'.out.trans hK4); have HF4 := Lib.hid hF4; clear hC4 hK4 hF4)
        go_roundw
        case rel => exact ⟨i + 1, by omega, by go_num, hbb', HF4, HC4, HK4⟩
        case measure => simp [intOf]; omega
    · obtain rfl : i = sn := by omega
      have hfull : ds.take i = ds := List.take_of_length_le (by rw [hdn'.out]; omega); rw [hfull] at hall; obtain rfl : R = true := by rw [← hR'.out]; exact hall.out
      gi_wp2
      go_end0
      exact ⟨⟨_, rfl⟩, hFr.out⟩
end Go.Proofs.YtceclmpmpldmlaaGreat

namespace Go.Proofs.YtceclmpmpldmlaaGreat
open Go.RowKit Tt
attribute [local go_sem] Oper.semAt_some
set_option linter.unusedVariables false
set_option linter.unusedSimpArgs false

theorem FE.put {w : World} {N : Nat} {o : Int} {sa : Option Addr} {sn sc : Nat} {l l' : Loop} {W : World} (h : FE w N o sa sn sc l W) : FE w N o sa sn sc l' (W.putObj (N + 4) (.loop l')) := by
  obtain ⟨h1, h2, h3, h4, h5⟩ := h; have hp : ∀ k, k ≠ N + 4 → (W.putObj (N + 4) (.loop l')).heap[k]? = W.heap[k]? := fun k hk => World.putObj_heap_other hk; exact ⟨h1.trans ⟨rfl, rfl, rfl, by simp, fun k hk => hp k (by omega)⟩, (hp _ (by omega)).trans h2, (hp _ (by omega)).trans h3, (hp _ (by omega)).trans h4, World.putObj_heap_same (Array.getElem?_eq_some_iff.1 h5).1⟩
theorem FC.put {N : Nat} {W : World} (h : FC N W) (l' : Loop) : FC N (W.putObj (N + 4) (.loop l')) := by
  obtain ⟨h1, ⟨j, h2⟩, h3⟩ := h; have hp : ∀ k, k ≠ N + 4 → (W.putObj (N + 4) (.loop l')).heap[k]? = W.heap[k]? := fun k hk => World.putObj_heap_other hk; exact ⟨(hp _ (by omega)).trans h1, ⟨j, (hp _ (by omega)).trans h2⟩, (hp _ (by omega)).trans h3⟩
theorem KeepA.put {N : Nat} (W : World) (l' : Loop) : KeepA N W (W.putObj (N + 4) (.loop l')) := ⟨by simp, fun k h1 _ => World.putObj_heap_other (by omega)⟩
theorem FE.no {w : World} {N : Nat} {o : Int} {sa : Option Addr} {sn sc : Nat} {l : Loop} {W : World} (h : FE w N o sa sn sc l W) : FE w N o sa sn sc l (W.setCell ⟨N + 1, 0, none⟩ (.bool false)) := by
  obtain ⟨h1, h2, h3, h4, h5⟩ := h; have e : ∀ j, j ≠ N + 1 → (W.setCell ⟨N + 1, 0, none⟩ (.bool false)).heap[j]? = W.heap[j]? := fun j hj => Below.heap_setCell _ _ _ _ hj; exact ⟨h1.setCell (by show N ≤ N + 1; omega) _, h2.set 0 _, (e _ (by omega)).trans h3, (e _ (by omega)).trans h4, (e _ (by omega)).trans h5⟩
theorem FC.no {N : Nat} {W : World} (h : FC N W) : FC N (W.setCell ⟨N + 1, 0, none⟩ (.bool false)) := by
  obtain ⟨h1, ⟨j, h2⟩, h3⟩ := h; have e : ∀ j, j ≠ N + 1 → (W.setCell ⟨N + 1, 0, none⟩ (.bool false)).heap[j]? = W.heap[j]? := fun j hj => Below.heap_setCell _ _ _ _ hj; exact ⟨(e _ (by omega)).trans h1, ⟨j, (e _ (by omega)).trans h2⟩, (e _ (by omega)).trans h3⟩
theorem KeepA.no {N : Nat} (W : World) : KeepA N W (W.setCell ⟨N + 1, 0, none⟩ (.bool false)) := ⟨by simp, fun k h1 _ => Below.heap_setCell _ _ _ _ (show k ≠ N + 1 by omega)⟩
set_option maxRecDepth 100000 in
set_option maxHeartbeats 4000000 in
theorem pmay_any (f : Nat) (o : Int) (sa : Option Addr) (sn sc : Nat) (ds : List (DirT f)) (w : World) (h : DirsR f w sa sn sc ds) (hs : ∀ d ∈ ds, smallD f d) (hby : ∀ d ∈ ds, bytD f d) :
    Calls Tryz.prog 44 #[.agg #[.int .i64 o, .slice sa sn sc]] w fun e w' => e = .returned (.bool (okAll f ds)) ∧ Below w.heap.size w w' := by
  have HI := Lib.hid (fun (rec : LoopState → Option Code → Loop) hr W hsz h0 => dirs1_in (w := w) (N := w.heap.size) (o := o) (sa := sa) (sn := sn) (sc := sc) (rec := rec) rfl hr f ds h hs hby W hsz h0); clear h hs hby
  obtain ⟨R, hR⟩ : ∃ R, okAll f ds = R := ⟨_, rfl⟩; rw [hR] at HI ⊢; clear hR; refine (callsIn_wide (n := f + 13)).1 ?_; refine callsIn_of_wp_marks Tryz.func44 rfl trivial ?_ rfl; simp only [Tryz.ntmps44, List.size_toArray, List.length_cons, List.length_nil, Nat.reduceAdd, Nat.reduceSub, Array.replicate_succ, Array.replicate_zero, List.push_toArray, List.append_toArray, List.nil_append, List.cons_append]
  gi_wp2_with (refine ⟨trivial, ?_⟩; gi_at_call 99; refine (callsIn_wide.2 (dirsfn_any _ _ _ _ _)).mono ?_; rintro e w' ⟨rfl, rfl⟩)
  refine rf_law' rfl (by omega) rfl trivial (enters_of Tryz.func156 (by kernel_rfl) rfl) ?_; intro fn rec hfn hrec; simp only [World.size_alloc, Nat.add_assoc, Nat.reduceAdd]; refine CallsIn.mono (HI.out rec ?round _ ?size ?init) ?done
  case size => simp
  case init =>
    refine ⟨?_, ?_, ?_, ?_, ?_⟩
    · exact ((((((Below.refl _ _).alloc (Nat.le_refl _) _).alloc (by simp) _).alloc (by simp <;> omega) _).alloc (by simp <;> omega) _).alloc (by simp <;> omega) _)
    · exact (heap_old _ _ (by simp <;> omega)).trans ((heap_old _ _ (by simp <;> omega)).trans ((heap_old _ _ (by simp)).trans (heap_new' _ _ (by simp))))
    · exact (heap_old _ _ (by simp <;> omega)).trans ((heap_old _ _ (by simp)).trans (heap_new' _ _ (by simp)))
    · exact (heap_old _ _ (by simp)).trans (heap_new' _ _ (by simp))
    · exact heap_new' _ _ (by simp)
  case round =>
    clear HI; intro k W j x v hk hF hC hfl hsm hby
    obtain ⟨ta, tc, pa, pc, ba, bc, zs, hv, htg, hxt, hbl⟩ := hfl; subst hv; obtain ⟨hx1, hx2, hx3⟩ := hsm; have hoF := okF_iff (x := x) ⟨hx1, hx2, hx3⟩; have hal := (Below.refl W.heap.size W).alloc (Nat.le_refl _) (.cells #[.slice ta x.1.length tc, .slice pa x.2.1 pc, .slice ba x.2.2.length bc] 26); have bk := Blk.new W 26 #[.slice ta x.1.length tc, .slice pa x.2.1 pc, .slice ba x.2.2.length bc]; have F1 := hF.later hal; have C1 := hC.later hal; have hNW : w.heap.size + 7 < W.heap.size := hC.eb.lt; have hm68 := entN_le (b := x.2.2.length) hx1 hx2; have hE := fun W => ent_any ta pa ba x.1.length tc x.2.1 pc x.2.2.length bc W (by omega) (by omega)
    have hbz : ∀ z ∈ zs, Byt z.2 := fun z hz => by
      have := hby (tagz z) (by rw [hxt]; exact List.mem_map_of_mem hz); exact this
    have hTC := fun W (hb : Below (W.heap.size) W W) => trivial; obtain ⟨r, hr⟩ : ∃ r, okF x = r := ⟨_, rfl⟩; rw [hr] at hoF ⊢; obtain ⟨q, hq⟩ : ∃ q, x.1.all okT = q := ⟨_, rfl⟩; have hqz : (zs.map tagz).all okT = q := by rw [← hxt]; exact hq
    rw [hq] at hoF
    generalize entN x.1.length x.2.1 x.2.2.length = m at *
    generalize x.1.length = tn at *
    generalize x.2.1 = pn at *
    generalize x.2.2.length = bn at *
    clear hTC hr hq; have hoF' := Lib.hid hoF; have bk' := Lib.hid bk; have F1' := Lib.hid F1; have C1' := Lib.hid C1; have hE' := Lib.hid hE; have hbz' := Lib.hid hbz; have hal' := Lib.hid hal; have hbl' := Lib.hid hbl; have hby' := Lib.hid hby
    have hF' := Lib.hid hF; have hC' := Lib.hid hC; have htg' := Lib.hid htg; have hxt' := Lib.hid hxt; have hqz' := Lib.hid hqz; clear hoF bk F1 C1 hE hbz hal hbl hby hF hC htg hxt hqz; refine rf_round' hfn hrec hF'.out.lb rfl ?_
    gi_wp2
    refine ⟨F1'.out.lb, ?_⟩; have F2 := F1'.out.put (l' := rec .busy none); have C2 := C1'.out.put (rec .busy none); have K2 := (KeepA.of_below (N := w.heap.size) hal'.out).trans (KeepA.put _ (rec .busy none)); obtain ⟨Wb, hWb⟩ : ∃ Wb, Wb = (W.alloc (.cells #[.slice ta tn tc, .slice pa pn pc, .slice ba bn bc] 26)).putObj (w.heap.size + 4) (.loop (rec .busy none)) := ⟨_, rfl⟩; have bkb : Blk Wb W.heap.size 26 #[.slice ta tn tc, .slice pa pn pc, .slice ba bn bc] := by rw [hWb]; exact (World.putObj_heap_other (by omega)).trans bk'.out
    have hbw : Below w.heap.size w Wb := by rw [hWb]; exact F2.below
    rw [← hWb] at F2 C2 K2 ⊢; clear hWb; have d0 := bkb.cell (i := 0) rfl; have d1 := bkb.cell (i := 1) rfl; have d2 := bkb.cell (i := 2) rfl; have F2' := Lib.hid F2; have C2' := Lib.hid C2; have K2' := Lib.hid K2; have bkb' := Lib.hid bkb; have hbw' := Lib.hid hbw; clear F2 C2 K2 bkb hbw
    gi_wp2_with fail
    refine ⟨trivial, fun _ => by omega, ?_⟩; refine CallsIn.mono (CallsIn.inRound _ (callsIn_wide.2 (hE'.out _))) ?_; rintro e W3 ⟨rfl, hb3⟩; have F3 := F2'.out.later hb3; have C3 := C2'.out.later hb3; have K3 := K2'.out.trans (KeepA.of_below hb3); have bk3 := bkb'.out.late hb3; clear d0 d1 d2; have d0 : W3.cell? ⟨W.heap.size, 0, none⟩ = some (.slice ta tn tc) := bk3.cell rfl; have e65 : decide ((65535 : Int) < (m : Int)) = false := by simp; omega
    have r1 : W3.cell? ⟨w.heap.size + 1, 0, none⟩ = some (.bool false) := F3.rb.cell rfl; have z1 := F3.rb.frozen 0
    by_cases hm1 : m < 1
    · have e1 : decide ((m : Int) < 1) = true := by simp; omega
      obtain rfl : r = false := by rw [hoF'.out, decide_eq_false (show ¬ 1 ≤ m by omega)]; rfl
      have F3' := Lib.hid F3; have C3' := Lib.hid C3; have K3' := Lib.hid K3; have bk3' := Lib.hid bk3; have hb3' := Lib.hid hb3; clear F3 C3 K3 bk3 hb3
      gi_wp2_with fail
      refine ⟨trivial, ?_⟩
      gi_wp2_with fail
      exact ⟨F3'.out.no.lb, C3'.out.no.put _, (K3'.out.trans (KeepA.no _)).trans (KeepA.put _ _), rfl, F3'.out.no.put⟩
    · have e1 : decide ((m : Int) < 1) = false := by simp; omega
      rw [decide_eq_true (show 1 ≤ m by omega), Bool.true_and] at hoF'; have hT := tcon_any ta tn tc zs W3 (htg'.out.mono F3.below) hbz'.out; rw [hqz'.out] at hT; have hrq : r = q := hoF'.out; subst hrq; have hT' := Lib.hid hT; have F3' := Lib.hid F3; have C3' := Lib.hid C3; have K3' := Lib.hid K3; have bk3' := Lib.hid bk3; have hb3' := Lib.hid hb3; clear hT F3 C3 K3 bk3 hb3
      gi_wp2_with fail
      refine ⟨trivial, fun _ => by omega, ?_⟩; refine CallsIn.mono (CallsIn.inRound _ (callsIn_wide.2 hT'.out)) ?_; rintro e W4 ⟨rfl, hb4⟩; have F4 := F3'.out.later hb4; have C4 := C3'.out.later hb4; have K4 := K3'.out.trans (KeepA.of_below hb4); clear r1 z1 d0; have r1 : W4.cell? ⟨w.heap.size + 1, 0, none⟩ = some (.bool false) := F4.rb.cell rfl; have z1 := F4.rb.frozen 0; have F4' := Lib.hid F4; have C4' := Lib.hid C4; have K4' := Lib.hid K4; have hb4' := Lib.hid hb4; clear F4 C4 K4 hb4
      cases r
      · gi_wp2_with fail
        exact ⟨F4'.out.no.lb, C4'.out.no.put _, (K4'.out.trans (KeepA.no _)).trans (KeepA.put _ _), rfl, F4'.out.no.put⟩
      · gi_wp2_with fail
        exact ⟨F4'.out.lb, C4'.out.put _, K4'.out.trans (KeepA.put _ _), rfl, F4'.out.put⟩
  case done =>
    rintro e W2 ⟨hv, hF⟩; unfold rfDone; simp only [World.size_alloc, Nat.add_assoc, Nat.reduceAdd]
    cases R with
    | true =>
      refine ⟨hv, .ready, none, by decide, hF.lb, ?_⟩
      dsimp only
      have F2 := hF.put (l' := rec .exhausted none); obtain ⟨W3, hW3⟩ : ∃ W3, W3 = W2.putObj (w.heap.size + 4) (.loop (rec .exhausted none)) := ⟨_, rfl⟩; rw [← hW3] at F2 ⊢; have p1 := F2.rb.cell (i := 0) rfl; have z1 := F2.rb.frozen 0; clear hW3 hF; have F2' := Lib.hid F2; clear F2
      gi_wp2
      obtain ⟨W7, hW7⟩ : ∃ W7, W7 = W3.setCell ⟨w.heap.size + 1, 0, none⟩ (.bool true) := ⟨_, rfl⟩; rw [← hW7]; have b7 : Blk W7 (w.heap.size + 1) 4 #[.bool true] := by rw [hW7]; exact F2'.out.rb.set 0 _
      have e5 : W7.heap[w.heap.size + 3]? = some (.deferred (some [])) := by rw [hW7]; exact (Below.heap_setCell _ _ _ _ (show w.heap.size + 3 ≠ w.heap.size + 1 by omega)).trans F2'.out.df
      have hb7 : Below w.heap.size w W7 := by rw [hW7]; exact F2'.out.below.setCell (p := ⟨w.heap.size + 1, 0, none⟩) (by show w.heap.size ≤ w.heap.size + 1; omega) _
      refine ⟨by simp, .inl ⟨_, _, rfl, run_takeDeferred e5, ?_⟩⟩; have ho : ∀ k, k ≠ w.heap.size + 3 → (W7.putObj (w.heap.size + 3) (.deferred none)).heap[k]? = W7.heap[k]? := fun k hk => World.putObj_heap_other hk; have b8 : Blk (W7.putObj (w.heap.size + 3) (.deferred none)) (w.heap.size + 1) 4 #[.bool true] := (ho _ (by omega)).trans b7; have q0 := b8.cell (i := 0) rfl; exact ⟨.bool true, by simp [results, Tryz.results44, go_sem, q0], rfl, hb7.trans ⟨rfl, rfl, rfl, by simp, fun k hk => ho k (by omega)⟩⟩
    | false =>
      refine ⟨hv, .done, some .ret, by decide, hF.lb, ?_⟩
      dsimp only
      have F2 := hF.put (l' := rec .exhausted (some .ret)); obtain ⟨W3, hW3⟩ : ∃ W3, W3 = W2.putObj (w.heap.size + 4) (.loop (rec .exhausted (some .ret))) := ⟨_, rfl⟩; rw [← hW3] at F2 ⊢; have p1 := F2.rb.cell (i := 0) rfl; clear hW3 hF; have F2' := Lib.hid F2; clear F2
      gi_wp2
      obtain ⟨W7, hW7⟩ : ∃ W7, W7 = W3 := ⟨_, rfl⟩; rw [← hW7]; have b7 : Blk W7 (w.heap.size + 1) 4 #[.bool false] := by rw [hW7]; exact F2'.out.rb
      have e5 : W7.heap[w.heap.size + 3]? = some (.deferred (some [])) := by rw [hW7]; exact F2'.out.df
      have hb7 : Below w.heap.size w W7 := by rw [hW7]; exact F2'.out.below
      refine ⟨by simp, .inl ⟨_, _, rfl, run_takeDeferred e5, ?_⟩⟩; have ho : ∀ k, k ≠ w.heap.size + 3 → (W7.putObj (w.heap.size + 3) (.deferred none)).heap[k]? = W7.heap[k]? := fun k hk => World.putObj_heap_other hk; have b8 : Blk (W7.putObj (w.heap.size + 3) (.deferred none)) (w.heap.size + 1) 4 #[.bool false] := (ho _ (by omega)).trans b7; have q0 := b8.cell (i := 0) rfl; exact ⟨.bool false, by simp [results, Tryz.results44, go_sem, q0], rfl, hb7.trans ⟨rfl, rfl, rfl, by simp, fun k hk => ho k (by omega)⟩⟩
end Go.Proofs.YtceclmpmpldmlaaGreat
