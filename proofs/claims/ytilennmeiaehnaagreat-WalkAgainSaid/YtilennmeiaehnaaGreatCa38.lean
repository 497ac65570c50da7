/- Chapter 22: a walker that begins; the closure that recovers. | Chapter 22: the header. | Chapter 22: the walker reads a block (given that it reads directories). | Chapter 22: walk.Of. | Chapter 22, the plain walk: an error is never 0. -/
import Derived.Recover
import Derived.Test.YtilennmeiaehnaaGreatCa33
import Derived.Test.YtilennmeiaehnaaGreatCa36
import Derived.Test.YtilennmeiaehnaaGreatCa06
namespace Go.Proofs.YtilennmeiaehnaaGreat
open Go.RowKit Tt
set_option linter.unusedVariables false
set_option linter.unusedSimpArgs false

theorem infoU64 : (Tryz.prog.info? 188).map (fun i => (i.zero, i.size, i.bytes)) = some (some (.int .u64 0), 1, 8) := by kernel_rfl
theorem begin_any (a : Option Addr) (n c : Nat) (z : List Int) (sa : Option Addr) (sn sc : Nat) (zs : List Shz) (w : World) (hs : Sl w a n c 1 (ints .u8 z)) (hsh : ShR w sa sn sc zs) (hby : Byt z) (hn : n ≤ 1000000000) :
    Calls Tryz.prog 71 #[.slice a n c, .slice sa sn sc] w fun e w' => ∃ g gt, e = .returned (.pointer (some ⟨g, 0, none⟩)) ∧ WkT ⟨w, a, n, c, z, 0, sa, sn, sc, zs, g, gt, n / 64 + 1⟩ ∧ WkOk ⟨w, a, n, c, z, 0, sa, sn, sc, zs, g, gt, n / 64 + 1⟩ ⟨[], 0, 0⟩ (.slice none 0 0) (List.replicate (n / 64 + 1) 0) w' ∧ Below w.heap.size w w' := by
  obtain ⟨i0, hi, hz0, hz1, hz2⟩ := info_parts infoU64; obtain ⟨L, hL⟩ : ∃ L, n / 64 + 1 = L := ⟨_, rfl⟩; have hL2 : L ≤ 1000000000 := by omega
  have hdiv : (n : Int) / 64 = ((L - 1 : Nat) : Int) := by omega
  have hadd : IntKind.i64.wrap (((L - 1 : Nat) : Int) + 1) = (L : Int) := by rw [IntKind.wrap_i64]; omega
  rw [hL]
  have hrow : (madeCells (Value.int .u64 0).cells (L * 1)).toList = ints .u64 (nats (List.replicate L 0)) := by
    rw [Nat.mul_one]
    show (madeCells #[Value.int .u64 0] L).toList = _
    rw [toList_madeCells_one]; simp [ints, nats]
  have hs' := Lib.hid hs; have hsh' := Lib.hid hsh; have hby' := Lib.hid hby
  have hrow' := Lib.hid hrow; have hL' := Lib.hid hL; clear hs hsh hby hrow hL
  go_enter Tryz.func71, Tryz.ntmps71
  go_wp2_with (at_make; refine wpList_make_full w rfl _ _ 128 rfl w.heap.size 188 i0 _ 1 Tryz.underlying128 hi hz0 hz1 .i64 .i64 _ _ L rfl rfl rfl rfl (by rw [hz2]; omega) (by unfold maxLen; omega) (Nat.le_refl _) ?_; intro w1 hown hg1; have Hown := Lib.hid hown; have Hg1 := Lib.hid hg1; clear hown hg1)
  have R1 : Row w1 w.heap.size 188 .u64 (nats (List.replicate L 0)) := by have h := Hown.out; rw [hrow'.out] at h; exact Row.of_own h
  have hb1 : Below w.heap.size w w1 := (Below.refl _ _).grown Hg1.out (Nat.le_refl _) (fun k e => by cases e); have hlt := Blk.lt (T := 188) R1; have hal := (Below.refl w1.heap.size w1).alloc (Nat.le_refl _) (.cells #[.slice a n c, .int .i64 0, .slice sa sn sc, .slice (some ⟨w.heap.size, 0, none⟩) L L, .slice none 0 0, .int .i64 0, .int .i64 0] 130)
  go_ret
  refine ⟨w1.heap.size, w.heap.size, rfl, ⟨hs'.out, hsh'.out, hby'.out, hn, hL'.out.symm, hb1.size, Nat.le_refl _, by show w1.heap.size ≠ w.heap.size; omega⟩, ⟨hb1.trans (hal.mono hb1.size), Blk.new w1 _ _, Blk.late (T := 188) R1 hal, by simp, fun x hx => by rw [(List.mem_replicate.1 hx).2]; omega, fun k hk => ?_, own_nil _ _ _ _, (fun e => by cases e), (fun e => by cases e)⟩, hb1.trans (hal.mono hb1.size)⟩
  have e : (List.replicate L 0).getD (k / 64) 0 = 0 := by
    rw [List.getD_eq_getElem?_getD, List.getElem?_replicate]
    split <;> rfl
  unfold bitB takenB; rw [e]
  simp
theorem read1_wrong (p q : Addr) (gp gq : Nat) (x : Int) (w : World) (hp : p = ⟨gp, 0, none⟩) (hq : q = ⟨gq, 0, none⟩) (cs : Array Value) (v v2 v3 : Value) (hbp : Blk w gp 24 #[v, v2]) (hbq : Blk w gq 31 #[v3]) (hne : gp ≠ gq) :
    CallsD Tryz.prog 121 #[.pointer (some p), .pointer (some q)] (.panicking (pan x)) w fun e u' w' => e = .returned (.tuple #[]) ∧ u' = .panicking [{ v := .iface 182 (.agg #[.int .i64 x]), recovered := true }] ∧
      Blk w' gp 24 #[.int .i64 0, .slice none 0 0] ∧ Blk w' gq 31 #[.int .i64 x] ∧ (∀ k, k < w.heap.size → k ≠ gp → k ≠ gq → w'.heap[k]? = w.heap[k]?) ∧ w.heap.size ≤ w'.heap.size ∧ w'.os = w.os ∧ w'.tape = w.tape ∧ w'.output = w.output := by
  subst hp hq; refine callsD_of_wpS Tryz.func121 rfl fun c₀ cs hu => ?_; have hta : ∀ W, (Instr.typeAssert (.iface 182 (.agg #[.int .i64 x])) 20 182 true).run Tryz.prog W = .ok (.tuple #[.agg #[.int .i64 x], .bool true]) W := fun W => by kernel_rfl
  simp only [Tryz.ntmps121, List.size_toArray, List.length_cons, List.length_nil, Nat.reduceAdd, Nat.reduceSub, Array.replicate_succ, Array.replicate_zero, List.push_toArray, List.append_toArray, List.nil_append, List.cons_append]; unfold pan at hu
  apply wpS_seq
  apply wpS_region
  simp [wpOpsS, go_sem, recoverD, hu, Exit.thenS]
  refine wpS_of_wp ?_; have hal := (Below.refl w.heap.size w).alloc (Nat.le_refl _) (.cells #[.int .i64 x] 182); have bp := hbp.late hal; have bq := hbq.late hal; have b3 := Blk.new w 182 #[.int .i64 x]; have hbp' := Lib.hid hbp; have hbq' := Lib.hid hbq; have bp' := Lib.hid bp; have bq' := Lib.hid bq; have b3' := Lib.hid b3; have hal' := Lib.hid hal; clear hbp hbq bp bq b3 hal
  go_upto_region 3 with fail
  generalize w.alloc (.cells #[.int .i64 x] 182) = w1 at *
  obtain ⟨g3, hg3⟩ : ∃ g, w.heap.size = g := ⟨_, rfl⟩; rw [hg3] at b3' hal'
  try rw [hg3]
  have hlp : gp < g3 := by rw [← hg3]; exact hbp'.out.lt
  have hlq : gq < g3 := by rw [← hg3]; exact hbq'.out.lt
  obtain ⟨Ty, f, hn, hp3, hsurj⟩ := prop_worlds (fun W => Blk W g3 182 #[.int .i64 x]) w1 b3'.out; have q0 : ∀ s, (f s).cell? ⟨g3, 0, none⟩ = some (.int .i64 x) := fun s => (hp3 s).cell rfl; obtain ⟨wd, hwd⟩ : ∃ wd, w1.drew = wd := ⟨_, rfl⟩; have HS0 := Lib.hid (hsurj w1.drew b3'.out); have b3d : Blk wd g3 182 #[.int .i64 x] := by rw [← hwd]; exact b3'.out
  have bpd : Blk wd gp 24 #[v, v2] := by rw [← hwd]; exact bp'.out
  have bqd : Blk wd gq 31 #[v3] := by rw [← hwd]; exact bq'.out
  have hald : Below g3 w wd := by rw [← hwd]; exact hal'.out.drew
  have p0 : wd.cell? ⟨gp, 0, none⟩ = some v := bpd.cell rfl; have p1 : wd.cell? ⟨gp, 1, none⟩ = some v2 := bpd.cell rfl; have y0 := bpd.frozen 0; have y1 := bpd.frozen 1; have hp3' := Lib.hid hp3; have hsurj' := Lib.hid hsurj; have bpd' := Lib.hid bpd; have bqd' := Lib.hid bqd; have hald' := Lib.hid hald; have hg3' := Lib.hid hg3; have hwd' := Lib.hid hwd; have b3d' := Lib.hid b3d; clear hp3 hsurj bpd bqd hald hg3 hwd b3d; refine held_begin (S := fun W => ∃ s, W = f s) (by kernel_rfl) 5 rfl ?_; refine held_take [0, 1, 2] 2 (by kernel_rfl) (fun d _ _ _ _ h => by cases d <;> exact h) (by kernel_rfl) (by kernel_rfl) (by kernel_rfl) HS0.out ?_; simp only [pickL, List.map_cons, List.map_nil, List.getD_cons_succ, List.getD_cons_zero]
  iterate 3 (go_big_quiet_step (fail))
  refine wpQuiet_nil ?_; clear q0; rw [hwd'.out]; refine held_one 3 1 (by kernel_rfl) (by kernel_rfl) ?_; simp only [pickL, List.map_cons, List.map_nil, List.getD_cons_succ, List.getD_cons_zero]
  go_wp2_with fail
  have bp4 := (bpd'.out.set 0 (.int .i64 0)).set 1 (.slice none 0 0); have bq4 := (bqd'.out.set_other (Ne.symm hne) 0 (.int .i64 0)).set_other (Ne.symm hne) 1 (.slice none 0 0); have b34 := (b3d'.out.set_other (show g3 ≠ gp by omega) 0 (.int .i64 0)).set_other (show g3 ≠ gp by omega) 1 (.slice none 0 0); have hbt := ((But.refl gp wd).set 0 (.int .i64 0)).set 1 (.slice none 0 0); clear p0 p1 y0 y1; obtain ⟨w4, hw4⟩ : ∃ w4, (wd.setCell ⟨gp, 0, none⟩ (.int .i64 0)).setCell ⟨gp, 1, none⟩ (.slice none 0 0) = w4 := ⟨_, rfl⟩; rw [hw4] at bp4 bq4 b34 hbt
  try rw [hw4]
  clear hw4; have HS := Lib.hid (hsurj'.out w4 b34); have p0 : w4.cell? ⟨gq, 0, none⟩ = some v3 := bq4.cell rfl; have y0 := bq4.frozen 0; have bp4' := Lib.hid bp4; have bq4' := Lib.hid bq4; have b34' := Lib.hid b34; have hbt' := Lib.hid hbt; clear bp4 bq4 b34 hbt
  first | refine Mid.mk ⟨HS.out, ?_⟩ | refine Mid.mk ?_
  refine held_one 4 0 (by kernel_rfl) (by kernel_rfl) ?_; simp only [pickL, List.map_cons, List.map_nil, List.getD_cons_succ, List.getD_cons_zero]
  go_wp2_with fail
  have b35 := b34'.out.set_other (show g3 ≠ gq by omega) 0 (.int .i64 x); have HS := Lib.hid (hsurj'.out _ b35); refine Mid.mk ⟨HS.out, ?_⟩; refine held_last (by kernel_rfl) ?_; clear p0 y0; have hbt5 := (But.refl gq w4).set 0 (.int .i64 x); have bp5 := bp4'.out.set_other hne 0 (.int .i64 x); have bq5 := bq4'.out.set 0 (.int .i64 x); have hh : ∀ k, k < w.heap.size → k ≠ gp → k ≠ gq → (w4.setCell ⟨gq, 0, none⟩ (.int .i64 x)).heap[k]? = w.heap[k]? := fun k hk h1 h2 => (hbt5.block k (by have := hbt'.out.size; have := hald'.out.size; have := hg3'.out; omega) h2).trans ((hbt'.out.block k (by have := hald'.out.size; have := hg3'.out; omega) h1).trans (hald'.out.block k (by have := hg3'.out; omega))); have hsz : w.heap.size ≤ (w4.setCell ⟨gq, 0, none⟩ (.int .i64 x)).heap.size := by have h1 := hbt5.size; have h2 := hbt'.out.size; have h3 := hald'.out.size; have h4 := hg3'.out; omega
  have ho := hbt5.os.trans (hbt'.out.os.trans hald'.out.os); have ht := hbt5.tape.trans (hbt'.out.tape.trans hald'.out.tape); have hou := hbt5.output.trans (hbt'.out.output.trans hald'.out.output); have bp5' := Lib.hid bp5; have bq5' := Lib.hid bq5; have hh' := Lib.hid hh; have hsz' := Lib.hid hsz; have ho' := Lib.hid ho; have ht' := Lib.hid ht; have hou' := Lib.hid hou; clear bp5 bq5 hh hsz ho ht hou
  go_wp2_with fail
  cases c₀
  exact ⟨rfl, _, rfl, _, results_none rfl _ _ _, rfl, rfl, bp5'.out, bq5'.out, hh'.out, hsz'.out, ho'.out, ht'.out, hou'.out⟩
theorem read1_idle (p q : Addr) (w : World) :
    CallsD Tryz.prog 121 #[.pointer (some p), .pointer (some q)] .returning w fun e u' w' => e = .returned (.tuple #[]) ∧ u' = .returning ∧ Below w.heap.size w w' := by
  refine callsD_of_wpS Tryz.func121 rfl fun c₀ cs hu => ?_; have hta : ∀ W, (Instr.typeAssert .nilIface 20 182 true).run Tryz.prog W = .ok (.tuple #[.agg #[.int .i64 0], .bool false]) W := fun W => by kernel_rfl
  simp only [Tryz.ntmps121, List.size_toArray, List.length_cons, List.length_nil, Nat.reduceAdd, Nat.reduceSub, Array.replicate_succ, Array.replicate_zero, List.push_toArray, List.append_toArray, List.nil_append, List.cons_append]
  apply wpS_seq
  apply wpS_region
  simp [wpOpsS, go_sem, recoverD, hu, Exit.thenS]
  refine wpS_of_wp ?_
  go_wp2
  cases c₀
  simp_all [bodyPostS, results, Tryz.results121]
  exact (Below.refl _ _).alloc (Nat.le_refl _) _
end Go.Proofs.YtilennmeiaehnaaGreat

namespace Go.Proofs.YtilennmeiaehnaaGreat
open Go.RowKit Tt
set_option linter.unusedVariables false
set_option linter.unusedSimpArgs false

theorem sign_eq {z : List Int} (hb : Byt z) (h : 2 ≤ z.length) (x y : Int) (hx : 0 ≤ x ∧ x < 256) (hy : 0 ≤ y ∧ y < 256) : ((strOfNums (z.take 2)).toList == (strOfNums [x, y]).toList) = (decide (z.getD 0 0 = x) && decide (z.getD 1 0 = y)) := by
  rw [str_beq (hb.take _) (fun u hu => by simp at hu; rcases hu with rfl | rfl <;> assumption)]
  match z, h with
  | a :: b :: r, _ =>
    rw [Bool.eq_iff_iff]
    simp
/-- K, with the order -/
abbrev ord (K : WkS) (o : Int) : WkS := { K with o := o }
theorem WkT.ord {K : WkS} (t : WkT K) (o : Int) : WkT (ord K o) := ⟨t.hs, t.hsh, t.byt, t.n1, t.tn, t.gB, t.gtB, t.ne⟩
set_option maxRecDepth 20000 in
set_option maxHeartbeats 8000000 in
theorem header_any (K : WkS) (t : WkT K) (hK : K.o = 0) (sv : Value) (tk : List Nat) (w : World) (hok : WkOk K ⟨[], 0, 0⟩ sv tk w) :
    Calls Tryz.prog 123 #[.pointer (some ⟨K.g, 0, none⟩)] w (WPost (ord K (orderS K.z)) sv w (unitR (headS K.z)) fun _ _ e _ => e = .returned (.int .i64 (getV K.z 4 4 (orderS K.z)))) := by
  have hn := t.n1; have hzl := t.hs.ilen; have hle := t.hs.le; obtain ⟨R, hR⟩ : ∃ R, headS K.z = R := ⟨_, rfl⟩; rw [hR]; unfold headS at hR; rw [hzl] at hR; have c0 : w.cell? ⟨K.g, 0, none⟩ = some (.slice K.a K.n K.c) := hok.blk.cell rfl; have c1 : w.cell? ⟨K.g, 1, none⟩ = some (.int .i64 0) := by have := hok.blk.cell (i := 1) rfl; rw [hK] at this; exact this
  have y1 := hok.blk.frozen 1
  by_cases h8 : 8 ≤ K.n
  case neg =>
    obtain rfl : R = .error 3 := by rw [← hR, if_neg h8]
    have d1 : decide ((8 : Int) ≤ K.n) = false := by simp; omega
    have d2 : decide (8 ≤ K.n) = false := by simp; omega
    clear hR h8; have hok' := Lib.hid hok; have t' := Lib.hid t; have hzl' := Lib.hid hzl; clear hok t hzl
    go_enter Tryz.func123, Tryz.ntmps123
    go_wp2_with (go_at_call 122; refine (must_any _ _ _).mono ?_; rintro e w3 ⟨rfl, rfl⟩; simp only [mustE_t, mustE_f])
    exact ⟨rfl, rfl, sv, Mv.refl _ _ _ _⟩
  rw [if_pos h8] at hR; have d1 : decide ((8 : Int) ≤ K.n) = true := by simp; omega
  have d2 : decide (8 ≤ K.n) = true := by simp; omega
  obtain ⟨a2, hsl, hs2, hin2⟩ := sub_h (P := Tryz.prog) (T := 30) (E := 5) (sz := 1) Tryz.underlying30 (fun W => by kernel_rfl) (hok.byts t) (2 : Int) (by omega) (by omega) 2 rfl; rw [show 2 * 1 = 2 from rfl, show (ints .u8 K.z).take 2 = ints .u8 (K.z.take 2) by simp [ints]] at hs2; have hcv := conv_run (P := Tryz.prog) hs2 30 5 9 Tryz.underlying30 Tryz.underlying5 Tryz.underlying9; have hI := sign_eq t.byt (by rw [hzl]; omega) 73 73 (by decide) (by decide); have hM := sign_eq t.byt (by rw [hzl]; omega) 77 77 (by decide) (by decide); rw [show (strOfNums [73, 73]).toList = [73, 73] by rw [Lib.strOfNums_toList]; rfl] at hI; rw [show (strOfNums [77, 77]).toList = [77, 77] by rw [Lib.strOfNums_toList]; rfl] at hM; have hord : orderS K.z = if (decide (K.z.getD 0 0 = 73) && decide (K.z.getD 1 0 = 73)) = true then 1 else if (decide (K.z.getD 0 0 = 77) && decide (K.z.getD 1 0 = 77)) = true then 2 else 0 := by unfold orderS; simp
  generalize (decide (K.z.getD 0 0 = 73) && decide (K.z.getD 1 0 = 73)) = bI at *
  generalize (decide (K.z.getD 0 0 = 77) && decide (K.z.getD 1 0 = 77)) = bM at *
  have hok' := Lib.hid hok; have t' := Lib.hid t; have hzl' := Lib.hid hzl; have hs2' := Lib.hid hs2; have hin2' := Lib.hid hin2; have hR' := Lib.hid hR; clear hok t hzl hs2 hin2 hR
  cases bI with
  | true =>
    obtain ⟨o, ho⟩ : ∃ o : Int, o = 1 := ⟨1, rfl⟩; have hoo : orderS K.z = o := by rw [hord, ho]; rfl
    have ho12 : o = 1 ∨ o = 2 := .inl ho; clear hord; rw [hoo] at hR' ⊢; have hbt := (But.refl K.g w).set 1 (.int .i64 1)
    have hokO : WkOk (ord K o) ⟨[], 0, 0⟩ sv tk (w.setCell ⟨K.g, 1, none⟩ (.int .i64 1)) :=
      ⟨hok'.out.old.trans (hbt.below t'.out.gB hok'.out.old.size), by have h := hok'.out.blk.set 1 (.int .i64 1); rw [← ho] at h ⊢; exact h, Blk.but (T := 188) hok'.out.tak hbt (Ne.symm t'.out.ne), hok'.out.tkl, hok'.out.tkb, hok'.out.bits, own_but hok'.out.spot hbt hok'.out.sg, hok'.out.sg, hok'.out.sgt⟩
    have hmvO := Mv.of_but (g := K.g) (gt := K.gt) (sv := sv) hbt (.inl rfl); have tO := WkT.ord t'.out o; have c0' : (w.setCell ⟨K.g, 1, none⟩ (.int .i64 1)).cell? ⟨K.g, 0, none⟩ = some (.slice K.a K.n K.c) := hokO.blk.cell rfl; have c1' : (w.setCell ⟨K.g, 1, none⟩ (.int .i64 1)).cell? ⟨K.g, 1, none⟩ = some (.int .i64 1) := (hokO.blk.cell (i := 1) (v := .int .i64 o) rfl).trans (by rw [ho]); clear hbt; have hokO' := Lib.hid hokO; have hmvO' := Lib.hid hmvO; have tO' := Lib.hid tO; have ho' := Lib.hid ho; clear hokO hmvO tO ho
    go_enter Tryz.func123, Tryz.ntmps123
    go_upto_region 7 with (go_at_call 122; refine (must_any _ _ _).mono ?_; rintro e w3 ⟨rfl, rfl⟩; simp only [mustE_t, mustE_f])
    clear c0 c1 y1 hcv
    generalize w.setCell ⟨K.g, 1, none⟩ (.int .i64 1) = wO at *
    obtain ⟨v, hv⟩ : ∃ v, getV K.z 2 2 o = v := ⟨_, rfl⟩
    have hNm1 : Calls Tryz.prog 157 #[.agg #[.slice K.a K.n K.c, .int .i64 1], .int .i64 2, .int .i64 2] wO fun e w' => e = .returned (.int .i64 v) ∧ Below wO.heap.size wO w' := by
      have h := bnum_any K.a K.n K.c K.z o 2 2 wO (hokO'.out.byts tO'.out) t'.out.byt; rw [hv] at h; rw [ho'.out] at h; exact h
    rw [hv] at hR'; have hNm1' := Lib.hid hNm1; clear hNm1
    by_cases h42 : v = 42
    case neg =>
      have d3 : (v == 42) = false := by simp [h42]
      obtain rfl : R = .error 2 := by rw [← hR'.out, if_neg (fun h => h42 h.2)]
      clear h42
      go_wp2_with (first | (go_at_call 157; refine (hNm1'.out).mono ?_; rintro e w4 ⟨rfl, hb4⟩; have HB4 := Lib.hid hb4; clear hb4) | (go_at_call 122; refine (must_any _ _ _).mono ?_; rintro e w3 ⟨rfl, rfl⟩; simp only [mustE_t, mustE_f]))
      exact ⟨rfl, rfl, sv, hmvO'.out.later HB4.out⟩
    case pos =>
      have d3 : (v == 42) = true := by simp [h42]
      have hR2 := hR'.out; rw [if_pos ⟨by omega, h42⟩] at hR2; clear h42
      go_wp2_with (first | (go_at_call 157; refine (hNm1'.out).mono ?_; rintro e w4 ⟨rfl, hb4⟩; have HB4 := Lib.hid hb4; clear hb4) | (go_at_call 122; refine (must_any _ _ _).mono ?_; rintro e w3 ⟨rfl, rfl⟩; simp only [mustE_t, mustE_f]))
      have hok4 := hokO'.out.later HB4.out; have HT := take_any (ord K o) tO'.out ⟨[], 0, 0⟩ sv tk w4 (1, -1, 0, 0, 8) hok4 0 8 rfl rfl (by decide) (by decide) (by show 0 ≤ _; omega); obtain ⟨T, hT⟩ : ∃ T, takeS K.n (1, -1, 0, 0, 8) ⟨[], 0, 0⟩ = T := ⟨_, rfl⟩; rw [show takeS (ord K o).n (1, -1, 0, 0, 8) ⟨[], 0, 0⟩ = T from hT] at HT; rw [hT] at hR2; clear hok4; have HT' := Lib.hid HT; have hR2' := Lib.hid hR2; clear HT hR2; refine HT'.out.mono ?_; rintro e w5 hpost
      cases T with
      | error y =>
        obtain rfl : R = .error y := hR2'.out.symm; obtain ⟨rfl, sv', hmv⟩ := hpost; have hmv' := Lib.hid hmv; clear hmv
        go_wp2_with fail
        exact ⟨rfl, rfl, sv', (hmvO'.out.later HB4.out).trans hmv'.out⟩
      | ok s5 =>
        obtain rfl : R = .ok s5 := hR2'.out.symm; obtain ⟨sv5, tk5, hok5, hmv5, rfl⟩ := hpost; have c0'' : w5.cell? ⟨K.g, 0, none⟩ = some (.slice K.a K.n K.c) := hok5.blk.cell rfl; have c1'' : w5.cell? ⟨K.g, 1, none⟩ = some (.int .i64 1) := (hok5.blk.cell (i := 1) (v := .int .i64 o) rfl).trans (by rw [ho'.out])
        have hNm2 : Calls Tryz.prog 157 #[.agg #[.slice K.a K.n K.c, .int .i64 1], .int .i64 4, .int .i64 4] w5 fun e w' => e = .returned (.int .i64 (getV K.z 4 4 o)) ∧ Below w5.heap.size w5 w' := by
          have h := bnum_any K.a K.n K.c K.z o 4 4 w5 (hok5.byts tO'.out) t'.out.byt; have e : (Value.int .i64 (1 : Int)) = .int .i64 o := by rw [ho'.out]
          rw [e]; exact h
        clear c0' c1'; have hok5' := Lib.hid hok5; have hmv5' := Lib.hid hmv5; have hNm2' := Lib.hid hNm2; clear hok5 hmv5 hNm2
        go_wp2_with (go_at_call 157; refine (hNm2'.out).mono ?_; rintro e w6 ⟨rfl, hb6⟩; have HB6 := Lib.hid hb6; clear hb6)
        go_ret
        exact ⟨sv5, tk5, hok5'.out.later HB6.out, ((hmvO'.out.later HB4.out).trans hmv5'.out).later HB6.out, rfl⟩
  | false =>
    cases bM with
    | true =>
      obtain ⟨o, ho⟩ : ∃ o : Int, o = 2 := ⟨2, rfl⟩; have hoo : orderS K.z = o := by rw [hord, ho]; rfl
      have ho12 : o = 1 ∨ o = 2 := .inr ho; clear hord; rw [hoo] at hR' ⊢; have hbt := (But.refl K.g w).set 1 (.int .i64 2)
      have hokO : WkOk (ord K o) ⟨[], 0, 0⟩ sv tk (w.setCell ⟨K.g, 1, none⟩ (.int .i64 2)) :=
        ⟨hok'.out.old.trans (hbt.below t'.out.gB hok'.out.old.size), by have h := hok'.out.blk.set 1 (.int .i64 2); rw [← ho] at h ⊢; exact h, Blk.but (T := 188) hok'.out.tak hbt (Ne.symm t'.out.ne), hok'.out.tkl, hok'.out.tkb, hok'.out.bits, own_but hok'.out.spot hbt hok'.out.sg, hok'.out.sg, hok'.out.sgt⟩
      have hmvO := Mv.of_but (g := K.g) (gt := K.gt) (sv := sv) hbt (.inl rfl); have tO := WkT.ord t'.out o; have c0' : (w.setCell ⟨K.g, 1, none⟩ (.int .i64 2)).cell? ⟨K.g, 0, none⟩ = some (.slice K.a K.n K.c) := hokO.blk.cell rfl; have c1' : (w.setCell ⟨K.g, 1, none⟩ (.int .i64 2)).cell? ⟨K.g, 1, none⟩ = some (.int .i64 2) := (hokO.blk.cell (i := 1) (v := .int .i64 o) rfl).trans (by rw [ho]); clear hbt; have hokO' := Lib.hid hokO; have hmvO' := Lib.hid hmvO; have tO' := Lib.hid tO; have ho' := Lib.hid ho; clear hokO hmvO tO ho
      go_enter Tryz.func123, Tryz.ntmps123
      go_upto_region 7 with (go_at_call 122; refine (must_any _ _ _).mono ?_; rintro e w3 ⟨rfl, rfl⟩; simp only [mustE_t, mustE_f])
      clear c0 c1 y1 hcv
      generalize w.setCell ⟨K.g, 1, none⟩ (.int .i64 2) = wO at *
      obtain ⟨v, hv⟩ : ∃ v, getV K.z 2 2 o = v := ⟨_, rfl⟩
      have hNm1 : Calls Tryz.prog 157 #[.agg #[.slice K.a K.n K.c, .int .i64 2], .int .i64 2, .int .i64 2] wO fun e w' => e = .returned (.int .i64 v) ∧ Below wO.heap.size wO w' := by
        have h := bnum_any K.a K.n K.c K.z o 2 2 wO (hokO'.out.byts tO'.out) t'.out.byt; rw [hv] at h; rw [ho'.out] at h; exact h
      rw [hv] at hR'; have hNm1' := Lib.hid hNm1; clear hNm1
      by_cases h42 : v = 42
      case neg =>
        have d3 : (v == 42) = false := by simp [h42]
        obtain rfl : R = .error 2 := by rw [← hR'.out, if_neg (fun h => h42 h.2)]
        clear h42
        go_wp2_with (first | (go_at_call 157; refine (hNm1'.out).mono ?_; rintro e w4 ⟨rfl, hb4⟩; have HB4 := Lib.hid hb4; clear hb4) | (go_at_call 122; refine (must_any _ _ _).mono ?_; rintro e w3 ⟨rfl, rfl⟩; simp only [mustE_t, mustE_f]))
        exact ⟨rfl, rfl, sv, hmvO'.out.later HB4.out⟩
      case pos =>
        have d3 : (v == 42) = true := by simp [h42]
        have hR2 := hR'.out; rw [if_pos ⟨by omega, h42⟩] at hR2; clear h42
        go_wp2_with (first | (go_at_call 157; refine (hNm1'.out).mono ?_; rintro e w4 ⟨rfl, hb4⟩; have HB4 := Lib.hid hb4; clear hb4) | (go_at_call 122; refine (must_any _ _ _).mono ?_; rintro e w3 ⟨rfl, rfl⟩; simp only [mustE_t, mustE_f]))
        have hok4 := hokO'.out.later HB4.out; have HT := take_any (ord K o) tO'.out ⟨[], 0, 0⟩ sv tk w4 (1, -1, 0, 0, 8) hok4 0 8 rfl rfl (by decide) (by decide) (by show 0 ≤ _; omega); obtain ⟨T, hT⟩ : ∃ T, takeS K.n (1, -1, 0, 0, 8) ⟨[], 0, 0⟩ = T := ⟨_, rfl⟩; rw [show takeS (ord K o).n (1, -1, 0, 0, 8) ⟨[], 0, 0⟩ = T from hT] at HT; rw [hT] at hR2; clear hok4; have HT' := Lib.hid HT; have hR2' := Lib.hid hR2; clear HT hR2; refine HT'.out.mono ?_; rintro e w5 hpost
        cases T with
        | error y =>
          obtain rfl : R = .error y := hR2'.out.symm; obtain ⟨rfl, sv', hmv⟩ := hpost; have hmv' := Lib.hid hmv; clear hmv
          go_wp2_with fail
          exact ⟨rfl, rfl, sv', (hmvO'.out.later HB4.out).trans hmv'.out⟩
        | ok s5 =>
          obtain rfl : R = .ok s5 := hR2'.out.symm; obtain ⟨sv5, tk5, hok5, hmv5, rfl⟩ := hpost; have c0'' : w5.cell? ⟨K.g, 0, none⟩ = some (.slice K.a K.n K.c) := hok5.blk.cell rfl; have c1'' : w5.cell? ⟨K.g, 1, none⟩ = some (.int .i64 2) := (hok5.blk.cell (i := 1) (v := .int .i64 o) rfl).trans (by rw [ho'.out])
          have hNm2 : Calls Tryz.prog 157 #[.agg #[.slice K.a K.n K.c, .int .i64 2], .int .i64 4, .int .i64 4] w5 fun e w' => e = .returned (.int .i64 (getV K.z 4 4 o)) ∧ Below w5.heap.size w5 w' := by
            have h := bnum_any K.a K.n K.c K.z o 4 4 w5 (hok5.byts tO'.out) t'.out.byt; have e : (Value.int .i64 (2 : Int)) = .int .i64 o := by rw [ho'.out]
            rw [e]; exact h
          clear c0' c1'; have hok5' := Lib.hid hok5; have hmv5' := Lib.hid hmv5; have hNm2' := Lib.hid hNm2; clear hok5 hmv5 hNm2
          go_wp2_with (go_at_call 157; refine (hNm2'.out).mono ?_; rintro e w6 ⟨rfl, hb6⟩; have HB6 := Lib.hid hb6; clear hb6)
          go_ret
          exact ⟨sv5, tk5, hok5'.out.later HB6.out, ((hmvO'.out.later HB4.out).trans hmv5'.out).later HB6.out, rfl⟩
    | false =>
      have hoo : orderS K.z = 0 := by rw [hord]; rfl
      obtain rfl : R = .error 2 := by rw [← hR'.out, hoo]; rfl
      clear hord
      go_enter Tryz.func123, Tryz.ntmps123
      go_wp2_with (go_at_call 122; refine (must_any _ _ _).mono ?_; rintro e w3 ⟨rfl, rfl⟩; simp only [mustE_t, mustE_f])
      exact ⟨rfl, rfl, sv, Mv.refl _ _ _ _⟩
end Go.Proofs.YtilennmeiaehnaaGreat

namespace Tt
open Go Go.RowKit
theorem results_blk_cell {P : Program} {fn : Func} {p q : Tmp} {ty ty2 : TypeId} (h : fn.results = #[.cell p ty, .cell q ty2]) (tmps : Array Value) (w : World) (gp gq : Nat) (t : TypeId) (cs : Array Value) (d : TypeDesc) (v : Value)
    (hp : tmps.getD p undef = .pointer (some ⟨gp, 0, none⟩)) (hq : tmps.getD q undef = .pointer (some ⟨gq, 0, none⟩)) (hg : Blk w gp t cs)
    (hu : P.underlying ty = some d) (hd : (match d with | .struct _ | .array _ _ => true | _ => false) = true) (hi : (P.info? ty).map (·.size) = some cs.size)
    (hag : ∀ W, (isAgg ty2).run P W = .ok false W) (hc : w.cell? ⟨gq, 0, none⟩ = some v) :
    (results fn tmps).run P w = .ok (.tuple #[.agg cs, v]) w := by
  have e : (results fn tmps).run P w = ((asAddr (tmps.getD p undef)).run P w).andThen fun a w₁ => ((loadVar ty a).run P w₁).andThen fun x w₂ => ((asAddr (tmps.getD q undef)).run P w₂).andThen fun b w₃ => ((loadVar ty2 b).run P w₃).andThen fun y w₄ => .ok (.tuple #[x, y]) w₄ := by
    simp only [results, h]
    simp [Sem.run_bind, Result.andThen]
  have e2 : (loadVar ty2 ⟨gq, 0, none⟩).run P w = .ok v w := by
    simp [loadVar, Sem.run_bind, hag, Result.andThen, go_sem, hc]
  rw [e, hp, hq]
  simp [asAddr, Result.andThen, run_loadVar_row w gp t ty cs (0, 0) d hg hu hd hi, e2]
end Tt
namespace Go.Proofs.YtilennmeiaehnaaGreat
open Go.RowKit Tt
set_option linter.unusedVariables false
set_option linter.unusedSimpArgs false

def lenOf (v : Value) : Nat := match v with
  | .slice _ n _ => n
  | _ => 0
theorem len_down {a b : Value} {x y : Option Value} (hx : x = some a) (hy : y = some b) (h : 18 - lenOf a < 18 - lenOf b) : 18 - lenOf (x.getD undef) < 18 - lenOf (y.getD undef) := by
  subst hx hy; exact h
theorem DirsAt.snoc {X : Nat → Prop} {B : Nat} {w w' : World} {v v' : Value} {ds : List (DirT 16)} {d : DirT 16} {dz : Dz} (h : ∃ dzs : List Dz, dzs.length = ds.length ∧ Ck X B w v 42 3 dzs.length (fl dvC dzs) ∧ ∀ i (h : i < dzs.length) (h' : i < ds.length), DirAt X B w 16 ds[i] dzs[i]) (hg : w.grownBy w' v.ownBlock) (hX : ∀ k, v'.ownBlock = some k → ¬ X k)
    (ob : ∀ dzs : List Dz, w.ownsRow B 42 3 v ds.length (fl dvC dzs) → w'.ownsRow B 42 3 v' (ds.length + 1) (fl dvC dzs ++ dvC dz)) (hd : DirAt X B w 16 d dz) :
    ∃ dzs : List Dz, dzs.length = (ds ++ [d]).length ∧ Ck X B w' v' 42 3 dzs.length (fl dvC dzs) ∧ ∀ i (h : i < dzs.length) (h' : i < (ds ++ [d]).length), DirAt X B w' 16 (ds ++ [d])[i] dzs[i] := by
  obtain ⟨dzs, h1, h2, h3⟩ := h
  have key : ∀ {f : Nat} {d : DirT f} {z : Dz}, DirAt X B w f d z → DirAt X B w' f d z := fun hh => by
    rcases h2.1.2 with ⟨rfl, _⟩ | ⟨g, cap, cur, rfl, _, hgg, _⟩
    · exact hh.keep (Kp.later (grown_below hg))
    · exact hh.butT (grown_but hg) hgg
  refine ⟨dzs ++ [dz], by simp [h1], ⟨?_, hX⟩, fun i hi hi' => ?_⟩
  · rw [List.length_append, fl_snoc, List.length_singleton, h1]
    exact ob dzs (by rw [← h1]; exact h2.1)
  · by_cases hi2 : i < dzs.length
    · rw [List.getElem_append_left hi2, List.getElem_append_left (by omega)]
      exact key (h3 i hi2 (by omega))
    · have hie : i = dzs.length := by simp at hi; omega
      subst hie; rw [List.getElem_append_right (Nat.le_refl _), List.getElem_append_right (by omega)]; simp only [Nat.sub_self, List.getElem_cons_zero, h1]; exact key hd
theorem wk_grown {K : WkS} {s : St} {sv : Value} {tk : List Nat} {w w' : World} {row : Option Nat} (h : WkOk K s sv tk w) (hg : w.grownBy w' row) (hr : ∀ r, row = some r → r ≠ K.g ∧ r ≠ K.gt ∧ sv.ownBlock ≠ some r ∧ K.w0.heap.size ≤ r) : WkOk K s sv tk w' := by
  cases row with
  | none => exact h.later (grown_below hg)
  | some r => have q := hr r rfl; exact h.but (grown_but hg) q.1 q.2.1 q.2.2.1 q.2.2.2
theorem mv_grown {g gt : Nat} {sv sv' : Value} {w w8 w9 : World} {row : Option Nat} (m : Mv g gt sv sv' w w8) (hg : w8.grownBy w9 row) (hr : ∀ r, row = some r → w.heap.size ≤ r) : Mv g gt sv sv' w w9 := by
  cases row with
  | none => exact m.later (grown_below hg)
  | some r => exact m.new_set (hr r rfl) (grown_but hg)
/-- what is to be shown of the walker's dir -/
abbrev DirOk : Prop := ∀ (K : WkS) (t : WkT K) (ho : K.o = 1 ∨ K.o = 2) (hval : shapesB (shps K.zs) = true) (f : Nat) (p : Int) (sh : Nat) (s : St) (sv : Value) (tk : List Nat) (w : World), WkOk K s sv tk w → Inv K.n s → 0 ≤ p → p ≤ 4294967295 → sh < K.sn → K.sn ≤ sh + f →
    Calls Tryz.prog 124 #[.pointer (some ⟨K.g, 0, none⟩), .int .i64 p, .int .i64 sh] w (WPost K sv w (dirS K.z K.o (shps K.zs) f p sh s) (DirIs f w))
/-- directories in memory -/
def DirsAt (X : Nat → Prop) (B : Nat) (w : World) (v : Value) (ds : List (DirT 16)) : Prop :=
  ∃ dzs : List Dz, dzs.length = ds.length ∧ Ck X B w v 42 3 dzs.length (fl dvC dzs) ∧ ∀ i (h : i < dzs.length) (h' : i < ds.length), DirAt X B w 16 ds[i] dzs[i]
theorem infoDi : (Tryz.prog.info? 42).map (fun i => (i.size, i.bytes)) = some (3, 72) := by kernel_rfl
theorem infoDiz : (Tryz.prog.info? 42).map (fun i => i.zero.map (fun z => z.cells.size)) = some (some 3) := by kernel_rfl
def ReadPost (K : WkS) (sv : Value) (w : World) (R : Except Int (List (DirT 16) × St)) (e : Ending) (w' : World) : Prop := match R with
  | .error x => e = .returned (.tuple #[.agg #[.int .i64 0, .slice none 0 0], .int .i64 x]) ∧ ∃ sv', Mv K.g K.gt sv sv' w w'
  | .ok (ds, s') => ∃ sv' tk' a m c, e = .returned (.tuple #[.agg #[.int .i64 (orderS K.z), .slice a m c], .int .i64 0]) ∧ WkOk (ord K (orderS K.z)) s' sv' tk' w' ∧ Mv K.g K.gt sv sv' w w' ∧ DirsAt (Xv sv') w.heap.size w' (.slice a m c) ds
/-- the named results, and all else, behind an error -/
theorem mv_err {g gt gp gq : Nat} {sv sv' : Value} {w w1 w2 : World} (m : Mv g gt sv sv' w w1) (hp : w.heap.size ≤ gp) (hq : w.heap.size ≤ gq) (h : ∀ k, k < w1.heap.size → k ≠ gp → k ≠ gq → w2.heap[k]? = w1.heap[k]?) (hs : w1.heap.size ≤ w2.heap.size) (ho : w2.os = w1.os) (ht : w2.tape = w1.tape) (hu : w2.output = w1.output) : Mv g gt sv sv' w w2 :=
  ⟨ho.trans m.os, ht.trans m.tape, hu.trans m.output, Nat.le_trans m.size hs, fun k hk h1 h2 h3 => (h k (Nat.lt_of_lt_of_le hk m.size) (by omega) (by omega)).trans (m.block k hk h1 h2 h3), m.own⟩
set_option maxRecDepth 20000 in
set_option maxHeartbeats 8000000 in
theorem read_any (hD : DirOk) (K : WkS) (t : WkT K) (hK : K.o = 0) (sv : Value) (tk : List Nat) (w : World) (hok : WkOk K ⟨[], 0, 0⟩ sv tk w) :
    Calls Tryz.prog 72 #[.pointer (some ⟨K.g, 0, none⟩)] w (ReadPost K sv w (readS K.z (shps K.zs))) := by
  have hn := t.n1; have hzl := t.hs.ilen; have hsl := t.hsh.len; have hmf : ∀ (fn : Fn) (first cap : Array Value) (w : World), (Instr.makeFunc fn first cap).run Tryz.prog w = .ok (.func fn first cap) w := fun _ _ _ _ => rfl; obtain ⟨R, hR⟩ : ∃ R, readS K.z (shps K.zs) = R := ⟨_, rfl⟩; rw [hR]; unfold readS at hR; obtain ⟨W, hW⟩ : ∃ W, (w.alloc (.cells #[.int .i64 0, .slice none 0 0] 24)).alloc (.cells #[.int .i64 0] 31) = W := ⟨_, rfl⟩; have bp : Blk W w.heap.size 24 #[.int .i64 0, .slice none 0 0] := by rw [← hW]; exact (Blk.new w _ _).alloc _
  have bq : Blk W (w.heap.size + 1) 31 #[.int .i64 0] := by rw [← hW]; exact heap_new' _ _ (by simp)
  have hbW : Below w.heap.size w W := by rw [← hW]; exact (((Below.refl w.heap.size w).alloc (Nat.le_refl _) _).alloc (by simp) _)
  have hokW := hok.later hbW; have c2 : W.cell? ⟨K.g, 2, none⟩ = some (.slice K.sa K.sn K.sc) := hokW.blk.cell rfl; have hSh := fun W' (h : Below W.heap.size W W') => shapes_any K.sa K.sn K.sc K.zs W' ((hokW.shps t).mono h); have hgw : K.g < w.heap.size := hok.blk.lt; have hgtw : K.gt < w.heap.size := Blk.lt (T := 188) hok.tak; obtain ⟨shb, hshb⟩ : ∃ b, shapesB (shps K.zs) = b := ⟨_, rfl⟩; rw [hshb] at hSh hR; have hD' := Lib.hid hD; have hok' := Lib.hid hok; have t' := Lib.hid t; have hzl' := Lib.hid hzl; have hsl' := Lib.hid hsl; have hR' := Lib.hid hR; have bp' := Lib.hid bp; have bq' := Lib.hid bq; have hbW' := Lib.hid hbW; have hokW' := Lib.hid hokW; have hSh' := Lib.hid hSh; have hshb' := Lib.hid hshb; clear hD hok t hzl hsl hR bp bq hbW hokW hSh hshb
  go_enter_defers Tryz.func72, Tryz.ntmps72
  go_upto_region 2 with fail
  try rw [hW]
  clear hW
  go_wp2_with fail
  refine (hSh'.out _ (Below.refl _ _)).mono ?_; rintro e w1 ⟨rfl, hb1⟩; have bp1 := bp'.out.late hb1; have bq1 := bq'.out.late hb1; have hok1 := hokW'.out.later hb1; have hbw1 := hbW'.out.trans (hb1.mono hbW'.out.size); clear c2 hb1 bp' bq' hbW' hokW' hSh'; have bp1' := Lib.hid bp1; have bq1' := Lib.hid bq1; have hok1' := Lib.hid hok1; have hbw1' := Lib.hid hbw1; clear bp1 bq1 hok1 hbw1
  cases shb with
  | false =>
    obtain rfl : R = .error 1 := by rw [← hR'.out]; rfl
    go_wp2_with (go_at_call 122; refine (must_any _ _ _).mono ?_; rintro e w3 ⟨rfl, rfl⟩; simp only [mustE_t, mustE_f])
    refine leaves_cons (f := 121) (args := #[.pointer (some ⟨w.heap.size, 0, none⟩), .pointer (some ⟨w.heap.size + 1, 0, none⟩)]) (by simp) (by simp [go_sem]) ?_; refine (read1_wrong _ _ w.heap.size (w.heap.size + 1) 1 w1 rfl rfl #[] _ _ _ bp1'.out bq1'.out (by omega)).mono ?_; rintro e u' w9 ⟨rfl, rfl, bp9, bq9, hh9, hs9, ho9, ht9, hu9⟩; refine ⟨_, results_blk_cell rfl _ _ w.heap.size (w.heap.size + 1) 24 #[.int .i64 0, .slice none 0 0] _ (.int .i64 1) rfl rfl bp9 Tryz.underlying24 rfl (by kernel_rfl) (fun W => by kernel_rfl) (bq9.cell rfl), rfl, _, mv_err (Mv.of_below (sv := sv) hbw1'.out) (Nat.le_refl _) (Nat.le_succ _) hh9 hs9 ho9 ht9 hu9⟩
  | true =>
    have HH := header_any K t'.out hK sv tk w1 hok1'.out; obtain ⟨RH, hRH⟩ : ∃ RH, headS K.z = RH := ⟨_, rfl⟩; rw [hRH] at HH; have hR2 := hR'.out; rw [if_pos rfl, hRH] at hR2; have HH' := Lib.hid HH; have hR2' := Lib.hid hR2; have hRH' := Lib.hid hRH; clear HH hR2 hRH
    go_wp2_with (go_at_call 122; refine (must_any _ _ _).mono ?_; rintro e w3 ⟨rfl, rfl⟩; simp only [mustE_t, mustE_f])
    refine HH'.out.mono ?_; rintro e w5 hpost
    cases RH with
    | error y =>
      obtain rfl : R = .error y := by rw [← hR2'.out]
      obtain ⟨rfl, sv', hmv⟩ := hpost; have hmvw := (Mv.of_below (sv := sv) hbw1'.out).trans hmv; have bp5 := bp1'.out.mv hmv (show w.heap.size ≠ K.g by omega) (show w.heap.size ≠ K.gt by omega) (fun e => by have := (hok'.out.spot.lt _ e).2; omega); have bq5 := bq1'.out.mv hmv (show w.heap.size + 1 ≠ K.g by omega) (show w.heap.size + 1 ≠ K.gt by omega) (fun e => by have := (hok'.out.spot.lt _ e).2; omega); have hmvw' := Lib.hid hmvw; have bp5' := Lib.hid bp5; have bq5' := Lib.hid bq5; have hmv' := Lib.hid hmv; clear hmvw bp5 bq5 hmv
      go_wp2_with fail
      refine leaves_cons (f := 121) (args := #[.pointer (some ⟨w.heap.size, 0, none⟩), .pointer (some ⟨w.heap.size + 1, 0, none⟩)]) (by simp) (by simp [go_sem]) ?_; refine (read1_wrong _ _ w.heap.size (w.heap.size + 1) y w5 rfl rfl #[] _ _ _ bp5'.out bq5'.out (by omega)).mono ?_; rintro e u' w9 ⟨rfl, rfl, bp9, bq9, hh9, hs9, ho9, ht9, hu9⟩; refine ⟨_, results_blk_cell rfl _ _ w.heap.size (w.heap.size + 1) 24 #[.int .i64 0, .slice none 0 0] _ (.int .i64 y) rfl rfl bp9 Tryz.underlying24 rfl (by kernel_rfl) (fun W => by kernel_rfl) (bq9.cell rfl), rfl, _, mv_err (hmvw'.out) (Nat.le_refl _) (Nat.le_succ _) hh9 hs9 ho9 ht9 hu9⟩
    | ok s5 =>
      obtain ⟨sv5, tk5, hok5, hmv5, rfl⟩ := hpost; obtain ⟨o, hoo⟩ : ∃ o, orderS K.z = o := ⟨_, rfl⟩
      have ho12 : o = 1 ∨ o = 2 := by
        have h0 : 0 < orderS K.z := by
          have h := hRH'.out; unfold headS at h
          split at h
          · split at h
            · rename_i h1; exact h1.1
            · cases h
          · cases h
        rw [← hoo]; unfold orderS at h0 ⊢
        split at h0 <;> (try split at h0) <;> first | exact .inl rfl | exact .inr rfl | omega
      have hinv5 : Inv K.n s5 := by
        have h := hRH'.out; unfold headS at h
        split at h
        · split at h
          · have h2 := takeS_inv h (by decide) (Nat.zero_le _)
            rw [hzl'.out] at h2; exact h2
          · cases h
        · cases h
      rw [hoo] at hok5 hR2'; rw [hoo]; have tO := WkT.ord t'.out o; have hp0 := getV_lt t'.out.byt 4 4 o; rw [show ((4 : Nat) : Int) = 4 from rfl, show (256 : Int) ^ 4 = 4294967296 by decide] at hp0; obtain ⟨p0, hpp0⟩ : ∃ p0, getV K.z 4 4 o = p0 := ⟨_, rfl⟩; rw [hpp0] at hR2' hp0; rw [hpp0]; have hR3 := hR2'.out; simp only at hR3; have hmvw := (Mv.of_below (sv := sv) hbw1'.out).trans hmv5; have bp5 := bp1'.out.mv hmv5 (show w.heap.size ≠ K.g by omega) (show w.heap.size ≠ K.gt by omega) (fun e => by have := (hok'.out.spot.lt _ e).2; omega); have bq5 := bq1'.out.mv hmv5 (show w.heap.size + 1 ≠ K.g by omega) (show w.heap.size + 1 ≠ K.gt by omega) (fun e => by have := (hok'.out.spot.lt _ e).2; omega); have hb15 := hmv5.size; have hW2 : w.heap.size + 1 < w1.heap.size := bq1'.out.lt
      have hsv5 : ∀ k, sv5.ownBlock = some k → k ≠ w.heap.size ∧ k ≠ w.heap.size + 1 := fun k e => by
        rcases hmv5.own k e with h | h
        · have := (hok'.out.spot.lt k h).2; omega
        · omega
      have c1 : w5.cell? ⟨K.g, 1, none⟩ = some (.int .i64 o) := hok5.blk.cell rfl; have g0 : w5.cell? ⟨w.heap.size, 0, none⟩ = some (.int .i64 0) := bp5.cell rfl; have y0 := bp5.frozen 0; have hbt := (But.refl w.heap.size w5).set 0 (.int .i64 o); have hok6 := hok5.but hbt (show w.heap.size ≠ K.g by omega) (show w.heap.size ≠ K.gt by omega) (fun e => (hsv5 _ e).1 rfl) (Nat.le_trans hok'.out.old.size (Nat.le_refl _)); have bp6 := bp5.set 0 (.int .i64 o); have bq6 := bq5.but hbt (show w.heap.size + 1 ≠ w.heap.size by omega); have hmv6 := hmvw.new_set (Nat.le_refl _) hbt; have hsz6 : w.heap.size + 2 ≤ (w5.setCell ⟨w.heap.size, 0, none⟩ (.int .i64 o)).heap.size := by have := hbt.size; omega
      obtain ⟨i0, z0, hi0, hz, hz1, hz2, hz3⟩ := info_sz infoDi infoDiz
      have hnx : ∀ j, j < K.sn → ((shps K.zs).getD j shp0).2.2.2 = -1 ∨ ((j : Int) < ((shps K.zs).getD j shp0).2.2.2 ∧ ((shps K.zs).getD j shp0).2.2.2 < K.sn) := fun j hj => by
        have hv := hshb'.out; unfold shapesB at hv; simp only [Bool.and_eq_true, decide_eq_true_eq] at hv; have h1 := List.all_eq_true.1 hv.2 j (List.mem_range.2 (by simp [shps]; rw [hsl'.out]; exact hj)); unfold shapeB nextB lateB at h1; simp only [Bool.and_eq_true, Bool.or_eq_true, decide_eq_true_eq] at h1; have h2 := h1.1.2; simp only [shps, List.length_map, hsl'.out] at h2; exact h2
      have hsn16 : 1 ≤ K.sn ∧ K.sn ≤ 16 := by
        have hv := hshb'.out; unfold shapesB at hv; simp only [Bool.and_eq_true, decide_eq_true_eq, shps, List.length_map, hsl'.out] at hv; exact hv.1
      clear hmv5 hmvw bp1' bq1' bp5 bq5 hok5 hbt HH' hRH' hR2' hbw1' hok1' hsv5; have hR3' := Lib.hid hR3; have hok6' := Lib.hid hok6; have bp6' := Lib.hid bp6; have bq6' := Lib.hid bq6; have hmv6' := Lib.hid hmv6; have tO' := Lib.hid tO; have hnx' := Lib.hid hnx; have hinv5' := Lib.hid hinv5; clear hR3 hok6 bp6 bq6 hmv6 tO hnx hinv5
      go_wp2_with fail
      clear c1 g0 y0
      generalize w5.setCell ⟨w.heap.size, 0, none⟩ (.int .i64 o) = w6 at *
      go_loopw [4, 5] (fun pv hv wr => ∃ (fu : Nat) (p shi : Int) (si : St) (svi : Value) (tki : List Nat) (ds : List (DirT 16)) (ad : Option Addr) (cd : Nat), pv = .int .i64 p ∧ hv = .int .i64 shi ∧ 0 ≤ p ∧ p ≤ 4294967295 ∧ (shi = -1 ∨ (0 ≤ shi ∧ shi < K.sn ∧ (K.sn : Int) - shi + 1 ≤ fu)) ∧ 1 ≤ fu ∧ ds.length + fu ≤ 18 ∧ Hid (chainS K.z o (shps K.zs) fu ds p shi si = R) ∧ Hid (WkOk (ord K o) si svi tki wr) ∧ Hid (Inv K.n si) ∧ Hid (Mv K.g K.gt sv svi w wr) ∧ Hid (Blk wr w.heap.size 24 #[.int .i64 o, .slice ad ds.length cd]) ∧ Hid (Blk wr (w.heap.size + 1) 31 #[.int .i64 0]) ∧ Hid (DirsAt (Xv svi) (w.heap.size + 2) wr (.slice ad ds.length cd) ds) ∧ w.heap.size + 2 ≤ wr.heap.size) (fun pv hv wr => 18 - lenOf ((wr.cell? ⟨w.heap.size, 1, none⟩).getD undef))
      case atStart => exact ⟨18, p0, 0, s5, sv5, tk5, [], none, 0, rfl, rfl, hp0.1, by omega, .inr ⟨by omega, by omega, by omega⟩, by omega, by simp, hR3', hok6', hinv5', hmv6', bp6', bq6', Lib.hid ⟨[], rfl, ⟨own_nil _ _ _ _, fun k e => by cases e⟩, fun i hi => by cases hi⟩, hsz6⟩
      case round =>
        obtain ⟨fu, p, shi, si, svi, tki, ds, ad, cd, rfl, rfl, hpp1, hpp2, hshi, hfu1, hfu2, hch, hok6, hinv6, hmv6, bp6, bq6, hds, hsz⟩ := hrel; obtain ⟨fu, rfl⟩ : ∃ f, fu = f + 1 := ⟨fu - 1, by omega⟩; have q1 : wr.cell? ⟨w.heap.size, 1, none⟩ = some (.slice ad ds.length cd) := bp6.out.cell rfl; have hch2 := hch.out; simp only [chainS] at hch2
        by_cases hgo : 0 < p ∨ ds.length = 0
        · rw [if_pos hgo] at hch2
          go_upto_region 5 with fail
          go_cut [30] from 23 to 29 (fun v wx => v = .bool true ∧ wx = wr)
          case first =>
            by_cases hp1 : 0 < p
            · have d1 : decide (0 < p) = true := by simp; omega
              clear hgo hp1
              go_wp2_with fail
              go_meet
              exact ⟨rfl, rfl⟩
            · have d1 : decide (0 < p) = false := by simp; omega
              have hl0 : ds.length = 0 := by omega
              rw [hl0] at q1; clear hgo hp1
              go_wp2_with fail
              go_meet
              exact ⟨rfl, rfl⟩
          case rest =>
            obtain ⟨rfl, rfl⟩ := hcut
            rename World => wr
            have tO2 := tO'.out
            rcases hshi with rfl | ⟨hs1, hs2, hs3⟩
            · rw [if_neg (by omega)] at hch2
              subst hch2; have tO2' := Lib.hid tO2; clear tO2
              go_wp2_with (go_at_call 122; refine (must_any _ _ _).mono ?_; rintro e w3 ⟨rfl, rfl⟩; simp only [mustE_t, mustE_f])
              refine leaves_cons (f := 121) (args := #[.pointer (some ⟨w.heap.size, 0, none⟩), .pointer (some ⟨w.heap.size + 1, 0, none⟩)]) (by simp) (by simp [go_sem]) ?_; refine (read1_wrong _ _ w.heap.size (w.heap.size + 1) 2 wr rfl rfl #[] _ _ _ bp6.out bq6.out (by omega)).mono ?_; rintro e u' w9 ⟨rfl, rfl, bp9, bq9, hh9, hs9, ho9, ht9, hu9⟩; refine ⟨_, results_blk_cell rfl _ _ w.heap.size (w.heap.size + 1) 24 #[.int .i64 0, .slice none 0 0] _ (.int .i64 2) rfl rfl bp9 Tryz.underlying24 rfl (by kernel_rfl) (fun W => by kernel_rfl) (bq9.cell rfl), rfl, _, mv_err (hmv6.out) (Nat.le_refl _) (Nat.le_succ _) hh9 hs9 ho9 ht9 hu9⟩
            · rw [if_pos hs1] at hch2
              obtain ⟨sh, rfl⟩ : ∃ sh : Nat, shi = sh := ⟨shi.toNat, by omega⟩; have HDR := hD'.out (ord K o) tO2 ho12 hshb'.out 16 p sh si svi tki wr hok6.out hinv6.out hpp1 hpp2 (show sh < K.sn by omega) (show K.sn ≤ sh + 16 by omega); obtain ⟨RD, hRD⟩ : ∃ RD, dirS K.z o (shps K.zs) 16 p (sh : Int) si = RD := ⟨_, rfl⟩; rw [show dirS (ord K o).z (ord K o).o (shps (ord K o).zs) 16 p (sh : Int) si = RD from hRD] at HDR; rw [hRD] at hch2; have d4 : decide ((0 : Int) ≤ (sh : Int)) = true := by simp
              have hinvD : ∀ r s', RD = .ok (r, s') → Inv K.n s' := fun r s' e => by
                have h := dirS_inv (hRD.trans e) (by rw [hzl'.out]; exact hinv6.out); rw [hzl'.out] at h; exact h
              have hnxt : ∀ d nx s', RD = .ok ((d, nx), s') → 0 ≤ nx ∧ nx ≤ 4294967295 := fun d nx s' e => dirS_next t'.out.byt (hRD.trans e); have hsvr : ∀ k, svi.ownBlock = some k → k ≠ w.heap.size ∧ k ≠ w.heap.size + 1 := fun k e => ⟨fun h => own_ne_blk hok6.out.spot bp6.out (by decide) (by rw [e, h]), fun h => own_ne_blk hok6.out.spot bq6.out (by decide) (by rw [e, h])⟩; clear hgo; have HDR' := Lib.hid HDR; have hch2' := Lib.hid hch2; have hinvD' := Lib.hid hinvD; have hnxt' := Lib.hid hnxt; have tO2' := Lib.hid tO2; have hsvr' := Lib.hid hsvr; have hRD' := Lib.hid hRD; clear HDR hch2 hinvD hnxt tO2 hsvr hRD
              go_wp2_with (go_at_call 122; refine (must_any _ _ _).mono ?_; rintro e w3 ⟨rfl, rfl⟩; simp only [mustE_t, mustE_f])
              refine HDR'.out.mono ?_; rintro e w7 hpost
              cases RD with
              | error y =>
                obtain rfl : R = .error y := hch2'.out.symm; obtain ⟨rfl, sv', hmv⟩ := hpost; have bp7 := bp6.out.mv hmv (show w.heap.size ≠ K.g by omega) (show w.heap.size ≠ K.gt by omega) (fun e => (hsvr'.out _ e).1 rfl); have bq7 := bq6.out.mv hmv (show w.heap.size + 1 ≠ K.g by omega) (show w.heap.size + 1 ≠ K.gt by omega) (fun e => (hsvr'.out _ e).2 rfl); have hmv7 := hmv6.out.trans hmv; clear HDR' hch2'; have hmv' := Lib.hid hmv; have bp7' := Lib.hid bp7; have bq7' := Lib.hid bq7; have hmv7' := Lib.hid hmv7; clear hmv bp7 bq7 hmv7
                go_wp2_with fail
                refine leaves_cons (f := 121) (args := #[.pointer (some ⟨w.heap.size, 0, none⟩), .pointer (some ⟨w.heap.size + 1, 0, none⟩)]) (by simp) (by simp [go_sem]) ?_; refine (read1_wrong _ _ w.heap.size (w.heap.size + 1) y w7 rfl rfl #[] _ _ _ bp7'.out bq7'.out (by omega)).mono ?_; rintro e u' w9 ⟨rfl, rfl, bp9, bq9, hh9, hs9, ho9, ht9, hu9⟩; refine ⟨_, results_blk_cell rfl _ _ w.heap.size (w.heap.size + 1) 24 #[.int .i64 0, .slice none 0 0] _ (.int .i64 y) rfl rfl bp9 Tryz.underlying24 rfl (by kernel_rfl) (fun W => by kernel_rfl) (bq9.cell rfl), rfl, _, mv_err (hmv7'.out) (Nat.le_refl _) (Nat.le_succ _) hh9 hs9 ho9 ht9 hu9⟩
              | ok rd =>
                obtain ⟨⟨d, nx⟩, s7⟩ := rd; obtain ⟨sv7, tk7, hok7, hmv7, dz, rfl, hdir7⟩ := hpost; obtain ⟨x1, y1, z1, x2, y2, z2, x3, y3, z3, rfl⟩ := hdir7.slices; have hch3 := hch2'.out; simp only [Int.toNat_natCast] at hch3; simp only at hdir7; have bp7 := bp6.out.mv hmv7 (show w.heap.size ≠ K.g by omega) (show w.heap.size ≠ K.gt by omega) (fun e => (hsvr'.out _ e).1 rfl); have bq7 := bq6.out.mv hmv7 (show w.heap.size + 1 ≠ K.g by omega) (show w.heap.size + 1 ≠ K.gt by omega) (fun e => (hsvr'.out _ e).2 rfl); have hmvw7 := hmv6.out.trans hmv7; have hkp7 := Kp.mv hmv7 (show K.g < w.heap.size + 2 by omega) (show K.gt < w.heap.size + 2 by omega); obtain ⟨dzs, hz1', hz2', hz3'⟩ := hds.out; have hds7 : ∃ dzs : List Dz, dzs.length = ds.length ∧ Ck (Xv sv7) (w.heap.size + 2) w7 (.slice ad ds.length cd) 42 3 dzs.length (fl dvC dzs) ∧ ∀ i (h : i < dzs.length) (h' : i < ds.length), DirAt (Xv sv7) (w.heap.size + 2) w7 16 ds[i] dzs[i] := ⟨dzs, hz1', hz2'.keep hkp7, fun i h h' => (hz3' i h h').keep hkp7⟩; have hdir7 := hdir7.mono hsz; have hsz7 : w.heap.size + 2 ≤ w7.heap.size := Nat.le_trans hsz hmv7.size; have hinv7 := hinvD'.out _ s7 rfl; have hnx7 := hnxt'.out d nx s7 rfl; clear hmv7 HDR' hch2' hinvD' hnxt' hRD' hsvr' hkp7 hz2' hz3' q1; have hch3' := Lib.hid hch3; have hdir7' := Lib.hid hdir7; have bp7' := Lib.hid bp7; have bq7' := Lib.hid bq7; have hmvw7' := Lib.hid hmvw7; have hds7' := Lib.hid hds7; have hinv7' := Lib.hid hinv7; have hnx7' := Lib.hid hnx7; have hok7' := Lib.hid hok7; clear hch3 hdir7 bp7 bq7 hmvw7 hds7 hinv7 hnx7 hok7
                go_upto_region 8 with fail
                have hal := (Below.refl w7.heap.size w7).alloc (Nat.le_refl _) (.cells #[.slice x1 y1 z1, .slice x2 y2 z2, .slice x3 y3 z3] 42); have b68 := Blk.new w7 42 #[.slice x1 y1 z1, .slice x2 y2 z2, .slice x3 y3 z3]; have bp8 := bp7'.out.late hal; have bq8 := bq7'.out.late hal; have hmvw8 := hmvw7'.out.later hal; have hok8 := hok7'.out.later hal; have hdir8 := hdir7'.out.keep (Kp.later hal); obtain ⟨dzs, hz1', hz2', hz3'⟩ := hds7'.out; have hds8 : ∃ dzs : List Dz, dzs.length = ds.length ∧ Ck (Xv sv7) (w.heap.size + 2) _ (.slice ad ds.length cd) 42 3 dzs.length (fl dvC dzs) ∧ ∀ i (h : i < dzs.length) (h' : i < ds.length), DirAt (Xv sv7) (w.heap.size + 2) _ 16 ds[i] dzs[i] := ⟨dzs, hz1', hz2'.keep (Kp.later hal), fun i h h' => (hz3' i h h').keep (Kp.later hal)⟩; have hsz8 : w.heap.size + 2 ≤ (w7.alloc (.cells #[.slice x1 y1 z1, .slice x2 y2 z2, .slice x3 y3 z3] 42)).heap.size := Nat.le_trans hsz7 hal.size; clear hz1' hz2' hz3' hal
                generalize w7.alloc (.cells #[.slice x1 y1 z1, .slice x2 y2 z2, .slice x3 y3 z3] 42) = w8 at *
                generalize w7.heap.size = g6 at *
                have q1 : w8.cell? ⟨w.heap.size, 1, none⟩ = some (.slice ad ds.length cd) := bp8.cell rfl; have e0 : w8.cell? ⟨g6, 0, none⟩ = some (.slice x1 y1 z1) := b68.cell rfl; have e1 : w8.cell? ⟨g6, 1, none⟩ = some (.slice x2 y2 z2) := b68.cell rfl; have e2 : w8.cell? ⟨g6, 2, none⟩ = some (.slice x3 y3 z3) := b68.cell rfl
                -- the row grows
                have hal := (Below.refl w8.heap.size w8).alloc (Nat.le_refl _) (.cells #[.slice x1 y1 z1, .slice x2 y2 z2, .slice x3 y3 z3] 42); have bp9 := bp8.late hal; have bq9 := bq8.late hal; have hmvw9 := hmvw8.later hal; have hok9 := hok8.later hal; have hdir9 := hdir8.keep (Kp.later hal); obtain ⟨dzs, hz1', hz2', hz3'⟩ := hds8; have hds9 : ∃ dzs : List Dz, dzs.length = ds.length ∧ Ck (Xv sv7) (w.heap.size + 2) (w8.alloc (.cells #[.slice x1 y1 z1, .slice x2 y2 z2, .slice x3 y3 z3] 42)) (.slice ad ds.length cd) 42 3 dzs.length (fl dvC dzs) ∧ ∀ i (h : i < dzs.length) (h' : i < ds.length), DirAt (Xv sv7) (w.heap.size + 2) (w8.alloc (.cells #[.slice x1 y1 z1, .slice x2 y2 z2, .slice x3 y3 z3] 42)) 16 ds[i] dzs[i] := ⟨dzs, hz1', hz2'.keep (Kp.later hal), fun i h h' => (hz3' i h h').keep (Kp.later hal)⟩; have hown9 : (w8.alloc (.cells #[.slice x1 y1 z1, .slice x2 y2 z2, .slice x3 y3 z3] 42)).ownsRow (w.heap.size + 2) 42 3 (.slice ad ds.length cd) ds.length (fl dvC dzs) := by have h := (hz2'.keep (Kp.later hal)).1; rw [hz1'] at h; exact h
                have hX9 : ∀ k, (Value.slice ad ds.length cd).ownBlock = some k → ¬ Xv sv7 k := hz2'.2; have hnp : (Value.slice ad ds.length cd).ownBlock ≠ some w.heap.size := fun e => by have := (hown9.lt _ e).1; omega
                have hnq : (Value.slice ad ds.length cd).ownBlock ≠ some (w.heap.size + 1) := fun e => by have := (hown9.lt _ e).1; omega
                have hsz9 : w.heap.size + 2 ≤ (w8.alloc (.cells #[.slice x1 y1 z1, .slice x2 y2 z2, .slice x3 y3 z3] 42)).heap.size := Nat.le_trans hsz8 hal.size; clear hz1' hz2' hz3' hal bp7' bq7' hmvw7' hds7' hdir7' hok7'; have bp8' := Lib.hid bp8; have bq8' := Lib.hid bq8; have hmvw8' := Lib.hid hmvw8; have hok8' := Lib.hid hok8; have hdir8' := Lib.hid hdir8; have b68' := Lib.hid b68; have bp9' := Lib.hid bp9; have bq9' := Lib.hid bq9; have hmvw9' := Lib.hid hmvw9; have hok9' := Lib.hid hok9; have hdir9' := Lib.hid hdir9; have hds9' := Lib.hid hds9; have hown9' := Lib.hid hown9; have hX9' := Lib.hid hX9; have hnp' := Lib.hid hnp; have hnq' := Lib.hid hnq; clear bp8 bq8 hmvw8 hok8 hdir8 b68 bp9 bq9 hmvw9 hok9 hdir9 hds9 hown9 hX9 hnp hnq
                go_upto_region 9 with (at_builtin; refine wpList_app2 rfl _ _ 22 rfl (w.heap.size + 2) 42 i0 z0 3 72 Tryz.underlying22 hi0 hz hz1 hz2 hz3 (by decide) (.slice ad ds.length cd) ds.length _ rfl hown9'.out ⟨w8.heap.size, 0, none⟩ 1 1 (dvC (.slice x1 y1 z1, .slice x2 y2 z2, .slice x3 y3 z3)) rfl (Sl.new w8 42 3 1 #[.slice x1 y1 z1, .slice x2 y2 z2, .slice x3 y3 z3] (0, 0) (by omega) rfl) (by intro u hu; simp only [dvC, List.mem_cons, List.not_mem_nil, or_false] at hu; rcases hu with rfl | rfl | rfl <;> rfl) (by omega) (by decide) hsz9 ?_; intro a9 c9 w9 ob hg9 ho9; have Ob := Lib.hid ob; have Hg9 := Lib.hid hg9; have Ho9 := Lib.hid ho9; have bpA := Lib.hid (bp9'.out.grown hg9 hnp'.out); have p91 : w9.cell? ⟨w.heap.size, 1, none⟩ = some (.slice ad ds.length cd) := bpA.out.cell rfl; have y91 := bpA.out.frozen 1; clear ob hg9 ho9)
                clear q1 e0 e1 e2; have hbt := (But.refl w.heap.size w9).set 1 (.slice a9 (ds.length + 1) c9)
                have hrr : ∀ r, (Value.slice ad ds.length cd).ownBlock = some r → r ≠ K.g ∧ r ≠ K.gt ∧ sv7.ownBlock ≠ some r ∧ K.w0.heap.size ≤ r := fun r e => by
                  have := (hown9'.out.lt r e).1; have := hok'.out.old.size; exact ⟨by omega, by omega, fun h => hX9'.out r e h, by omega⟩
                have hsvp : sv7.ownBlock ≠ some w.heap.size := fun e => own_ne_blk hok9'.out.spot bp9'.out (by decide) e; have hokA := (wk_grown hok9'.out Hg9.out hrr).but hbt (show w.heap.size ≠ K.g by omega) (show w.heap.size ≠ K.gt by omega) hsvp hok'.out.old.size; have hmvA := (mv_grown hmvw9'.out Hg9.out (fun r e => by have := (hown9'.out.lt r e).1; omega)).new_set (Nat.le_refl _) hbt; have bpB := bpA.out.set 1 (.slice a9 (ds.length + 1) c9); have bqB := (bq9'.out.grown Hg9.out hnq'.out).but hbt (show w.heap.size + 1 ≠ w.heap.size by omega)
                have hX9n : ∀ k, (Value.slice a9 (ds.length + 1) c9).ownBlock = some k → ¬ Xv sv7 k := fun k e h => by
                  rcases Ho9.out k e with h1 | h1
                  · exact hX9'.out k h1 h
                  · have := (hok9'.out.spot.lt k h).2; omega
                obtain ⟨dzsB, hB1, hB2, hB3⟩ := DirsAt.snoc (v' := .slice a9 (ds.length + 1) c9) (dz := (.slice x1 y1 z1, .slice x2 y2 z2, .slice x3 y3 z3)) hds9'.out Hg9.out hX9n (fun zs2 h2 => by rw [own_inj h2 hown9'.out]; exact Ob.out) hdir9'.out; have hdsB : DirsAt (Xv sv7) (w.heap.size + 2) (w9.setCell ⟨w.heap.size, 1, none⟩ (.slice a9 (ds.length + 1) c9)) (.slice a9 (ds.length + 1) c9) (ds ++ [d]) := ⟨dzsB, hB1, hB2.keep (kp_but hbt (by omega)), fun i h h' => (hB3 i h h').keep (kp_but hbt (by omega))⟩; have hszB : w.heap.size + 2 ≤ (w9.setCell ⟨w.heap.size, 1, none⟩ (.slice a9 (ds.length + 1) c9)).heap.size := by have h1 := hbt.size; have h2 := Hg9.out.size; omega
                clear p91 y91 hbt hrr hsvp hX9n hB2 hB3 bp8' bq8' hmvw8' hok8' hdir8' b68' bp9' bq9' hmvw9' hok9' hdir9' hds9' hown9' hX9' hnp' hnq'
                generalize w9.setCell ⟨w.heap.size, 1, none⟩ (.slice a9 (ds.length + 1) c9) = wB at *
                obtain ⟨bb, oo, hsa, hbb, fe⟩ := ((hokA.shps tO2'.out).row).elem shc_len (by decide) shz0 (show sh < K.sn by omega); have f3 := fe 3 _ rfl; have hsnx : (K.zs.getD sh shz0).2.2.2.2 = ((shps K.zs).getD sh shp0).2.2.2 := by rw [shps_get (by rw [hsl'.out]; omega)]
                rw [show ((ord K o).zs.getD sh shz0) = K.zs.getD sh shz0 from rfl, hsnx] at f3; have hn3 := hnx'.out sh (by omega); obtain ⟨snx, hsn⟩ : ∃ q, ((shps K.zs).getD sh shp0).2.2.2 = q := ⟨_, rfl⟩; rw [hsn] at f3 hn3; have c2 : wB.cell? ⟨K.g, 2, none⟩ = some (.slice (some ⟨bb, oo, none⟩) K.sn K.sc) := by rw [← hsa]; exact hokA.blk.cell rfl
                replace hch3' := Lib.hid (by have h := hch3'.out; rw [hsn] at h; exact h)
                have hshi2 : (sh : Int) < K.sn := by omega
                have hll : (ds ++ [d]).length = ds.length + 1 := by simp
                clear fe hsnx hsn; have hokA' := Lib.hid hokA; have hmvA' := Lib.hid hmvA; have bpB' := Lib.hid bpB; have bqB' := Lib.hid bqB; have hdsB' := Lib.hid hdsB; have hsa' := Lib.hid hsa; have hll' := Lib.hid hll; clear hokA hmvA bpB bqB hdsB hsa hll
                have hshi3 : snx = -1 ∨ (0 ≤ snx ∧ snx < K.sn ∧ (K.sn : Int) - snx + 1 ≤ fu) := by
                  rcases hn3 with h | h
                  · exact .inl h
                  · exact .inr ⟨by omega, h.2, by omega⟩
                go_quiet (fail)
                go_wp2_with fail
                go_roundw
                case rel => exact ⟨fu, nx, snx, s7, sv7, tk7, ds ++ [d], a9, c9, rfl, rfl, hnx7'.out.1, hnx7'.out.2, hshi3, by omega, by rw [hll'.out]; omega, hch3', Lib.hid (hokA'.out.later (Qt.below ⟨_, rfl⟩ _)), hinv7', Lib.hid (hmvA'.out.later (Qt.below ⟨_, rfl⟩ _)), by rw [hll'.out]; exact Lib.hid (bpB'.out.late (Qt.below ⟨_, rfl⟩ _)), Lib.hid (bqB'.out.late (Qt.below ⟨_, rfl⟩ _)), Lib.hid (by obtain ⟨z1', z2', z3', z4'⟩ := hdsB'.out; rw [hll'.out]; exact ⟨z1', z2', z3'.keep (Kp.later (Qt.below ⟨_, rfl⟩ _)), fun i h h' => (z4' i h h').keep (Kp.later (Qt.below ⟨_, rfl⟩ _))⟩), hszB⟩
                case measure => exact len_down ((bpB'.out.late (Qt.below ⟨_, rfl⟩ _)).cell rfl) (bp6.out.cell rfl) (by show 18 - (ds.length + 1) < 18 - ds.length; omega)
        · rw [if_neg hgo] at hch2
          subst hch2; obtain ⟨nd, hnd⟩ : ∃ n, ds.length = n := ⟨_, rfl⟩; have d1 : decide (0 < p) = false := by simp; omega
          rw [hnd] at bp6 hds q1 hgo; have d2 : ((nd : Int) == 0) = false := by simp; omega
          have d3 : (nd == 0) = false := by simp; omega
          have e0 : wr.cell? ⟨w.heap.size, 0, none⟩ = some (.int .i64 o) := bp6.out.cell rfl; have e1 : wr.cell? ⟨w.heap.size + 1, 0, none⟩ = some (.int .i64 0) := bq6.out.cell rfl; have y0 := bp6.out.frozen 0; have y1 := bp6.out.frozen 1; have y2 := bq6.out.frozen 0; clear hgo
          go_wp2_with fail
          rw [bp6.out.set_same rfl, bp6.out.set_same rfl, bq6.out.set_same rfl]; refine leaves_cons (f := 121) (args := #[.pointer (some ⟨w.heap.size, 0, none⟩), .pointer (some ⟨w.heap.size + 1, 0, none⟩)]) (by simp) (by simp [go_sem]) ?_; refine (read1_idle _ _ wr).mono ?_; rintro e u' w9 ⟨rfl, rfl, hb9⟩; have hok9 := hok6.out.later hb9; obtain ⟨dzs, hz1, hz2, hz3⟩ := hds.out; have hdsF : DirsAt (Xv svi) w.heap.size w9 (.slice ad nd cd) ds := ⟨dzs, hz1, (hz2.keep (Kp.later hb9)).mono (by omega), fun i h h' => ((hz3 i h h').keep (Kp.later hb9)).mono (by omega)⟩; refine ⟨_, results_blk_cell rfl _ _ w.heap.size (w.heap.size + 1) 24 #[.int .i64 o, .slice ad nd cd] _ (.int .i64 0) rfl rfl (bp6.out.late hb9) Tryz.underlying24 rfl (by kernel_rfl) (fun W => by kernel_rfl) ((bq6.out.late hb9).cell rfl), svi, tki, ad, nd, cd, by rw [hoo], by rw [hoo]; exact hok9, hmv6.out.later hb9, hdsF⟩
end Go.Proofs.YtilennmeiaehnaaGreat

namespace Go.Proofs.YtilennmeiaehnaaGreat
open Go.RowKit Tt
set_option linter.unusedVariables false
set_option linter.unusedSimpArgs false

/-- what a block is read as -/
def WofPost (w : World) (oo : Int) (R : Except Int (List (DirT 16) × St)) (e : Ending) (w' : World) : Prop := match R with
  | .error x => e = .returned (.tuple #[.agg #[.int .i64 0, .slice none 0 0], .slice none 0 0, .int .i64 x]) ∧ Below w.heap.size w w'
  | .ok (ds, s) => ∃ a m c b k d, e = .returned (.tuple #[.agg #[.int .i64 oo, .slice a m c], .slice b k d, .int .i64 0]) ∧ Below w.heap.size w w' ∧ DirsAt (Xv (.slice b k d)) w.heap.size w' (.slice a m c) ds ∧ w'.ownsRow w.heap.size 57 5 (.slice b k d) s.spots.length (fl spC s.spots)
theorem DirsAt.keep {X X' : Nat → Prop} {B : Nat} {w w' : World} {v : Value} {ds : List (DirT 16)} (h : DirsAt X B w v ds) (k : Kp X X' B w w') : DirsAt X' B w' v ds := by
  obtain ⟨dzs, h1, h2, h3⟩ := h; exact ⟨dzs, h1, h2.keep k, fun i hi hi' => (h3 i hi hi').keep k⟩
theorem DirsAt.mono {X : Nat → Prop} {B B' : Nat} {w : World} {v : Value} {ds : List (DirT 16)} (h : DirsAt X B w v ds) (hB : B' ≤ B) : DirsAt X B' w v ds := by
  obtain ⟨dzs, h1, h2, h3⟩ := h; exact ⟨dzs, h1, h2.mono hB, fun i hi hi' => (h3 i hi hi').mono hB⟩
theorem mv_new {g gt B : Nat} {sv sv' : Value} {w w1 w2 : World} (hb : Below B w w1) (h : Mv g gt sv sv' w1 w2) (hg : B ≤ g) (hgt : B ≤ gt) (hsv : ∀ k, sv.ownBlock = some k → B ≤ k) (hw : B ≤ w.heap.size) : Below B w w2 :=
  hb.trans (h.below hg hgt hsv (Nat.le_trans hw hb.size))
set_option maxRecDepth 20000 in
set_option maxHeartbeats 8000000 in
theorem wof_any (hD : DirOk) (a : Option Addr) (n c : Nat) (z : List Int) (sa : Option Addr) (sn sc : Nat) (zs : List Shz) (w : World) (hs : Sl w a n c 1 (ints .u8 z)) (hsh : ShR w sa sn sc zs) (hby : Byt z) (hn : n ≤ 1000000000) (hx : ∀ x, readS z (shps zs) = .error x → x ≠ 0) :
    Calls Tryz.prog 32 #[.slice a n c, .slice sa sn sc] w (WofPost w (orderS z) (readS z (shps zs))) := by
  have bp := Blk.new w 24 #[.int .i64 0, .slice none 0 0]; have hbW := (Below.refl w.heap.size w).alloc (Nat.le_refl _) (.cells #[.int .i64 0, .slice none 0 0] 24); obtain ⟨W, hW⟩ : ∃ W, w.alloc (.cells #[.int .i64 0, .slice none 0 0] 24) = W := ⟨_, rfl⟩; rw [hW] at bp hbW; have HB := begin_any a n c z sa sn sc zs W (hs.mono hbW) (hsh.mono hbW) hby hn; obtain ⟨R, hR⟩ : ∃ R, readS z (shps zs) = R := ⟨_, rfl⟩; rw [hR] at hx; rw [hR]; have hlt := bp.lt; have hs' := Lib.hid hs; have hsh' := Lib.hid hsh; have hby' := Lib.hid hby
  have hx' := Lib.hid hx; have bp' := Lib.hid bp; have hbW' := Lib.hid hbW; have HB' := Lib.hid HB; have hR' := Lib.hid hR; clear hs hsh hby hx bp hbW HB hR
  go_enter Tryz.func32, Tryz.ntmps32
  go_upto_region 1 with fail
  try rw [hW]
  clear hW
  go_wp2_with fail
  refine HB'.out.mono ?_; rintro e w1 ⟨g, gt, rfl, ht, hok, hb1⟩; have hrd := read_any hD _ ht rfl _ _ w1 hok; simp only at hrd; rw [hR'.out] at hrd; have bp1 := bp'.out.late hb1; have hbw1 := hbW'.out.trans (hb1.mono hbW'.out.size); have hg0 : W.heap.size ≤ g := ht.gB; have hgt0 : W.heap.size ≤ gt := ht.gtB; have hg1 : g < w1.heap.size := hok.blk.lt; clear hb1 HB' bp' hbW'; have hrd' := Lib.hid hrd; have bp1' := Lib.hid bp1; have hbw1' := Lib.hid hbw1; have ht' := Lib.hid ht; have hok' := Lib.hid hok; clear hrd bp1 hbw1 ht hok
  go_wp2_with fail
  refine hrd'.out.mono ?_; rintro e w2 hpost
  cases R with
  | error x =>
    obtain ⟨rfl, sv', hmv⟩ := hpost; simp only at hmv; have hx0 := hx'.out x rfl; have bp2 := bp1'.out.mv hmv (show w.heap.size ≠ g by omega) (show w.heap.size ≠ gt by omega) (fun e => by cases e); have hb2 := mv_new hbw1'.out hmv (show w.heap.size ≤ g by omega) (show w.heap.size ≤ gt by omega) (fun k e => by cases e) (Nat.le_refl _); have d1 : (x != 0) = true := by simp; exact hx0
    have p0 : w2.cell? ⟨w.heap.size, 0, none⟩ = some (.int .i64 0) := bp2.cell rfl; have p1 : w2.cell? ⟨w.heap.size, 1, none⟩ = some (.slice none 0 0) := bp2.cell rfl; have y0 := bp2.frozen 0; have y1 := bp2.frozen 1; clear hmv hx0; have bp2' := Lib.hid bp2; have hb2' := Lib.hid hb2; clear bp2 hb2
    go_wp2_with fail
    first | rw [bp2'.out.set_same rfl, bp2'.out.set_same rfl, bp2'.out.set_same rfl, bp2'.out.set_same rfl] | skip
    refine bodyPost_ret (results_blk_tmp2 rfl _ _ w.heap.size 24 #[.int .i64 0, .slice none 0 0] _ rfl bp2'.out Tryz.underlying24 rfl (by kernel_rfl)) rfl ?_; exact ⟨rfl, hb2'.out⟩
  | ok r =>
    obtain ⟨ds, s⟩ := r; obtain ⟨sv', tk', a2, m2, c2, rfl, hok2, hmv, hds⟩ := hpost; simp only at hmv; have bp2 := bp1'.out.mv hmv (show w.heap.size ≠ g by omega) (show w.heap.size ≠ gt by omega) (fun e => by cases e); have hb2 := mv_new hbw1'.out hmv (show w.heap.size ≤ g by omega) (show w.heap.size ≤ gt by omega) (fun k e => by cases e) (Nat.le_refl _); obtain ⟨b, d, rfl⟩ := own_v' hok2.spot; obtain ⟨oo, hoo⟩ : ∃ o, orderS z = o := ⟨_, rfl⟩; simp only [hoo] at hok2; rw [hoo]; have p0 : w2.cell? ⟨w.heap.size, 0, none⟩ = some (.int .i64 0) := bp2.cell rfl; have p1 : w2.cell? ⟨w.heap.size, 1, none⟩ = some (.slice none 0 0) := bp2.cell rfl; have y0 := bp2.frozen 0; have y1 := bp2.frozen 1; have hbt := ((But.refl w.heap.size w2).set 0 (.int .i64 oo)).set 1 (.slice a2 m2 c2); have bp3 := (bp2.set 0 (.int .i64 oo)).set 1 (.slice a2 m2 c2); have hb3 := hbt.below (Nat.le_refl _) hb2.size; have hb23 := hb2.trans hb3; have hblk := hok2.blk.but hbt (show g ≠ w.heap.size by omega); have hspo := own_but hok2.spot hbt (fun e => own_ne_blk hok2.spot bp2 (by decide) e); have hdb := (hds.mono (show W.heap.size ≤ w1.heap.size by omega)).keep (kp_but hbt (by omega)); clear hmv hok2 hds bp2 hb2 hbt hb3; have bp3' := Lib.hid bp3; have hb23' := Lib.hid hb23; have hblk' := Lib.hid hblk; have hspo' := Lib.hid hspo; have hdb' := Lib.hid hdb; have hoo' := Lib.hid hoo; clear bp3 hb23 hblk hspo hdb hoo
    go_upto_region 3 with fail
    clear p0 p1 y0 y1; obtain ⟨w3, hw3⟩ : ∃ w3, (w2.setCell ⟨w.heap.size, 0, none⟩ (.int .i64 oo)).setCell ⟨w.heap.size, 1, none⟩ (.slice a2 m2 c2) = w3 := ⟨_, rfl⟩; have hall := Lib.hid (And.intro bp3'.out (And.intro hb23'.out (And.intro hblk'.out (And.intro hspo'.out hdb'.out)))); rw [hw3] at hall ⊢; clear bp3' hb23' hblk' hspo' hdb' hw3; obtain ⟨bp3, hb3, hblk3, hsp3, hds3⟩ := hall.out; obtain ⟨Ty, f, hne, hbel, hsurj⟩ := later_worlds w3; have q0 : ∀ s, (f s).cell? ⟨w.heap.size, 0, none⟩ = some (.int .i64 oo) := fun s => (bp3.late (hbel s)).cell rfl; have q1 : ∀ s, (f s).cell? ⟨w.heap.size, 1, none⟩ = some (.slice a2 m2 c2) := fun s => (bp3.late (hbel s)).cell rfl; have q2 : ∀ s', (f s').cell? ⟨g, 4, none⟩ = some (.slice b s.spots.length d) := fun s' => (hblk3.late (hbel s')).cell rfl; have HS := Lib.hid (hsurj _ ((Below.refl _ _).drew)); have hbd : Below w3.heap.size w3 w3.drew := (Below.refl w3.heap.size w3).drew; have hbD : Below w.heap.size w w3.drew := hb3.drew; have bpD : Blk w3.drew w.heap.size 24 #[.int .i64 oo, .slice a2 m2 c2] := bp3; have e0 : w3.cell? ⟨w.heap.size, 0, none⟩ = some (.int .i64 oo) := bp3.cell rfl; have e1 : w3.cell? ⟨w.heap.size, 1, none⟩ = some (.slice a2 m2 c2) := bp3.cell rfl; have y0 := bp3.frozen 0; have y1 := bp3.frozen 1; clear hall; have bp3' := Lib.hid bp3; have hb3' := Lib.hid hb3; have hblk3' := Lib.hid hblk3; have hsp3' := Lib.hid hsp3; have hds3' := Lib.hid hds3; have hbel' := Lib.hid hbel; have hsurj' := Lib.hid hsurj; have hbd' := Lib.hid hbd; have hbD' := Lib.hid hbD; have bpD' := Lib.hid bpD; clear bp3 hb3 hblk3 hsp3 hds3 hbel hsurj hbd hbD bpD
    go_wp2_with fail
    refine held_begin (S := fun W => ∃ s, W = f s) (by kernel_rfl) 8 rfl ?_; refine held_take [0, 1, 2, 3, 4] 3 (by kernel_rfl) (fun d _ _ _ _ h => by cases d <;> exact h) (by kernel_rfl) (by kernel_rfl) (by kernel_rfl) HS.out ?_; simp only [pickL, List.map_cons, List.map_nil, List.getD_cons_succ, List.getD_cons_zero]
    iterate 5 (go_big_quiet_step (fail))
    refine wpQuiet_nil ?_; refine held_one 5 2 (by kernel_rfl) (by kernel_rfl) ?_; simp only [pickL, List.map_cons, List.map_nil, List.getD_cons_succ, List.getD_cons_zero]; clear q0 q1 q2
    go_wp2_with fail
    first | rw [bp3'.out.set_same rfl, bp3'.out.set_same rfl] | rw [bpD'.out.set_same rfl, bpD'.out.set_same rfl] | skip
    first | refine Mid.mk ⟨HS.out, ?_⟩ | refine Mid.mk ?_
    refine held_take [6, 7] 0 (by kernel_rfl) (fun d _ _ _ _ h => by cases d <;> exact h) (by kernel_rfl) (by kernel_rfl) (by kernel_rfl) HS.out ?_; simp only [pickL, List.map_cons, List.map_nil, List.getD_cons_succ, List.getD_cons_zero]
    iterate 2 (go_big_quiet_step (fail))
    refine wpQuiet_nil ?_; refine held_last (by kernel_rfl) ?_
    go_wp2_with fail
    refine bodyPost_ret (results_blk_tmp2 rfl _ _ w.heap.size 24 #[.int .i64 oo, .slice a2 m2 c2] _ rfl bpD'.out Tryz.underlying24 rfl (by kernel_rfl)) rfl ?_; have hWs : w.heap.size ≤ W.heap.size := by omega
    refine ⟨a2, m2, c2, b, s.spots.length, d, ?_, hbD'.out, (hds3'.out.keep (Kp.later hbd'.out)).mono hWs, own_mono (own_later hsp3'.out hbd'.out) hWs⟩
    first | rfl | (simp; exact hoo'.out.symm)
end Go.Proofs.YtilennmeiaehnaaGreat

namespace Go.Proofs.YtilennmeiaehnaaGreat
open Go.RowKit Tt
set_option linter.unusedVariables false
set_option linter.unusedSimpArgs false

theorem takeS_ne {n : Nat} {x : Spt} {s : St} {e : Int} (h : takeS n x s = .error e) : e ≠ 0 := by
  unfold takeS at h
  split at h
  · split at h <;> cases h
    decide
  · cases h; decide
theorem entriesS_ne {z : List Int} {o p no : Int} {s : St} {e : Int} (h : entriesS z o p no s = .error e) : e ≠ 0 := by
  unfold entriesS at h
  split at h
  · split at h
    · cases ht : takeS z.length (2, no, 0, p, 6 + 12 * getV z p 2 o) s with
      | error y => rw [ht] at h; cases h; exact takeS_ne ht
      | ok s1 =>
        rw [ht] at h; simp only at h
        split at h <;> cases h
        decide
    · cases h; decide
  · cases h; decide
theorem valueS_ne {z : List Int} {o : Int} {x : Ent} {no : Int} {s : St} {e : Int} (h : valueS z o x no s = .error e) : e ≠ 0 := by
  unfold valueS at h
  split at h
  · split at h
    · cases ht : takeS z.length (3, no, x.1, x.2.2.2, outS x.2.1 x.2.2.1) s with
      | error y => rw [ht] at h; cases h; exact takeS_ne ht
      | ok s1 =>
        rw [ht] at h; simp only at h
        split at h <;> cases h
        decide
    · split at h <;> cases h
      decide
  · cases h; decide
theorem loopS_ne {α σ : Type} {step : σ → α → Except Int σ} (hs : ∀ s a e, step s a = .error e → e ≠ 0) : ∀ {l : List α} {s : σ} {e : Int}, loopS step l s = .error e → e ≠ 0
  | [], s, e, h => by cases h
  | x :: r, s, e, h => by
    unfold loopS at h
    cases hx : step s x with
    | error y => rw [hx] at h; cases h; exact hs _ _ _ hx
    | ok s1 => rw [hx] at h; exact loopS_ne hs h
theorem stepT_ne {z : List Int} {o : Int} {sh : Shp} {no : Int} {acc : List Tgs × St} {x : Ent} {e : Int} (h : stepT z o sh no acc x = .error e) : e ≠ 0 := by
  unfold stepT at h
  split at h
  · split at h <;> cases h
    decide
  · cases hv : valueS z o x no acc.2 with
    | error y => rw [hv] at h; cases h; exact valueS_ne hv
    | ok v => rw [hv] at h; cases h
theorem blobS_ne {z : List Int} {sh : Shp} {l : List Ent} {no : Int} {s : St} {e : Int} (h : blobS z sh l no s = .error e) : e ≠ 0 := by
  unfold blobS at h
  split at h
  · rename_i x y _
    split at h
    · cases ht : takeS z.length (4, no, 0, x.2.2.2, y.2.2.2) s with
      | error y => rw [ht] at h; cases h; exact takeS_ne ht
      | ok s1 => rw [ht] at h; cases h
    · cases h; decide
  · cases h
theorem dirS_ne {z : List Int} {o : Int} {L : List Shp} : ∀ {f : Nat} {p sh : Int} {s : St} {e : Int}, dirS z o L f p sh s = .error e → e ≠ 0
  | 0, p, sh, s, e, h => by cases h; decide
  | f + 1, p, sh, s, e, h => by
    unfold dirS at h
    cases h1 : entriesS z o p s.no { s with no := IntKind.i64.wrap (s.no + 1) } with
    | error y => rw [h1] at h; cases h; exact entriesS_ne h1
    | ok r1 =>
      rw [h1] at h; simp only at h
      cases h2 : loopS (stepT z o (L.getD sh.toNat shp0) s.no) r1.1 ([], r1.2) with
      | error y => rw [h2] at h; cases h; exact loopS_ne (fun _ _ _ => stepT_ne) h2
      | ok r2 =>
        rw [h2] at h; simp only at h
        split at h
        · cases h; decide
        · cases h3 : loopS (stepD (dirS z o L f) (L.getD sh.toNat shp0)) r1.1 ([], r2.2) with
          | error y =>
            rw [h3] at h; cases h; refine loopS_ne (fun acc x e hs => ?_) h3; unfold stepD at hs
            split at hs
            · split at hs
              · rename_i hr; cases hs; exact dirS_ne hr
              · split at hs <;> cases hs
                decide
            · cases hs
          | ok r3 =>
            rw [h3] at h; simp only at h
            cases h4 : blobS z (L.getD sh.toNat shp0) r1.1 s.no r3.2 with
            | error y => rw [h4] at h; cases h; exact blobS_ne h4
            | ok r4 => rw [h4] at h; cases h
theorem chainS_ne {z : List Int} {o : Int} {L : List Shp} : ∀ {f : Nat} {acc : List (DirT 16)} {p sh : Int} {s : St} {e : Int}, chainS z o L f acc p sh s = .error e → e ≠ 0
  | 0, _, _, _, _, _, h => by cases h; decide
  | f + 1, acc, p, sh, s, e, h => by
    unfold chainS at h
    split at h
    · split at h
      · cases h1 : dirS z o L 16 p sh s with
        | error y => rw [h1] at h; cases h; exact dirS_ne h1
        | ok r => rw [h1] at h; exact chainS_ne h
      · cases h; decide
    · cases h
theorem readS_ne {z : List Int} {L : List Shp} {e : Int} (h : readS z L = .error e) : e ≠ 0 := by
  unfold readS at h
  split at h
  · cases h1 : headS z with
    | error y =>
      rw [h1] at h; cases h; unfold headS at h1
      split at h1
      · split at h1
        · exact takeS_ne h1
        · cases h1; decide
      · cases h1; decide
    | ok s => rw [h1] at h; exact chainS_ne h
  · cases h; decide
end Go.Proofs.YtilennmeiaehnaaGreat
