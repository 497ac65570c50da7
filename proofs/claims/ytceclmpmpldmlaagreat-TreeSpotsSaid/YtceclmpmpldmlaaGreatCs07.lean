/- Chapter 19: Read of both sides. | Chapter 19: Value of both sides. -/
import Derived.Test.YtceclmpmpldmlaaGreatCs06
namespace Go.Proofs.YtceclmpmpldmlaaGreat
open Go.RowKit Tt
set_option linter.unusedVariables false
set_option linter.unusedSimpArgs false

theorem snum_any (a : Option Addr) (n c : Nat) (z : List Int) (o at_ size : Int) (w : World) (hs : Sl w a n c 1 (ints .u8 z)) (hb : Byt z) :
    Calls Tryz.prog 164 #[.agg #[.slice a n c, .int .i64 o], .int .i64 at_, .int .i64 size] w fun e w' => e = .returned (.tuple #[.int .i64 (getV z at_ size o), .bool (getB n at_ size o)]) ∧ Below w.heap.size w w' := by
  have hG := fun W (h : Below w.heap.size w W) => get_any a n c z at_ size o W (hs.mono h) hb; have hG' := Lib.hid hG; clear hG
  go_enter Tryz.func164, Tryz.ntmps164
  go_wp2_with fail
  have hb1 := (Below.refl w.heap.size w).alloc (Nat.le_refl _) (.cells #[.slice a n c, .int .i64 o] 179); refine (hG'.out _ hb1).mono ?_; rintro e w2 ⟨rfl, hb2⟩; have hb := hb1.trans (hb2.mono hb1.size); clear hb2 hb1; have hb' := Lib.hid hb; clear hb
  go_wp2_with fail
  go_ret2
  exact ⟨rfl, hb'.out⟩
set_option maxRecDepth 20000 in
set_option maxHeartbeats 4000000 in
theorem next_any (g : Nat) (a : Option Addr) (n c : Nat) (z : List Int) (o at_ size : Int) (ok : Bool) (w : World) (hr : Blk w g 181 #[.slice a n c, .int .i64 o, .int .i64 at_, .bool ok]) (hs : Sl w a n c 1 (ints .u8 z)) (hb : Byt z)
    (h0 : 0 ≤ at_) (h1 : at_ ≤ 4611686018427387904) (h2 : 0 ≤ size) (h3 : size ≤ 8) :
    Calls Tryz.prog 112 #[.pointer (some ⟨g, 0, none⟩), .int .i64 size] w fun e w' => e = .returned (.int .i64 (getV z at_ size o)) ∧ Blk w' g 181 #[.slice a n c, .int .i64 o, .int .i64 (at_ + size), .bool (ok && getB n at_ size o)] ∧ But g w w' := by
  obtain ⟨Ty, f, hne, hbel, hsurj⟩ := later_worlds w; have q0 : ∀ s, (f s).cell? ⟨g, 0, none⟩ = some (.slice a n c) := fun s => (Blk.late hr (hbel s)).cell rfl; have q1 : ∀ s, (f s).cell? ⟨g, 1, none⟩ = some (.int .i64 o) := fun s => (Blk.late hr (hbel s)).cell rfl; have q2 : ∀ s, (f s).cell? ⟨g, 2, none⟩ = some (.int .i64 at_) := fun s => (Blk.late hr (hbel s)).cell rfl; have HS := Lib.hid (hsurj _ ((Below.refl _ _).drew)); have HD := Lib.hid ((Below.refl w.heap.size w).drew); have hw : IntKind.i64.wrap (at_ + size) = at_ + size := by rw [IntKind.wrap_i64]; omega
  have hN := fun W (h : Below w.heap.size w W) => snum_any a n c z o at_ size W (hs.mono h) hb; obtain ⟨v, hv⟩ : ∃ v, getV z at_ size o = v := ⟨_, rfl⟩; obtain ⟨b, hbb⟩ : ∃ v, getB n at_ size o = v := ⟨_, rfl⟩; rw [hv, hbb] at hN; rw [hv, hbb]; have hr' := Lib.hid hr; have hs' := Lib.hid hs; have hb' := Lib.hid hb; have hbel' := Lib.hid hbel; have hsurj' := Lib.hid hsurj; have hN' := Lib.hid hN; have hv' := Lib.hid hv; have hbb' := Lib.hid hbb; clear hr hs hb hbel hsurj hN hv hbb
  go_enter Tryz.func112, Tryz.ntmps112
  go_wp2_with fail
  refine held_begin (S := fun W => ∃ s, W = f s) (by kernel_rfl) 15 rfl ?_; refine held_take [0, 1, 2, 3, 4, 5, 6, 7, 8] 6 (by kernel_rfl) (fun d _ _ _ _ h => by cases d <;> exact h) (by kernel_rfl) (by kernel_rfl) (by kernel_rfl) HS.out ?_; simp only [pickL, List.map_cons, List.map_nil, List.getD_cons_succ, List.getD_cons_zero]
  iterate 9 (go_big_quiet_step (fail))
  refine wpQuiet_nil ?_; refine held_one 9 5 (by kernel_rfl) (by kernel_rfl) ?_; simp only [pickL, List.map_cons, List.map_nil, List.getD_cons_succ, List.getD_cons_zero]
  go_wp2_with fail
  refine (hN'.out _ HD.out).mono ?_; rintro e w2 ⟨rfl, hb2⟩; have hbw := HD.out.trans (hb2.mono HD.out.size); have HS := Lib.hid (hsurj'.out _ hbw); have b2 := hr'.out.late hbw; clear hb2; have hbw' := Lib.hid hbw; have b2' := Lib.hid b2; clear hbw b2
  go_wp2_with fail
  first | refine Mid.mk ⟨HS.out, ?_⟩ | refine Mid.mk ?_
  refine held_take [10, 11, 12, 13, 14] 0 (by kernel_rfl) (fun d _ _ _ _ h => by cases d <;> exact h) (by kernel_rfl) (by kernel_rfl) (by kernel_rfl) HS.out ?_; simp only [pickL, List.map_cons, List.map_nil, List.getD_cons_succ, List.getD_cons_zero]
  iterate 5 (go_big_quiet_step (fail))
  refine wpQuiet_nil ?_; refine held_last (by kernel_rfl) ?_; have p0 : w2.cell? ⟨g, 0, none⟩ = some (.slice a n c) := b2'.out.cell rfl; have p2 : w2.cell? ⟨g, 2, none⟩ = some (.int .i64 at_) := b2'.out.cell rfl; have p3 : w2.cell? ⟨g, 3, none⟩ = some (.bool ok) := b2'.out.cell rfl; have y2 := b2'.out.frozen 2; have y3 := b2'.out.frozen 3; have b3 := (b2'.out.set 2 (.int .i64 (at_ + size))).set 3 (.bool (ok && b)); have hbt := ((But.of_below (b := g) hbw'.out).set 2 (.int .i64 (at_ + size))).set 3 (.bool (ok && b)); have b3' := Lib.hid b3; have hbt' := Lib.hid hbt; clear b3 hbt; clear q0 q1 q2
  cases ok
  · simp only [Bool.false_and] at *
    go_wp2_with fail
    go_ret
    exact ⟨rfl, b3'.out, hbt'.out⟩
  · simp only [Bool.true_and] at *
    go_wp2_with fail
    go_ret
    exact ⟨rfl, b3'.out, hbt'.out⟩
abbrev Ent := Int × Int × Int × Int
def entC (x : Ent) : List Value := [.int .i64 x.1, .int .i64 x.2.1, .int .i64 x.2.2.1, .int .i64 x.2.2.2]
def entV (x : Ent) : Value := .agg #[.int .i64 x.1, .int .i64 x.2.1, .int .i64 x.2.2.1, .int .i64 x.2.2.2]
theorem entC_len (x : Ent) : (entC x).length = 4 := rfl
def entAt (z : List Int) (o p : Int) : Ent := (getV z p 2 o, getV z (p + 2) 2 o, getV z (p + 4) 4 o, getV z (p + 8) 4 o)
theorem getB_in {n : Nat} {at_ size o : Int} (hs : size = 1 ∨ size = 2 ∨ size = 4) (ho : o = 1 ∨ o = 2) (h0 : 0 ≤ at_) (h1 : at_ + size ≤ n) : getB n at_ size o = true := by
  unfold getB mayB
  simp
  omega
set_option maxRecDepth 20000 in
set_option maxHeartbeats 4000000 in
theorem eread_any (a : Option Addr) (n c : Nat) (z : List Int) (o p : Int) (w : World) (hs : Sl w a n c 1 (ints .u8 z)) (hb : Byt z) (ho : o = 1 ∨ o = 2) (h0 : 0 ≤ p) (h1 : p + 12 ≤ n) (hn : n ≤ 1000000000) :
    Calls Tryz.prog 50 #[.slice a n c, .int .i64 p, .int .i64 o] w fun e w' => e = .returned (.tuple #[entV (entAt z o p), .bool true]) ∧ Below w.heap.size w w' := by
  have hle := hs.le; have hmx := hs.max; have hR := fun W => room_any p 12 n W (by omega) (by omega); rw [show roomB p 12 n = true by unfold roomB; simp; omega] at hR; have g1 := getB_in (n := n) (at_ := p) (size := 2) (by omega) ho h0 (by omega); have g2 := getB_in (n := n) (at_ := p + 2) (size := 2) (by omega) ho (by omega) (by omega); have g3 := getB_in (n := n) (at_ := p + 4) (size := 4) (by omega) ho (by omega) (by omega); have g4 := getB_in (n := n) (at_ := p + 8) (size := 4) (by omega) ho (by omega) (by omega); unfold entV entAt; simp only; obtain ⟨v1, hv1⟩ : ∃ v, getV z p 2 o = v := ⟨_, rfl⟩; obtain ⟨v2, hv2⟩ : ∃ v, getV z (p + 2) 2 o = v := ⟨_, rfl⟩; obtain ⟨v3, hv3⟩ : ∃ v, getV z (p + 4) 4 o = v := ⟨_, rfl⟩; obtain ⟨v4, hv4⟩ : ∃ v, getV z (p + 8) 4 o = v := ⟨_, rfl⟩; rw [hv1, hv2, hv3, hv4]; obtain ⟨W, hW⟩ : ∃ W, (w.alloc (.cells #[.int .i64 0, .int .i64 0, .int .i64 0, .int .i64 0] 55)).alloc (.cells #[.slice a n c, .int .i64 o, .int .i64 p, .bool true] 181) = W := ⟨_, rfl⟩; have b0 : Blk W w.heap.size 55 #[.int .i64 0, .int .i64 0, .int .i64 0, .int .i64 0] := by rw [← hW]; exact (Blk.new w _ _).alloc _
  have hrd : Blk W (w.heap.size + 1) 181 #[.slice a n c, .int .i64 o, .int .i64 p, .bool true] := by rw [← hW]; exact heap_new' _ _ (by simp)
  have hbW : Below w.heap.size w W := by rw [← hW]; exact (((Below.refl w.heap.size w).alloc (Nat.le_refl _) _).alloc (by simp) _)
  have hsW := hs.mono hbW; have hltW := hrd.lt; have HN1 := next_any (w.heap.size + 1) a n c z o p 2 true W hrd hsW hb h0 (by omega) (by omega) (by omega); have HN2 := fun W2 h hs2 => next_any (w.heap.size + 1) a n c z o (p + 2) 2 true W2 h hs2 hb (by omega) (by omega) (by omega) (by omega); have HN3 := fun W2 h hs2 => next_any (w.heap.size + 1) a n c z o (p + 4) 4 true W2 h hs2 hb (by omega) (by omega) (by omega) (by omega); have HN4 := fun W2 h hs2 => next_any (w.heap.size + 1) a n c z o (p + 8) 4 true W2 h hs2 hb (by omega) (by omega) (by omega) (by omega); rw [hv1, g1] at HN1; rw [hv2, g2] at HN2; rw [hv3, g3] at HN3; rw [hv4, g4] at HN4; simp only [Bool.and_self, Int.add_assoc, Int.reduceAdd] at HN1 HN2 HN3 HN4; clear g1 g2 g3 g4 hv1 hv2 hv3 hv4; have hs' := Lib.hid hs; have hb' := Lib.hid hb; have hR' := Lib.hid hR; have b0' := Lib.hid b0; have hrd' := Lib.hid hrd; have hbW' := Lib.hid hbW; have hsW' := Lib.hid hsW; have HN1' := Lib.hid HN1; have HN2' := Lib.hid HN2; have HN3' := Lib.hid HN3; have HN4' := Lib.hid HN4; clear hs hb hR b0 hrd hbW hsW HN1 HN2 HN3 HN4
  go_enter Tryz.func50, Tryz.ntmps50
  go_wp2_with (go_at_call 111; refine (hR'.out _).mono ?_; rintro e w1 ⟨rfl, rfl⟩)
  clear hW; refine HN1'.out.mono ?_; rintro e W1 ⟨rfl, hr1, hbt1⟩; have hB1 := hbW'.out.trans (hbt1.below (Nat.le_succ w.heap.size) hbW'.out.size); have b01 := b0'.out.but hbt1 (by omega); clear hbt1; have hr1' := Lib.hid hr1; have hB1' := Lib.hid hB1; have b01' := Lib.hid b01; clear hr1 hB1 b01
  go_wp2_with fail
  refine (HN2'.out _ hr1'.out (hs'.out.mono hB1'.out)).mono ?_; rintro e W2 ⟨rfl, hr2, hbt2⟩; have hB2 := hB1'.out.trans (hbt2.below (Nat.le_succ w.heap.size) hB1'.out.size); have b02 := b01'.out.but hbt2 (by omega); clear hbt2 hr1' hB1' b01'; have hr2' := Lib.hid hr2; have hB2' := Lib.hid hB2; have b02' := Lib.hid b02; clear hr2 hB2 b02
  go_wp2_with fail
  refine (HN3'.out _ hr2'.out (hs'.out.mono hB2'.out)).mono ?_; rintro e W3 ⟨rfl, hr3, hbt3⟩; have hB3 := hB2'.out.trans (hbt3.below (Nat.le_succ w.heap.size) hB2'.out.size); have b03 := b02'.out.but hbt3 (by omega); clear hbt3 hr2' hB2' b02'; have hr3' := Lib.hid hr3; have hB3' := Lib.hid hB3; have b03' := Lib.hid b03; clear hr3 hB3 b03
  go_wp2_with fail
  refine (HN4'.out _ hr3'.out (hs'.out.mono hB3'.out)).mono ?_; rintro e W4 ⟨rfl, hr4, hbt4⟩; have hB4 := hB3'.out.trans (hbt4.below (Nat.le_succ w.heap.size) hB3'.out.size); have b04 := b03'.out.but hbt4 (by omega); clear hbt4 hr3' hB3' b03'
  go_upto_region 5 with fail
  have b05 := b04.alloc (.cells #[.int .i64 v1, .int .i64 v2, .int .i64 v3, .int .i64 v4] 55); have hr5 := hr4.alloc (.cells #[.int .i64 v1, .int .i64 v2, .int .i64 v3, .int .i64 v4] 55); have hn5 := Blk.new W4 55 #[.int .i64 v1, .int .i64 v2, .int .i64 v3, .int .i64 v4]; have hB5 := hB4.alloc hB4.size (.cells #[.int .i64 v1, .int .i64 v2, .int .i64 v3, .int .i64 v4] 55)
  generalize W4.alloc (.cells #[.int .i64 v1, .int .i64 v2, .int .i64 v3, .int .i64 v4] 55) = W5 at *
  generalize W4.heap.size = g5 at *
  have c2 : W5.cell? ⟨w.heap.size + 1, 3, none⟩ = some (.bool true) := hr5.cell rfl; have d0 : W5.cell? ⟨g5, 0, none⟩ = some (.int .i64 v1) := hn5.cell rfl; have d1 : W5.cell? ⟨g5, 1, none⟩ = some (.int .i64 v2) := hn5.cell rfl; have d2 : W5.cell? ⟨g5, 2, none⟩ = some (.int .i64 v3) := hn5.cell rfl; have d3 : W5.cell? ⟨g5, 3, none⟩ = some (.int .i64 v4) := hn5.cell rfl; have p0 : W5.cell? ⟨w.heap.size, 0, none⟩ = some (.int .i64 0) := b05.cell rfl; have p1 : W5.cell? ⟨w.heap.size, 1, none⟩ = some (.int .i64 0) := b05.cell rfl; have p2 : W5.cell? ⟨w.heap.size, 2, none⟩ = some (.int .i64 0) := b05.cell rfl; have p3 : W5.cell? ⟨w.heap.size, 3, none⟩ = some (.int .i64 0) := b05.cell rfl; have y0 := b05.frozen 0; have y1 := b05.frozen 1; have y2 := b05.frozen 2; have y3 := b05.frozen 3; clear hr4 hB4 b04 hr5 hn5; have hB5' := Lib.hid hB5; have b05' := Lib.hid b05; clear hB5 b05
  go_wp2_with fail
  refine bodyPost_ret (results_blk_tmp rfl _ _ w.heap.size 55 #[.int .i64 v1, .int .i64 v2, .int .i64 v3, .int .i64 v4] _ rfl (b05'.out.set4 _ _ _ _) Tryz.underlying55 rfl (by kernel_rfl)) rfl ?_; exact ⟨rfl, below_set4 hB5'.out (Nat.le_refl _) _ _ _ _⟩
end Go.Proofs.YtceclmpmpldmlaaGreat

namespace Tt
open Go Go.RowKit
theorem results_blk_tmp2 {P : Program} {fn : Func} {p u v : Tmp} {ty : TypeId} (h : fn.results = #[.cell p ty, .tmp u, .tmp v]) (tmps : Array Value) (w : World) (g : Nat) (t : TypeId) (cs : Array Value) (d : TypeDesc)
    (hp : tmps.getD p undef = .pointer (some ⟨g, 0, none⟩)) (hg : Blk w g t cs)
    (hu : P.underlying ty = some d) (hd : (match d with | .struct _ | .array _ _ => true | _ => false) = true) (hi : (P.info? ty).map (·.size) = some cs.size) :
    (results fn tmps).run P w = .ok (.tuple #[.agg cs, tmps.getD u undef, tmps.getD v undef]) w := by
  have e : (results fn tmps).run P w = ((asAddr (tmps.getD p undef)).run P w).andThen fun a w₁ => ((loadVar ty a).run P w₁).andThen fun x w₂ => .ok (.tuple #[x, tmps.getD u undef, tmps.getD v undef]) w₂ := by
    simp only [results, h]
    simp [Sem.run_bind, Result.andThen]
  rw [e, hp]
  simp [asAddr, Result.andThen, run_loadVar_row w g t ty cs (0, 0) d hg hu hd hi]
theorem Blk.set_same {w : World} {g : Nat} {T : TypeId} {cs : Array Value} (h : Blk w g T cs) {i : Nat} {v : Value} (hv : cs[i]? = some v) : w.setCell ⟨g, i, none⟩ v = w := by
  have e : (w.setCell ⟨g, i, none⟩ v).heap = w.heap := by
    apply Array.ext_getElem?
    intro k; simp only [World.setCell, Array.getElem?_modify]
    by_cases hk : g = k
    · subst hk
      rw [if_pos rfl, h]; have hi := (Array.getElem?_eq_some_iff.1 hv).1
      have : cs.setIfInBounds i v = cs := by
        apply Array.ext_getElem?
        intro j
        by_cases hj : i = j
        · subst hj; rw [Array.getElem?_setIfInBounds_self_of_lt hi, hv]
        · rw [Array.getElem?_setIfInBounds_ne hj]
      simp [this]
    · rw [if_neg hk]
  cases w
  simp only [World.setCell] at e ⊢; rw [e]
theorem Blk.set3_same {w : World} {g : Nat} {T : TypeId} {x y z : Value} (h : Blk w g T #[x, y, z]) : ((w.setCell ⟨g, 0, none⟩ x).setCell ⟨g, 1, none⟩ y).setCell ⟨g, 2, none⟩ z = w := by
  rw [h.set_same rfl, h.set_same rfl, h.set_same rfl]
end Tt
namespace Go.Proofs.YtceclmpmpldmlaaGreat
open Go.RowKit Tt
set_option linter.unusedVariables false
set_option linter.unusedSimpArgs false

def zerosB (l : List Int) : Bool := !l.any (fun x => x != 0)
/-- the value within an entry's slot, and whether what is left of the slot is 0 -/
def inS (x : Ent) (o : Int) : Option (List Int × Bool) :=
  if (putOk x.2.2.2 4 o && inlB x.2.1 x.2.2.1) = true then (ofS x.2.1 x.2.2.1 (putS x.2.2.2 4 o) o).map (fun d => (d, zerosB ((putS x.2.2.2 4 o).drop d.length))) else none
theorem putS_len {n o : Int} (h : putOk n 4 o = true) : (putS n 4 o).length = 4 := by
  unfold putS; rw [if_pos h]; split <;> simp [leb_len]
theorem putS_byt (n s o : Int) : Byt (putS n s o) := by
  unfold putS
  split
  · split
    · exact leb_byt _ _
    · intro x hx; exact leb_byt _ _ _ (List.mem_reverse.1 hx)
  · intro x hx; cases hx
abbrev InPost (w : World) (ty cnt : Int) (R : Option (List Int × Bool)) (e : Ending) (w' : World) : Prop :=
  ∃ ty' cnt' a2 m c2 cl, e = .returned (.tuple #[.agg #[.int .i64 ty', .int .i64 cnt', .slice a2 m c2], .bool cl, .bool R.isSome]) ∧ Below w.heap.size w w' ∧
    ∀ d, R = some d → ty' = ty ∧ cnt' = cnt ∧ cl = d.2 ∧ w'.ownsRow w.heap.size 5 1 (.slice a2 m c2) m (ints .u8 d.1)
theorem some_any (x : Int) (w : World) : Calls Tryz.prog 114 #[.int .u8 x] w fun e w' => e = .returned (.bool (x != 0)) ∧ Below w.heap.size w w' := by
  go_enter Tryz.func114, Tryz.ntmps114
  go_wp2
  go_ret
  exact ⟨rfl, Below.refl _ _⟩
set_option maxRecDepth 20000 in
set_option maxHeartbeats 4000000 in
theorem value_any (x : Ent) (o : Int) (w : World) : Calls Tryz.prog 51 #[entV x, .int .i64 o] w (InPost w x.2.1 x.2.2.1 (inS x o)) := by
  obtain ⟨tg, ty, cnt, sl⟩ := x; unfold entV; simp only; obtain ⟨R, hR⟩ : ∃ R, inS (tg, ty, cnt, sl) o = R := ⟨_, rfl⟩; rw [hR]; unfold inS at hR; simp only at hR; have HP := fun W => put_any sl 4 o W; have HI := fun W => inl_any ty cnt W; have hpl := putS_len (n := sl) (o := o); have hpb := putS_byt sl 4 o
  generalize putOk sl 4 o = pk at *
  obtain ⟨il, hil⟩ : ∃ il, inlB ty cnt = il := ⟨_, rfl⟩; rw [hil] at hR HI; have hil' := Lib.hid hil; clear hil
  generalize putS sl 4 o = D at *
  obtain ⟨W, hW⟩ : ∃ W, (w.alloc (.cells #[.int .i64 tg, .int .i64 ty, .int .i64 cnt, .int .i64 sl] 55)).alloc (.cells #[.int .i64 0, .int .i64 0, .slice none 0 0] 72) = W := ⟨_, rfl⟩; have bx : Blk W w.heap.size 55 #[.int .i64 tg, .int .i64 ty, .int .i64 cnt, .int .i64 sl] := by rw [← hW]; exact (Blk.new w _ _).alloc _
  have b0 : Blk W (w.heap.size + 1) 72 #[.int .i64 0, .int .i64 0, .slice none 0 0] := by rw [← hW]; exact heap_new' _ _ (by simp)
  have hbW : Below w.heap.size w W := by rw [← hW]; exact (((Below.refl w.heap.size w).alloc (Nat.le_refl _) _).alloc (by simp) _)
  have hltW := b0.lt; have c3 : W.cell? ⟨w.heap.size, 3, none⟩ = some (.int .i64 sl) := bx.cell rfl; have HP' := Lib.hid HP; have HI' := Lib.hid HI; have hpl' := Lib.hid hpl; have hpb' := Lib.hid hpb; have bx' := Lib.hid bx; have b0' := Lib.hid b0; have hbW' := Lib.hid hbW; have hR' := Lib.hid hR; clear HP HI hpl hpb bx b0 hbW hR
  go_enter Tryz.func51, Tryz.ntmps51
  go_upto_region 1 with fail
  try rw [hW]
  clear hW
  go_wp2_with fail
  refine (HP'.out _).mono ?_; rintro e w1 ⟨a1, m1, c1, rfl, ho1, hb1⟩; obtain rfl : m1 = D.length := by have := (Sl.of_own ho1).1.ilen; omega
  have bx1 := bx'.out.late hb1; have b01 := b0'.out.late hb1; have hbw1 := hbW'.out.trans (hb1.mono hbW'.out.size); have hlt1 := b01.lt; have k1 : w1.cell? ⟨w.heap.size, 1, none⟩ = some (.int .i64 ty) := bx1.cell rfl; have k2 : w1.cell? ⟨w.heap.size, 2, none⟩ = some (.int .i64 cnt) := bx1.cell rfl; have p0 : w1.cell? ⟨w.heap.size + 1, 0, none⟩ = some (.int .i64 0) := b01.cell rfl; have p1 : w1.cell? ⟨w.heap.size + 1, 1, none⟩ = some (.int .i64 0) := b01.cell rfl; have p2 : w1.cell? ⟨w.heap.size + 1, 2, none⟩ = some (.slice none 0 0) := b01.cell rfl; have y0 := b01.frozen 0; have y1 := b01.frozen 1; have y2 := b01.frozen 2; clear hb1 c3; have bx1' := Lib.hid bx1; have b01' := Lib.hid b01; have hbw1' := Lib.hid hbw1; have ho1' := Lib.hid ho1; clear bx1 b01 hbw1 ho1
  cases pk
  · obtain rfl : R = none := by rw [← hR'.out]; rfl
    go_wp2_with fail
    refine bodyPost_ret (results_blk_tmp2 rfl _ _ (w.heap.size + 1) 72 #[.int .i64 0, .int .i64 0, .slice none 0 0] _ rfl (b01'.out.set3 _ _ _) Tryz.underlying72 rfl (by kernel_rfl)) rfl ?_; exact ⟨0, 0, none, 0, 0, false, rfl, below_set3 hbw1'.out (Nat.le_succ _) _ _ _, fun d h => by cases h⟩
  clear p0 p1 p2 y0 y1 y2
  go_wp2_with fail
  refine (HI'.out _).mono ?_; rintro e w2 ⟨rfl, hb2⟩; have bx2 := bx1'.out.late hb2; have b02 := b01'.out.late hb2; have hbw2 := hbw1'.out.trans (hb2.mono hbw1'.out.size); have ho2 := own_later ho1'.out hb2; have hlt2 := b02.lt; clear k1 k2; have k1 : w2.cell? ⟨w.heap.size, 1, none⟩ = some (.int .i64 ty) := bx2.cell rfl; have k2 : w2.cell? ⟨w.heap.size, 2, none⟩ = some (.int .i64 cnt) := bx2.cell rfl; have p0 : w2.cell? ⟨w.heap.size + 1, 0, none⟩ = some (.int .i64 0) := b02.cell rfl; have p1 : w2.cell? ⟨w.heap.size + 1, 1, none⟩ = some (.int .i64 0) := b02.cell rfl; have p2 : w2.cell? ⟨w.heap.size + 1, 2, none⟩ = some (.slice none 0 0) := b02.cell rfl; have y0 := b02.frozen 0; have y1 := b02.frozen 1; have y2 := b02.frozen 2; clear hb2; have bx2' := Lib.hid bx2; have b02' := Lib.hid b02; have hbw2' := Lib.hid hbw2; have ho2' := Lib.hid ho2; clear bx2 b02 hbw2 ho2
  cases il
  · obtain rfl : R = none := by rw [← hR'.out]; rfl
    go_wp2_with fail
    refine bodyPost_ret (results_blk_tmp2 rfl _ _ (w.heap.size + 1) 72 #[.int .i64 0, .int .i64 0, .slice none 0 0] _ rfl (b02'.out.set3 _ _ _) Tryz.underlying72 rfl (by kernel_rfl)) rfl ?_; exact ⟨0, 0, none, 0, 0, false, rfl, below_set3 hbw2'.out (Nat.le_succ _) _ _ _, fun d h => by cases h⟩
  clear p0 p1 p2 y0 y1 y2; have hR2 := hR'.out; simp only [Bool.and_self, if_true] at hR2; have HO := of_any ty cnt a1 D.length c1 D o w2 (Sl.of_own ho2'.out).1 hpb'.out; have hD4 := hpl'.out trivial; have hol := fun d (h : ofS ty cnt D o = some d) => ofS_len h
  have hlen : ∀ d, ofS ty cnt D o = some d → d.length ≤ 4 := fun d h => by
    have h1 := hil'.out; unfold inlB longS at h1; have h2 := ofS_len h
    split at h1 <;> simp at h1 <;> omega
  generalize ofS ty cnt D o = S at *
  have HO' := Lib.hid HO; have hR2' := Lib.hid hR2; have hol' := Lib.hid hol; have hlen' := Lib.hid hlen; have hD4' := Lib.hid hD4; clear HO hR2 hol hlen hD4
  go_wp2_with fail
  refine HO'.out.mono ?_; rintro e w3 ⟨ty', cnt', a3, m3, c3, rfl, hb3, hd3⟩; have b03 := b02'.out.late hb3; have hbw3 := hbw2'.out.trans (hb3.mono hbw2'.out.size); have ho3 := own_later ho2'.out hb3; have hlt3 := b03.lt; clear k1 k2; have p0 : w3.cell? ⟨w.heap.size + 1, 0, none⟩ = some (.int .i64 0) := b03.cell rfl; have p1 : w3.cell? ⟨w.heap.size + 1, 1, none⟩ = some (.int .i64 0) := b03.cell rfl; have p2 : w3.cell? ⟨w.heap.size + 1, 2, none⟩ = some (.slice none 0 0) := b03.cell rfl; have y0 := b03.frozen 0; have y1 := b03.frozen 1; have y2 := b03.frozen 2; clear hb3; have b03' := Lib.hid b03; have hbw3' := Lib.hid hbw3; have ho3' := Lib.hid ho3; have hd3' := Lib.hid hd3; clear b03 hbw3 ho3 hd3
  go_upto_region 5 with fail
  have b04 := b03'.out.set3 (.int .i64 ty') (.int .i64 cnt') (.slice a3 m3 c3); have hbw4 := below_set3 hbw3'.out (Nat.le_succ w.heap.size) (.int .i64 ty') (.int .i64 cnt') (.slice a3 m3 c3); have ho4 := own_but ho3'.out ((((But.refl (w.heap.size + 1) w3).set 0 (.int .i64 ty')).set 1 (.int .i64 cnt')).set 2 (.slice a3 m3 c3)) (fun hx => by have := (ho3'.out.lt _ hx).1; omega); have hd4 := fun d h => (hd3'.out d h).2.2; have hd5 := fun d h => own_but (hd4 d h) ((((But.refl (w.heap.size + 1) w3).set 0 (.int .i64 ty')).set 1 (.int .i64 cnt')).set 2 (.slice a3 m3 c3)) (fun hx => by have := ((hd4 d h).lt _ hx).1; omega); have hd6 := fun d h => (⟨(hd3'.out d h).1, (hd3'.out d h).2.1, hd5 d h⟩ : _ ∧ _ ∧ _); clear hd4 hd5 p0 p1 p2 y0 y1 y2 hd3'
  generalize ((w3.setCell ⟨w.heap.size + 1, 0, none⟩ (.int .i64 ty')).setCell ⟨w.heap.size + 1, 1, none⟩ (.int .i64 cnt')).setCell ⟨w.heap.size + 1, 2, none⟩ (.slice a3 m3 c3) = w4 at *
  have p0 : w4.cell? ⟨w.heap.size + 1, 0, none⟩ = some (.int .i64 ty') := b04.cell rfl; have p1 : w4.cell? ⟨w.heap.size + 1, 1, none⟩ = some (.int .i64 cnt') := b04.cell rfl; have p2 : w4.cell? ⟨w.heap.size + 1, 2, none⟩ = some (.slice a3 m3 c3) := b04.cell rfl; have y0 := b04.frozen 0; have y1 := b04.frozen 1; have y2 := b04.frozen 2; clear b03' hbw3' ho3'; have hlt4 := b04.lt; have b04' := Lib.hid b04; have hbw4' := Lib.hid hbw4; have ho4' := Lib.hid ho4; have hd6' := Lib.hid hd6; clear b04 hbw4 ho4 hd6
  cases S with
  | none =>
    obtain rfl : R = none := by rw [← hR2'.out]; rfl
    simp only [Option.isSome_none] at *
    go_wp2_with fail
    refine bodyPost_ret (results_blk_tmp2 rfl _ _ (w.heap.size + 1) 72 #[.int .i64 0, .int .i64 0, .slice none 0 0] _ rfl (b04'.out.set3 _ _ _) Tryz.underlying72 rfl (by kernel_rfl)) rfl ?_; exact ⟨0, 0, none, 0, 0, false, rfl, below_set3 hbw4'.out (Nat.le_succ _) _ _ _, fun d h => by cases h⟩
  | some d =>
    obtain ⟨rfl, rfl, hod⟩ := hd6'.out d rfl; have hRd : R = some (d, zerosB (D.drop d.length)) := by rw [← hR2'.out]; rfl
    subst hRd; have hm3 := (Sl.of_own hod).1.ilen; have hdl := hol'.out d rfl; obtain rfl : m3 = d.length := by omega
    have hlong := hlen'.out d rfl; simp only [Option.isSome_some] at *
    go_upto_region 8 with fail
    clear p0 p1 p2 y0 y1 y2 hm3; obtain ⟨Ty, f, hne, hbel, hsurj⟩ := later_worlds w4; have q0 : ∀ s, (f s).cell? ⟨w.heap.size + 1, 0, none⟩ = some (.int .i64 ty') := fun s => (Blk.late b04'.out (hbel s)).cell rfl; have q1 : ∀ s, (f s).cell? ⟨w.heap.size + 1, 1, none⟩ = some (.int .i64 cnt') := fun s => (Blk.late b04'.out (hbel s)).cell rfl; have q2 : ∀ s, (f s).cell? ⟨w.heap.size + 1, 2, none⟩ = some (.slice a3 d.length c3) := fun s => (Blk.late b04'.out (hbel s)).cell rfl; have HS := Lib.hid (hsurj _ ((Below.refl _ _).drew)); have HD := Lib.hid ((Below.refl w4.heap.size w4).drew); have hle4 := (Sl.of_own ho4'.out).1.le; have hD4 := hD4'.out; obtain ⟨a7, hsl, hs7, hin7⟩ := sub_l (P := Tryz.prog) (T := 24) (E := 5) (sz := 1) Tryz.underlying24 (fun W => by kernel_rfl) (Sl.of_own ho4'.out).1 (d.length : Int) (by omega) (by omega) (D.length - d.length) (c1 - d.length) (by omega) (by omega); rw [Nat.mul_one, Int.toNat_natCast, show (ints .u8 D).drop d.length = ints .u8 (D.drop d.length) by simp [ints]] at hs7; have HC := fun W (h : Below w4.heap.size w4 W) => bhas_any 114 rfl a7 (D.length - d.length) (c1 - d.length) (D.drop d.length) (fun x => x != 0) W (hs7.mono h) (fun W2 x _ => some_any x W2); have hz : zerosB (D.drop d.length) = !(D.drop d.length).any (fun x => x != 0) := rfl
    generalize (D.drop d.length).any (fun x => x != 0) = r at *
    clear hdl hlong; have hbel' := Lib.hid hbel; have hsurj' := Lib.hid hsurj; have hs7' := Lib.hid hs7; have hin7' := Lib.hid hin7; have HC' := Lib.hid HC; have hD4' := Lib.hid hD4; have hod' := Lib.hid hod; clear hbel hsurj hs7 hin7 HC hD4 hod
    go_wp2_with fail
    refine held_begin (S := fun W => ∃ s, W = f s) (by kernel_rfl) 12 rfl ?_; refine held_take [0, 1, 2, 3, 4, 5, 6] 5 (by kernel_rfl) (fun d _ _ _ _ h => by cases d <;> exact h) (by kernel_rfl) (by kernel_rfl) (by kernel_rfl) HS.out ?_; simp only [pickL, List.map_cons, List.map_nil, List.getD_cons_succ, List.getD_cons_zero]
    iterate 7 (go_big_quiet_step (fail))
    refine wpQuiet_nil ?_; refine held_one 7 4 (by kernel_rfl) (by kernel_rfl) ?_; simp only [pickL, List.map_cons, List.map_nil, List.getD_cons_succ, List.getD_cons_zero]
    go_wp2_with fail
    refine (HC'.out _ HD.out).mono ?_; rintro e w5 ⟨rfl, hb5⟩; have hb45 := HD.out.trans (hb5.mono HD.out.size); have HS := Lib.hid (hsurj'.out _ hb45); have b05 := b04'.out.late hb45; have hbw5 := hbw4'.out.trans (hb45.mono hbw4'.out.size); have hod5 := own_later hod'.out hb45; have p0 : w5.cell? ⟨w.heap.size + 1, 0, none⟩ = some (.int .i64 ty') := b05.cell rfl; have p1 : w5.cell? ⟨w.heap.size + 1, 1, none⟩ = some (.int .i64 cnt') := b05.cell rfl; have p2 : w5.cell? ⟨w.heap.size + 1, 2, none⟩ = some (.slice a3 d.length c3) := b05.cell rfl; have y0 := b05.frozen 0; have y1 := b05.frozen 1; have y2 := b05.frozen 2; clear hb5; have b05' := Lib.hid b05; have hbw5' := Lib.hid hbw5; have hod5' := Lib.hid hod5; have hb45' := Lib.hid hb45; clear b05 hbw5 hod5 hb45
    go_wp2_with fail
    first | refine Mid.mk ⟨HS.out, ?_⟩ | refine Mid.mk ?_
    refine held_take [8] 3 (by kernel_rfl) (fun d _ _ _ _ h => by cases d <;> exact h) (by kernel_rfl) (by kernel_rfl) (by kernel_rfl) HS.out ?_; simp only [pickL, List.map_cons, List.map_nil, List.getD_cons_succ, List.getD_cons_zero]
    iterate 1 (go_big_quiet_step (fail))
    refine wpQuiet_nil ?_; refine held_one 9 2 (by kernel_rfl) (by kernel_rfl) ?_; simp only [pickL, List.map_cons, List.map_nil, List.getD_cons_succ, List.getD_cons_zero]; clear q0 q1 q2
    go_wp2_with fail
    first | rw [b05'.out.set3_same] | skip
    first | refine Mid.mk ⟨HS.out, ?_⟩ | refine Mid.mk ?_
    have q0 : ∀ s, (f s).cell? ⟨w.heap.size + 1, 0, none⟩ = some (.int .i64 ty') := fun s => (Blk.late b04'.out (hbel'.out s)).cell rfl; refine held_take [10, 11] 0 (by kernel_rfl) (fun d _ _ _ _ h => by cases d <;> exact h) (by kernel_rfl) (by kernel_rfl) (by kernel_rfl) HS.out ?_; simp only [pickL, List.map_cons, List.map_nil, List.getD_cons_succ, List.getD_cons_zero]
    iterate 2 (go_big_quiet_step (fail))
    refine wpQuiet_nil ?_; refine held_last (by kernel_rfl) ?_
    go_wp2_with fail
    refine bodyPost_ret (results_blk_tmp2 rfl _ _ (w.heap.size + 1) 72 #[.int .i64 ty', .int .i64 cnt', .slice a3 d.length c3] _ rfl b05'.out Tryz.underlying72 rfl (by kernel_rfl)) rfl ?_
    exact ⟨ty', cnt', a3, d.length, c3, !r, rfl, hbw5'.out, fun d' h => by
      obtain rfl : _ = d' := by simpa using h
      exact ⟨rfl, rfl, hz.symm, own_mono hod5'.out hbw2'.out.size⟩⟩
end Go.Proofs.YtceclmpmpldmlaaGreat
