/- Chapter 19: Value of both sides. | Chapter 21: whether shapes may be, in the program. | Chapter 22: the plain walk: what is read of any bytes by any shapes, or which error. | Chapters 20, 21: trees of directories, plain: entries, directories in order, spots, shapes. -/
import Derived.Test.YtilennmeiaehnaaGreatCa05
namespace Tt
open Go Go.RowKit
theorem results_blk_tmp2 {P : Program} {fn : Func} {p u v : Tmp} {ty : TypeId} (h : fn.results = #[.cell p ty, .tmp u, .tmp v]) (tmps : Array Value) (w : World) (g : Nat) (t : TypeId) (cs : Array Value) (d : TypeDesc)
    (hp : tmps.getD p undef = .pointer (some ⟨g, 0, none⟩)) (hg : Blk w g t cs)
    (hu : P.underlying ty = some d) (hd : (match d with | .struct _ | .array _ _ => true | _ => false) = true) (hi : (P.info? ty).map (·.size) = some cs.size) :
    (results fn tmps).run P w = .ok (.tuple #[.agg cs, tmps.getD u undef, tmps.getD v undef]) w := by
  have e : (results fn tmps).run P w = ((asAddr (tmps.getD p undef)).run P w).andThen fun a w₁ => ((loadVar ty a).run P w₁).andThen fun x w₂ => .ok (.tuple #[x, tmps.getD u undef, tmps.getD v undef]) w₂ := by
    simp only [results, h]
    simp [Sem.run_bind, Result.andThen]
  rw [e, hp]
  simp [asAddr, Result.andThen, run_loadVar_row w g t ty cs (0, 0) d hg hu hd hi]
theorem Blk.set_same {w : World} {g : Nat} {T : TypeId} {cs : Array Value} (h : Blk w g T cs) {i : Nat} {v : Value} (hv : cs[i]? = some v) : w.setCell ⟨g, i, none⟩ v = w := by
  have e : (w.setCell ⟨g, i, none⟩ v).heap = w.heap := by
    apply Array.ext_getElem?
    intro k; simp only [World.setCell, Array.getElem?_modify]
    by_cases hk : g = k
    · subst hk
      rw [if_pos rfl, h]; have hi := (Array.getElem?_eq_some_iff.1 hv).1
      have : cs.setIfInBounds i v = cs := by
        apply Array.ext_getElem?
        intro j
        by_cases hj : i = j
        · subst hj; rw [Array.getElem?_setIfInBounds_self_of_lt hi, hv]
        · rw [Array.getElem?_setIfInBounds_ne hj]
      simp [this]
    · rw [if_neg hk]
  cases w
  simp only [World.setCell] at e ⊢; rw [e]
theorem Blk.set3_same {w : World} {g : Nat} {T : TypeId} {x y z : Value} (h : Blk w g T #[x, y, z]) : ((w.setCell ⟨g, 0, none⟩ x).setCell ⟨g, 1, none⟩ y).setCell ⟨g, 2, none⟩ z = w := by
  rw [h.set_same rfl, h.set_same rfl, h.set_same rfl]
end Tt
namespace Go.Proofs.YtilennmeiaehnaaGreat
open Go.RowKit Tt
set_option linter.unusedVariables false
set_option linter.unusedSimpArgs false

def zerosB (l : List Int) : Bool := !l.any (fun x => x != 0)
/-- the value within an entry's slot, and whether what is left of the slot is 0 -/
def inS (x : Ent) (o : Int) : Option (List Int × Bool) :=
  if (putOk x.2.2.2 4 o && inlB x.2.1 x.2.2.1) = true then (ofS x.2.1 x.2.2.1 (putS x.2.2.2 4 o) o).map (fun d => (d, zerosB ((putS x.2.2.2 4 o).drop d.length))) else none
theorem putS_len {n o : Int} (h : putOk n 4 o = true) : (putS n 4 o).length = 4 := by
  unfold putS; rw [if_pos h]; split <;> simp [leb_len]
theorem putS_byt (n s o : Int) : Byt (putS n s o) := by
  unfold putS
  split
  · split
    · exact leb_byt _ _
    · intro x hx; exact leb_byt _ _ _ (List.mem_reverse.1 hx)
  · intro x hx; cases hx
abbrev InPost (w : World) (ty cnt : Int) (R : Option (List Int × Bool)) (e : Ending) (w' : World) : Prop :=
  ∃ ty' cnt' a2 m c2 cl, e = .returned (.tuple #[.agg #[.int .i64 ty', .int .i64 cnt', .slice a2 m c2], .bool cl, .bool R.isSome]) ∧ Below w.heap.size w w' ∧
    ∀ d, R = some d → ty' = ty ∧ cnt' = cnt ∧ cl = d.2 ∧ w'.ownsRow w.heap.size 5 1 (.slice a2 m c2) m (ints .u8 d.1)
theorem some_any (x : Int) (w : World) : Calls Tryz.prog 115 #[.int .u8 x] w fun e w' => e = .returned (.bool (x != 0)) ∧ Below w.heap.size w w' := by
  go_enter Tryz.func115, Tryz.ntmps115
  go_wp2
  go_ret
  exact ⟨rfl, Below.refl _ _⟩
set_option maxRecDepth 20000 in
set_option maxHeartbeats 4000000 in
theorem value_any (x : Ent) (o : Int) (w : World) : Calls Tryz.prog 62 #[entV x, .int .i64 o] w (InPost w x.2.1 x.2.2.1 (inS x o)) := by
  obtain ⟨tg, ty, cnt, sl⟩ := x; unfold entV; simp only; obtain ⟨R, hR⟩ : ∃ R, inS (tg, ty, cnt, sl) o = R := ⟨_, rfl⟩; rw [hR]; unfold inS at hR; simp only at hR; have HP := fun W => put_any sl 4 o W; have HI := fun W => inl_any ty cnt W; have hpl := putS_len (n := sl) (o := o); have hpb := putS_byt sl 4 o
  generalize putOk sl 4 o = pk at *
  obtain ⟨il, hil⟩ : ∃ il, inlB ty cnt = il := ⟨_, rfl⟩; rw [hil] at hR HI; have hil' := Lib.hid hil; clear hil
  generalize putS sl 4 o = D at *
  obtain ⟨W, hW⟩ : ∃ W, (w.alloc (.cells #[.int .i64 tg, .int .i64 ty, .int .i64 cnt, .int .i64 sl] 62)).alloc (.cells #[.int .i64 0, .int .i64 0, .slice none 0 0] 76) = W := ⟨_, rfl⟩; have bx : Blk W w.heap.size 62 #[.int .i64 tg, .int .i64 ty, .int .i64 cnt, .int .i64 sl] := by rw [← hW]; exact (Blk.new w _ _).alloc _
  have b0 : Blk W (w.heap.size + 1) 76 #[.int .i64 0, .int .i64 0, .slice none 0 0] := by rw [← hW]; exact heap_new' _ _ (by simp)
  have hbW : Below w.heap.size w W := by rw [← hW]; exact (((Below.refl w.heap.size w).alloc (Nat.le_refl _) _).alloc (by simp) _)
  have hltW := b0.lt; have c3 : W.cell? ⟨w.heap.size, 3, none⟩ = some (.int .i64 sl) := bx.cell rfl; have HP' := Lib.hid HP; have HI' := Lib.hid HI; have hpl' := Lib.hid hpl; have hpb' := Lib.hid hpb; have bx' := Lib.hid bx; have b0' := Lib.hid b0; have hbW' := Lib.hid hbW; have hR' := Lib.hid hR; clear HP HI hpl hpb bx b0 hbW hR
  go_enter Tryz.func62, Tryz.ntmps62
  go_upto_region 1 with fail
  try rw [hW]
  clear hW
  go_wp2_with fail
  refine (HP'.out _).mono ?_; rintro e w1 ⟨a1, m1, c1, rfl, ho1, hb1⟩; obtain rfl : m1 = D.length := by have := (Sl.of_own ho1).1.ilen; omega
  have bx1 := bx'.out.late hb1; have b01 := b0'.out.late hb1; have hbw1 := hbW'.out.trans (hb1.mono hbW'.out.size); have hlt1 := b01.lt; have k1 : w1.cell? ⟨w.heap.size, 1, none⟩ = some (.int .i64 ty) := bx1.cell rfl; have k2 : w1.cell? ⟨w.heap.size, 2, none⟩ = some (.int .i64 cnt) := bx1.cell rfl; have p0 : w1.cell? ⟨w.heap.size + 1, 0, none⟩ = some (.int .i64 0) := b01.cell rfl; have p1 : w1.cell? ⟨w.heap.size + 1, 1, none⟩ = some (.int .i64 0) := b01.cell rfl; have p2 : w1.cell? ⟨w.heap.size + 1, 2, none⟩ = some (.slice none 0 0) := b01.cell rfl; have y0 := b01.frozen 0; have y1 := b01.frozen 1; have y2 := b01.frozen 2; clear hb1 c3; have bx1' := Lib.hid bx1; have b01' := Lib.hid b01; have hbw1' := Lib.hid hbw1; have ho1' := Lib.hid ho1; clear bx1 b01 hbw1 ho1
  cases pk
  · obtain rfl : R = none := by rw [← hR'.out]; rfl
    go_wp2_with fail
    refine bodyPost_ret (results_blk_tmp2 rfl _ _ (w.heap.size + 1) 76 #[.int .i64 0, .int .i64 0, .slice none 0 0] _ rfl (b01'.out.set3 _ _ _) Tryz.underlying76 rfl (by kernel_rfl)) rfl ?_; exact ⟨0, 0, none, 0, 0, false, rfl, below_set3 hbw1'.out (Nat.le_succ _) _ _ _, fun d h => by cases h⟩
  clear p0 p1 p2 y0 y1 y2
  go_wp2_with fail
  refine (HI'.out _).mono ?_; rintro e w2 ⟨rfl, hb2⟩; have bx2 := bx1'.out.late hb2; have b02 := b01'.out.late hb2; have hbw2 := hbw1'.out.trans (hb2.mono hbw1'.out.size); have ho2 := own_later ho1'.out hb2; have hlt2 := b02.lt; clear k1 k2; have k1 : w2.cell? ⟨w.heap.size, 1, none⟩ = some (.int .i64 ty) := bx2.cell rfl; have k2 : w2.cell? ⟨w.heap.size, 2, none⟩ = some (.int .i64 cnt) := bx2.cell rfl; have p0 : w2.cell? ⟨w.heap.size + 1, 0, none⟩ = some (.int .i64 0) := b02.cell rfl; have p1 : w2.cell? ⟨w.heap.size + 1, 1, none⟩ = some (.int .i64 0) := b02.cell rfl; have p2 : w2.cell? ⟨w.heap.size + 1, 2, none⟩ = some (.slice none 0 0) := b02.cell rfl; have y0 := b02.frozen 0; have y1 := b02.frozen 1; have y2 := b02.frozen 2; clear hb2; have bx2' := Lib.hid bx2; have b02' := Lib.hid b02; have hbw2' := Lib.hid hbw2; have ho2' := Lib.hid ho2; clear bx2 b02 hbw2 ho2
  cases il
  · obtain rfl : R = none := by rw [← hR'.out]; rfl
    go_wp2_with fail
    refine bodyPost_ret (results_blk_tmp2 rfl _ _ (w.heap.size + 1) 76 #[.int .i64 0, .int .i64 0, .slice none 0 0] _ rfl (b02'.out.set3 _ _ _) Tryz.underlying76 rfl (by kernel_rfl)) rfl ?_; exact ⟨0, 0, none, 0, 0, false, rfl, below_set3 hbw2'.out (Nat.le_succ _) _ _ _, fun d h => by cases h⟩
  clear p0 p1 p2 y0 y1 y2; have hR2 := hR'.out; simp only [Bool.and_self, if_true] at hR2; have HO := of_any ty cnt a1 D.length c1 D o w2 (Sl.of_own ho2'.out).1 hpb'.out; have hD4 := hpl'.out trivial; have hol := fun d (h : ofS ty cnt D o = some d) => ofS_len h
  have hlen : ∀ d, ofS ty cnt D o = some d → d.length ≤ 4 := fun d h => by
    have h1 := hil'.out; unfold inlB longS at h1; have h2 := ofS_len h
    split at h1 <;> simp at h1 <;> omega
  generalize ofS ty cnt D o = S at *
  have HO' := Lib.hid HO; have hR2' := Lib.hid hR2; have hol' := Lib.hid hol; have hlen' := Lib.hid hlen; have hD4' := Lib.hid hD4; clear HO hR2 hol hlen hD4
  go_wp2_with fail
  refine HO'.out.mono ?_; rintro e w3 ⟨ty', cnt', a3, m3, c3, rfl, hb3, hd3⟩; have b03 := b02'.out.late hb3; have hbw3 := hbw2'.out.trans (hb3.mono hbw2'.out.size); have ho3 := own_later ho2'.out hb3; have hlt3 := b03.lt; clear k1 k2; have p0 : w3.cell? ⟨w.heap.size + 1, 0, none⟩ = some (.int .i64 0) := b03.cell rfl; have p1 : w3.cell? ⟨w.heap.size + 1, 1, none⟩ = some (.int .i64 0) := b03.cell rfl; have p2 : w3.cell? ⟨w.heap.size + 1, 2, none⟩ = some (.slice none 0 0) := b03.cell rfl; have y0 := b03.frozen 0; have y1 := b03.frozen 1; have y2 := b03.frozen 2; clear hb3; have b03' := Lib.hid b03; have hbw3' := Lib.hid hbw3; have ho3' := Lib.hid ho3; have hd3' := Lib.hid hd3; clear b03 hbw3 ho3 hd3
  go_upto_region 5 with fail
  have b04 := b03'.out.set3 (.int .i64 ty') (.int .i64 cnt') (.slice a3 m3 c3); have hbw4 := below_set3 hbw3'.out (Nat.le_succ w.heap.size) (.int .i64 ty') (.int .i64 cnt') (.slice a3 m3 c3); have ho4 := own_but ho3'.out ((((But.refl (w.heap.size + 1) w3).set 0 (.int .i64 ty')).set 1 (.int .i64 cnt')).set 2 (.slice a3 m3 c3)) (fun hx => by have := (ho3'.out.lt _ hx).1; omega); have hd4 := fun d h => (hd3'.out d h).2.2; have hd5 := fun d h => own_but (hd4 d h) ((((But.refl (w.heap.size + 1) w3).set 0 (.int .i64 ty')).set 1 (.int .i64 cnt')).set 2 (.slice a3 m3 c3)) (fun hx => by have := ((hd4 d h).lt _ hx).1; omega); have hd6 := fun d h => (⟨(hd3'.out d h).1, (hd3'.out d h).2.1, hd5 d h⟩ : _ ∧ _ ∧ _); clear hd4 hd5 p0 p1 p2 y0 y1 y2 hd3'
  generalize ((w3.setCell ⟨w.heap.size + 1, 0, none⟩ (.int .i64 ty')).setCell ⟨w.heap.size + 1, 1, none⟩ (.int .i64 cnt')).setCell ⟨w.heap.size + 1, 2, none⟩ (.slice a3 m3 c3) = w4 at *
  have p0 : w4.cell? ⟨w.heap.size + 1, 0, none⟩ = some (.int .i64 ty') := b04.cell rfl; have p1 : w4.cell? ⟨w.heap.size + 1, 1, none⟩ = some (.int .i64 cnt') := b04.cell rfl; have p2 : w4.cell? ⟨w.heap.size + 1, 2, none⟩ = some (.slice a3 m3 c3) := b04.cell rfl; have y0 := b04.frozen 0; have y1 := b04.frozen 1; have y2 := b04.frozen 2; clear b03' hbw3' ho3'; have hlt4 := b04.lt; have b04' := Lib.hid b04; have hbw4' := Lib.hid hbw4; have ho4' := Lib.hid ho4; have hd6' := Lib.hid hd6; clear b04 hbw4 ho4 hd6
  cases S with
  | none =>
    obtain rfl : R = none := by rw [← hR2'.out]; rfl
    simp only [Option.isSome_none] at *
    go_wp2_with fail
    refine bodyPost_ret (results_blk_tmp2 rfl _ _ (w.heap.size + 1) 76 #[.int .i64 0, .int .i64 0, .slice none 0 0] _ rfl (b04'.out.set3 _ _ _) Tryz.underlying76 rfl (by kernel_rfl)) rfl ?_; exact ⟨0, 0, none, 0, 0, false, rfl, below_set3 hbw4'.out (Nat.le_succ _) _ _ _, fun d h => by cases h⟩
  | some d =>
    obtain ⟨rfl, rfl, hod⟩ := hd6'.out d rfl; have hRd : R = some (d, zerosB (D.drop d.length)) := by rw [← hR2'.out]; rfl
    subst hRd; have hm3 := (Sl.of_own hod).1.ilen; have hdl := hol'.out d rfl; obtain rfl : m3 = d.length := by omega
    have hlong := hlen'.out d rfl; simp only [Option.isSome_some] at *
    go_upto_region 8 with fail
    clear p0 p1 p2 y0 y1 y2 hm3; obtain ⟨Ty, f, hne, hbel, hsurj⟩ := later_worlds w4; have q0 : ∀ s, (f s).cell? ⟨w.heap.size + 1, 0, none⟩ = some (.int .i64 ty') := fun s => (Blk.late b04'.out (hbel s)).cell rfl; have q1 : ∀ s, (f s).cell? ⟨w.heap.size + 1, 1, none⟩ = some (.int .i64 cnt') := fun s => (Blk.late b04'.out (hbel s)).cell rfl; have q2 : ∀ s, (f s).cell? ⟨w.heap.size + 1, 2, none⟩ = some (.slice a3 d.length c3) := fun s => (Blk.late b04'.out (hbel s)).cell rfl; have HS := Lib.hid (hsurj _ ((Below.refl _ _).drew)); have HD := Lib.hid ((Below.refl w4.heap.size w4).drew); have hle4 := (Sl.of_own ho4'.out).1.le; have hD4 := hD4'.out; obtain ⟨a7, hsl, hs7, hin7⟩ := sub_l (P := Tryz.prog) (T := 30) (E := 5) (sz := 1) Tryz.underlying30 (fun W => by kernel_rfl) (Sl.of_own ho4'.out).1 (d.length : Int) (by omega) (by omega) (D.length - d.length) (c1 - d.length) (by omega) (by omega); rw [Nat.mul_one, Int.toNat_natCast, show (ints .u8 D).drop d.length = ints .u8 (D.drop d.length) by simp [ints]] at hs7; have HC := fun W (h : Below w4.heap.size w4 W) => bhas_any 115 rfl a7 (D.length - d.length) (c1 - d.length) (D.drop d.length) (fun x => x != 0) W (hs7.mono h) (fun W2 x _ => some_any x W2); have hz : zerosB (D.drop d.length) = !(D.drop d.length).any (fun x => x != 0) := rfl
    generalize (D.drop d.length).any (fun x => x != 0) = r at *
    clear hdl hlong; have hbel' := Lib.hid hbel; have hsurj' := Lib.hid hsurj; have hs7' := Lib.hid hs7; have hin7' := Lib.hid hin7; have HC' := Lib.hid HC; have hD4' := Lib.hid hD4; have hod' := Lib.hid hod; clear hbel hsurj hs7 hin7 HC hD4 hod
    go_wp2_with fail
    refine held_begin (S := fun W => ∃ s, W = f s) (by kernel_rfl) 12 rfl ?_; refine held_take [0, 1, 2, 3, 4, 5, 6] 5 (by kernel_rfl) (fun d _ _ _ _ h => by cases d <;> exact h) (by kernel_rfl) (by kernel_rfl) (by kernel_rfl) HS.out ?_; simp only [pickL, List.map_cons, List.map_nil, List.getD_cons_succ, List.getD_cons_zero]
    iterate 7 (go_big_quiet_step (fail))
    refine wpQuiet_nil ?_; refine held_one 7 4 (by kernel_rfl) (by kernel_rfl) ?_; simp only [pickL, List.map_cons, List.map_nil, List.getD_cons_succ, List.getD_cons_zero]
    go_wp2_with fail
    refine (HC'.out _ HD.out).mono ?_; rintro e w5 ⟨rfl, hb5⟩; have hb45 := HD.out.trans (hb5.mono HD.out.size); have HS := Lib.hid (hsurj'.out _ hb45); have b05 := b04'.out.late hb45; have hbw5 := hbw4'.out.trans (hb45.mono hbw4'.out.size); have hod5 := own_later hod'.out hb45; have p0 : w5.cell? ⟨w.heap.size + 1, 0, none⟩ = some (.int .i64 ty') := b05.cell rfl; have p1 : w5.cell? ⟨w.heap.size + 1, 1, none⟩ = some (.int .i64 cnt') := b05.cell rfl; have p2 : w5.cell? ⟨w.heap.size + 1, 2, none⟩ = some (.slice a3 d.length c3) := b05.cell rfl; have y0 := b05.frozen 0; have y1 := b05.frozen 1; have y2 := b05.frozen 2; clear hb5; have b05' := Lib.hid b05; have hbw5' := Lib.hid hbw5; have hod5' := Lib.hid hod5; have hb45' := Lib.hid hb45; clear b05 hbw5 hod5 hb45
    go_wp2_with fail
    first | refine Mid.mk ⟨HS.out, ?_⟩ | refine Mid.mk ?_
    refine held_take [8] 3 (by kernel_rfl) (fun d _ _ _ _ h => by cases d <;> exact h) (by kernel_rfl) (by kernel_rfl) (by kernel_rfl) HS.out ?_; simp only [pickL, List.map_cons, List.map_nil, List.getD_cons_succ, List.getD_cons_zero]
    iterate 1 (go_big_quiet_step (fail))
    refine wpQuiet_nil ?_; refine held_one 9 2 (by kernel_rfl) (by kernel_rfl) ?_; simp only [pickL, List.map_cons, List.map_nil, List.getD_cons_succ, List.getD_cons_zero]; clear q0 q1 q2
    go_wp2_with fail
    first | rw [b05'.out.set3_same] | skip
    first | refine Mid.mk ⟨HS.out, ?_⟩ | refine Mid.mk ?_
    have q0 : ∀ s, (f s).cell? ⟨w.heap.size + 1, 0, none⟩ = some (.int .i64 ty') := fun s => (Blk.late b04'.out (hbel'.out s)).cell rfl; refine held_take [10, 11] 0 (by kernel_rfl) (fun d _ _ _ _ h => by cases d <;> exact h) (by kernel_rfl) (by kernel_rfl) (by kernel_rfl) HS.out ?_; simp only [pickL, List.map_cons, List.map_nil, List.getD_cons_succ, List.getD_cons_zero]
    iterate 2 (go_big_quiet_step (fail))
    refine wpQuiet_nil ?_; refine held_last (by kernel_rfl) ?_
    go_wp2_with fail
    refine bodyPost_ret (results_blk_tmp2 rfl _ _ (w.heap.size + 1) 76 #[.int .i64 ty', .int .i64 cnt', .slice a3 d.length c3] _ rfl b05'.out Tryz.underlying76 rfl (by kernel_rfl)) rfl ?_
    exact ⟨ty', cnt', a3, d.length, c3, !r, rfl, hbw5'.out, fun d' h => by
      obtain rfl : _ = d' := by simpa using h
      exact ⟨rfl, rfl, hz.symm, own_mono hod5'.out hbw2'.out.size⟩⟩
end Go.Proofs.YtilennmeiaehnaaGreat

namespace Go.Proofs.YtilennmeiaehnaaGreat
open Go.RowKit Tt
set_option linter.unusedVariables false
set_option linter.unusedSimpArgs false

/-- a shape: its links, At, Long, Next -/
abbrev Shp := List Lk × Int × Int × Int
abbrev shp0 : Shp := ([], 0, 0, 0)
def tagB (x : Int) : Bool := decide (0 ≤ x) && decide (x < 65536)
def lateB (n i : Nat) (x : Int) : Bool := decide ((i : Int) < x) && decide (x < n)
def linkB (n i : Nat) (s : Shp) (k : Nat) : Bool :=
  tagB (s.1.getD k (0, 0)).1 && (decide (k = 0) || decide ((s.1.getD (k - 1) (0, 0)).1 < (s.1.getD k (0, 0)).1)) && lateB n i (s.1.getD k (0, 0)).2 && !(decide (0 < s.2.1) && (decide ((s.1.getD k (0, 0)).1 = s.2.1) || decide ((s.1.getD k (0, 0)).1 = s.2.2.1)))
def nextB (n i : Nat) (s : Shp) : Bool := decide (s.2.2.2 = -1) || lateB n i s.2.2.2
def blobB (s : Shp) : Bool := (decide (s.2.1 = 0) && decide (s.2.2.1 = 0)) || (decide (1 ≤ s.2.1) && decide (s.2.1 < s.2.2.1) && tagB s.2.2.1)
def shapeB (n i : Nat) (s : Shp) : Bool := (List.range s.1.length).all (linkB n i s) && nextB n i s && blobB s
def shapesB (l : List Shp) : Bool := decide (1 ≤ l.length) && decide (l.length ≤ 16) && (List.range l.length).all (fun i => shapeB l.length i (l.getD i shp0))
/-- a shape in memory: its row of links, and what it is -/
abbrev Shz := (Option Addr × Nat × Nat) × Shp
abbrev shz0 : Shz := ((none, 0, 0), shp0)
def shc (z : Shz) : List Value := [.slice z.1.1 z.1.2.1 z.1.2.2, .int .i64 z.2.2.1, .int .i64 z.2.2.2.1, .int .i64 z.2.2.2.2]
theorem shc_len (z : Shz) : (shc z).length = 4 := rfl
structure ShR (W : World) (a : Option Addr) (n c : Nat) (zs : List Shz) : Prop where
  row : Sl W a n c 4 (fl shc zs)
  each : ∀ z ∈ zs, Sl W z.1.1 z.1.2.1 z.1.2.2 2 (fl lkc z.2.1)
theorem ShR.len {W : World} {a : Option Addr} {n c : Nat} {zs : List Shz} (h : ShR W a n c zs) : zs.length = n := h.row.flen shc_len (by decide)
theorem ShR.mono {W W' : World} {a : Option Addr} {n c : Nat} {zs : List Shz} (h : ShR W a n c zs) (hb : Below W.heap.size W W') : ShR W' a n c zs := ⟨h.row.mono hb, fun z hz => (h.each z hz).mono hb⟩
theorem ShR.at {W : World} {a : Option Addr} {n c : Nat} {zs : List Shz} (h : ShR W a n c zs) {i : Nat} (hi : i < n) :
    Sl W (zs.getD i shz0).1.1 (zs.getD i shz0).1.2.1 (zs.getD i shz0).1.2.2 2 (fl lkc (zs.getD i shz0).2.1) :=
  h.each _ (by rw [getD_el (by rw [h.len]; exact hi)]; exact List.getElem_mem _)
def shps (zs : List Shz) : List Shp := zs.map (·.2)
theorem shps_get {zs : List Shz} {i : Nat} (hi : i < zs.length) : (shps zs).getD i shp0 = (zs.getD i shz0).2 := by
  rw [getD_el (by simpa [shps] using hi), getD_el hi]; simp [shps]
theorem tag_any (x : Int) (w : World) : Calls Tryz.prog 51 #[.int .i64 x] w fun e w' => e = .returned (.bool (tagB x)) ∧ Below w.heap.size w w' := by
  have hP := fun W => put_any x 2 2 W; have hk : putOk x 2 2 = tagB x := by unfold putOk tagB topS; simp
  rw [hk] at hP
  generalize tagB x = b at *
  have hP' := Lib.hid hP; clear hP
  go_enter Tryz.func51, Tryz.ntmps51
  go_wp2_with fail
  refine (hP'.out _).mono ?_; rintro e w1 ⟨a1, m1, c1, rfl, ho1, hb1⟩; clear ho1; have hb1' := Lib.hid hb1; clear hb1
  go_wp2_with fail
  go_ret
  exact ⟨rfl, hb1'.out⟩
theorem later_any (a : Option Addr) (n c i : Nat) (x : Int) (w : World) : Calls Tryz.prog 52 #[.slice a n c, .int .i64 i, .int .i64 x] w fun e w' => e = .returned (.bool (lateB n i x)) ∧ w = w' := by
  unfold lateB
  by_cases h : (i : Int) < x
  · simp only [h, decide_true, Bool.true_and]
    go_enter Tryz.func52, Tryz.ntmps52
    go_wp2
    go_ret
    exact ⟨rfl, rfl⟩
  · simp only [h, decide_false, Bool.false_and]
    go_enter Tryz.func52, Tryz.ntmps52
    go_wp2
    go_ret
    exact ⟨rfl, rfl⟩
end Go.Proofs.YtilennmeiaehnaaGreat

namespace Go.Proofs.YtilennmeiaehnaaGreat
open Go.RowKit Tt
set_option linter.unusedVariables false
set_option linter.unusedSimpArgs false

abbrev Tgs := Int × Int × Int × List Int
/-- a spot: what, dir, tag, at, long -/
abbrev Spt := Int × Int × Int × Int × Int
structure St where
  spots : List Spt
  no : Int
  soiled : Int
def inSpot (k : Int) (x : Spt) : Bool := decide (x.2.2.2.1 ≤ k) && decide (k < x.2.2.2.1 + x.2.2.2.2)
def takenB (s : St) (k : Int) : Bool := s.spots.any (inSpot k)
def freeB (s : St) (at_ : Int) (long : Nat) : Bool := (List.range long).all fun i => !takenB s (at_ + i)
def fitB (n : Nat) (x : Spt) : Bool := decide (x.2.2.2.1 % 2 = 0) && roomB x.2.2.2.1 x.2.2.2.2 n
def takeS (n : Nat) (x : Spt) (s : St) : Except Int St :=
  if fitB n x = true then if freeB s x.2.2.2.1 x.2.2.2.2.toNat = true then .ok { s with spots := s.spots ++ [x] } else .error 5 else .error 4
def entsS (z : List Int) (o p : Int) (k : Nat) : List Ent := (List.range k).map fun (i : Nat) => entAt z o (p + 2 + 12 * (i : Int))
def risesE : List Ent → Bool
  | x :: y :: r => decide (x.1 < y.1) && risesE (y :: r)
  | _ => true
def entriesS (z : List Int) (o p no : Int) (s : St) : Except Int (List Ent × St) :=
  if (decide (p % 2 = 0) && roomB p 2 z.length) = true then
    if 0 < getV z p 2 o then
      match takeS z.length (2, no, 0, p, 6 + 12 * getV z p 2 o) s with
      | .error e => .error e
      | .ok s' => if risesE (entsS z o p (getV z p 2 o).toNat) = true then .ok (entsS z o p (getV z p 2 o).toNat, s') else .error 2
    else .error 2
  else .error 4
def valueS (z : List Int) (o : Int) (x : Ent) (no : Int) (s : St) : Except Int (Tgs × St) :=
  if 0 < (kindS x.2.1).1 ∧ 1 ≤ x.2.2.1 ∧ x.2.2.1 ≤ 65536 then
    if 0 < outS x.2.1 x.2.2.1 then
      match takeS z.length (3, no, x.1, x.2.2.2, outS x.2.1 x.2.2.1) s with
      | .error e => .error e
      | .ok s' => match ofS x.2.1 x.2.2.1 (z.drop x.2.2.2.toNat) o with
        | none => .error 6
        | some d => .ok ((x.1, x.2.1, x.2.2.1, d), s')
    else match inS x o with
      | none => .error 6
      | some d => .ok ((x.1, x.2.1, x.2.2.1, d.1), { s with soiled := if d.2 = true then s.soiled else IntKind.i64.wrap (s.soiled + 1) })
  else .error 6
def linkP (s : Shp) (t : Int) : Bool := s.1.any fun y => y.1 == t
def pairP (s : Shp) (t : Int) : Bool := decide (0 < s.2.1) && (decide (t = s.2.1) || decide (t = s.2.2.1))
def ownP (s : Shp) (t : Int) : Bool := linkP s t || pairP s t
/-- one more entry: a value, or one of the shape's own -/
def stepT (z : List Int) (o : Int) (sh : Shp) (no : Int) (acc : List Tgs × St) (x : Ent) : Except Int (List Tgs × St) :=
  if ownP sh x.1 = true then (if x.2.1 = 4 ∧ x.2.2.1 = 1 then .ok acc else .error 6)
  else match valueS z o x no acc.2 with
    | .error e => .error e
    | .ok (v, s') => .ok (acc.1 ++ [v], s')
/-- directories, so deep -/
def DirT : Nat → Type
  | 0 => Unit
  | f + 1 => List Tgs × List (Int × DirT f) × List Int
/-- one more entry: a directory within, if it is a link -/
def stepD {f : Nat} (rec : Int → Int → St → Except Int ((DirT f × Int) × St)) (sh : Shp) (acc : List (Int × DirT f) × St) (x : Ent) : Except Int (List (Int × DirT f) × St) :=
  if linkP sh x.1 = true then
    match rec x.2.2.2 (sh.1.getD (fst (fun y => y.1 == x.1) sh.1).toNat (0, 0)).2 acc.2 with
    | .error e => .error e
    | .ok ((d, next), s') => if next = 0 then .ok (acc.1 ++ [(x.1, d)], s') else .error 2
  else .ok acc
def loopS {α σ : Type} (step : σ → α → Except Int σ) : List α → σ → Except Int σ
  | [], s => .ok s
  | x :: r, s => match step s x with
    | .error e => .error e
    | .ok s' => loopS step r s'
def blobS (z : List Int) (sh : Shp) (l : List Ent) (no : Int) (s : St) : Except Int (List Int × St) :=
  match l.filter (fun x => !linkP sh x.1 && pairP sh x.1) with
  | [x, y] => if 0 < y.2.2.2 then
      match takeS z.length (4, no, 0, x.2.2.2, y.2.2.2) s with
      | .error e => .error e
      | .ok s' => .ok ((z.drop x.2.2.2.toNat).take y.2.2.2.toNat, s')
    else .error 6
  | _ => .ok ([], s)
def dirS (z : List Int) (o : Int) (L : List Shp) : (f : Nat) → Int → Int → St → Except Int ((DirT f × Int) × St)
  | 0, _, _, _ => .error 2
  | f + 1, p, sh, s =>
    match entriesS z o p s.no { s with no := IntKind.i64.wrap (s.no + 1) } with
    | .error e => .error e
    | .ok (l, s1) =>
      match loopS (stepT z o (L.getD sh.toNat shp0) s.no) l ([], s1) with
      | .error e => .error e
      | .ok (tags, s2) =>
        if (l.filter (fun x => !linkP (L.getD sh.toNat shp0) x.1 && pairP (L.getD sh.toNat shp0) x.1)).length = 1 then .error 6 else
        match loopS (stepD (dirS z o L f) (L.getD sh.toNat shp0)) l ([], s2) with
        | .error e => .error e
        | .ok (subs, s3) =>
          match blobS z (L.getD sh.toNat shp0) l s.no s3 with
          | .error e => .error e
          | .ok (blob, s4) => .ok (((tags, subs, blob), getV z (p + 2 + 12 * l.length) 4 o), s4)
def orderS (z : List Int) : Int := if z.getD 0 0 = 73 ∧ z.getD 1 0 = 73 then 1 else if z.getD 0 0 = 77 ∧ z.getD 1 0 = 77 then 2 else 0
def headS (z : List Int) : Except Int St :=
  if 8 ≤ z.length then
    if 0 < orderS z ∧ getV z 2 2 (orderS z) = 42 then takeS z.length (1, -1, 0, 0, 8) ⟨[], 0, 0⟩ else .error 2
  else .error 3
def chainS (z : List Int) (o : Int) (L : List Shp) : Nat → List (DirT 16) → Int → Int → St → Except Int (List (DirT 16) × St)
  | 0, _, _, _, _ => .error 2
  | f + 1, acc, p, sh, s =>
    if 0 < p ∨ acc.length = 0 then
      if 0 ≤ sh then
        match dirS z o L 16 p sh s with
        | .error e => .error e
        | .ok ((d, next), s') => chainS z o L f (acc ++ [d]) next (L.getD sh.toNat shp0).2.2.2 s'
      else .error 2
    else .ok (acc, s)
def readS (z : List Int) (L : List Shp) : Except Int (List (DirT 16) × St) :=
  if shapesB L = true then
    match headS z with
    | .error e => .error e
    | .ok s => chainS z (orderS z) L 18 [] (getV z 4 4 (orderS z)) 0 s
  else .error 1
def errS (r : Except Int (List (DirT 16) × St)) : Int := match r with | .error e => e | .ok _ => 0
def cleanS (z : List Int) (L : List Shp) : Bool := match readS z L with
  | .error _ => false
  | .ok (_, s) => decide (s.soiled ≤ 0) && (List.range z.length).all fun k => decide (z.getD k 0 = 0) || takenB s k
/-- the chapter's examples -/
def ofL (l : List Int) : List Int := [73, 73, 42, 0, 8, 0, 0, 0] ++ l
def loneS : List Shp := [([], 0, 0, -1)]
def sameT (r : Except Int (List (DirT 16) × St)) (t : List Tgs) : Bool := match r with
  | .ok ([d], _) => let d' : List Tgs × List (Int × DirT 15) × List Int := d
    decide (d'.1 = t) && decide (d'.2.1.length = 0) && decide (d'.2.2 = [])
  | _ => false
theorem ex1 : sameT (readS (ofL [1, 0, 0, 1, 3, 0, 1, 0, 0, 0, 2, 1, 0, 0, 0, 0, 0, 0]) loneS) [(256, 3, 1, [1, 2])] = true := by decide +kernel
theorem ex2 : errS (readS (ofL [0, 0, 0, 0, 0, 0]) loneS) = 2 := by decide +kernel
theorem ex3 : errS (readS (ofL [1, 0, 0, 1, 5, 0, 1, 0, 0, 0, 8, 0, 0, 0, 0, 0, 0, 0]) loneS) = 5 := by decide +kernel
theorem ex4 : errS (readS (ofL [1, 0, 0, 1, 5, 0, 1, 0, 0, 0, 9, 0, 0, 0, 0, 0, 0, 0]) loneS) = 4 := by decide +kernel
theorem ex5 : errS (readS (ofL [1, 0, 0, 1, 5, 0, 1, 0, 0, 0, 232, 3, 0, 0, 0, 0, 0, 0]) loneS) = 4 := by decide +kernel
theorem ex6 : errS (readS (ofL [1, 0, 0, 1, 2, 0, 2, 0, 0, 0, 97, 98, 0, 0, 0, 0, 0, 0]) loneS) = 6 := by decide +kernel
theorem ex7 : errS (readS [] loneS) = 3 := by decide +kernel
end Go.Proofs.YtilennmeiaehnaaGreat

namespace Go.Proofs.YtilennmeiaehnaaGreat
open Go.RowKit Tt
set_option linter.unusedVariables false

/-- a directory without what lies within: its tags, how many directories, its blob -/
abbrev Flt := List Tgs × Nat × List Int
def entN (t s b : Nat) : Nat := t + s + if 0 < b then 2 else 0
def flatS : (f : Nat) → DirT f → List Flt
  | 0, _ => []
  | f + 1, d => (d.1, d.2.1.length, d.2.2) :: d.2.1.flatMap fun s => flatS f s.2
theorem flatS_succ (f : Nat) (d : DirT (f + 1)) : flatS (f + 1) d = (d.1, d.2.1.length, d.2.2) :: d.2.1.flatMap fun s => flatS f s.2 := rfl
def okT (x : Tgs) : Bool := mayS x.2.1 x.2.2.1 x.2.2.2
def okF (x : Flt) : Bool := decide (1 ≤ entN x.1.length x.2.1 x.2.2.length) && decide (entN x.1.length x.2.1 x.2.2.length ≤ 65535) && x.1.all okT
def evenS (n : Int) : Int := n + n % 2
def endS (l : List Spt) : Int := match l.getLast? with | none => 0 | some x => x.2.2.2.1 + x.2.2.2.2
def addS (l : List Spt) (what no tag long : Int) : List Spt := l ++ [(what, no, tag, evenS (endS l), long)]
def valsS (no : Int) (ts : List Tgs) (l : List Spt) : List Spt := ts.foldl (fun l x => if 0 < outS x.2.1 x.2.2.1 then addS l 3 no x.1 (outS x.2.1 x.2.2.1) else l) l
/-- the spots of a directory and all within it; the number behind -/
def layS : (f : Nat) → DirT f → Int → List Spt → List Spt
  | 0, _, _, l => l
  | f + 1, d, no, l =>
    let l1 := valsS no d.1 (addS l 2 no 0 (6 + 12 * (entN d.1.length d.2.1.length d.2.2.length : Nat)))
    let r := d.2.1.foldl (fun (r : List Spt × Int) s => (layS f s.2 r.2 r.1, r.2 + (flatS f s.2).length)) (l1, no + 1)
    if 0 < d.2.2.length then addS r.1 4 no 0 (d.2.2.length : Nat) else r.1
theorem endS_add (l : List Spt) (a b c e : Int) : endS (addS l a b c e) = evenS (endS l) + e := by simp [endS, addS]
theorem evenS_le {n : Int} (h : 0 ≤ n) : n ≤ evenS n ∧ evenS n ≤ n + 1 := by unfold evenS; omega
theorem addS_len (l : List Spt) (a b c e : Int) : (addS l a b c e).length = l.length + 1 := by simp [addS]
end Go.Proofs.YtilennmeiaehnaaGreat
