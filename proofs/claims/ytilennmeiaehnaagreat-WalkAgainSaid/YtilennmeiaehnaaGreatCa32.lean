/- Chapter 22: the walker takes bytes. -/
import Derived.Test.YtilennmeiaehnaaGreatCa31
import Derived.Test.YtilennmeiaehnaaGreatCa08
namespace Go.Proofs.YtilennmeiaehnaaGreat
open Go.RowKit Tt
set_option linter.unusedVariables false
set_option linter.unusedSimpArgs false

theorem bnum_any (a : Option Addr) (n c : Nat) (z : List Int) (o at_ size : Int) (w : World) (hs : Sl w a n c 1 (ints .u8 z)) (hb : Byt z) :
    Calls Tryz.prog 157 #[.agg #[.slice a n c, .int .i64 o], .int .i64 at_, .int .i64 size] w fun e w' => e = .returned (.int .i64 (getV z at_ size o)) ∧ Below w.heap.size w w' := by
  have hG := fun W (h : Below w.heap.size w W) => get_any a n c z at_ size o W (hs.mono h) hb
  generalize getV z at_ size o = v at *
  generalize getB n at_ size o = b at *
  have hG' := Lib.hid hG; clear hG
  go_enter Tryz.func157, Tryz.ntmps157
  go_wp2_with fail
  have hb1 := (Below.refl w.heap.size w).alloc (Nat.le_refl _) (.cells #[.slice a n c, .int .i64 o] 127); refine (hG'.out _ hb1).mono ?_; rintro e w2 ⟨rfl, hb2⟩; have hb := hb1.trans (hb2.mono hb1.size); clear hb2 hb1; have hb' := Lib.hid hb; clear hb
  go_wp2_with fail
  go_ret
  exact ⟨rfl, hb'.out⟩
theorem mustE_t (e : Int) : mustE true e = .returned (.tuple #[]) := rfl
theorem mustE_f (e : Int) : mustE false e = .panicked (pan e) := rfl
theorem must_yes (e : Int) (w : World) : Calls Tryz.prog 122 #[.bool true, .int .i64 e] w fun x w' => x = .returned (.tuple #[]) ∧ w = w' := must_any true e w
theorem must_no (e : Int) (w : World) : Calls Tryz.prog 122 #[.bool false, .int .i64 e] w fun x w' => x = .panicked (pan e) ∧ w = w' := must_any false e w
theorem mid_panic {K : Act → World → Prop} {Q : Exit → Act → World → Prop} {a : Act} {w : World} {c : List PanicEntry} (h : Q (.panic c) a w) : Mid K Q (.panic c) a w := h
/-- how a method of the walker ends -/
def WPost {α : Type} (K : WkS) (sv : Value) (w : World) (R : Except Int (α × St)) (good : α → Value → Ending → World → Prop) (e : Ending) (w' : World) : Prop := match R with
  | .error x => e = .panicked (pan x) ∧ ∃ sv', Mv K.g K.gt sv sv' w w'
  | .ok (v, s') => ∃ sv' tk', WkOk K s' sv' tk' w' ∧ Mv K.g K.gt sv sv' w w' ∧ good v sv' e w'
def unitR (R : Except Int St) : Except Int (Unit × St) := match R with
  | .error x => .error x
  | .ok s => .ok ((), s)
theorem freeB_no {s : St} {A : Int} {L k : Nat} (hk : k < L) (h : takenB s (A + k) = true) : freeB s A L = false := by
  unfold freeB; exact List.all_eq_false.2 ⟨k, List.mem_range.2 hk, by rw [h]; simp⟩
theorem freeB_yes {s : St} {A : Int} {L : Nat} (h : ∀ k, k < L → takenB s (A + k) = false) : freeB s A L = true := by
  unfold freeB; exact List.all_eq_true.2 fun k hk => by rw [h k (List.mem_range.1 hk)]; rfl
theorem infoSp : (Tryz.prog.info? 57).map (fun i => (i.size, i.bytes)) = some (5, 40) := by kernel_rfl
theorem infoSpz : (Tryz.prog.info? 57).map (fun i => i.zero.map (fun z => z.cells.size)) = some (some 5) := by kernel_rfl
theorem info_sz {T : TypeId} {sz by_ : Nat} (h1 : (Tryz.prog.info? T).map (fun i => (i.size, i.bytes)) = some (sz, by_)) (h2 : (Tryz.prog.info? T).map (fun i => i.zero.map (fun z => z.cells.size)) = some (some sz)) :
    ∃ (i : TypeInfo) (z : Value), Tryz.prog.info? T = some i ∧ i.zero = some z ∧ i.size = sz ∧ i.bytes = by_ ∧ z.cells.size = sz := by
  cases hi : Tryz.prog.info? T with
  | none => rw [hi] at h1; cases h1
  | some i =>
    rw [hi] at h1 h2; simp only [Option.map_some, Option.some.injEq, Prod.mk.injEq] at h1 h2
    cases hz : i.zero with
    | none => rw [hz] at h2; cases h2
    | some z =>
      rw [hz] at h2; simp only [Option.map_some, Option.some.injEq] at h2; exact ⟨i, z, rfl, hz, h1.1, h1.2, h2⟩
theorem takenB_snoc (s : St) (x : Spt) (k : Int) : takenB { s with spots := s.spots ++ [x] } k = (takenB s k || inSpot k x) := by
  unfold takenB
  simp
set_option maxRecDepth 20000 in
set_option maxHeartbeats 8000000 in
theorem take_any (K : WkS) (t : WkT K) (s : St) (sv : Value) (tk : List Nat) (w : World) (x : Spt) (hok : WkOk K s sv tk w) (A L : Nat) (hA : x.2.2.2.1 = A) (hL : x.2.2.2.2 = L) (hA2 : A ≤ 4294967295) (hL2 : L ≤ 4294967295) (hsm : s.spots.length ≤ 4294967295) :
    Calls Tryz.prog 158 #[.pointer (some ⟨K.g, 0, none⟩), .agg #[.int .i64 x.1, .int .i64 x.2.1, .int .i64 x.2.2.1, .int .i64 x.2.2.2.1, .int .i64 x.2.2.2.2]] w (WPost K sv w (unitR (takeS K.n x s)) fun _ _ e _ => e = .returned (.tuple #[])) := by
  obtain ⟨x0, x1, x2, A', L'⟩ := x; simp only at hA hL; subst hA hL; simp only; have hn := t.n1; have htn := t.tn; obtain ⟨R, hR⟩ : ∃ R, takeS K.n (x0, x1, x2, (A : Int), (L : Int)) s = R := ⟨_, rfl⟩; rw [hR]; unfold takeS fitB at hR; simp only [Int.toNat_natCast] at hR; have hRm := fun W => room_any A L K.n W (by omega) (by omega); have htm : Int.tmod (A : Int) 2 = (A : Int) % 2 := Int.tmod_eq_emod_of_nonneg (by omega); have hok' := Lib.hid hok; have t' := Lib.hid t; have hRm' := Lib.hid hRm; clear hok t hRm
  by_cases hev : (A : Int) % 2 = 0
  case neg =>
    have d1 : ((A : Int) % 2 == 0) = false := by simp [hev]
    obtain rfl : R = .error 4 := by rw [← hR, decide_eq_false hev]; simp
    clear hR hev
    go_enter Tryz.func158, Tryz.ntmps158
    go_upto_region 1 with fail
    have b3 := Blk.new w 57 #[.int .i64 x0, .int .i64 x1, .int .i64 x2, .int .i64 A, .int .i64 L]; have hb1 := (Below.refl w.heap.size w).alloc (Nat.le_refl _) (.cells #[.int .i64 x0, .int .i64 x1, .int .i64 x2, .int .i64 A, .int .i64 L] 57); have hok1 := hok'.out.later hb1; obtain ⟨w1, hw1⟩ : ∃ w1, w.alloc (.cells #[.int .i64 x0, .int .i64 x1, .int .i64 x2, .int .i64 A, .int .i64 L] 57) = w1 := ⟨_, rfl⟩; rw [hw1] at b3 hb1 hok1
    try rw [hw1]
    clear hw1; obtain ⟨gs, hgs⟩ : ∃ gs, w.heap.size = gs := ⟨_, rfl⟩; rw [hgs] at b3
    try rw [hgs]
    have hgK : K.g < gs := by rw [← hgs]; exact hok'.out.blk.lt
    have hgtK : K.gt < gs := by rw [← hgs]; exact Blk.lt (T := 188) hok'.out.tak
    obtain ⟨Ty, f, hne, hbel, hsurj⟩ := later_worlds w1; have q3 : ∀ s, (f s).cell? ⟨gs, 3, none⟩ = some (.int .i64 A) := fun s => (Blk.late b3 (hbel s)).cell rfl; have q4 : ∀ s, (f s).cell? ⟨gs, 4, none⟩ = some (.int .i64 L) := fun s => (Blk.late b3 (hbel s)).cell rfl; have q0 : ∀ s, (f s).cell? ⟨K.g, 0, none⟩ = some (.slice K.a K.n K.c) := fun s => (Blk.late hok1.blk (hbel s)).cell rfl; have HS := Lib.hid (hsurj _ ((Below.refl _ _).drew)); have HD := Lib.hid ((Below.refl w1.heap.size w1).drew); have b3' := Lib.hid b3; have hb1' := Lib.hid hb1; have hok1' := Lib.hid hok1; have hbel' := Lib.hid hbel; have hsurj' := Lib.hid hsurj; have hgs' := Lib.hid hgs; clear b3 hb1 hok1 hbel hsurj hgs
    go_wp2_with fail
    refine held_begin (S := fun W => ∃ s, W = f s) (by kernel_rfl) 18 rfl ?_; refine held_take [0, 1, 2, 3, 4, 5, 6, 7, 8, 9, 10, 11, 12, 13, 14] 3 (by kernel_rfl) (fun d _ _ _ _ h => by cases d <;> exact h) (by kernel_rfl) (by kernel_rfl) (by kernel_rfl) HS.out ?_; simp only [pickL, List.map_cons, List.map_nil, List.getD_cons_succ, List.getD_cons_zero]
    iterate 15 (go_big_quiet_step (fail))
    refine wpQuiet_nil ?_; refine held_one 15 2 (by kernel_rfl) (by kernel_rfl) ?_; simp only [pickL, List.map_cons, List.map_nil, List.getD_cons_succ, List.getD_cons_zero]
    go_wp2_with fail
    first | refine Mid.mk ⟨HS.out, ?_⟩ | skip
    refine held_take [16] 1 (by kernel_rfl) (fun d _ _ _ _ h => by cases d <;> exact h) (by kernel_rfl) (by kernel_rfl) (by kernel_rfl) HS.out ?_; simp only [pickL, List.map_cons, List.map_nil, List.getD_cons_succ, List.getD_cons_zero]
    iterate 1 (go_big_quiet_step (fail))
    refine wpQuiet_nil ?_; refine held_one 17 0 (by kernel_rfl) (by kernel_rfl) ?_; simp only [pickL, List.map_cons, List.map_nil, List.getD_cons_succ, List.getD_cons_zero]
    go_wp2_with fail
    refine (must_no _ _).mono ?_; rintro e w2 ⟨rfl, rfl⟩; refine mid_panic ?_
    go_wp2_with fail
    exact ⟨rfl, rfl, sv, Mv.of_below (hb1'.out.trans (HD.out.mono hb1'.out.size))⟩
  case pos =>
    have d1 : ((A : Int) % 2 == 0) = true := by simp [hev]
    rw [decide_eq_true hev, Bool.true_and] at hR; obtain ⟨r, hr⟩ : ∃ r, roomB A L K.n = r := ⟨_, rfl⟩; rw [hr] at hR hRm'
    cases r
    case false =>
      obtain rfl : R = .error 4 := by rw [← hR]; simp
      clear hR hev hr
      go_enter Tryz.func158, Tryz.ntmps158
      go_upto_region 1 with fail
      have b3 := Blk.new w 57 #[.int .i64 x0, .int .i64 x1, .int .i64 x2, .int .i64 A, .int .i64 L]; have hb1 := (Below.refl w.heap.size w).alloc (Nat.le_refl _) (.cells #[.int .i64 x0, .int .i64 x1, .int .i64 x2, .int .i64 A, .int .i64 L] 57); have hok1 := hok'.out.later hb1; obtain ⟨w1, hw1⟩ : ∃ w1, w.alloc (.cells #[.int .i64 x0, .int .i64 x1, .int .i64 x2, .int .i64 A, .int .i64 L] 57) = w1 := ⟨_, rfl⟩; rw [hw1] at b3 hb1 hok1
      try rw [hw1]
      clear hw1; obtain ⟨gs, hgs⟩ : ∃ gs, w.heap.size = gs := ⟨_, rfl⟩; rw [hgs] at b3
      try rw [hgs]
      have hgK : K.g < gs := by rw [← hgs]; exact hok'.out.blk.lt
      have hgtK : K.gt < gs := by rw [← hgs]; exact Blk.lt (T := 188) hok'.out.tak
      obtain ⟨Ty, f, hne, hbel, hsurj⟩ := later_worlds w1; have q3 : ∀ s, (f s).cell? ⟨gs, 3, none⟩ = some (.int .i64 A) := fun s => (Blk.late b3 (hbel s)).cell rfl; have q4 : ∀ s, (f s).cell? ⟨gs, 4, none⟩ = some (.int .i64 L) := fun s => (Blk.late b3 (hbel s)).cell rfl; have q0 : ∀ s, (f s).cell? ⟨K.g, 0, none⟩ = some (.slice K.a K.n K.c) := fun s => (Blk.late hok1.blk (hbel s)).cell rfl; have HS := Lib.hid (hsurj _ ((Below.refl _ _).drew)); have HD := Lib.hid ((Below.refl w1.heap.size w1).drew); have b3' := Lib.hid b3; have hb1' := Lib.hid hb1; have hok1' := Lib.hid hok1; have hbel' := Lib.hid hbel; have hsurj' := Lib.hid hsurj; have hgs' := Lib.hid hgs; clear b3 hb1 hok1 hbel hsurj hgs
      go_wp2_with fail
      refine held_begin (S := fun W => ∃ s, W = f s) (by kernel_rfl) 18 rfl ?_; refine held_take [0, 1, 2, 3, 4, 5, 6, 7, 8, 9, 10, 11, 12, 13, 14] 3 (by kernel_rfl) (fun d _ _ _ _ h => by cases d <;> exact h) (by kernel_rfl) (by kernel_rfl) (by kernel_rfl) HS.out ?_; simp only [pickL, List.map_cons, List.map_nil, List.getD_cons_succ, List.getD_cons_zero]
      iterate 15 (go_big_quiet_step (fail))
      refine wpQuiet_nil ?_; refine held_one 15 2 (by kernel_rfl) (by kernel_rfl) ?_; simp only [pickL, List.map_cons, List.map_nil, List.getD_cons_succ, List.getD_cons_zero]
      go_wp2_with fail
      refine (hRm'.out _).mono ?_; rintro e w2 ⟨rfl, rfl⟩
      go_wp2_with fail
      first | refine Mid.mk ⟨HS.out, ?_⟩ | skip
      refine held_take [16] 1 (by kernel_rfl) (fun d _ _ _ _ h => by cases d <;> exact h) (by kernel_rfl) (by kernel_rfl) (by kernel_rfl) HS.out ?_; simp only [pickL, List.map_cons, List.map_nil, List.getD_cons_succ, List.getD_cons_zero]
      iterate 1 (go_big_quiet_step (fail))
      refine wpQuiet_nil ?_; refine held_one 17 0 (by kernel_rfl) (by kernel_rfl) ?_; simp only [pickL, List.map_cons, List.map_nil, List.getD_cons_succ, List.getD_cons_zero]
      go_wp2_with fail
      refine (must_no _ _).mono ?_; rintro e w2 ⟨rfl, rfl⟩; refine mid_panic ?_
      go_wp2_with fail
      exact ⟨rfl, rfl, sv, Mv.of_below (hb1'.out.trans (HD.out.mono hb1'.out.size))⟩
    case true =>
      have hAL : A + L ≤ K.n := by unfold roomB at hr; simp at hr; omega
      rw [if_pos rfl] at hR; clear hev hr; have hR' := Lib.hid hR; clear hR
      go_enter Tryz.func158, Tryz.ntmps158
      go_upto_region 1 with fail
      have b3 := Blk.new w 57 #[.int .i64 x0, .int .i64 x1, .int .i64 x2, .int .i64 A, .int .i64 L]; have hb1 := (Below.refl w.heap.size w).alloc (Nat.le_refl _) (.cells #[.int .i64 x0, .int .i64 x1, .int .i64 x2, .int .i64 A, .int .i64 L] 57); have hok1 := hok'.out.later hb1; obtain ⟨w1, hw1⟩ : ∃ w1, w.alloc (.cells #[.int .i64 x0, .int .i64 x1, .int .i64 x2, .int .i64 A, .int .i64 L] 57) = w1 := ⟨_, rfl⟩; rw [hw1] at b3 hb1 hok1
      try rw [hw1]
      clear hw1; obtain ⟨gs, hgs⟩ : ∃ gs, w.heap.size = gs := ⟨_, rfl⟩; rw [hgs] at b3
      try rw [hgs]
      have hgK : K.g < gs := by rw [← hgs]; exact hok'.out.blk.lt
      have hgtK : K.gt < gs := by rw [← hgs]; exact Blk.lt (T := 188) hok'.out.tak
      obtain ⟨Ty, f, hne, hbel, hsurj⟩ := later_worlds w1; have q3 : ∀ s, (f s).cell? ⟨gs, 3, none⟩ = some (.int .i64 A) := fun s => (Blk.late b3 (hbel s)).cell rfl; have q4 : ∀ s, (f s).cell? ⟨gs, 4, none⟩ = some (.int .i64 L) := fun s => (Blk.late b3 (hbel s)).cell rfl; have q0 : ∀ s, (f s).cell? ⟨K.g, 0, none⟩ = some (.slice K.a K.n K.c) := fun s => (Blk.late hok1.blk (hbel s)).cell rfl; have HS := Lib.hid (hsurj _ ((Below.refl _ _).drew)); have HD := Lib.hid ((Below.refl w1.heap.size w1).drew); have b3' := Lib.hid b3; have hb1' := Lib.hid hb1; have hok1' := Lib.hid hok1; have hbel' := Lib.hid hbel; have hsurj' := Lib.hid hsurj; have hgs' := Lib.hid hgs; clear b3 hb1 hok1 hbel hsurj hgs
      go_wp2_with fail
      refine held_begin (S := fun W => ∃ s, W = f s) (by kernel_rfl) 18 rfl ?_; refine held_take [0, 1, 2, 3, 4, 5, 6, 7, 8, 9, 10, 11, 12, 13, 14] 3 (by kernel_rfl) (fun d _ _ _ _ h => by cases d <;> exact h) (by kernel_rfl) (by kernel_rfl) (by kernel_rfl) HS.out ?_; simp only [pickL, List.map_cons, List.map_nil, List.getD_cons_succ, List.getD_cons_zero]
      iterate 15 (go_big_quiet_step (fail))
      refine wpQuiet_nil ?_; refine held_one 15 2 (by kernel_rfl) (by kernel_rfl) ?_; simp only [pickL, List.map_cons, List.map_nil, List.getD_cons_succ, List.getD_cons_zero]
      go_wp2_with fail
      refine (hRm'.out _).mono ?_; rintro e w2 ⟨rfl, rfl⟩
      go_wp2_with fail
      first | refine Mid.mk ⟨HS.out, ?_⟩ | refine Mid.mk ?_
      refine held_take [16] 1 (by kernel_rfl) (fun d _ _ _ _ h => by cases d <;> exact h) (by kernel_rfl) (by kernel_rfl) (by kernel_rfl) HS.out ?_; simp only [pickL, List.map_cons, List.map_nil, List.getD_cons_succ, List.getD_cons_zero]
      iterate 1 (go_big_quiet_step (fail))
      refine wpQuiet_nil ?_; refine held_one 17 0 (by kernel_rfl) (by kernel_rfl) ?_; simp only [pickL, List.map_cons, List.map_nil, List.getD_cons_succ, List.getD_cons_zero]
      go_wp2_with fail
      refine (must_yes _ _).mono ?_; rintro e w2 ⟨rfl, rfl⟩
      go_wp2_with fail
      first | refine Mid.mk ⟨HS.out, ?_⟩ | refine Mid.mk ?_
      refine held_last (by kernel_rfl) ?_; clear q0 q3 q4 HS; have b3 := b3'.out.late HD.out; have hokW := hok1'.out.later HD.out; have hbW := hb1'.out.trans (HD.out.mono hb1'.out.size); obtain ⟨W, hW⟩ : ∃ W, w1.drew = W := ⟨_, rfl⟩; rw [hW] at b3 hokW hbW; rw [hW]; have c3 : W.cell? ⟨gs, 3, none⟩ = some (.int .i64 A) := b3.cell rfl; clear hW b3' hok1' hbel' hsurj' HD hb1'; have b3' := Lib.hid b3; have hokW' := Lib.hid hokW; have hbW' := Lib.hid hbW; clear b3 hokW hbW
      go_wp2_with fail
      clear c3
      go_loopw [4] (fun av wr => ∃ (m : Nat) (tk2 : List Nat), A ≤ m ∧ m ≤ A + L ∧ av = .int .i64 m ∧ Hid (Row wr K.gt 188 .u64 (nats tk2)) ∧ Hid (tk2.length = K.tn) ∧ Hid (∀ x ∈ tk2, x < 18446744073709551616) ∧ Hid (∀ j, j < K.n → bitB tk2 j = (takenB s j || (decide (A ≤ j) && decide (j < m)))) ∧ Hid (∀ i : Nat, A ≤ i → i < m → takenB s i = false) ∧ Hid (But K.gt W wr)) (fun av _ => A + L - (intOf av).toNat)
      case atStart =>
        exact ⟨A, tk, by omega, by omega, rfl, Lib.hid hokW'.out.tak, Lib.hid hokW'.out.tkl, Lib.hid hokW'.out.tkb, Lib.hid (fun j hj => by rw [hokW'.out.bits j hj, show (decide (A ≤ j) && decide (j < A)) = false by simp, Bool.or_false]), Lib.hid (fun i h1 h2 => by omega), Lib.hid (But.refl _ _)⟩
      case round =>
        obtain ⟨m, tk2, hm0, hm, rfl, hrow, hl2, hx2, hbit, hfree, hbut⟩ := hrel; have b3r := b3'.out.but hbut.out (by omega); have c3 : wr.cell? ⟨gs, 3, none⟩ = some (.int .i64 A) := b3r.cell rfl; have c4 : wr.cell? ⟨gs, 4, none⟩ = some (.int .i64 L) := b3r.cell rfl; have hblk := hokW'.out.blk.but hbut.out t'.out.ne; have hw0 : IntKind.i64.wrap ((A : Int) + L) = A + L := by rw [IntKind.wrap_i64]; omega
        clear b3r
        by_cases hlt : m < A + L
        · have d2 : decide ((m : Int) < A + L) = true := by simp; omega
          have hq2 : m / 64 < K.tn := by omega
          have HI := is_any K.g K.gt K.tn _ _ tk2 m wr hblk rfl hrow.out hl2.out hx2.out hq2 (by omega); have hbm := hbit.out m (by omega); rw [show (decide (A ≤ m) && decide (m < m)) = false by simp, Bool.or_false] at hbm; rw [hbm] at HI; obtain ⟨bt, hbt⟩ : ∃ bt, takenB s m = bt := ⟨_, rfl⟩; rw [hbt] at HI; have HI' := Lib.hid HI; have hbm' := Lib.hid hbm; have hbt' := Lib.hid hbt; have hblk' := Lib.hid hblk; clear HI hbm hbt hblk
          cases bt
          · obtain ⟨q, hq⟩ : ∃ q, m / 64 = q := ⟨_, rfl⟩
            obtain ⟨r, hr2⟩ : ∃ r, m % 64 = r := ⟨_, rfl⟩; have hqi : (m : Int) / 64 = q := by omega
            rw [hq] at hq2; have f0 := hrow.out.cell (i := q) (by simp [nats, hl2.out]; omega); have y0 := hrow.out.frozen q; rw [nats_get (by rw [hl2.out]; exact hq2)] at f0; obtain ⟨x, hx⟩ : ∃ x, tk2.getD q 0 = x := ⟨_, rfl⟩; rw [hx] at f0
            have hx64 : x < 18446744073709551616 := by
              rw [← hx, getD_el (show q < tk2.length by rw [hl2.out]; exact hq2)]; exact hx2.out _ (List.getElem_mem _)
            have hp64 : 2 ^ r < 18446744073709551616 := by
              have : 2 ^ r ≤ 2 ^ 63 := Nat.pow_le_pow_right (by decide) (by omega)
              omega
            have h1 : bits .and .u64 (m : Int) 63 = (r : Int) := by rw [and63_u64 m (by omega), hr2]
            have h2 : IntKind.u64.wrap (m : Int) = m := by rw [IntKind.wrap_u64]; omega
            have h3 : IntKind.u64.wrap ((2 : Int) ^ r) = ((2 ^ r : Nat) : Int) := by rw [IntKind.wrap_u64, show ((2 : Int) ^ r) = ((2 ^ r : Nat) : Int) by simp]; exact Int.emod_eq_of_lt (Int.natCast_nonneg _) (Int.ofNat_lt.2 hp64)
            have h4 : bits .or .u64 (x : Int) ((2 ^ r : Nat) : Int) = ((x ||| 2 ^ r : Nat) : Int) := or_u64 x _ hx64 hp64; have hrr : r ≤ 64 := by omega
            have hqn : (q : Int) < K.tn := by omega
            have c5 : wr.cell? ⟨K.g, 3, none⟩ = some (.slice (some ⟨K.gt, 0, none⟩) K.tn K.tn) := hblk'.out.cell rfl; have hset := bitB_set (tk := tk2) (k := m) (by rw [hq, hl2.out]; exact hq2); rw [hq, hr2, hx] at hset; have hor : x ||| 2 ^ r < 18446744073709551616 := Nat.or_lt_two_pow (n := 64) hx64 hp64
            generalize hP : 2 ^ r = P at *
            have hset' := Lib.hid hset; have hor' := Lib.hid hor; have hx' := Lib.hid hx; have hx64' := Lib.hid hx64; clear hset hor hx hx64
            go_wp2_with (first | (go_at_call 73; refine (HI'.out).mono ?_; rintro e w3 ⟨rfl, rfl⟩) | (go_at_call 122; refine (must_yes _ _).mono ?_; rintro e w3 ⟨rfl, rfl⟩))
            go_roundw
            case rel =>
              refine ⟨m + 1, tk2.set q (x ||| P), by omega, by omega, by go_num, Lib.hid ?_, Lib.hid (by rw [List.length_set]; exact hl2.out), Lib.hid (fun y hy => ?_), Lib.hid (fun j hj => ?_), Lib.hid (fun i h1 h2 => ?_), Lib.hid (hbut.out.set q _)⟩
              · have h := hrow.out.set q ((x ||| P : Nat) : Int)
                rw [nats_set] at h; exact h
              · rcases List.mem_or_eq_of_mem_set hy with h | h
                · exact hx2.out y h
                · rw [h]; exact hor'.out
              · rw [hset'.out j, hbit.out j hj, Bool.eq_iff_iff]
                simp only [Bool.or_eq_true, Bool.and_eq_true, decide_eq_true_eq]
                constructor
                · rintro ((h | h) | h)
                  · exact .inl h
                  · exact .inr (by omega)
                  · exact .inr (by omega)
                · rintro (h | h)
                  · exact .inl (.inl h)
                  · by_cases hjm : j = m
                    · exact .inr hjm
                    · exact .inl (.inr (by omega))
              · by_cases him : i = m
                · subst him; exact hbt'.out
                · exact hfree.out i h1 (by omega)
            case measure => simp [intOf]; omega
          · obtain rfl : R = .error 5 := by
              have h5 := freeB_no (s := s) (A := A) (L := L) (k := m - A) (by omega) (by rw [show (A : Int) + ((m - A : Nat) : Int) = m by omega]; exact hbt'.out); have h6 := hR'.out; simp only [h5] at h6
              simpa using h6.symm
            go_wp2_with (first | (go_at_call 73; refine (HI'.out).mono ?_; rintro e w3 ⟨rfl, rfl⟩) | (go_at_call 122; refine (must_no _ _).mono ?_; rintro e w3 ⟨rfl, rfl⟩))
            exact ⟨rfl, rfl, sv, (Mv.of_below hbW'.out).trans (Mv.of_but hbut.out (.inr rfl))⟩
        · obtain rfl : m = A + L := by omega
          have hfr := freeB_yes (s := s) (A := A) (L := L) (fun k hk => hfree.out (A + k) (by omega) (by omega))
          have hRok : R = .ok { s with spots := s.spots ++ [(x0, x1, x2, (A : Int), (L : Int))] } := by
            have h6 := hR'.out; simp only [hfr] at h6
            simpa using h6.symm
          subst hRok
          go_wp2_with fail
          clear c3 c4; have htak : Row wr K.gt 188 .u64 (nats tk2) := hrow.out; have hspot := own_but hokW'.out.spot hbut.out hokW'.out.sgt; have b3r := b3'.out.but hbut.out (by omega); have hold : Below K.w0.heap.size K.w0 wr := hokW'.out.old.trans (hbut.out.below t'.out.gtB hokW'.out.old.size); have hmv : Mv K.g K.gt sv sv w wr := (Mv.of_below hbW'.out).trans (Mv.of_but hbut.out (.inr rfl)); obtain ⟨Ty2, f2, hne2, hp2, hsurj2⟩ := prop_worlds (fun W2 => Blk W2 K.g 130 #[.slice K.a K.n K.c, .int .i64 K.o, .slice K.sa K.sn K.sc, .slice (some ⟨K.gt, 0, none⟩) K.tn K.tn, sv, .int .i64 s.no, .int .i64 s.soiled] ∧ Blk W2 gs 57 #[.int .i64 x0, .int .i64 x1, .int .i64 x2, .int .i64 A, .int .i64 L]) wr ⟨hblk, b3r⟩; have q4 : ∀ s, (f2 s).cell? ⟨K.g, 4, none⟩ = some sv := fun s => (hp2 s).1.cell rfl; have r0 : ∀ s, (f2 s).cell? ⟨gs, 0, none⟩ = some (.int .i64 x0) := fun s => (hp2 s).2.cell rfl; have r1 : ∀ s, (f2 s).cell? ⟨gs, 1, none⟩ = some (.int .i64 x1) := fun s => (hp2 s).2.cell rfl; have r2 : ∀ s, (f2 s).cell? ⟨gs, 2, none⟩ = some (.int .i64 x2) := fun s => (hp2 s).2.cell rfl; have r3 : ∀ s, (f2 s).cell? ⟨gs, 3, none⟩ = some (.int .i64 A) := fun s => (hp2 s).2.cell rfl; have r4 : ∀ s, (f2 s).cell? ⟨gs, 4, none⟩ = some (.int .i64 L) := fun s => (hp2 s).2.cell rfl; have HS := Lib.hid (hsurj2 wr.drew ⟨hblk, b3r⟩); obtain ⟨i0, z0, hi0, hz, hz1, hz2, hz3⟩ := info_sz infoSp infoSpz; have htak' := Lib.hid htak; have hspot' := Lib.hid hspot; have b3r' := Lib.hid b3r; have hold' := Lib.hid hold; have hmv' := Lib.hid hmv; have hp2' := Lib.hid hp2; have hsurj2' := Lib.hid hsurj2; have hblk' := Lib.hid hblk; clear htak hspot b3r hold hmv hp2 hsurj2 hblk; refine till_begin (t := 10) (C := fun W => ∃ s, W = f2 s) (by kernel_rfl) 11 rfl ?_; refine till_free [0, 1, 2, 3] 7 (by kernel_rfl) (fun d _ _ _ _ h => by cases d <;> exact h) (by kernel_rfl) (by kernel_rfl) (by kernel_rfl) HS.out ?_; simp only [pickL, List.map_cons, List.map_nil, List.getD_cons_succ, List.getD_cons_zero]
          iterate 4 (go_big_quiet_step (fail))
          refine wpQuiet_nil ?_; refine till_take [4, 5] 5 (by kernel_rfl) (fun d _ _ _ _ h => by cases d <;> exact h) (by kernel_rfl) (by kernel_rfl) (by kernel_rfl) HS.out ?_; simp only [pickL, List.map_cons, List.map_nil, List.getD_cons_succ, List.getD_cons_zero]
          iterate 2 (go_big_quiet_step (fail))
          refine wpQuiet_nil ?_; clear q4 r0 r1 r2 r3 r4; refine till_one 6 4 (by kernel_rfl) (by kernel_rfl) ?_; simp only [pickL, List.map_cons, List.map_nil, List.getD_cons_succ, List.getD_cons_zero]
          go_wp2_with fail
          have hal := ((Below.refl wr.heap.size wr).alloc (Nat.le_refl _) (.cells #[.int .i64 x0, .int .i64 x1, .int .i64 x2, .int .i64 A, .int .i64 L] 57)).drew; have hnew : Sl (wr.alloc (.cells #[.int .i64 x0, .int .i64 x1, .int .i64 x2, .int .i64 A, .int .i64 L] 57)).drew (some ⟨wr.heap.size, 0, none⟩) 1 1 5 (spC (x0, x1, x2, (A : Int), (L : Int))) := (Sl.new wr 57 5 1 #[.int .i64 x0, .int .i64 x1, .int .i64 x2, .int .i64 A, .int .i64 L] (0, 0) (by omega) rfl).mono ((Below.refl _ _).drew); have hblk7 := hblk'.out.late hal; have b37 := b3r'.out.late hal; have hspot7 := own_later hspot'.out hal; have htak7 : Row _ K.gt 188 .u64 (nats tk2) := Blk.late (T := 188) htak'.out hal; have hold7 := hold'.out.trans (hal.mono hold'.out.size); have hmv7 := hmv'.out.later hal; have hsize7 := hal.size; obtain ⟨w7, hw7⟩ : ∃ w7, (wr.alloc (.cells #[.int .i64 x0, .int .i64 x1, .int .i64 x2, .int .i64 A, .int .i64 L] 57)).drew = w7 := ⟨_, rfl⟩; rw [hw7] at hblk7 b37 hspot7 htak7 hold7 hmv7 hnew hsize7; rw [hw7]; obtain ⟨gn, hgn⟩ : ∃ gn, wr.heap.size = gn := ⟨_, rfl⟩; rw [hgn] at hnew; rw [hgn]; clear hw7 hal HS hgn; have HS := Lib.hid (hsurj2'.out w7 ⟨hblk7, b37⟩); have hgne : sv.ownBlock ≠ some K.g := hokW'.out.sg; have hgtne : sv.ownBlock ≠ some K.gt := hokW'.out.sgt; have hgsne : sv.ownBlock ≠ some gs := fun e => by have := (hok'.out.spot.lt _ e).2; have := hgs'.out; omega
          have hblk7' := Lib.hid hblk7; have b37' := Lib.hid b37; have hspot7' := Lib.hid hspot7; have htak7' := Lib.hid htak7; have hold7' := Lib.hid hold7; have hmv7' := Lib.hid hmv7; have hnew' := Lib.hid hnew; have hgne' := Lib.hid hgne; have hgtne' := Lib.hid hgtne; have hgsne' := Lib.hid hgsne; clear hblk7 b37 hspot7 htak7 hold7 hmv7 hnew hgne hgtne hgsne
          first | refine Mid.mk ⟨fun _ => HS.out, ?_⟩ | refine Mid.mk ?_
          refine till_one 7 3 (by kernel_rfl) (by kernel_rfl) ?_; simp only [pickL, List.map_cons, List.map_nil, List.getD_cons_succ, List.getD_cons_zero]
          go_wp2_with (at_builtin; refine wpList_app2 rfl _ _ 51 rfl K.w0.heap.size 57 i0 z0 5 40 Tryz.underlying51 hi0 hz hz1 hz2 hz3 (by decide) sv s.spots.length _ rfl hspot7'.out ⟨gn, 0, none⟩ 1 1 (spC (x0, x1, x2, (A : Int), (L : Int))) rfl hnew'.out (spC_one _) (by omega) (by decide) hold7'.out.size ?_; intro a8 c8 w8 ob hg8 hown8; have Ob := Lib.hid ob; have Hg8 := Lib.hid hg8; have Ho8 := Lib.hid hown8; clear ob hg8 hown8)
          have hblk8 := hblk7'.out.grown Hg8.out hgne'.out; have b38 := b37'.out.grown Hg8.out hgsne'.out; have htak8 : Row w8 K.gt 188 .u64 (nats tk2) := Blk.grown (T := 188) htak7'.out Hg8.out hgtne'.out; have hmv8 := hmv7'.out.trans (Mv.of_grown Hg8.out Ho8.out); have hold8 := below_grown hold7'.out Hg8.out hold7'.out.size hspot7'.out; have hlt7 := hblk7'.out.lt; have hltt7 := Blk.lt (T := 188) htak7'.out; have hg2 : (Value.slice a8 (s.spots.length + 1) c8).ownBlock ≠ some K.g := fun e => by rcases Ho8.out _ e with h | h <;> first | exact hgne'.out h | omega
          have hgt2 : (Value.slice a8 (s.spots.length + 1) c8).ownBlock ≠ some K.gt := fun e => by rcases Ho8.out _ e with h | h <;> first | exact hgtne'.out h | omega
          have HS := Lib.hid (hsurj2'.out w8 ⟨hblk8, b38⟩); have p4 : w8.cell? ⟨K.g, 4, none⟩ = some sv := hblk8.cell rfl; have y4 := hblk8.frozen 4; clear b38; have hblk8' := Lib.hid hblk8; have htak8' := Lib.hid htak8; have hmv8' := Lib.hid hmv8; have hold8' := Lib.hid hold8; have hg2' := Lib.hid hg2; have hgt2' := Lib.hid hgt2; clear hblk8 htak8 hmv8 hold8 hg2 hgt2
          first | refine Mid.mk ⟨fun _ => HS.out, ?_⟩ | refine Mid.mk ?_
          refine till_free [8, 9] 1 (by kernel_rfl) (fun d _ _ _ _ h => by cases d <;> exact h) (by kernel_rfl) (by kernel_rfl) (by kernel_rfl) HS.out ?_; simp only [pickL, List.map_cons, List.map_nil, List.getD_cons_succ, List.getD_cons_zero]
          iterate 2 (go_big_quiet_step (fail))
          refine wpQuiet_nil ?_; refine till_one 10 0 (by kernel_rfl) (by kernel_rfl) ?_; simp only [pickL, List.map_cons, List.map_nil, List.getD_cons_succ, List.getD_cons_zero]
          go_wp2_with fail
          first | refine Mid.mk ⟨fun h => (by simp [segL] at h), ?_⟩ | refine Mid.mk ?_
          refine till_last (by kernel_rfl) ?_; clear p4 y4
          go_wp2_with fail
          refine bodyPost_end (results_none rfl _ _ _) rfl ?_; refine ⟨.slice a8 (s.spots.length + 1) c8, tk2, ⟨hold8'.out.trans (((But.refl K.g w8).set 4 _).below t'.out.gB hold8'.out.size), hblk8'.out.set 4 _, Blk.set_other (T := 188) htak8'.out (Ne.symm t'.out.ne) 4 _, hl2.out, hx2.out, fun j hj => ?_, ?_, hg2'.out, hgt2'.out⟩, hmv8'.out.trans (Mv.of_but ((But.refl K.g w8).set 4 _) (.inl rfl)), rfl⟩
          · rw [hbit.out j hj, takenB_snoc]
            congr 1
            unfold inSpot; rw [Bool.eq_iff_iff]
            simp
            omega
          · have h := own_but Ob.out ((But.refl K.g w8).set 4 (.slice a8 (s.spots.length + 1) c8)) hg2'.out
            rw [List.length_append, fl_snoc]; exact h
end Go.Proofs.YtilennmeiaehnaaGreat
