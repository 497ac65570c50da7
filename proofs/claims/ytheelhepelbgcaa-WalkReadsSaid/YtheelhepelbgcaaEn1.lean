/- Chapter 19: Read of both sides. -/
import Derived.Test.YtheelhepelbgcaaTo2
namespace Go.Proofs.Ytheelhepelbgcaa
open Go.RowKit Tt
set_option linter.unusedVariables false
set_option linter.unusedSimpArgs false

theorem snum_any (a : Option Addr) (n c : Nat) (z : List Int) (o at_ size : Int) (w : World) (hs : Sl w a n c 1 (ints .u8 z)) (hb : Byt z) :
    Calls Try.prog 92 #[.agg #[.slice a n c, .int .i64 o], .int .i64 at_, .int .i64 size] w fun e w' => e = .returned (.tuple #[.int .i64 (getV z at_ size o), .bool (getB n at_ size o)]) ∧ Below w.heap.size w w' := by
  have hG := fun W (h : Below w.heap.size w W) => get_any a n c z at_ size o W (hs.mono h) hb
  have hG' := Lib.hid hG
  clear hG
  go_enter Try.func92, Try.ntmps92
  go_wp2_with fail
  have hb1 := (Below.refl w.heap.size w).alloc (Nat.le_refl _) (.cells #[.slice a n c, .int .i64 o] 127)
  refine (hG'.out _ hb1).mono ?_
  rintro e w2 ⟨rfl, hb2⟩
  have hb := hb1.trans (hb2.mono hb1.size)
  clear hb2 hb1
  have hb' := Lib.hid hb
  clear hb
  go_wp2_with fail
  go_ret2
  exact ⟨rfl, hb'.out⟩
set_option maxRecDepth 20000 in
set_option maxHeartbeats 4000000 in
theorem next_any (g : Nat) (a : Option Addr) (n c : Nat) (z : List Int) (o at_ size : Int) (ok : Bool) (w : World) (hr : Blk w g 129 #[.slice a n c, .int .i64 o, .int .i64 at_, .bool ok]) (hs : Sl w a n c 1 (ints .u8 z)) (hb : Byt z)
    (h0 : 0 ≤ at_) (h1 : at_ ≤ 4611686018427387904) (h2 : 0 ≤ size) (h3 : size ≤ 8) :
    Calls Try.prog 78 #[.pointer (some ⟨g, 0, none⟩), .int .i64 size] w fun e w' => e = .returned (.int .i64 (getV z at_ size o)) ∧ Blk w' g 129 #[.slice a n c, .int .i64 o, .int .i64 (at_ + size), .bool (ok && getB n at_ size o)] ∧ But g w w' := by
  obtain ⟨Ty, f, hne, hbel, hsurj⟩ := later_worlds w
  have q0 : ∀ s, (f s).cell? ⟨g, 0, none⟩ = some (.slice a n c) := fun s => (Blk.late hr (hbel s)).cell rfl
  have q1 : ∀ s, (f s).cell? ⟨g, 1, none⟩ = some (.int .i64 o) := fun s => (Blk.late hr (hbel s)).cell rfl
  have q2 : ∀ s, (f s).cell? ⟨g, 2, none⟩ = some (.int .i64 at_) := fun s => (Blk.late hr (hbel s)).cell rfl
  have HS := Lib.hid (hsurj _ ((Below.refl _ _).drew))
  have HD := Lib.hid ((Below.refl w.heap.size w).drew)
  have hw : IntKind.i64.wrap (at_ + size) = at_ + size := by rw [IntKind.wrap_i64]; omega
  have hN := fun W (h : Below w.heap.size w W) => snum_any a n c z o at_ size W (hs.mono h) hb
  obtain ⟨v, hv⟩ : ∃ v, getV z at_ size o = v := ⟨_, rfl⟩
  obtain ⟨b, hbb⟩ : ∃ v, getB n at_ size o = v := ⟨_, rfl⟩
  rw [hv, hbb] at hN
  rw [hv, hbb]
  have hr' := Lib.hid hr
  have hs' := Lib.hid hs
  have hb' := Lib.hid hb
  have hbel' := Lib.hid hbel
  have hsurj' := Lib.hid hsurj
  have hN' := Lib.hid hN
  have hv' := Lib.hid hv
  have hbb' := Lib.hid hbb
  clear hr hs hb hbel hsurj hN hv hbb
  go_enter Try.func78, Try.ntmps78
  go_wp2_with fail
  refine held_begin (S := fun W => ∃ s, W = f s) (by kernel_rfl) 15 rfl ?_
  refine held_take [0, 1, 2, 3, 4, 5, 6, 7, 8] 6 (by kernel_rfl) (fun d _ _ _ _ h => by cases d <;> exact h) (by kernel_rfl) (by kernel_rfl) (by kernel_rfl) HS.out ?_
  simp only [pickL, List.map_cons, List.map_nil, List.getD_cons_succ, List.getD_cons_zero]
  iterate 9 (go_big_quiet_step (fail))
  refine wpQuiet_nil ?_
  refine held_one 9 5 (by kernel_rfl) (by kernel_rfl) ?_
  simp only [pickL, List.map_cons, List.map_nil, List.getD_cons_succ, List.getD_cons_zero]
  go_wp2_with fail
  refine (hN'.out _ HD.out).mono ?_
  rintro e w2 ⟨rfl, hb2⟩
  have hbw := HD.out.trans (hb2.mono HD.out.size)
  have HS := Lib.hid (hsurj'.out _ hbw)
  have b2 := hr'.out.late hbw
  clear hb2
  have hbw' := Lib.hid hbw
  have b2' := Lib.hid b2
  clear hbw b2
  go_wp2_with fail
  first | refine Mid.mk ⟨HS.out, ?_⟩ | refine Mid.mk ?_
  refine held_take [10, 11, 12, 13, 14] 0 (by kernel_rfl) (fun d _ _ _ _ h => by cases d <;> exact h) (by kernel_rfl) (by kernel_rfl) (by kernel_rfl) HS.out ?_
  simp only [pickL, List.map_cons, List.map_nil, List.getD_cons_succ, List.getD_cons_zero]
  iterate 5 (go_big_quiet_step (fail))
  refine wpQuiet_nil ?_
  refine held_last (by kernel_rfl) ?_
  have p0 : w2.cell? ⟨g, 0, none⟩ = some (.slice a n c) := b2'.out.cell rfl
  have p2 : w2.cell? ⟨g, 2, none⟩ = some (.int .i64 at_) := b2'.out.cell rfl
  have p3 : w2.cell? ⟨g, 3, none⟩ = some (.bool ok) := b2'.out.cell rfl
  have y2 := b2'.out.frozen 2
  have y3 := b2'.out.frozen 3
  have b3 := (b2'.out.set 2 (.int .i64 (at_ + size))).set 3 (.bool (ok && b))
  have hbt := ((But.of_below (b := g) hbw'.out).set 2 (.int .i64 (at_ + size))).set 3 (.bool (ok && b))
  have b3' := Lib.hid b3
  have hbt' := Lib.hid hbt
  clear b3 hbt
  clear q0 q1 q2
  cases ok
  · simp only [Bool.false_and] at *
    go_wp2_with fail
    go_ret
    exact ⟨rfl, b3'.out, hbt'.out⟩
  · simp only [Bool.true_and] at *
    go_wp2_with fail
    go_ret
    exact ⟨rfl, b3'.out, hbt'.out⟩
abbrev Ent := Int × Int × Int × Int
def entC (x : Ent) : List Value := [.int .i64 x.1, .int .i64 x.2.1, .int .i64 x.2.2.1, .int .i64 x.2.2.2]
def entV (x : Ent) : Value := .agg #[.int .i64 x.1, .int .i64 x.2.1, .int .i64 x.2.2.1, .int .i64 x.2.2.2]
theorem entC_len (x : Ent) : (entC x).length = 4 := rfl
def entAt (z : List Int) (o p : Int) : Ent := (getV z p 2 o, getV z (p + 2) 2 o, getV z (p + 4) 4 o, getV z (p + 8) 4 o)
theorem getB_in {n : Nat} {at_ size o : Int} (hs : size = 1 ∨ size = 2 ∨ size = 4) (ho : o = 1 ∨ o = 2) (h0 : 0 ≤ at_) (h1 : at_ + size ≤ n) : getB n at_ size o = true := by
  unfold getB mayB
  simp
  omega
theorem own_blk_late {w w' : World} {g : Nat} {T : TypeId} {cs : Array Value} (h : Blk w g T cs) {k : Nat} (hb : But k w w') (hk : g ≠ k) : Blk w' g T cs := h.but hb hk
set_option maxRecDepth 20000 in
set_option maxHeartbeats 4000000 in
theorem eread_any (a : Option Addr) (n c : Nat) (z : List Int) (o p : Int) (w : World) (hs : Sl w a n c 1 (ints .u8 z)) (hb : Byt z) (ho : o = 1 ∨ o = 2) (h0 : 0 ≤ p) (h1 : p + 12 ≤ n) (hn : n ≤ 1000000000) :
    Calls Try.prog 64 #[.slice a n c, .int .i64 p, .int .i64 o] w fun e w' => e = .returned (.tuple #[entV (entAt z o p), .bool true]) ∧ Below w.heap.size w w' := by
  have hle := hs.le
  have hmx := hs.max
  have hR := fun W => room_any p 12 n W (by omega) (by omega)
  rw [show roomB p 12 n = true by unfold roomB; simp; omega] at hR
  have g1 := getB_in (n := n) (at_ := p) (size := 2) (by omega) ho h0 (by omega)
  have g2 := getB_in (n := n) (at_ := p + 2) (size := 2) (by omega) ho (by omega) (by omega)
  have g3 := getB_in (n := n) (at_ := p + 4) (size := 4) (by omega) ho (by omega) (by omega)
  have g4 := getB_in (n := n) (at_ := p + 8) (size := 4) (by omega) ho (by omega) (by omega)
  unfold entV entAt
  simp only
  obtain ⟨v1, hv1⟩ : ∃ v, getV z p 2 o = v := ⟨_, rfl⟩
  obtain ⟨v2, hv2⟩ : ∃ v, getV z (p + 2) 2 o = v := ⟨_, rfl⟩
  obtain ⟨v3, hv3⟩ : ∃ v, getV z (p + 4) 4 o = v := ⟨_, rfl⟩
  obtain ⟨v4, hv4⟩ : ∃ v, getV z (p + 8) 4 o = v := ⟨_, rfl⟩
  rw [hv1, hv2, hv3, hv4]
  obtain ⟨W, hW⟩ : ∃ W, (w.alloc (.cells #[.int .i64 0, .int .i64 0, .int .i64 0, .int .i64 0] 105)).alloc (.cells #[.slice a n c, .int .i64 o, .int .i64 p, .bool true] 129) = W := ⟨_, rfl⟩
  have b0 : Blk W w.heap.size 105 #[.int .i64 0, .int .i64 0, .int .i64 0, .int .i64 0] := by rw [← hW]; exact (Blk.new w _ _).alloc _
  have hrd : Blk W (w.heap.size + 1) 129 #[.slice a n c, .int .i64 o, .int .i64 p, .bool true] := by rw [← hW]; exact heap_new' _ _ (by simp)
  have hbW : Below w.heap.size w W := by rw [← hW]; exact (((Below.refl w.heap.size w).alloc (Nat.le_refl _) _).alloc (by simp) _)
  have hsW := hs.mono hbW
  have hltW := hrd.lt
  have HN1 := next_any (w.heap.size + 1) a n c z o p 2 true W hrd hsW hb h0 (by omega) (by omega) (by omega)
  have HN2 := fun W2 h hs2 => next_any (w.heap.size + 1) a n c z o (p + 2) 2 true W2 h hs2 hb (by omega) (by omega) (by omega) (by omega)
  have HN3 := fun W2 h hs2 => next_any (w.heap.size + 1) a n c z o (p + 4) 4 true W2 h hs2 hb (by omega) (by omega) (by omega) (by omega)
  have HN4 := fun W2 h hs2 => next_any (w.heap.size + 1) a n c z o (p + 8) 4 true W2 h hs2 hb (by omega) (by omega) (by omega) (by omega)
  rw [hv1, g1] at HN1
  rw [hv2, g2] at HN2
  rw [hv3, g3] at HN3
  rw [hv4, g4] at HN4
  simp only [Bool.and_self, Int.add_assoc, Int.reduceAdd] at HN1 HN2 HN3 HN4
  clear g1 g2 g3 g4 hv1 hv2 hv3 hv4
  have hs' := Lib.hid hs
  have hb' := Lib.hid hb
  have hR' := Lib.hid hR
  have b0' := Lib.hid b0
  have hrd' := Lib.hid hrd
  have hbW' := Lib.hid hbW
  have hsW' := Lib.hid hsW
  have HN1' := Lib.hid HN1
  have HN2' := Lib.hid HN2
  have HN3' := Lib.hid HN3
  have HN4' := Lib.hid HN4
  clear hs hb hR b0 hrd hbW hsW HN1 HN2 HN3 HN4
  go_enter Try.func64, Try.ntmps64
  go_wp2_with (go_at_call 63; refine (hR'.out _).mono ?_; rintro e w1 ⟨rfl, rfl⟩)
  clear hW
  refine HN1'.out.mono ?_
  rintro e W1 ⟨rfl, hr1, hbt1⟩
  have hB1 := hbW'.out.trans (hbt1.below (Nat.le_succ w.heap.size) hbW'.out.size)
  have b01 := b0'.out.but hbt1 (by omega)
  clear hbt1
  have hr1' := Lib.hid hr1
  have hB1' := Lib.hid hB1
  have b01' := Lib.hid b01
  clear hr1 hB1 b01
  go_wp2_with fail
  refine (HN2'.out _ hr1'.out (hs'.out.mono hB1'.out)).mono ?_
  rintro e W2 ⟨rfl, hr2, hbt2⟩
  have hB2 := hB1'.out.trans (hbt2.below (Nat.le_succ w.heap.size) hB1'.out.size)
  have b02 := b01'.out.but hbt2 (by omega)
  clear hbt2 hr1' hB1' b01'
  have hr2' := Lib.hid hr2
  have hB2' := Lib.hid hB2
  have b02' := Lib.hid b02
  clear hr2 hB2 b02
  go_wp2_with fail
  refine (HN3'.out _ hr2'.out (hs'.out.mono hB2'.out)).mono ?_
  rintro e W3 ⟨rfl, hr3, hbt3⟩
  have hB3 := hB2'.out.trans (hbt3.below (Nat.le_succ w.heap.size) hB2'.out.size)
  have b03 := b02'.out.but hbt3 (by omega)
  clear hbt3 hr2' hB2' b02'
  have hr3' := Lib.hid hr3
  have hB3' := Lib.hid hB3
  have b03' := Lib.hid b03
  clear hr3 hB3 b03
  go_wp2_with fail
  refine (HN4'.out _ hr3'.out (hs'.out.mono hB3'.out)).mono ?_
  rintro e W4 ⟨rfl, hr4, hbt4⟩
  have hB4 := hB3'.out.trans (hbt4.below (Nat.le_succ w.heap.size) hB3'.out.size)
  have b04 := b03'.out.but hbt4 (by omega)
  clear hbt4 hr3' hB3' b03'
  go_upto_region 5 with fail
  have b05 := b04.alloc (.cells #[.int .i64 v1, .int .i64 v2, .int .i64 v3, .int .i64 v4] 105)
  have hr5 := hr4.alloc (.cells #[.int .i64 v1, .int .i64 v2, .int .i64 v3, .int .i64 v4] 105)
  have hn5 := Blk.new W4 105 #[.int .i64 v1, .int .i64 v2, .int .i64 v3, .int .i64 v4]
  have hB5 := hB4.alloc hB4.size (.cells #[.int .i64 v1, .int .i64 v2, .int .i64 v3, .int .i64 v4] 105)
  generalize W4.alloc (.cells #[.int .i64 v1, .int .i64 v2, .int .i64 v3, .int .i64 v4] 105) = W5 at *
  generalize W4.heap.size = g5 at *
  have c2 : W5.cell? ⟨w.heap.size + 1, 3, none⟩ = some (.bool true) := hr5.cell rfl
  have d0 : W5.cell? ⟨g5, 0, none⟩ = some (.int .i64 v1) := hn5.cell rfl
  have d1 : W5.cell? ⟨g5, 1, none⟩ = some (.int .i64 v2) := hn5.cell rfl
  have d2 : W5.cell? ⟨g5, 2, none⟩ = some (.int .i64 v3) := hn5.cell rfl
  have d3 : W5.cell? ⟨g5, 3, none⟩ = some (.int .i64 v4) := hn5.cell rfl
  have p0 : W5.cell? ⟨w.heap.size, 0, none⟩ = some (.int .i64 0) := b05.cell rfl
  have p1 : W5.cell? ⟨w.heap.size, 1, none⟩ = some (.int .i64 0) := b05.cell rfl
  have p2 : W5.cell? ⟨w.heap.size, 2, none⟩ = some (.int .i64 0) := b05.cell rfl
  have p3 : W5.cell? ⟨w.heap.size, 3, none⟩ = some (.int .i64 0) := b05.cell rfl
  have y0 := b05.frozen 0
  have y1 := b05.frozen 1
  have y2 := b05.frozen 2
  have y3 := b05.frozen 3
  clear hr4 hB4 b04 hr5 hn5
  have hB5' := Lib.hid hB5
  have b05' := Lib.hid b05
  clear hB5 b05
  go_wp2_with fail
  refine bodyPost_ret (results_blk_tmp rfl _ _ w.heap.size 105 #[.int .i64 v1, .int .i64 v2, .int .i64 v3, .int .i64 v4] _ rfl (b05'.out.set4 _ _ _ _) Try.underlying105 rfl (by kernel_rfl)) rfl ?_
  exact ⟨rfl, below_set4 hB5'.out (Nat.le_refl _) _ _ _ _⟩
set_option maxRecDepth 20000 in
set_option maxHeartbeats 4000000 in
theorem rread_any (a : Option Addr) (n c : Nat) (z : List Int) (o p : Int) (w : World) (hs : Sl w a n c 1 (ints .u8 z)) (hb : Byt z) (ho : o = 1 ∨ o = 2) (h0 : 0 ≤ p) (h1 : p + 12 ≤ n) (hn : n ≤ 1000000000) :
    Calls Try.prog 57 #[.slice a n c, .int .i64 p, .int .i64 o] w fun e w' => e = .returned (.tuple #[entV (entAt z o p), .bool true]) ∧ Below w.heap.size w w' := by
  have hle := hs.le
  have hmx := hs.max
  have g1 := getB_in (n := n) (at_ := p) (size := 2) (by omega) ho h0 (by omega)
  unfold entV entAt
  simp only
  have HN := fun q s W (h : Below w.heap.size w W) => rget_any a n c z q s o W (hs.mono h) hb
  have HN1 := HN p 2
  have HN2 := HN (p + 2) 2
  have HN3 := HN (p + 4) 4
  have HN4 := HN (p + 8) 4
  rw [g1] at HN1
  obtain ⟨v1, hv1⟩ : ∃ v, getV z p 2 o = v := ⟨_, rfl⟩
  obtain ⟨v2, hv2⟩ : ∃ v, getV z (p + 2) 2 o = v := ⟨_, rfl⟩
  obtain ⟨v3, hv3⟩ : ∃ v, getV z (p + 4) 4 o = v := ⟨_, rfl⟩
  obtain ⟨v4, hv4⟩ : ∃ v, getV z (p + 8) 4 o = v := ⟨_, rfl⟩
  rw [hv1] at HN1
  rw [hv2] at HN2
  rw [hv3] at HN3
  rw [hv4] at HN4
  rw [hv1, hv2, hv3, hv4]
  generalize getB n (p + 2) 2 o = t2 at *
  generalize getB n (p + 4) 4 o = t3 at *
  generalize getB n (p + 8) 4 o = t4 at *
  have k1 : decide (p < 0) = false := by simp; omega
  have k2 : decide (n < p) = false := by simp; omega
  have k3 : decide ((n : Int) - p < 12) = false := by simp; omega
  have hw1 : IntKind.i64.wrap ((n : Int) - p) = n - p := by rw [IntKind.wrap_i64]; omega
  have hw2 : IntKind.i64.wrap (p + 2) = p + 2 := by rw [IntKind.wrap_i64]; omega
  have hw3 : IntKind.i64.wrap (p + 4) = p + 4 := by rw [IntKind.wrap_i64]; omega
  have hw4 : IntKind.i64.wrap (p + 8) = p + 8 := by rw [IntKind.wrap_i64]; omega
  have b0 := Blk.new w 105 #[.int .i64 0, .int .i64 0, .int .i64 0, .int .i64 0]
  have hbW := (Below.refl w.heap.size w).alloc (Nat.le_refl _) (.cells #[.int .i64 0, .int .i64 0, .int .i64 0, .int .i64 0] 105)
  clear HN g1 hv1 hv2 hv3 hv4
  have hs' := Lib.hid hs
  have hb' := Lib.hid hb
  have b0' := Lib.hid b0
  have hbW' := Lib.hid hbW
  have HN1' := Lib.hid HN1
  have HN2' := Lib.hid HN2
  have HN3' := Lib.hid HN3
  have HN4' := Lib.hid HN4
  clear hs hb b0 hbW HN1 HN2 HN3 HN4
  go_enter Try.func57, Try.ntmps57
  go_wp2_with fail
  refine (HN1'.out _ hbW'.out).mono ?_
  rintro e W1 ⟨rfl, hbt1⟩
  have hB1 := hbW'.out.trans (hbt1.mono hbW'.out.size)
  have b01 := b0'.out.late hbt1
  clear hbt1
  have hB1' := Lib.hid hB1
  have b01' := Lib.hid b01
  clear hB1 b01
  go_wp2_with fail
  refine (HN2'.out _ hB1'.out).mono ?_
  rintro e W2 ⟨rfl, hbt2⟩
  have hB2 := hB1'.out.trans (hbt2.mono hB1'.out.size)
  have b02 := b01'.out.late hbt2
  clear hbt2
  have hB2' := Lib.hid hB2
  have b02' := Lib.hid b02
  clear hB2 b02
  go_wp2_with fail
  refine (HN3'.out _ hB2'.out).mono ?_
  rintro e W3 ⟨rfl, hbt3⟩
  have hB3 := hB2'.out.trans (hbt3.mono hB2'.out.size)
  have b03 := b02'.out.late hbt3
  clear hbt3
  have hB3' := Lib.hid hB3
  have b03' := Lib.hid b03
  clear hB3 b03
  go_wp2_with fail
  refine (HN4'.out _ hB3'.out).mono ?_
  rintro e W4 ⟨rfl, hbt4⟩
  have hB5 := hB3'.out.trans (hbt4.mono hB3'.out.size)
  have b05 := b03'.out.late hbt4
  clear hbt4
  have p0 : W4.cell? ⟨w.heap.size, 0, none⟩ = some (.int .i64 0) := b05.cell rfl
  have p1 : W4.cell? ⟨w.heap.size, 1, none⟩ = some (.int .i64 0) := b05.cell rfl
  have p2 : W4.cell? ⟨w.heap.size, 2, none⟩ = some (.int .i64 0) := b05.cell rfl
  have p3 : W4.cell? ⟨w.heap.size, 3, none⟩ = some (.int .i64 0) := b05.cell rfl
  have y0 := b05.frozen 0
  have y1 := b05.frozen 1
  have y2 := b05.frozen 2
  have y3 := b05.frozen 3
  have hB5' := Lib.hid hB5
  have b05' := Lib.hid b05
  clear hB5 b05
  go_wp2_with fail
  refine bodyPost_ret (results_blk_tmp rfl _ _ w.heap.size 105 #[.int .i64 v1, .int .i64 v2, .int .i64 v3, .int .i64 v4] _ rfl (b05'.out.set4 _ _ _ _) Try.underlying105 rfl (by kernel_rfl)) rfl ?_
  exact ⟨rfl, below_set4 hB5'.out (Nat.le_refl _) _ _ _ _⟩
end Go.Proofs.Ytheelhepelbgcaa
