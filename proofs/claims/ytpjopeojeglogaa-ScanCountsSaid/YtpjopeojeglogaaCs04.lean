/- Chapter 5: the program's To, From. | Chapter 4: whether a table may be: the program. A map from ints to ints that the call makes. | Chapter 4: whether a table may be: the program. -/
import Derived.Test.YtpjopeojeglogaaCs03
import Derived.Maps.Own
import Derived.Maps.OwnOps
import Derived.Maps.Views
import Derived.Test.YtpjopeojeglogaaCs00
import Derived.Test.YtpjopeojeglogaaCs02
namespace Go.Proofs.Ytpjopeojeglogaa
open Go.RowKit Tt
set_option linter.unusedVariables false
set_option linter.unusedSimpArgs false
theorem zzN_get {n : Nat} (hn : n < 64) : zzN[n]? = some ((zzL.getD n 0 : Nat) : Int) := by
  unfold zzN; rw [List.getElem?_map, List.getD_eq_getElem?_getD, List.getElem?_eq_getElem (show n < zzL.length from hn)]
  rfl
set_option maxRecDepth 20000 in
set_option maxHeartbeats 1000000 in
theorem pto_any (t : List Int) (A : Array Value) (hA : (ints .i64 t).toArray = A) (w : World) (ht : t.length = 64) : Calls Try.prog 156 #[.agg A] w fun e w' => e = .returned (.agg (ints .i64 (toZ t)).toArray) ∧ Below w.heap.size w w' := by
  obtain ⟨R, hR⟩ : ∃ R, (ints .i64 (toZ t)).toArray = R := ⟨_, rfl⟩; rw [hR]; obtain ⟨W1, hW1, bA, bB, bC, hb1, s1⟩ := three_boxes w 129 A 129 z64 129 z64; have b1 : B64 W1 w.heap.size 129 t := ⟨ht, hA ▸ bA⟩; have b2 : B64 W1 (w.heap.size + 1) 129 (List.replicate 64 0) := ⟨by simp, bB⟩; have b3 : B64 W1 (w.heap.size + 2) 129 (gath zzL t 0) := ⟨gath_len _ _ _, by first | (rw [(zeros64 _ _).1]; exact bC) | (rw [(zeros64 _ _).2]; exact bC)⟩; have HO := order_any W1; obtain ⟨Z, hZ⟩ : ∃ Z, (ints .i64 zzN).toArray = Z := ⟨_, rfl⟩; rw [hZ] at HO
  have hix : ∀ (k : Nat), k < 64 → ∀ W, (Instr.index 128 (.agg Z) (.int .i64 k)).run Try.prog W = .ok (.int .i64 ((zzL.getD k 0 : Nat) : Int)) W := fun k h2 W => by
    rw [← hZ]; exact run_index_arr _ _ 64 zzN .i64 k _ Try.underlying128 Try.underlying3 (by kernel_rfl) (zzN_get h2) h2 W
  unfold z64 at hW1; clear bA bB bC; have hA' := Lib.hid hA; have ht' := Lib.hid ht; have hb1' := Lib.hid hb1; have s1' := Lib.hid s1; have b1' := Lib.hid b1; have b2' := Lib.hid b2; have b3' := Lib.hid b3; have hW1' := Lib.hid hW1; have hR' := Lib.hid hR; have hZ' := Lib.hid hZ; have HO' := Lib.hid HO; have hix' := Lib.hid hix; clear hA ht hb1 s1 b1 b2 b3 hW1 hR hZ HO hix
  go_enter Try.func156, Try.ntmps156
  go_upto_region 2 with fail
  rw [hW1'.out]; have e2 : w.heap.size + 1 + 1 = w.heap.size + 2 := rfl; simp only [e2]; clear e2
  go_wp2_with fail
  refine HO'.out.mono ?_; rintro e w2 ⟨rfl, hb2⟩; have d1 := b1'.out.late hb2; have d2 := b2'.out.late hb2; have d3 := b3'.out.late hb2; have d4 := hb1'.out.trans (hb2.mono hb1'.out.size); have d1' := Lib.hid d1; have d2' := Lib.hid d2; have d3' := Lib.hid d3; have d4' := Lib.hid d4; have hb2' := Lib.hid hb2; clear d1 d2 d3 d4 hb2
  go_wp2
  go_loopw [7] (fun iv wr => ∃ k : Nat, k ≤ 64 ∧ iv = .int .i64 k ∧ Hid (B64 wr w.heap.size 129 t) ∧ Hid (B64 wr (w.heap.size + 1) 129 (List.replicate 64 0)) ∧ Hid (B64 wr (w.heap.size + 2) 129 (gath zzL t k)) ∧ Hid (Below w.heap.size w wr)) (fun iv _ => 64 - (intOf iv).toNat)
  case atStart => exact ⟨0, by omega, rfl, d1', d2', d3', d4'⟩
  case round =>
    obtain ⟨k, hk, rfl, h1, h2, h3, hb⟩ := hrel
    by_cases hlt : k < 64
    · obtain ⟨z1, z2, z3, z4⟩ := zz_lt k hlt
      have hik := hix'.out k hlt; have hst := gath_step zzL t hlt
      generalize zzL.getD k 0 = q at *
      have f0 := h1.out.cell z1; obtain ⟨x, hx⟩ : ∃ x, t.getD q 0 = x := ⟨_, rfl⟩; rw [hx] at f0 hst; have f1 := h3.out.cell hlt; have f2 := h3.out.frozen k; have n1 := (h1.out.set_other (g' := w.heap.size + 2) (by omega) k (.int .i64 x)); have n2 := (h2.out.set_other (g' := w.heap.size + 2) (by omega) k (.int .i64 x)); have n3 := h3.out.set k x; rw [hst] at n3; have n4 := hb.out.setCell (p := ⟨w.heap.size + 2, k, none⟩) (by show w.heap.size ≤ w.heap.size + 2; omega) (.int .i64 x)
      generalize (gath zzL t k).getD k 0 = y at f1
      have hst' := Lib.hid hst; have n1' := Lib.hid n1; have n2' := Lib.hid n2; have n3' := Lib.hid n3; have n4' := Lib.hid n4; have z2' := Lib.hid z2; have z3' := Lib.hid z3; have z4' := Lib.hid z4; have hx' := Lib.hid hx; clear hst n1 n2 n3 n4 z2 z3 z4 hx
      go_wp2
      go_roundw
      case rel => exact ⟨k + 1, by omega, by go_num, n1', n2', n3', n4'⟩
      case measure => simp [intOf]; omega
    · have hk64 : k = 64 := by omega
      have h3' := h3.out; rw [hk64] at h3'; rw [gath_toZ] at h3'; have g3 : ∀ j v, (ints .i64 (toZ t))[j]? = some v → wr.cell? ⟨w.heap.size + 2, 0 + j, none⟩ = some v := fun j v hv => h3'.2.cell (by rw [Nat.zero_add, List.getElem?_toArray]; exact hv); have hl3 : (ints .i64 (toZ t)).length = 64 := by rw [ints_len]; exact toZ_len t
      have hz2 := h2.out.2; have hs2 := ints_size h2.out.1; have hsR := ints_size (toZ_len t); have hoR := ints_one' (l := toZ t); rw [hR'.out] at hsR hoR; have hbR := rowBelow hb.out (show w.heap.size ≤ w.heap.size + 1 by omega) R; have hrow : B64 (wr.setRow (w.heap.size + 1) R) (w.heap.size + 1) 129 (toZ t) := ⟨toZ_len t, by rw [hR'.out]; exact setRow_heap _ _ _ _ _ _ hz2⟩; have hret := fun (tmps : Array Value) (hp : tmps.getD 2 undef = .pointer (some ⟨w.heap.size + 1, 0, none⟩)) => ret64 (fn := Try.f156) (p := 2) rfl hp hrow; rw [hR'.out] at hret; have g3' := Lib.hid g3; have hl3' := Lib.hid hl3; have hz2' := Lib.hid hz2; have hs2' := Lib.hid hs2; have hsR' := Lib.hid hsR; have hoR' := Lib.hid hoR; have hbR' := Lib.hid hbR; have hrow' := Lib.hid hrow; have hk64' := Lib.hid hk64; have hret' := Lib.hid hret; clear g3 hl3 hz2 hs2 hsR hoR hbR hrow hk64 hret; clear h3'
      go_wp2_with (first
        | (refine wpList_load_at rfl 129 (.tmp 3) rfl (w.heap.size + 2) 0 rfl (ints .i64 (toZ t)) R hR'.out _ g3'.out Try.underlying129 rfl 64 infoA hl3'.out ?_)
        | (refine wpList_store_row rfl 129 (.tmp 2) (.tmp 17) rfl (w.heap.size + 1) R rfl rfl 129 _ hz2'.out (by rw [hsR'.out]; exact infoA) (by rw [hs2'.out, hsR'.out]) hoR'.out ?_))
      refine bodyPost_ret (hret'.out _ rfl) rfl ⟨rfl, hbR'.out⟩

end Go.Proofs.Ytpjopeojeglogaa

namespace Go.Proofs.Ytpjopeojeglogaa
open Go.RowKit Tt
set_option linter.unusedVariables false
set_option linter.unusedSimpArgs false

theorem wf_of {n : Int} (h1 : -9223372036854775808 ≤ n) (h2 : n ≤ 9223372036854775807) : (Lit.int .i64 n).wf = true := by
  unfold Lit.wf; rw [Bool.and_eq_true, decide_eq_true_eq, decide_eq_true_eq]; exact ⟨h1, h2⟩
/-- block b is a map from ints to ints, of at most n entries, that has f -/
def CMap (w : World) (b n : Nat) (f : Int → Int) : Prop :=
  ∃ D : DataW Unit, w.ownsMap Try.prog 3 (plainElem Try.prog 3) b n D ∧ Go.Maps.IsMap D ∧ ∀ x, (Lit.int .i64 x).wf = true → D.atKey (.int .i64 x) (.lit (.int .i64 0)) = .lit (.int .i64 (f x))
theorem zeroI (w : World) : (zeroValue 3).run Try.prog w = .ok (.int .i64 0) w := by kernel_rfl
theorem keyI : Go.Maps.Keyed Try.prog 3 := Go.Maps.int_keyed Try.underlying3
theorem CMap.new (w : World) : CMap (w.alloc (.map #[] 0)) w.heap.size 0 (fun _ => 0) := ⟨_, World.ownsMap_made _ _ _ _, Go.Maps.isMap_empty, fun x _ => rfl⟩
theorem CMap.lt {w : World} {b n : Nat} {f : Int → Int} (h : CMap w b n f) : b < w.heap.size := by obtain ⟨D, h, _⟩ := h; exact h.lt
theorem CMap.look {w : World} {b n : Nat} {f : Int → Int} (h : CMap w b n f) {x : Int} (hx : (Lit.int .i64 x).wf = true) : (Instr.lookup 195 (.map (some b)) (.int .i64 x) false).run Try.prog w = .ok (.int .i64 (f x)) w := by
  obtain ⟨D, h, _, hf⟩ := h; obtain ⟨c, h1, h2, _⟩ := h.lookup_int keyI Try.underlying195 Try.underlying3 (zeroI w) (Go.Maps.keyOf_int_mk Try.underlying3 hx); have e : f x = c := (Lit.int.inj (DataW.lit.inj ((hf x hx).symm.trans h2))).2; rw [e]; exact h1
theorem CMap.put {w : World} {b n : Nat} {f : Int → Int} (h : CMap w b n f) (hn : n < 1000000) {x v : Int} (hx : (Lit.int .i64 x).wf = true) (hv : (Lit.int .i64 v).wf = true) :
    ∃ w', (Instr.mapUpdate 195 (.map (some b)) (.int .i64 x) (.int .i64 v)).run Try.prog w = .ok () w' ∧ CMap w' b (n + 1) (fun y => if y = x then v else f y) ∧ But b w w' := by
  obtain ⟨D, h, hi, hf⟩ := h; obtain ⟨w', h1, h2, h3⟩ := h.update keyI Try.underlying195 (by unfold maxLen; omega) (Go.Maps.keyOf_int_mk Try.underlying3 hx) (plainElem_int Try.underlying3 hv); obtain ⟨r1, r2, r3, r4, r5⟩ := h3; refine ⟨w', h1, ⟨_, h2, hi.put _ _, fun y hy => ?_⟩, ⟨r1, r2, r3, r4, fun k hk hne => r5 k hk (by simpa using hne)⟩⟩
  by_cases he : y = x
  · subst he
    show _ = DataW.lit (Lit.int .i64 (if y = y then v else f y))
    rw [if_pos rfl]; exact Go.Maps.atKey_put_same hi (by trivial) _ _
  · show _ = DataW.lit (Lit.int .i64 (if y = x then v else f y))
    rw [if_neg he, ← hf y hy]; exact Go.Maps.atKey_put_other (by intro e; injection e with _ e; exact he e) _ _
end Go.Proofs.Ytpjopeojeglogaa

namespace Go.Proofs.Ytpjopeojeglogaa
open Go.RowKit Tt
set_option linter.unusedVariables false
set_option linter.unusedSimpArgs false

/-- a table of codes as a value -/
def hV (c : List Int) (a : Option Addr) (n cp : Nat) : Value := .agg (ints .i64 c ++ [Value.slice a n cp]).toArray
/-- how many there are among the first ones -/
def cntIn (s : List Int) (k : Nat) (x : Int) : Int := ((s.take k).count x : Nat)
set_option maxRecDepth 20000 in
set_option maxHeartbeats 1000000 in
theorem pmay04_any (c s : List Int) (a : Option Addr) (n cp : Nat) (w : World) (hc : c.length = 16) (hs : Sl w a n cp 1 (ints .i64 s)) (hw : ∀ x ∈ s, (Lit.int .i64 x).wf = true) (hn : n ≤ 100000) :
    Calls Try.prog 72 #[hV c a n cp] w fun e w' => e = .returned (.bool (hMay c s)) ∧ Below w.heap.size w w' := by
  obtain ⟨m, hm⟩ : ∃ m, hMay c s = m := ⟨_, rfl⟩; rw [hm]; have hl := hs.ilen; unfold hV; have hcl : (ints .i64 c).length = 16 := by rw [ints_len, hc]
  obtain ⟨B, hB⟩ : ∃ B, (ints .i64 c ++ [Value.slice a n cp]).toArray = B := ⟨_, rfl⟩; obtain ⟨A, hA⟩ : ∃ A, (ints .i64 c).toArray = A := ⟨_, rfl⟩; have b1 := Blk.new w 45 B; have hb1 := (Below.refl w.heap.size w).alloc (Nat.le_refl _) (.cells B 45); obtain ⟨W1, hW1⟩ : ∃ W1, w.alloc (.cells B 45) = W1 := ⟨_, rfl⟩; rw [hW1] at b1 hb1; have hs1 := hs.mono hb1
  have HC : ∀ j v, (ints .i64 c)[j]? = some v → W1.cell? ⟨w.heap.size, 0 + j, none⟩ = some v := fun j v h => by
    refine b1.cell ?_; rw [← hB, Nat.zero_add]; simp only [List.getElem?_toArray]; rw [List.getElem?_append_left (List.getElem?_eq_some_iff.1 h).1, h]
  have c16 : W1.cell? ⟨w.heap.size, 16, none⟩ = some (.slice a n cp) := b1.cell (by
    rw [← hB]; simp only [List.getElem?_toArray]; rw [List.getElem?_append_right (by omega), hcl]
    rfl)
  have hix : ∀ (k : Nat) x, c[k]? = some x → k < 16 → ∀ W, (Instr.index 43 (.agg A) (.int .i64 k)).run Try.prog W = .ok (.int .i64 x) W := fun k x h1 h2 W => by
    rw [← hA]; exact run_index_arr _ _ 16 c .i64 k x Try.underlying43 Try.underlying3 (by kernel_rfl) h1 h2 W
  rw [hB]; have HA := Lib.hid hA; clear hA hB; have hm' := Lib.hid hm; have hl' := Lib.hid hl; have hb1' := Lib.hid hb1; have b1' := Lib.hid b1; have hs' := Lib.hid hs; have hs1' := Lib.hid hs1; have HC' := Lib.hid HC; have hix' := Lib.hid hix; have hcl' := Lib.hid hcl; have hc' := Lib.hid hc; have hw' := Lib.hid hw; have hW1' := Lib.hid hW1; clear hm hl hb1 b1 hs hs1 HC hix hcl hc hw hW1
  go_enter Try.func72, Try.ntmps72
  go_upto_region 2 with fail
  rw [hW1'.out]
  go_wp2_with (refine wpList_load_at rfl 43 (.tmp 10) rfl w.heap.size 0 rfl (ints .i64 c) A HA.out _ HC'.out Try.underlying43 rfl 16 (by kernel_rfl) hcl'.out ?_)
  go_loop [3, 4, 12] (fun sv mv iv => ∃ (k : Nat) (S M : Int), k ≤ 16 ∧ iv = .int .i64 k ∧ sv = .int .i64 S ∧ mv = .int .i64 M ∧ Hid (S = kraftS c k ∧ M = manyS c k) ∧ Hid (∀ j, j < k → cntOk c j = true)) (fun _ _ iv => 16 - (intOf iv).toNat)
  case atStart => exact ⟨0, 0, 0, by omega, rfl, rfl, rfl, Lib.hid ⟨rfl, rfl⟩, Lib.hid (fun j hj => by omega)⟩
  case round =>
    obtain ⟨k, S, M, hk, rfl, rfl, rfl, hSM, hall⟩ := hrel
    by_cases hlt : k < 16
    · obtain ⟨x, hx⟩ : ∃ x, c[k]? = some x := ⟨_, List.getElem?_eq_getElem (by rw [hc'.out]; exact hlt)⟩
      have hxd : c.getD k 0 = x := by rw [List.getD_eq_getElem?_getD, hx]; rfl
      have hik := hix'.out k x hx hlt
      by_cases h1 : x < 0
      · obtain rfl : m = false := by rw [← hm'.out]; exact hMay_cnt hlt (by unfold cntOk; rw [hxd]; simp; omega)
        have hx' := Lib.hid hx; have hxd' := Lib.hid hxd; clear hx hxd
        go_wp2
        go_ret
        exact ⟨rfl, hb1'.out⟩
      by_cases h2 : 256 < x
      · obtain rfl : m = false := by rw [← hm'.out]; exact hMay_cnt hlt (by unfold cntOk; rw [hxd]; simp; omega)
        have hx' := Lib.hid hx; have hxd' := Lib.hid hxd; clear hx hxd
        go_wp2
        go_ret
        exact ⟨rfl, hb1'.out⟩
      have hok : cntOk c k = true := cntOk_iff.2 (by rw [hxd]; omega)
      have hall2 : ∀ j, j < k + 1 → cntOk c j = true := fun j hj => by
        rcases Nat.lt_or_ge j k with h | h
        · exact hall.out j h
        · obtain rfl : j = k := by omega
          exact hok
      have b1 := kraft_bd k hall.out; have b2 := many_bd k hall.out; have b3 := term_bd hok; rw [hxd] at b3; obtain ⟨e1, e2⟩ := hSM.out; rw [← e1] at b1; rw [← e2] at b2
      have hnew : S + x * 2 ^ (15 - k) = kraftS c (k + 1) ∧ M + x = manyS c (k + 1) := by
        show _ = kraftS c k + c.getD k 0 * 2 ^ (15 - k) ∧ _ = manyS c k + c.getD k 0
        rw [e1, e2, hxd]; exact ⟨rfl, rfl⟩
      clear e1 e2 hok; have hx' := Lib.hid hx; have hxd' := Lib.hid hxd; have hall2' := Lib.hid hall2; have hnew' := Lib.hid hnew; clear hx hxd hall2 hnew
      go_wp2
      go_round
      case rel => exact ⟨k + 1, _, _, by omega, by go_num, rfl, rfl, hnew', hall2'⟩
      case measure => simp [intOf]; omega
    · obtain rfl : k = 16 := by omega
      clear hix'; have hmm := @run_makeMap Try.prog; have b1 := kraft_bd 16 hall.out; have b2 := many_bd 16 hall.out; obtain ⟨e1, e2⟩ := hSM.out; rw [← e1] at b1; rw [← e2] at b2
      have hend : (∀ i, i < s.length → symOk s i = true) → m = decide (M = n ∧ 1 ≤ M ∧ S < 65536) := fun h => by
        rw [← hm'.out, hMay_end hall.out h]; unfold endOk; rw [← e1, ← e2, hl'.out]
      have hM0 := CMap.new W1; have hal := (Below.refl W1.heap.size W1).alloc (Nat.le_refl _) (.map #[] 0); have hbt : But W1.heap.size (W1.alloc (.map #[] 0)) (W1.alloc (.map #[] 0)) := But.refl _ _; have hsz : w.heap.size < W1.heap.size := b1'.out.lt; have hs2 := hs1'.out.mono hal; have c16' : (W1.alloc (.map #[] 0)).cell? ⟨w.heap.size, 16, none⟩ = some (.slice a n cp) := late hal hsz c16
      have hne : ∀ y, a = some y → 0 < n → y.block ≠ W1.heap.size := fun y hy h0 => by
        obtain ⟨b', o, e, hlt', _⟩ := hs1'.out.at h0; rw [hy] at e; injection e with e; rw [e]
        show b' ≠ _
        omega
      have hbW := hb1'.out.trans (hal.mono hb1'.out.size); obtain ⟨b, hb⟩ : ∃ b, W1.heap.size = b := ⟨_, rfl⟩; obtain ⟨W2, hW2⟩ : ∃ W2, W1.alloc (.map #[] 0) = W2 := ⟨_, rfl⟩; rw [hb] at hbt hM0 hne hsz; rw [hW2] at hM0 hbt hs2 c16' hbW; have hlt2 : b < W2.heap.size := hM0.lt; clear hSM c16 e1 e2; have hend' := Lib.hid hend; have hM0' := Lib.hid hM0; have hal' := Lib.hid hal; have hbt' := Lib.hid hbt; have hs2' := Lib.hid hs2; have hbW' := Lib.hid hbW; have hne' := Lib.hid hne; have hall' := Lib.hid hall; have hb' := Lib.hid hb; have hW2' := Lib.hid hW2; clear hend hM0 hal hbt hs2 hbW hne hall hb hW2
      go_upto_region 11 with fail
      rw [hb'.out, hW2'.out]
      go_wp2
      go_loopw [36] (fun iv wr => ∃ k : Nat, k ≤ n ∧ iv = .int .i64 k ∧ Hid (CMap wr b k (cntIn s k)) ∧ Hid (But b W2 wr) ∧ Hid (∀ j, j < k → symOk s j = true)) (fun iv _ => n - (intOf iv).toNat)
      case atStart =>
        refine ⟨0, by omega, rfl, Lib.hid ?_, hbt', Lib.hid (fun j hj => by omega)⟩; have : cntIn s 0 = fun _ => 0 := by funext x; simp [cntIn]
        rw [this]; exact hM0'.out
      case round =>
        obtain ⟨k, hk, rfl, hC, hB, hall⟩ := hrel
        by_cases hlt : k < n
        · have hkl : k < s.length := by rw [hl'.out]; exact hlt
          obtain ⟨x, hx⟩ : ∃ x, s[k]? = some x := ⟨_, List.getElem?_eq_getElem hkl⟩; have hxd : s.getD k 0 = x := by rw [List.getD_eq_getElem?_getD, hx]; rfl
          have hxw := hw'.out x (List.mem_of_getElem? hx); have hw31 : IntKind.i64.wrap ((k : Int) + 1) = k + 1 := by rw [IntKind.wrap_i64]; omega
          obtain ⟨bb, o, rfl, hbb, f⟩ := hs2'.out.at hlt; have f0 := f k _ (by show (ints .i64 s)[k]? = _; rw [ints_get hkl, hxd]); have hbne : bb ≠ b := hne'.out _ rfl (by omega); have f1 : wr.cell? ⟨bb, o + k, none⟩ = some (.int .i64 x) := (hB.out.cell hbb hbne).trans f0; have g1 : wr.cell? ⟨w.heap.size, 16, none⟩ = some (.slice (some ⟨bb, o, none⟩) n cp) := (hB.out.cell (p := ⟨w.heap.size, 16, none⟩) (by show w.heap.size < _; omega) (by show w.heap.size ≠ b; omega)).trans c16'
          have hq0 : 0 ≤ cntIn s k x ∧ cntIn s k x ≤ k := by
            unfold cntIn; have h1 := List.count_le_length (a := x) (l := s.take k); rw [List.length_take] at h1
            omega
          have hL := hC.out.look hxw; have hqw : (Lit.int .i64 (cntIn s k x + 1)).wf = true := wf_of (by omega) (by omega); obtain ⟨w2, hU, hC2, hB2⟩ := hC.out.put (by omega) hxw hqw; have hL2 := hC2.look hxw; rw [if_pos rfl] at hL2
          have hC3 : CMap w2 b (k + 1) (cntIn s (k + 1)) := by
            have e : cntIn s (k + 1) = fun y => if y = x then cntIn s k x + 1 else cntIn s k y := by
              funext y
              unfold cntIn; rw [List.take_add_one, hx, List.count_append]
              by_cases hy : y = x
              · subst hy; simp
              · simp [hy, List.count_cons, Ne.symm hy]
            rw [e]; exact hC2
          have hB3 := hB.out.trans hB2
          have hin : cntIn s k x = 0 ↔ (s.take k).contains x = false := by
            unfold cntIn; rw [List.contains_eq_mem, decide_eq_false_iff_not]
            constructor
            · intro h; exact List.count_eq_zero.1 (by omega)
            · intro h; have := List.count_eq_zero.2 h; omega
          have hso : symOk s k = (decide (0 ≤ x ∧ x ≤ 255) && !(s.take k).contains x) := by unfold symOk; rw [hxd]
          have hq := hq0.1; have hqk := hq0.2; have hwq : IntKind.i64.wrap (cntIn s k x + 1) = cntIn s k x + 1 := by rw [IntKind.wrap_i64]; omega
          have hbel := hbW'.out.trans (hB3.below (B := w.heap.size) (by omega) (by omega))
          generalize cntIn s k x = q at *
          clear hq0 f f0 hC2 hqw hB2
          by_cases h1 : x < 0
          · obtain rfl : m = false := by rw [← hm'.out]; exact hMay_sym hkl (by rw [hso]; simp; omega)
            have hx' := Lib.hid hx; have hxd' := Lib.hid hxd; have hC3' := Lib.hid hC3; have hB3' := Lib.hid hB3; have hin' := Lib.hid hin; have hso' := Lib.hid hso; have hbel' := Lib.hid hbel; clear hx hxd hC3 hB3 hin hso hbel
            go_wp2
            go_ret
            exact ⟨rfl, hbel'.out⟩
          by_cases h2 : 256 ≤ x
          · obtain rfl : m = false := by rw [← hm'.out]; exact hMay_sym hkl (by rw [hso]; simp; omega)
            have hx' := Lib.hid hx; have hxd' := Lib.hid hxd; have hC3' := Lib.hid hC3; have hB3' := Lib.hid hB3; have hin' := Lib.hid hin; have hso' := Lib.hid hso; have hbel' := Lib.hid hbel; clear hx hxd hC3 hB3 hin hso hbel
            go_wp2
            go_ret
            exact ⟨rfl, hbel'.out⟩
          by_cases h3 : 1 < q + 1
          · obtain rfl : m = false := by
              rw [← hm'.out]; refine hMay_sym hkl ?_; rw [hso]
              cases hcc : (s.take k).contains x
              · exact absurd (hin.2 hcc) (by omega)
              · simp
            have hx' := Lib.hid hx; have hxd' := Lib.hid hxd; have hC3' := Lib.hid hC3; have hB3' := Lib.hid hB3; have hin' := Lib.hid hin; have hso' := Lib.hid hso; have hbel' := Lib.hid hbel; clear hx hxd hC3 hB3 hin hso hbel
            go_wp2
            go_ret
            exact ⟨rfl, hbel'.out⟩
          have hok : symOk s k = true := by
            rw [hso, hin.1 (by omega)]
            simp
            omega
          have hall2 : ∀ j, j < k + 1 → symOk s j = true := fun j hj => by
            rcases Nat.lt_or_ge j k with h | h
            · exact hall.out j h
            · obtain rfl : j = k := by omega
              exact hok
          have hx' := Lib.hid hx; have hxd' := Lib.hid hxd; have hC3' := Lib.hid hC3; have hB3' := Lib.hid hB3; have hin' := Lib.hid hin; have hso' := Lib.hid hso; have hbel' := Lib.hid hbel; have hok' := Lib.hid hok; have hall2' := Lib.hid hall2; clear hx hxd hC3 hB3 hin hso hbel hok hall2
          go_wp2
          go_roundw
          case rel => exact ⟨k + 1, by omega, by go_num, hC3', hB3', hall2'⟩
          case measure => simp [intOf]; omega
        · obtain rfl : k = n := by omega
          have g1 : wr.cell? ⟨w.heap.size, 16, none⟩ = some (.slice a k cp) := (hB.out.cell (p := ⟨w.heap.size, 16, none⟩) (by show w.heap.size < _; omega) (by show w.heap.size ≠ b; omega)).trans c16'; have hmd := hend'.out (by rw [hl'.out]; exact hall.out); have hbel := hbW'.out.trans (hB.out.below (B := w.heap.size) (by omega) (by omega)); clear c16'
          by_cases h1 : M = k
          · by_cases h2 : 0 < M
            · by_cases h3 : S < 65536
              · obtain rfl : m = true := by rw [hmd]; simp; omega
                subst h1; have hbel' := Lib.hid hbel; clear hbel; clear hmd
                go_wp2
                go_ret
                exact ⟨rfl, hbel'.out⟩
              · obtain rfl : m = false := by rw [hmd]; simp; omega
                subst h1; have hbel' := Lib.hid hbel; clear hbel; clear hmd
                go_wp2
                go_ret
                exact ⟨rfl, hbel'.out⟩
            · obtain rfl : m = false := by rw [hmd]; simp; omega
              subst h1; have hbel' := Lib.hid hbel; clear hbel; clear hmd
              go_wp2
              go_ret
              exact ⟨rfl, hbel'.out⟩
          · obtain rfl : m = false := by rw [hmd]; simp; omega
            have hbel' := Lib.hid hbel; clear hbel; clear hmd
            go_wp2
            go_ret
            exact ⟨rfl, hbel'.out⟩
end Go.Proofs.Ytpjopeojeglogaa
