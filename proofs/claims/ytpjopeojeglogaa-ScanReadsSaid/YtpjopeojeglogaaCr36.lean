/- Chapter 11, the document's side: Size, Extra, Value, right. | Chapter 11, the document's side: Value, right. | Chapter 11, the document's side: right. -/
import Derived.Test.YtpjopeojeglogaaCr35
import Derived.Test.YtpjopeojeglogaaCr05
import Derived.Test.YtpjopeojeglogaaCr18
namespace Go.Proofs.Ytpjopeojeglogaa
open Go.RowKit Tt
set_option linter.unusedVariables false
set_option linter.unusedSimpArgs false

theorem pow15 {n : Nat} (h : n ≤ 15) : (1 : Int) ≤ 2 ^ n ∧ (2 : Int) ^ n ≤ 32768 := by
  have h1 : 2 ^ n ≤ 2 ^ 15 := Nat.pow_le_pow_right (by decide) h; have h2 : 1 ≤ 2 ^ n := Nat.one_le_two_pow; have e : ((2 ^ n : Nat) : Int) = 2 ^ n := by rw [Int.natCast_pow]; rfl
  omega
set_option maxRecDepth 20000 in
set_option maxHeartbeats 1000000 in
theorem rsize11_any (v : Int) (w : World) (hv : Wf v) : Calls Try.prog 155 #[.int .i64 v] w fun e w' => e = .returned (.int .i64 (sizeS v)) ∧ w = w' := by
  obtain ⟨R, hR⟩ : ∃ R, sizeS v = R := ⟨_, rfl⟩; rw [hR]; have hv' := Lib.hid hv; have hR' := Lib.hid hR; clear hv hR
  go_enter Try.func155, Try.ntmps155
  go_wp2
  go_loopw [3] (fun iv wr => ∃ k : Nat, k ≤ 16 ∧ iv = .int .i64 k ∧ Hid (k ≤ bitLen v.natAbs) ∧ w = wr) (fun iv _ => 16 - (intOf iv).toNat)
  case atStart => exact ⟨0, by omega, rfl, Lib.hid (Nat.zero_le _), rfl⟩
  case round =>
    obtain ⟨k, hk, rfl, hle, rfl⟩ := hrel
    by_cases hlt : k < 16
    · obtain ⟨p1, p2⟩ := pow15 (n := k) (by omega)
      by_cases c1 : -(2 ^ k) < v
      · by_cases c2 : v < 2 ^ k
        · have hs := sizeS_at (by omega) hle.out ⟨c1, c2⟩
          rw [hR'.out] at hs; subst hs
          go_wp2
          go_ret
          exact ⟨rfl, rfl⟩
        · have hn := sizeS_next hle.out (fun h => c2 h.2)
          have hn' := Lib.hid hn; clear hn
          go_wp2
          go_roundw
          case rel => exact ⟨k + 1, by omega, by go_num, hn', trivial⟩
          case measure => simp [intOf]; omega
      · have hn := sizeS_next hle.out (fun h => c1 h.1)
        have hn' := Lib.hid hn; clear hn
        go_wp2
        go_roundw
        case rel => exact ⟨k + 1, by omega, by go_num, hn', trivial⟩
        case measure => simp [intOf]; omega
    · have hs := sizeS_over (v := v) (by have := hle.out; omega)
      rw [hR'.out] at hs; subst hs
      go_wp2
      go_ret
      exact ⟨rfl, rfl⟩
def bitC (V N : Int) : Value := .agg #[.int .i64 V, .int .i64 N]
set_option maxRecDepth 20000 in
set_option maxHeartbeats 1000000 in
theorem rextra_any (v : Int) (w : World) (hv : Wf v) (hs : 0 ≤ sizeS v) : Calls Try.prog 183 #[.int .i64 v] w fun e w' => e = .returned (bitC (extraV v) (sizeS v)) ∧ Below w.heap.size w w' := by
  have hsz : sizeS v = bitLen v.natAbs ∧ bitLen v.natAbs ≤ 15 := by rcases sizeS_cases v with h | h <;> omega
  obtain ⟨n, hn⟩ : ∃ n, bitLen v.natAbs = n := ⟨_, rfl⟩; have hin := size_in.2 (Nat.le_of_eq hn); have hex : extraV v = if v < 0 then v + 2 ^ n - 1 else v := by unfold extraV; rw [hn]
  rw [hn] at hsz; have HS := fun W => rsize11_any v W hv; rw [hsz.1] at HS; rw [hex, hsz.1]; obtain ⟨X, hX⟩ : ∃ X, (if v < 0 then v + 2 ^ n - 1 else v) = X := ⟨_, rfl⟩; rw [hX]; obtain ⟨p1, p2⟩ := pow15 hsz.2; have hal := (Below.refl w.heap.size w).alloc (Nat.le_refl _) (.cells #[.int .i64 0, .int .i64 0] 102); have bl := Blk.new w 102 #[.int .i64 0, .int .i64 0]; obtain ⟨W1, hW1⟩ : ∃ W, w.alloc (.cells #[.int .i64 0, .int .i64 0] 102) = W := ⟨_, rfl⟩; rw [hW1] at hal bl; obtain ⟨h1, h2⟩ := hin; have hw1 : wrap64 (2 ^ n) = 2 ^ n := by unfold wrap64; omega
  have hmin : min n 64 = n := by omega
  unfold bitC; clear hs hex hv hsz; have HS' := Lib.hid HS; have hal' := Lib.hid hal; have bl' := Lib.hid bl; have hW1' := Lib.hid hW1; have hn' := Lib.hid hn; clear HS hal bl hW1 hn
  go_enter Try.func183, Try.ntmps183
  go_upto_region 1 with fail
  rw [hW1'.out]
  go_wp2_with fail
  refine (HS'.out _).mono ?_; rintro e w2 ⟨rfl, rfl⟩
  by_cases c : v < 0
  · rw [if_pos c] at hX
    subst hX; have hw2 : wrap64 (v + 2 ^ n) = v + 2 ^ n := by unfold wrap64; omega
    have hw3 : wrap64 (v + 2 ^ n - 1) = v + 2 ^ n - 1 := by unfold wrap64; omega
    go_wp2_with (refine wpList_store_row rfl 102 (.tmp 2) (.tmp 14) rfl w.heap.size #[.int .i64 (v + 2 ^ n - 1), .int .i64 n] rfl rfl 102 _ bl'.out (by kernel_rfl) rfl (by kernel_rfl) ?_)
    refine bodyPost_ret (results_cell_row rfl _ _ w.heap.size _ _ (0, 0) _ rfl (Blk.rowH bl'.out _) Try.underlying102 rfl (by kernel_rfl)) rfl ?_; exact ⟨rfl, rowBelow hal'.out (Nat.le_refl _) _⟩
  · rw [if_neg c] at hX
    subst hX
    go_wp2_with (refine wpList_store_row rfl 102 (.tmp 2) (.tmp 17) rfl w.heap.size #[.int .i64 v, .int .i64 n] rfl rfl 102 _ bl'.out (by kernel_rfl) rfl (by kernel_rfl) ?_)
    refine bodyPost_ret (results_cell_row rfl _ _ w.heap.size _ _ (0, 0) _ rfl (Blk.rowH bl'.out _) Try.underlying102 rfl (by kernel_rfl)) rfl ?_; exact ⟨rfl, rowBelow hal'.out (Nat.le_refl _) _⟩
end Go.Proofs.Ytpjopeojeglogaa

namespace Go.Proofs.Ytpjopeojeglogaa
open Go.RowKit Tt
set_option linter.unusedVariables false
set_option linter.unusedSimpArgs false

theorem bits_eql (a b c d : Int) (W : World) : (binOp .eql 102 (.agg #[.int .i64 a, .int .i64 b]) (.agg #[.int .i64 c, .int .i64 d])).run Try.prog W = .ok (.bool (a == c && b == d)) W := by
  have hs : Try.prog.stoodInHeld 102 = false := by kernel_rfl
  rw [run_eql_struct, run_equalIn_agg (ht := by unfold Program.fieldsOf; rw [Try.underlying102]) (hp := hs)]; unfold Program.fieldsOf; rw [Try.underlying102]; have e1 : ∀ (x y : Int) (W : World), (Op.equalIn 9999 3 (.int .i64 x) (.int .i64 y)).run Try.prog W = .ok (x == y) W := fun x y W => run_equalIn_int W 9998 _ _ _ x y Try.underlying3; have p0 : ∀ (x y : Int) (W : World), (part 3 #[.int .i64 x, .int .i64 y] 0).run Try.prog W = .ok (.int .i64 x) W := fun x y W => by kernel_rfl
  have p1 : ∀ (x y : Int) (W : World), (part 3 #[.int .i64 x, .int .i64 y] 1).run Try.prog W = .ok (.int .i64 y) W := fun x y W => by kernel_rfl
  simp [Op.eqFields, e1, p0, p1, Result.andThen]
  cases h : a == c <;> cases h2 : b == d <;> simp_all
attribute [-go_sem] run_eql_struct
set_option maxRecDepth 20000 in
set_option maxHeartbeats 1000000 in
theorem rvalue11_any (V N : Int) (w : World) (hV : Wf V) (hN : Wf N) : Calls Try.prog 187 #[bitC V N] w fun e w' => e = .returned (valR (valueS V N)) ∧ Below w.heap.size w w' := by
  have hal := (Below.refl w.heap.size w).alloc (Nat.le_refl _) (.cells #[.int .i64 V, .int .i64 N] 102); have B1 := Blk.new w 102 #[.int .i64 V, .int .i64 N]; obtain ⟨W1, hW1⟩ : ∃ W, w.alloc (.cells #[.int .i64 V, .int .i64 N] 102) = W := ⟨_, rfl⟩; rw [hW1] at hal B1; have hcs : ∀ W, Blk W w.heap.size 102 #[.int .i64 V, .int .i64 N] → W.cell? ⟨w.heap.size, 0, none⟩ = some (.int .i64 V) ∧ W.cell? ⟨w.heap.size, 1, none⟩ = some (.int .i64 N) := fun W b => ⟨b.cell rfl, b.cell rfl⟩; obtain ⟨k0, k1⟩ := hcs W1 B1; unfold bitC
  by_cases c1 : N < 0
  · rw [valueS_no (V := V) (N := N) (by omega)]
    have B1' := Lib.hid B1; have hal' := Lib.hid hal; have hW1' := Lib.hid hW1; have hcs' := Lib.hid hcs; clear B1 hal hW1 hcs
    go_enter Try.func187, Try.ntmps187
    go_upto_region 1 with fail
    rw [hW1'.out]
    go_wp2
    go_ret2
    exact ⟨rfl, hal'.out⟩
  by_cases c2 : 15 < N
  · rw [valueS_no (V := V) (N := N) (by omega)]
    have B1' := Lib.hid B1; have hal' := Lib.hid hal; have hW1' := Lib.hid hW1; have hcs' := Lib.hid hcs; clear B1 hal hW1 hcs
    go_enter Try.func187, Try.ntmps187
    go_upto_region 1 with fail
    rw [hW1'.out]
    go_wp2
    go_ret2
    exact ⟨rfl, hal'.out⟩
  obtain ⟨n, rfl⟩ : ∃ n : Nat, N = n := ⟨N.toNat, by omega⟩; have hn : n ≤ 15 := by omega
  obtain ⟨p1, p2⟩ := pow15 hn; obtain ⟨R, hR⟩ : ∃ R, valueS V n = R := ⟨_, rfl⟩; have hno := value_no (V := V) (n := n); rw [hR] at hno ⊢; have hw1 : wrap64 (2 ^ n) = 2 ^ n := by unfold wrap64; omega
  have hw2 : wrap64 (2 ^ n - 1) = 2 ^ n - 1 := by unfold wrap64; omega
  have hw3 : wrap64 (-(2 ^ n - 1)) = -(2 ^ n - 1) := by unfold wrap64; omega
  have B1' := Lib.hid B1; have hal' := Lib.hid hal; have hW1' := Lib.hid hW1; have hcs' := Lib.hid hcs; have hno' := Lib.hid hno; have hR' := Lib.hid hR; clear B1 hal hW1 hcs hno hR
  go_enter Try.func187, Try.ntmps187
  go_upto_region 1 with fail
  rw [hW1'.out]
  go_wp2
  go_loopw [4] (fun vv wr => ∃ v : Int, -(2 ^ n) < v ∧ v ≤ 2 ^ n ∧ vv = .int .i64 v ∧ Hid (∀ u : Int, -(2 ^ n) < u → u < v → R ≠ some u) ∧ Hid (Blk wr w.heap.size 102 #[.int .i64 V, .int .i64 (n : Int)]) ∧ Hid (Below w.heap.size w wr)) (fun vv _ => (2 ^ n - intOf vv).toNat)
  case atStart => exact ⟨-(2 ^ n - 1), by omega, by omega, by first | rfl | go_num, Lib.hid (fun u h1 h2 => by omega), B1', hal'⟩
  case round =>
    rename World => wr
    obtain ⟨v, hv1, hv2, rfl, hall, hbk, hbel⟩ := hrel
    by_cases hlt : v < 2 ^ n
    · have hiff := value_iff (V := V) (v := v) hn ⟨hv1, hlt⟩
      rw [hR'.out] at hiff
      have hsv : sizeS v = bitLen v.natAbs ∧ bitLen v.natAbs ≤ n := by
        have h := size_in.1 ⟨hv1, hlt⟩; exact ⟨by unfold sizeS; rw [if_pos (by omega)], h⟩
      have hwv : Wf v := by unfold Wf; omega
      have HE := fun W => rextra_any v W hwv (by omega); obtain ⟨k0, k1⟩ := hcs'.out wr hbk.out; obtain ⟨X, hX⟩ : ∃ X, extraV v = X := ⟨_, rfl⟩; obtain ⟨Y, hY⟩ : ∃ Y, sizeS v = Y := ⟨_, rfl⟩; rw [hX, hY] at hiff HE; have heq := bits_eql X Y V n; obtain ⟨Ty, f, hne, hlw, hsurj⟩ := later_worlds wr; have q0 : ∀ s, (f s).cell? ⟨w.heap.size, 0, none⟩ = some (.int .i64 V) := fun s => (Blk.late hbk.out (hlw s)).cell rfl; have q1 : ∀ s, (f s).cell? ⟨w.heap.size, 1, none⟩ = some (.int .i64 (n : Int)) := fun s => (Blk.late hbk.out (hlw s)).cell rfl; have HS := Lib.hid (hsurj _ ((Below.refl _ _).drew)); unfold bitC at HE; clear hsv hwv hX hY
      by_cases c : R = some v
      · have hxy := hiff.1 c
        rw [show (X == V && Y == (n : Int)) = true by simp [hxy]] at heq; clear hiff hxy; have c' := Lib.hid c; have HE' := Lib.hid HE; have hlw' := Lib.hid hlw; have hsurj' := Lib.hid hsurj; clear c HE hlw hsurj
        go_wp2_with fail
        refine wp_quiet_in f (by kernel_rfl) (by kernel_rfl) HS.out ?_
        iterate 4 (go_big_quiet_step ((go_at_call 183; refine (HE'.out _).mono ?_; rintro e w3 ⟨rfl, hb3⟩; exact ⟨rfl, hsurj'.out _ ((hlw'.out _).trans (hb3.mono (hlw'.out _).size))⟩)))
        refine wpQuiet_nil ?_; intro s; have hbs := hbel.out.trans ((hlw'.out s).mono hbel.out.size); clear q0 q1; have hbs' := Lib.hid hbs; clear hbs
        go_wp2
        go_ret2
        exact ⟨by rw [c'.out]; rfl, hbs'.out⟩
      · have hxy : ¬ (X = V ∧ Y = n) := fun h => c (hiff.2 h)
        rw [show (X == V && Y == (n : Int)) = false by simpa using hxy] at heq
        have hall2 : ∀ u : Int, -(2 ^ n) < u → u < v + 1 → R ≠ some u := fun u h1 h2 => by
          rcases Int.lt_or_le u v with h | h
          · exact hall.out u h1 h
          · obtain rfl : u = v := by omega
            exact c
        clear hiff hxy; have c' := Lib.hid c; have HE' := Lib.hid HE; have hlw' := Lib.hid hlw; have hsurj' := Lib.hid hsurj; have hall2' := Lib.hid hall2; clear c HE hlw hsurj hall2
        go_wp2_with fail
        refine wp_quiet_in f (by kernel_rfl) (by kernel_rfl) HS.out ?_
        iterate 4 (go_big_quiet_step ((go_at_call 183; refine (HE'.out _).mono ?_; rintro e w3 ⟨rfl, hb3⟩; exact ⟨rfl, hsurj'.out _ ((hlw'.out _).trans (hb3.mono (hlw'.out _).size))⟩)))
        refine wpQuiet_nil ?_; intro s; have hbs := hbel.out.trans ((hlw'.out s).mono hbel.out.size); have hks := Blk.late hbk.out (hlw'.out s); clear q0 q1; have hbs' := Lib.hid hbs; have hks' := Lib.hid hks; clear hbs hks
        go_wp2
        go_roundw
        case rel => exact ⟨v + 1, by omega, by omega, by go_num, hall2', hks', hbs'⟩
        case measure => simp [intOf]; omega
    · obtain ⟨q0, q1⟩ := hcs'.out wr hbk.out
      have hRn := hno'.out fun u h1 h2 => hall.out u h1 (by omega); clear hall; have hRn' := Lib.hid hRn; clear hRn
      go_wp2
      go_ret2
      exact ⟨by rw [hRn'.out]; rfl, hbel.out⟩
end Go.Proofs.Ytpjopeojeglogaa

namespace Go.Proofs.Ytpjopeojeglogaa
open Go.RowKit Tt
set_option linter.unusedVariables false
set_option linter.unusedSimpArgs false

set_option maxRecDepth 20000 in
set_option maxHeartbeats 1000000 in
theorem rright_any (x : Cod) (ac most : Int) (w : World) (hwf : ∀ y ∈ cdL x, Wf y) :
    Calls Try.prog 186 #[.agg #[.int .i64 x.1, .int .i64 x.2.1, .int .i64 x.2.2.1, .int .i64 x.2.2.2], .int .i64 ac, .int .i64 most] w fun e w' => e = .returned (.bool (symV x ac most).isSome) ∧ Below w.heap.size w w' := by
  obtain ⟨x0, x1, x2, x3⟩ := x; have hw2 : Wf x2 := hwf x2 (by simp [cdL]); have hw3 : Wf x3 := hwf x3 (by simp [cdL]); simp only; have hal := (Below.refl w.heap.size w).alloc (Nat.le_refl _) (.cells #[.int .i64 x0, .int .i64 x1, .int .i64 x2, .int .i64 x3] 133); have B1 := Blk.new w 133 #[.int .i64 x0, .int .i64 x1, .int .i64 x2, .int .i64 x3]; obtain ⟨W1, hW1⟩ : ∃ W, w.alloc (.cells #[.int .i64 x0, .int .i64 x1, .int .i64 x2, .int .i64 x3] 133) = W := ⟨_, rfl⟩; rw [hW1] at hal B1; have k2 : W1.cell? ⟨w.heap.size, 2, none⟩ = some (.int .i64 x2) := B1.cell rfl; have k3 : W1.cell? ⟨w.heap.size, 3, none⟩ = some (.int .i64 x3) := B1.cell rfl; have HV := rvalue11_any x2 x3 W1 hw2 hw3; unfold bitC at HV; obtain ⟨q, hq⟩ : ∃ q, valueS x2 x3 = q := ⟨_, rfl⟩; rw [hq] at HV; clear hw2 hw3; have hal' := Lib.hid hal; have B1' := Lib.hid B1; have hW1' := Lib.hid hW1; have HV' := Lib.hid HV; have hwf' := Lib.hid hwf; clear hal B1 hW1 HV hwf
  go_enter Try.func186, Try.ntmps186
  go_upto_region 1 with fail
  rw [hW1'.out]
  go_wp2_with fail
  refine HV'.out.mono ?_; rintro e w3 ⟨rfl, hb3⟩; have b3 := B1'.out.late hb3; have hb3 := hal'.out.trans (hb3.mono hal'.out.size); have k0 : w3.cell? ⟨w.heap.size, 0, none⟩ = some (.int .i64 x0) := b3.cell rfl; have k1 : w3.cell? ⟨w.heap.size, 1, none⟩ = some (.int .i64 x1) := b3.cell rfl; have k3 : w3.cell? ⟨w.heap.size, 3, none⟩ = some (.int .i64 x3) := b3.cell rfl; unfold valR; clear k2; have b3' := Lib.hid b3; have hb3' := Lib.hid hb3; clear b3 hb3
  cases q with
  | none =>
    have hsy : symV (x0, x1, x2, x3) ac most = none := symV_val hq; clear hq; simp only [Option.getD_none, Option.isSome_none]; have hsy' := Lib.hid hsy; clear hsy
    go_wp2
    go_ret
    exact ⟨by rw [hsy'.out]; rfl, hb3'.out⟩
  | some v =>
    simp only [Option.getD_some, Option.isSome_some]
    by_cases c1 : x0 = ac
    · subst c1
      by_cases c2 : x1 < 0
      · have hsy : symV (x0, x1, x2, x3) x0 most = none := symV_bad fun h => by have : 0 ≤ x1 := h.2.1; omega
        clear hq; have hsy' := Lib.hid hsy; clear hsy
        go_wp2
        go_ret
        exact ⟨by rw [hsy'.out]; rfl, hb3'.out⟩
      · by_cases c3 : 255 < x1
        · have hsy : symV (x0, x1, x2, x3) x0 most = none := symV_bad fun h => by have : x1 ≤ 255 := h.2.2.1; omega
          clear hq; have hsy' := Lib.hid hsy; clear hsy
          go_wp2
          go_ret
          exact ⟨by rw [hsy'.out]; rfl, hb3'.out⟩
        · have hm0 := Int.emod_nonneg x1 (show (16 : Int) ≠ 0 by decide)
          have hm1 := Int.emod_lt_of_pos x1 (show (0 : Int) < 16 by decide); have ht : Int.tmod x1 16 = x1 % 16 := Int.tmod_eq_emod_of_nonneg (by omega); obtain ⟨z, hz⟩ : ∃ z, x1 % 16 = z := ⟨_, rfl⟩; rw [hz] at ht hm0 hm1
          by_cases c4 : most < z
          · have hsy : symV (x0, x1, x2, x3) x0 most = none := symV_bad fun h => by have : x1 % 16 ≤ most := h.2.2.2.1; omega
            clear hq hz; have hsy' := Lib.hid hsy; clear hsy
            go_wp2
            go_ret
            exact ⟨by rw [hsy'.out]; rfl, hb3'.out⟩
          · by_cases c5 : x3 = z
            · have hsy : symV (x0, x1, x2, x3) x0 most = some v := (symV_good (x := (x0, x1, x2, x3)) ⟨rfl, by show 0 ≤ x1; omega, by show x1 ≤ 255; omega, by show x1 % 16 ≤ most; omega, by show x3 = x1 % 16; omega⟩).trans hq
              subst c5; clear hq hz; have hsy' := Lib.hid hsy; clear hsy
              go_wp2
              go_ret
              exact ⟨by rw [hsy'.out]; rfl, hb3'.out⟩
            · have hsy : symV (x0, x1, x2, x3) x0 most = none := symV_bad fun h => by have : x3 = x1 % 16 := h.2.2.2.2; omega
              have c6 : (x3 == z) = false := by simpa using c5
              clear hq hz; have hsy' := Lib.hid hsy; clear hsy
              go_wp2
              go_ret
              exact ⟨by rw [hsy'.out]; rfl, hb3'.out⟩
    · have hsy : symV (x0, x1, x2, x3) ac most = none := symV_bad fun h => c1 h.1
      clear hq; have hsy' := Lib.hid hsy; clear hsy
      go_wp2
      go_ret
      exact ⟨by rw [hsy'.out]; rfl, hb3'.out⟩
end Go.Proofs.Ytpjopeojeglogaa
