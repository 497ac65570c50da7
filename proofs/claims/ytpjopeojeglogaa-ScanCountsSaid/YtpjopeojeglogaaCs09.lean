/- Chapter 3: the writer of bits: Put. | Chapter 3: the program's Stuff, Plain, Clip. -/
import Derived.Test.YtpjopeojeglogaaCs07
import Derived.Test.YtpjopeojeglogaaCs06
import Derived.Test.YtpjopeojeglogaaCs08
namespace Go.Proofs.Ytpjopeojeglogaa
open Go.RowKit Tt
set_option linter.unusedVariables false
set_option linter.unusedSimpArgs false

/-- what stands behind the pointer of a writer of bits that has got the bits L: its blocks are among S -/
structure Wl (S : Nat → Prop) (w : World) (wb : Nat) (L : List Int) : Prop where
  ex : ∃ a n c, Blk w wb 121 #[.slice a n c, .int .u32 (numL (L.drop (8 * (L.length / 8)))), .int .i64 (L.length % 8 : Nat)] ∧ w.ownsRow 0 5 1 (.slice a n c) n (ints .u8 (packS L)) ∧ (∀ k, (Value.slice a n c).ownBlock = some k → S k)
  mem : S wb
  bit : BitL L
theorem Wl.mo {S S' : Nat → Prop} {w w' : World} {wb : Nat} {L : List Int} (h : Wl S w wb L) (m : Mo S' w w') (hS : ∀ k, S k → ¬ S' k) : Wl S w' wb L := by
  obtain ⟨a, n, c, h1, h2, h3⟩ := h.ex; exact ⟨⟨a, n, c, h1.mo m (hS _ h.mem), own_mo h2 m fun k hk => hS k (h3 k hk), h3⟩, h.mem, h.bit⟩
theorem Wl.late {S : Nat → Prop} {w w' : World} {wb : Nat} {L : List Int} (h : Wl S w wb L) (b : Below w.heap.size w w') : Wl S w' wb L := by
  obtain ⟨a, n, c, h1, h2, h3⟩ := h.ex; exact ⟨⟨a, n, c, h1.late b, own_later h2 b, h3⟩, h.mem, h.bit⟩
theorem Wl.sub {S S' : Nat → Prop} {w : World} {wb : Nat} {L : List Int} (h : Wl S w wb L) (hS : ∀ k, S k → S' k) : Wl S' w wb L := by
  obtain ⟨a, n, c, h1, h2, h3⟩ := h.ex; exact ⟨⟨a, n, c, h1, h2, fun k hk => hS k (h3 k hk)⟩, hS _ h.mem, h.bit⟩
theorem own_neW {w : World} {B : Nat} {v : Value} {n : Nat} {xs : List Value} {g : Nat} {cs : Array Value} (h : w.ownsRow B 5 1 v n xs) (hb : Blk w g 121 cs) : v.ownBlock ≠ some g := own_neB h hb (by decide)
def numAt (w : World) (p : Addr) : Nat := match w.cell? p with
  | some (.int _ n) => n.toNat
  | _ => 0
theorem numAt_of {w : World} {p : Addr} {k : IntKind} {n : Int} (h : w.cell? p = some (.int k n)) : numAt w p = n.toNat := by unfold numAt; rw [h]
set_option maxRecDepth 20000 in
set_option maxHeartbeats 2000000 in
theorem wput_any (S : Nat → Prop) (wb : Nat) (L : List Int) (v : Int) (k : Nat) (w : World) (h : Wl S w wb L) (hk : k ≤ 16) (hL : L.length ≤ 8000000) :
    Calls Try.prog 92 #[.pointer (some ⟨wb, 0, none⟩), .int .i64 v, .int .i64 k] w fun e w' => e = .returned (.bool true) ∧ Wl (Sx S w w') w' wb (L ++ lowS v k) ∧ Mo S w w' := by
  obtain ⟨i0, hi, hz0, hz1, hz2⟩ := info_parts info8; obtain ⟨a, n, c, hb, ho, hown⟩ := h.ex; have hmem := h.mem; have hbit := h.bit; clear h; obtain ⟨p, hp⟩ : ∃ p, L.length / 8 = p := ⟨_, rfl⟩; obtain ⟨m, hm⟩ : ∃ m, L.length % 8 = m := ⟨_, rfl⟩; obtain ⟨r, hr⟩ : ∃ r, numL (L.drop (8 * p)) = r := ⟨_, rfl⟩; have hrb := numL_bound _ (hbit.drop (8 * p)); rw [List.length_drop, show L.length - 8 * p = m by omega, hr] at hrb; rw [hp, hm, hr] at hb; have hn := (Sl.of_own ho).1.ilen; unfold packS at ho hn; rw [hp] at ho hn; rw [packN_len] at hn; obtain ⟨L', hLe⟩ : ∃ L', L ++ lowS v k = L' := ⟨_, rfl⟩; have hbitN : BitL L' := by rw [← hLe]; exact hbit.app (lowS_bit _ _)
  have hlenN : L'.length = L.length + k := by rw [← hLe, List.length_append, lowS_len]
  have hpk : packN L p = packN L' p := by rw [← hLe, packN_app _ _ _ (by omega)]
  have hR : r * 2 ^ k + v % 2 ^ k = numL (L'.drop (8 * p)) := by
    rw [← hLe, List.drop_append_of_le_length (by omega), numL_app, lowS_len, numL_lowS, hr]
  have hm8 : m < 8 := by omega
  have hput := put_u32 (v := v) hrb.1 hrb.2 hm8 hk; rw [hR] at hput; rw [hLe]; obtain ⟨R, hRR⟩ : ∃ R, numL (L'.drop (8 * p)) = R := ⟨_, rfl⟩; rw [hRR] at hput; have hRb := numL_bound _ (hbitN.drop (8 * p)); rw [hRR, List.length_drop] at hRb; have hN : L'.length = 8 * p + (m + k) := by omega
  rw [hN, show 8 * p + (m + k) - 8 * p = m + k by omega] at hRb; have hpw : (2 : Int) ^ (m + k) ≤ 2 ^ 23 := by exact_mod_cast Nat.pow_le_pow_right (by decide : 0 < 2) (by omega)
  have hRlt : 0 ≤ R ∧ R < 8388608 := by omega
  clear hpw; have d1 : decide ((k : Int) < 0) = false := by simp
  have d2 : decide ((16 : Int) < k) = false := by simp; omega
  have hkp : (2 : Int) ^ k % 4294967296 = 2 ^ k := by
    have h1 : (2 : Int) ^ k ≤ 2 ^ 16 := by exact_mod_cast Nat.pow_le_pow_right (by decide : 0 < 2) hk
    have h2 := pow_pos2 k
    omega
  rw [hpk] at ho; subst hn; have f1 := hb.frozen 1; have f2 := hb.frozen 2; obtain ⟨Ty, ff, hnn, hbel, hsurj⟩ := later_worlds w; have HS := Lib.hid (hsurj w.drew ((Below.refl _ _).drew)); have HD := Lib.hid ((Below.refl w.heap.size w).drew); have k1 : ∀ s, (ff s).cell? ⟨wb, 1, none⟩ = some (.int .u32 r) := fun s => (hb.late (hbel s)).cell rfl; have k2 : ∀ s, (ff s).cell? ⟨wb, 2, none⟩ = some (.int .i64 m) := fun s => (hb.late (hbel s)).cell rfl; have hb' := Lib.hid hb; have ho' := Lib.hid ho; have hown' := Lib.hid hown; have hmem' := Lib.hid hmem; have hbit' := Lib.hid hbit; have hbel' := Lib.hid hbel; have hsurj' := Lib.hid hsurj; have hrb' := Lib.hid hrb; have hp' := Lib.hid hp; have hm' := Lib.hid hm; have hr' := Lib.hid hr; have hLe' := Lib.hid hLe; have hbitN' := Lib.hid hbitN; have hlenN' := Lib.hid hlenN; have hpk' := Lib.hid hpk; have hR' := Lib.hid hR; have hRR' := Lib.hid hRR; have hRb' := Lib.hid hRb; have hN' := Lib.hid hN; have hRlt' := Lib.hid hRlt; have hL' := Lib.hid hL; clear hb ho hown hmem hbit hbel hsurj hrb hp hm hr hLe hbitN hlenN hpk hR hRR hRb hN hRlt hL
  go_enter Try.func92, Try.ntmps92
  go_upto_region 3 with fail
  refine wp_noP ?_; refine till_begin (t := 23) (C := fun W => ∃ s, W = ff s) (by kernel_rfl) 27 rfl ?_; have hbD := hb'.out.late HD.out; have hoD := own_later ho'.out HD.out; have v1 : w.drew.frozen? ⟨wb, 1, none⟩ = false := hbD.frozen 1; have v2 : w.drew.frozen? ⟨wb, 2, none⟩ = false := hbD.frozen 2; have x1 := hbD.cell (i := 1) rfl; have x2 := hbD.cell (i := 2) rfl; obtain ⟨wD, hwD⟩ : ∃ wD, w.drew = wD := ⟨_, rfl⟩; rw [hwD] at HS HD hbD v1 v2 x1 x2 hoD ⊢; clear hwD; have hbD' := Lib.hid hbD; have hoD' := Lib.hid hoD; clear hbD hoD; refine till_free [1, 19, 15, 16, 17] 22 (by kernel_rfl) noP_put (by kernel_rfl) (by kernel_rfl) (by kernel_rfl) HS.out ?_; simp only [pickL, List.map_cons, List.map_nil, List.getD_cons_succ, List.getD_cons_zero]
  iterate 5 (go_big_quiet_step (fail))
  refine wpQuiet_nil ?_; refine till_take [0, 2, 3, 4, 5, 6, 7, 8, 9, 10, 11, 12, 13, 14, 18] 7 (by kernel_rfl) noP_put (by kernel_rfl) (by kernel_rfl) (by kernel_rfl) HS.out ?_; simp only [pickL, List.map_cons, List.map_nil, List.getD_cons_succ, List.getD_cons_zero]
  iterate 15 (go_big_quiet_step (fail))
  refine wpQuiet_nil ?_; refine till_free [20, 21] 5 (by kernel_rfl) noP_put (by kernel_rfl) (by kernel_rfl) (by kernel_rfl) HS.out ?_; simp only [pickL, List.map_cons, List.map_nil, List.getD_cons_succ, List.getD_cons_zero]
  iterate 2 (go_big_quiet_step (fail))
  refine wpQuiet_nil ?_; refine till_take [22] 4 (by kernel_rfl) noP_put (by kernel_rfl) (by kernel_rfl) (by kernel_rfl) HS.out ?_; simp only [pickL, List.map_cons, List.map_nil, List.getD_cons_succ, List.getD_cons_zero]
  iterate 1 (go_big_quiet_step (fail))
  refine wpQuiet_nil ?_; refine till_one 23 3 (by kernel_rfl) (by kernel_rfl) ?_; simp only [pickL, List.map_cons, List.map_nil, List.getD_cons_succ, List.getD_cons_zero]
  go_wp2_with fail
  refine Mid.mk ⟨fun h => Bool.noConfusion (show true = false from h), ?_⟩; refine till_one 24 2 (by kernel_rfl) (by kernel_rfl) ?_; simp only [pickL, List.map_cons, List.map_nil, List.getD_cons_succ, List.getD_cons_zero]
  go_wp2_with fail
  refine Mid.mk ⟨fun h => Bool.noConfusion (show true = false from h), ?_⟩; refine till_one 25 1 (by kernel_rfl) (by kernel_rfl) ?_; simp only [pickL, List.map_cons, List.map_nil, List.getD_cons_succ, List.getD_cons_zero]
  go_wp2_with fail
  refine Mid.mk ⟨fun h => Bool.noConfusion (show true = false from h), ?_⟩; refine till_one 26 0 (by kernel_rfl) (by kernel_rfl) ?_; simp only [pickL, List.map_cons, List.map_nil, List.getD_cons_succ, List.getD_cons_zero]
  go_wp2_with fail
  refine ⟨fun h => Bool.noConfusion (show true = false from h), ⟨by kernel_rfl, noP_normal ?_⟩⟩; have hb2 := (hbD'.out.set 1 (.int .u32 R)).set 2 (.int .i64 ((m : Int) + k)); have mo2 := ((Mo.of_below (S := S) HD.out).set (.inl hmem'.out) 1 (.int .u32 R)).set (.inl hmem'.out) 2 (.int .i64 ((m : Int) + k)); have ho2 := own_mo hoD'.out (((Mo.refl (fun j => j = wb) wD).set (.inl rfl) 1 (.int .u32 R)).set (.inl rfl) 2 (.int .i64 ((m : Int) + k))) (fun j hj e => own_neW hoD'.out hbD'.out (e ▸ hj)); obtain ⟨w2, hw2⟩ : ∃ w2, (wD.setCell ⟨wb, 1, none⟩ (.int .u32 R)).setCell ⟨wb, 2, none⟩ (.int .i64 ((m : Int) + k)) = w2 := ⟨_, rfl⟩; rw [hw2] at hb2 mo2 ho2 ⊢; clear hw2 k1 k2 v1 v2 x1 x2 f1 f2 HS; have hb2' := Lib.hid hb2; have mo2' := Lib.hid mo2; have ho2' := Lib.hid ho2; clear hb2 mo2 ho2
  go_wp2_with fail
  go_loopw [46] (fun _ wr => ∃ (q : Nat) (a2 : Option Addr) (c2 : Nat), p ≤ q ∧ 8 * q ≤ 8 * p + (m + k) ∧ Hid (Blk wr wb 121 #[.slice a2 q c2, .int .u32 R, .int .i64 (8 * p + (m + k) - 8 * q : Nat)]) ∧ Hid (wr.ownsRow 0 5 1 (.slice a2 q c2) q (ints .u8 (packN L' q))) ∧ Hid (∀ j, (Value.slice a2 q c2).ownBlock = some j → Sx S w wr j) ∧ Hid (Mo S w wr)) (fun _ wr => numAt wr ⟨wb, 2, none⟩)
  case atStart => exact ⟨p, a, c, Nat.le_refl _, by omega, Lib.hid (by rw [show 8 * p + (m + k) - 8 * p = m + k by omega]; exact hb2'.out), ho2', Lib.hid (fun j hj => .inl (hown'.out j hj)), mo2'⟩
  case round =>
    obtain ⟨q, a2, c2, hpq, hq, hbR, hoR, hwR, hmR⟩ := hrel; have y2 := hbR.out.frozen 2; obtain ⟨M, hM⟩ : ∃ M, 8 * p + (m + k) - 8 * q = M := ⟨_, rfl⟩; have hbR2 := hbR.out; rw [hM] at hbR2
    by_cases hlt : 8 ≤ M
    · obtain ⟨M2, rfl⟩ : ∃ M2, M = M2 + 8 := ⟨M - 8, by omega⟩
      have g2 : wr.cell? ⟨wb, 2, none⟩ = some (.int .i64 ((M2 : Int) + 8)) := hbR2.cell (by simp); have d3 : decide ((8 : Int) ≤ (M2 : Int) + 8) = true := by simp; omega
      have hM2 : M2 ≤ 100 := by omega
      have hqb : q ≤ 2000000 := by have := hL'.out; have := hp'.out; omega
      have hq2 : 8 * (q + 1) ≤ L'.length := by rw [hN'.out]; omega
      have hby := byte_of hbitN'.out hpq hq2; rw [hRR'.out, show L'.length - 8 * (q + 1) = M2 by rw [hN'.out]; omega] at hby
      obtain ⟨bt, hbt⟩ : ∃ x, numL ((L'.drop (8 * q)).take 8) = x := ⟨_, rfl⟩; rw [hbt] at hby
      have hwbS : Sx S w wr wb := .inl hmem'.out; have B2 : Blk (wr.setCell ⟨wb, 2, none⟩ (.int .i64 M2)) wb 121 #[.slice a2 q c2, .int .u32 R, .int .i64 M2] := hbR2.set 2 _; have m2 := (Mo.refl (Sx S w wr) wr).set (.inl hwbS) 2 (.int .i64 M2); have o2 := own_mo hoR.out ((Mo.refl (fun j => j = wb) wr).set (.inl rfl) 2 (.int .i64 M2)) (fun j hj e => own_neW hoR.out hbR2 (e ▸ hj)); have sz2 : (wr.setCell ⟨wb, 2, none⟩ (.int .i64 M2)).heap.size = wr.heap.size := by simp
      obtain ⟨x2, hx2⟩ : ∃ W, wr.setCell ⟨wb, 2, none⟩ (.int .i64 M2) = W := ⟨_, rfl⟩; rw [hx2] at B2 m2 o2 sz2; obtain ⟨Ty2, f2, hnn2, hbel2, hsurj2⟩ := pr_worlds (fun W => Blk W wb 121 #[.slice a2 q c2, .int .u32 R, .int .i64 M2]) x2 B2; have HD := Lib.hid ((Below.refl x2.heap.size x2).drew); have b3 := B2.late HD.out; have HS := Lib.hid (hsurj2 x2.drew b3); have k0 : ∀ s, (f2 s).cell? ⟨wb, 0, none⟩ = some (.slice a2 q c2) := fun s => (hbel2 s).cell rfl; have k1 : ∀ s, (f2 s).cell? ⟨wb, 1, none⟩ = some (.int .u32 R) := fun s => (hbel2 s).cell rfl; have k2 : ∀ s, (f2 s).cell? ⟨wb, 2, none⟩ = some (.int .i64 M2) := fun s => (hbel2 s).cell rfl; have o3 := own_later o2 HD.out; have m3 := m2.trans (Mo.of_below (S := Sx S w wr) HD.out) (fun _ _ e => e); have hmin : min M2 32 = M2 := by omega
      clear hwbS hbR2 m2 o2; have hM' := Lib.hid hM; have hq2' := Lib.hid hq2; have hbt' := Lib.hid hbt; have B2' := Lib.hid B2; have sz2' := Lib.hid sz2; have hx2' := Lib.hid hx2; have hbel2' := Lib.hid hbel2; have hsurj2' := Lib.hid hsurj2; have o3' := Lib.hid o3; have b3' := Lib.hid b3; have m3' := Lib.hid m3; clear hM hq2 hbt B2 sz2 hx2 hbel2 hsurj2 o3 b3 m3
      go_upto_region 6 with fail
      rw [hx2'.out]; clear y2 g2 d3; refine wp_noP ?_; refine till_begin (t := 19) (C := fun W => ∃ s, W = f2 s) (by kernel_rfl) 20 rfl ?_; obtain ⟨x3, hx3⟩ : ∃ W, x2.drew = W := ⟨_, rfl⟩; rw [hx3] at HS HD o3' b3' m3' ⊢; clear hx3; refine till_take [0, 1, 2, 3, 4, 5, 6, 7, 8, 9, 10, 11, 12, 13, 14] 5 (by kernel_rfl) noP_put (by kernel_rfl) (by kernel_rfl) (by kernel_rfl) HS.out ?_; simp only [pickL, List.map_cons, List.map_nil, List.getD_cons_succ, List.getD_cons_zero]
      iterate 15 (go_big_quiet_step (fail))
      refine wpQuiet_nil ?_; have hal := (Below.refl x3.heap.size x3).alloc (Nat.le_refl _) (.cells #[.int .u8 bt] 5); have o4 := own_later o3'.out hal; have b4 := b3'.out.late hal; have m4 := m3'.out.alloc (.cells #[.int .u8 bt] 5); have s4 := Sl.new x3 5 1 1 #[.int .u8 bt] (0, 0) (by decide) rfl; have HS4 := Lib.hid (hsurj2'.out _ b4); obtain ⟨x4, hx4⟩ : ∃ W, x3.alloc (.cells #[.int .u8 bt] 5) = W := ⟨_, rfl⟩; rw [hx4] at o4 b4 m4 s4 HS4; clear hal; have o4' := Lib.hid o4; have b4' := Lib.hid b4; have m4' := Lib.hid m4; have s4' := Lib.hid s4; have hx4' := Lib.hid hx4; clear o4 b4 m4 s4 hx4; refine till_one 15 4 (by kernel_rfl) (by kernel_rfl) ?_; simp only [pickL, List.map_cons, List.map_nil, List.getD_cons_succ, List.getD_cons_zero]
      go_wp2_with fail
      rw [hx4'.out]; refine Mid.mk ⟨fun _ => HS4.out, ?_⟩; refine till_one 16 3 (by kernel_rfl) (by kernel_rfl) ?_; simp only [pickL, List.map_cons, List.map_nil, List.getD_cons_succ, List.getD_cons_zero]
      go_wp2_with (at_builtin; refine wpList_app2 rfl _ _ 30 rfl 0 5 i0 _ 1 1 Try.underlying30 hi hz0 hz1 hz2 rfl (by decide) _ q _ rfl o4'.out ⟨x3.heap.size, 0, none⟩ 1 1 [.int .u8 bt] rfl s4'.out (by simp [Value.oneCell']) (by omega) (by decide) (Nat.zero_le _) ?_; intro a5 c5 x5 ho5 hg5 hn5; have Ho5 := Lib.hid ho5; have Hg5 := Lib.hid hg5; have Hn5 := Lib.hid hn5; clear ho5 hg5 hn5)
      have g5 : Mo (fun j => (Value.slice a2 q c2).ownBlock = some j) x4 x5 := Mo.of_grown Hg5.out (fun _ e => e); have b5 := b4'.out.mo g5 (own_neW o4'.out b4'.out); have m5 := m4'.out.trans (Mo.of_grown (S := Sx S w wr) Hg5.out (fun j e => hwR.out j e)) (fun _ _ e => e); have HS5 := Lib.hid (hsurj2'.out _ b5); have y5 := b5.frozen 0; have e5 : x5.cell? ⟨wb, 0, none⟩ = some (.slice a2 q c2) := b5.cell rfl; have g5' := Lib.hid g5; have b5' := Lib.hid b5; have m5' := Lib.hid m5; clear g5 b5 m5; refine Mid.mk ⟨fun _ => HS5.out, ?_⟩; refine till_one 17 2 (by kernel_rfl) (by kernel_rfl) ?_; simp only [pickL, List.map_cons, List.map_nil, List.getD_cons_succ, List.getD_cons_zero]
      go_wp2_with fail
      refine Mid.mk ⟨fun _ => HS5.out, ?_⟩; refine till_one 18 1 (by kernel_rfl) (by kernel_rfl) ?_; simp only [pickL, List.map_cons, List.map_nil, List.getD_cons_succ, List.getD_cons_zero]
      go_wp2_with fail
      refine Mid.mk ⟨fun _ => HS5.out, ?_⟩; refine till_one 19 0 (by kernel_rfl) (by kernel_rfl) ?_; simp only [pickL, List.map_cons, List.map_nil, List.getD_cons_succ, List.getD_cons_zero]
      go_wp2_with fail
      refine ⟨fun h => Bool.noConfusion (show true = false from h), ⟨by kernel_rfl, noP_normal ?_⟩⟩; have b6 := b5'.out.set 0 (.slice a5 (q + 1) c5); have m6 := m5'.out.set (.inl (.inl hmem'.out)) 0 (.slice a5 (q + 1) c5); have o6 := own_mo Ho5.out ((Mo.refl (fun j => j = wb) x5).set (.inl rfl) 0 (.slice a5 (q + 1) c5)) (fun j hj e => own_neW Ho5.out b5'.out (e ▸ hj)); have b6' := Lib.hid b6; have m6' := Lib.hid m6; have o6' := Lib.hid o6; clear b6 m6 o6
      go_wp2_with fail
      go_roundw
      case rel => exact ⟨q + 1, a5, c5, by omega, by have := hM'.out; omega, Lib.hid (by rw [show 8 * p + (m + k) - 8 * (q + 1) = M2 by have := hM'.out; omega]; exact b6'.out), Lib.hid (by rw [packN_succ, hbt'.out, ints_append]; exact o6'.out), Lib.hid (fun j hj => by
        rcases Hn5.out j hj with h | h
        · exact (hwR.out j h).mono m6'.out.size
        · exact .inr ⟨by have := hmR.out.size; have := m4'.out.size; omega, by have h1 := (Ho5.out.lt j hj).2; simpa using h1⟩), Lib.hid (hmR.out.more m6'.out)⟩
      case measure =>
        rw [numAt_of (b6'.out.cell (i := 2) rfl), numAt_of (hbR.out.cell (i := 2) rfl)]; have := hM'.out
        simp
        omega
    · have hMr : M = L'.length % 8 := by rw [hN'.out]; omega
      have hqe : q = L'.length / 8 := by rw [hN'.out]; omega
      have g1 : wr.cell? ⟨wb, 1, none⟩ = some (.int .u32 R) := hbR2.cell rfl; have g2 : wr.cell? ⟨wb, 2, none⟩ = some (.int .i64 M) := hbR2.cell rfl; have d3 : decide ((8 : Int) ≤ M) = false := by simp; omega
      have y1 := hbR2.frozen 1; have hre := rest_of hbitN'.out hpq (show 8 * q ≤ L'.length by rw [hN'.out]; omega); rw [hRR'.out, show L'.length - 8 * q = M by rw [hN'.out]; omega] at hre; have hlo := low_u32 (k := M) hRlt'.out.1 (by have := hRlt'.out; omega) (by omega)
      have hMp : (2 : Int) ^ M % 4294967296 = 2 ^ M := by
        have h1 : (2 : Int) ^ M ≤ 2 ^ 16 := by exact_mod_cast Nat.pow_le_pow_right (by decide : 0 < 2) (by omega)
        have h2 := pow_pos2 M
        omega
      have hmin : min M 32 = M := by omega
      obtain ⟨R2, hR2⟩ : ∃ x, numL (L'.drop (8 * q)) = x := ⟨_, rfl⟩; rw [hR2] at hre; rw [hre] at hlo; obtain ⟨Ty2, f2, hnn2, hbel2, hsurj2⟩ := later_worlds wr; have HD := Lib.hid ((Below.refl wr.heap.size wr).drew); have HS := Lib.hid (hsurj2 wr.drew HD.out); have k1 : ∀ s, (f2 s).cell? ⟨wb, 1, none⟩ = some (.int .u32 R) := fun s => (hbR2.late (hbel2 s)).cell rfl; have k2 : ∀ s, (f2 s).cell? ⟨wb, 2, none⟩ = some (.int .i64 M) := fun s => (hbR2.late (hbel2 s)).cell rfl; have hMr' := Lib.hid hMr; have hqe' := Lib.hid hqe; have hM' := Lib.hid hM; have hbR2' := Lib.hid hbR2; have hre' := Lib.hid hre; have hR2' := Lib.hid hR2; have hbel2' := Lib.hid hbel2; have hsurj2' := Lib.hid hsurj2; clear hMr hqe hM hbR2 hre hR2 hbel2 hsurj2
      go_upto_region 7 with fail
      clear g1 g2 d3; refine wp_noP ?_; refine till_begin (t := 13) (C := fun W => ∃ s, W = f2 s) (by kernel_rfl) 14 rfl ?_; have b3 := hbR2'.out.late HD.out; have o3 := own_later hoR.out HD.out; have g3 : wr.drew.cell? ⟨wb, 1, none⟩ = some (.int .u32 R) := b3.cell rfl; have y3 : wr.drew.frozen? ⟨wb, 1, none⟩ = false := b3.frozen 1; obtain ⟨x3, hx3⟩ : ∃ W, wr.drew = W := ⟨_, rfl⟩; rw [hx3] at HS HD b3 o3 g3 y3 ⊢; clear hx3 y1; have b3' := Lib.hid b3; have o3' := Lib.hid o3; clear b3 o3; refine till_take [0, 1, 2, 3, 4, 5, 6, 7, 8, 9, 10] 3 (by kernel_rfl) noP_put (by kernel_rfl) (by kernel_rfl) (by kernel_rfl) HS.out ?_; simp only [pickL, List.map_cons, List.map_nil, List.getD_cons_succ, List.getD_cons_zero]
      iterate 11 (go_big_quiet_step (fail))
      refine wpQuiet_nil ?_; refine till_one 11 2 (by kernel_rfl) (by kernel_rfl) ?_; simp only [pickL, List.map_cons, List.map_nil, List.getD_cons_succ, List.getD_cons_zero]
      go_wp2_with fail
      refine Mid.mk ⟨fun _ => HS.out, ?_⟩; refine till_one 12 1 (by kernel_rfl) (by kernel_rfl) ?_; simp only [pickL, List.map_cons, List.map_nil, List.getD_cons_succ, List.getD_cons_zero]
      go_wp2_with fail
      refine Mid.mk ⟨fun _ => HS.out, ?_⟩; refine till_one 13 0 (by kernel_rfl) (by kernel_rfl) ?_; simp only [pickL, List.map_cons, List.map_nil, List.getD_cons_succ, List.getD_cons_zero]
      go_wp2_with fail
      refine ⟨fun h => Bool.noConfusion (show true = false from h), ⟨by kernel_rfl, noP_normal ?_⟩⟩; have b6 := b3'.out.set 1 (.int .u32 R2); have o6 := own_mo o3'.out ((Mo.refl (fun j => j = wb) x3).set (.inl rfl) 1 (.int .u32 R2)) (fun j hj e => own_neW o3'.out b3'.out (e ▸ hj)); have m6 := ((hmR.out.trans (Mo.of_below (S := S) HD.out) (fun _ _ e => e)).set (.inl hmem'.out) 1 (.int .u32 R2)); have z6 := HD.out.size; have b6' := Lib.hid b6; have o6' := Lib.hid o6; have m6' := Lib.hid m6; have z6' := Lib.hid z6; clear b6 o6 m6 z6
      go_wp2_with fail
      go_ret
      refine ⟨rfl, ⟨⟨a2, q, c2, ?_, ?_, fun j hj => (hwR.out j hj).mono (by have := z6'.out; simpa using this)⟩, .inl hmem'.out, hbitN'.out⟩, m6'.out⟩
      · rw [← hqe'.out, ← hMr'.out, hR2'.out]; exact b6'.out
      · unfold packS; rw [← hqe'.out]; exact o6'.out
end Go.Proofs.Ytpjopeojeglogaa

namespace Go.Proofs.Ytpjopeojeglogaa
open Go.RowKit Tt
set_option linter.unusedVariables false
set_option linter.unusedSimpArgs false

theorem Sl.narrow {w : World} {a : Option Addr} {n c sz : Nat} {cs : List Value} (h : Sl w a n c sz cs) : Sl w a n n sz cs :=
  ⟨h.len, Nat.le_refl _, by have := h.max; have := h.le; omega, h.lies, fun e => by have := h.fit e; have := h.le; omega⟩
theorem cut_hm {w : World} {a : Option Addr} {n c : Nat} {cs : List Value} (h : Sl w a n c 1 cs) (W : World) :
    (Instr.sliceAt 30 (.slice a n c) none (some (.int .i64 n)) (some (.int .i64 n))).run Try.prog W = .ok (.slice a n n) W := by
  have ht := Try.underlying30; have he : Try.prog.elem 30 = 5 := by unfold Program.elem; rw [ht]
  have hE : ∀ W, (Go.sizeOf 5).run Try.prog W = .ok 1 W := fun W => by kernel_rfl
  have hle := h.le; rw [run_sliceAt_slice (h := by rw [he]; exact ht), run_slice_hm (ht := by rw [he]; exact ht) (h0 := by omega) (h2 := by omega) (h3 := by omega), he, hE]
  have e : (if n = 0 then a else a.map (·.add (0 * 1))) = a := by
    split
    · rfl
    · cases a with
      | none => rfl
      | some x => rw [Option.map_some, Nat.zero_mul]; rfl
  simp only [Result.andThen, sliced, Nat.sub_zero, Int.toNat_natCast, e]
set_option maxRecDepth 20000 in
theorem clip_any (a : Option Addr) (n c : Nat) (z : List Int) (w : World) (hs : Sl w a n c 1 (ints .u8 z)) :
    Calls Try.prog 144 #[.slice a n c] w fun e w' => e = .returned (.slice a n n) ∧ Qt w w' := by
  have h1 := cut_hm hs; clear hs
  go_enter Try.func144, Try.ntmps144
  go_wp2
  go_ret
  exact ⟨rfl, Qt.refl _⟩
set_option maxRecDepth 20000 in
set_option maxHeartbeats 1000000 in
theorem stuff_any (a : Option Addr) (n c : Nat) (z : List Int) (w : World) (hs : Sl w a n c 1 (ints .u8 z)) (hn : n ≤ 1000000) :
    Calls Try.prog 145 #[.slice a n c] w fun e w' => ∃ a2 m c2, e = .returned (.slice a2 m c2) ∧ m = (stuffS z).length ∧ w'.ownsRow w.heap.size 5 1 (.slice a2 m c2) m (ints .u8 (stuffS z)) ∧ Below w.heap.size w w' := by
  obtain ⟨i0, hi, hz0, hz1, hz2⟩ := info_parts info8; have hl := hs.ilen; have hs' := Lib.hid hs; have hl' := Lib.hid hl; clear hs hl
  go_enter Try.func145, Try.ntmps145
  go_wp2
  go_loopw [3, 8] (fun ov iv wr => ∃ (k m : Nat) (a2 : Option Addr) (c2 : Nat), k ≤ n ∧ iv = .int .i64 k ∧ ov = .slice a2 m c2 ∧ m ≤ 2 * k ∧ Hid (m = (stuffS (z.take k)).length) ∧ Hid (wr.ownsRow w.heap.size 5 1 (.slice a2 m c2) m (ints .u8 (stuffS (z.take k)))) ∧ Hid (Below w.heap.size w wr)) (fun _ iv _ => n - (intOf iv).toNat)
  case atStart => exact ⟨0, 0, none, 0, by omega, rfl, rfl, by omega, Lib.hid (by simp [stuffS]), Lib.hid (by simp [stuffS]; exact own_nil _ _ _ _), Lib.hid (Below.refl _ _)⟩
  case round =>
    obtain ⟨k, m, a2, c2, hk, rfl, rfl, hm2, hm, hown, hbel⟩ := hrel
    by_cases hlt : k < n
    · obtain ⟨bb, of, rfl, hbb, f⟩ := (hs'.out.mono hbel.out).at hlt
      have f0 := f k _ (ints_get (by rw [hl'.out]; exact hlt)); have hsz := hbel.out.size; have hnx := stuffS_take (l := z) (k := k) (by rw [hl'.out]; exact hlt); obtain ⟨x, hx⟩ : ∃ x, z.getD k 0 = x := ⟨_, rfl⟩; rw [hx] at f0 hnx; clear f; have hml := hm.out
      by_cases hc : x = 255
      · subst hc
        rw [if_pos rfl] at hnx; have h1 : ints .u8 (stuffS (z.take k)) ++ [.int .u8 255] = ints .u8 (stuffS (z.take k) ++ [255]) := by rw [ints_append (k := .u8)]; rfl
        have h2 : ints .u8 (stuffS (z.take k) ++ [255]) ++ [.int .u8 0] = ints .u8 (stuffS (z.take (k + 1))) := by
          rw [hnx, show (stuffS (z.take k) ++ [255, 0] : List Int) = stuffS (z.take k) ++ [255] ++ [0] by simp]; rw [ints_append (k := .u8) (x := stuffS (z.take k) ++ [255])]; rfl
        have h3 : m + 2 = (stuffS (z.take (k + 1))).length := by rw [hnx, List.length_append, hml]; rfl
        have hx' := Lib.hid hx; have hnx' := Lib.hid hnx; have hsz' := Lib.hid hsz; have hml' := Lib.hid hml; have h1' := Lib.hid h1; have h2' := Lib.hid h2; have h3' := Lib.hid h3; clear hx hnx hsz hml h1 h2 h3
        go_wp2_with (first
          | (at_builtin; refine wpList_app_lit rfl _ _ 30 rfl w.heap.size 5 i0 _ 1 1 Try.underlying30 hi hz0 hz1 hz2 rfl (by decide) _ m _ rfl hown.out #[.int .u8 255] rfl rfl (by simp [Value.oneCell']) (by omega) (by decide) w hbel.out hsz'.out ?_; intro a5 c5 w5 ho5 hb5; have Ho5 := Lib.hid ho5; have Hb5 := Lib.hid hb5; clear ho5 hb5)
          | (at_builtin; refine wpList_app_lit rfl _ _ 30 rfl w.heap.size 5 i0 _ 1 1 Try.underlying30 hi hz0 hz1 hz2 rfl (by decide) _ (m + 1) _ rfl Ho5.out #[.int .u8 0] rfl rfl (by simp [Value.oneCell']) (by omega) (by decide) w Hb5.out Hb5.out.size ?_; intro a6 c6 w6 ho6 hb6; have Ho6 := Lib.hid ho6; have Hb6 := Lib.hid hb6; clear ho6 hb6))
        go_roundw
        case rel => exact ⟨k + 1, m + 2, a6, c6, by omega, by go_num, rfl, by omega, h3', Lib.hid (by rw [← h2'.out, ← h1'.out]; exact Ho6.out), Hb6⟩
        case measure => simp [intOf]; omega
      · rw [if_neg hc] at hnx
        have h1 : ints .u8 (stuffS (z.take k)) ++ [.int .u8 x] = ints .u8 (stuffS (z.take (k + 1))) := by rw [hnx, ints_append (k := .u8)]; rfl
        have h3 : m + 1 = (stuffS (z.take (k + 1))).length := by rw [hnx, List.length_append, hml]; rfl
        have hcd : (x == 255) = false := by simpa using hc
        clear hc; have hx' := Lib.hid hx; have hnx' := Lib.hid hnx; have hsz' := Lib.hid hsz; have hml' := Lib.hid hml; have h1' := Lib.hid h1; have h3' := Lib.hid h3; clear hx hnx hsz hml h1 h3
        go_wp2_with (at_builtin; refine wpList_app_lit rfl _ _ 30 rfl w.heap.size 5 i0 _ 1 1 Try.underlying30 hi hz0 hz1 hz2 rfl (by decide) _ m _ rfl hown.out #[.int .u8 x] rfl rfl (by simp [Value.oneCell']) (by omega) (by decide) w hbel.out hsz'.out ?_; intro a5 c5 w5 ho5 hb5; have Ho5 := Lib.hid ho5; have Hb5 := Lib.hid hb5; clear ho5 hb5)
        go_roundw
        case rel => exact ⟨k + 1, m + 1, a5, c5, by omega, by go_num, rfl, by omega, h3', Lib.hid (by rw [← h1'.out]; exact Ho5.out), Hb5⟩
        case measure => simp [intOf]; omega
    · obtain rfl : k = n := by omega
      have ht : z.take k = z := List.take_of_length_le (by rw [hl'.out]; omega); rw [ht] at hm hown; have ht' := Lib.hid ht; clear ht
      go_wp2
      go_ret
      exact ⟨a2, m, c2, rfl, hm.out, hown.out, hbel.out⟩
theorem bplain_any (a : Option Addr) (n c : Nat) (z : List Int) (w : World) (hs : Sl w a n c 1 (ints .u8 z)) (hn : n ≤ 1000000) :
    Calls Try.prog 149 #[.slice a n c] w fun e w' => ∃ v, e = .returned (.tuple #[v, .bool (decide ((plainS z).2 = z.length))]) ∧ Below w.heap.size w w' := by
  have hP := plain_any a n c z w hs hn; have hl := hs.ilen; have hle := (plainS_le z.length z (Nat.le_refl _)).2; obtain ⟨u, hu⟩ : ∃ u, (plainS z).2 = u := ⟨_, rfl⟩; rw [hu] at hP hle ⊢; rw [hl] at hle ⊢; clear hs; have hP' := Lib.hid hP; have hl' := Lib.hid hl; have hu' := Lib.hid hu; clear hP hl hu
  go_enter Try.func149, Try.ntmps149
  go_wp2_with fail
  refine (hP'.out).mono ?_; rintro e w1 ⟨a2, m, c2, rfl, _, _, hb1⟩
  by_cases h : u = n
  · subst h
    have d : decide ((u : Int) < u) = false := by simp
    have hb1' := Lib.hid hb1; clear hb1
    go_wp2
    go_ret2
    exact ⟨⟨_, rfl⟩, hb1'.out⟩
  · obtain ⟨e, rfl⟩ : ∃ e, n = u + e + 1 := ⟨n - u - 1, by omega⟩
    have d2 : decide (u = u + e + 1) = false := by simp; omega
    have d3 : decide ((u : Int) < (u : Int) + e + 1) = true := by simp; omega
    have hb1' := Lib.hid hb1; have h' := Lib.hid h; have d2' := Lib.hid d2; clear hb1 h d2
    go_wp2
    go_ret2
    first
      | exact ⟨⟨_, rfl⟩, hb1'.out⟩
      | (rw [d2'.out]; exact ⟨⟨_, rfl⟩, hb1'.out⟩)
      | (rw [d2'.out]; exact ⟨_, rfl, hb1'.out⟩)
end Go.Proofs.Ytpjopeojeglogaa
