/- Chapter 3: the writer's bytes: Done. | Chapter 4: the codes of a table: the program. -/
import Derived.Test.YtpjopeojeglogaaCs09
import Derived.Test.YtpjopeojeglogaaCs06
import Derived.Test.YtpjopeojeglogaaCs05
namespace Tt
open Go Go.RowKit
set_option linter.unusedVariables false
set_option linter.unusedSimpArgs false

section
variable {P : Program} {w : World} {ops : Array Oper} {rest : List Oper} {o : Oper} {a : Act} {Q : Exit → Act → World → Prop}
/-- append onto a slice that has no room: the row is a new one -/
theorem wpList_app_full (hgd : o.guard = none) (s x : Operand) (t : TypeId)
    (ho : o.op = .call { callee := .builtin .append, args := #[s, x], argTypes := #[t, t] })
    (e : TypeId) (i : TypeInfo) (z : Value) (size bytes : Nat) (ht : P.underlying t = some (.slice e)) (hi : P.info? e = some i) (hz : i.zero = some z)
    (hsize : i.size = size) (hby : i.bytes = bytes) (hzs : z.cells.size = size) (hsz : 0 < size)
    (ao : Option Addr) (n : Nat) (xs : List Value) (hs : a.eval s = .slice ao n n) (hsl : Sl w ao n n size xs)
    (xa : Addr) (m c : Nat) (news : List Value) (hx : a.eval x = .slice (some xa) m c) (hS : Sl w (some xa) m c size news) (hm : 0 < m) (h1 : ∀ u ∈ news, u.oneCell' = true)
    (hbytes : (n + m) * bytes ≤ 140737488355328) (hb0 : 0 < bytes)
    (h : ∀ (a' : Option Addr) (c' : Nat) (w' : World), w'.ownsRow w.heap.size e size (.slice a' (n + m) c') (n + m) (xs ++ news) → w.grownBy w' none → wpList P ops Q rest (a.put o.dst (.slice a' (n + m) c')) w') : wpList P ops Q (o :: rest) a w := by
  have h63 : n + m ≤ maxLen := by
    have : (n + m) * 1 ≤ (n + m) * bytes := Nat.mul_le_mul_left _ hb0; unfold maxLen; omega
  have hnews : ∀ j u, news[j]? = some u → w.cell? (xa.add j) = some u := fun j u hu => by
    obtain ⟨b, off, e1, _, hc⟩ := hS.lies 0 hm; injection e1 with e1; subst e1; rw [Addr.add_lit]; exact hc j u hu
  refine wpList_append_grows w hgd s x t ho e i z size bytes ht hi hz hsize hby hzs hsz ao n n xs hs (fun hn => ?_) hsl.len (fun b hb j u hj => ?_) xa m c news hx hS.len hnews h1 (by omega) h63 hbytes ?_
  · have := hsl.fit hn
    exact ⟨by omega, by omega⟩
  · subst hb
    have hj2 : j < xs.length := (List.getElem?_eq_some_iff.1 hj).1
    have hn0 : 0 < n := by
      rcases Nat.eq_zero_or_pos n with h0 | h0
      · rw [hsl.len, h0] at hj2; omega
      · exact h0
    obtain ⟨b', off, e1, _, hc⟩ := hsl.lies 0 hn0; injection e1 with e1; subst e1; rw [Addr.add_lit]; exact hc j u hj
  · intro v' w' h2 h3
    rcases h2.2 with ⟨rfl, h0⟩ | ⟨g, cap, cur, rfl, _⟩
    · omega
    · exact h _ _ w' h2 h3
end
theorem numL_ones (k : Nat) : numL (List.replicate k 1) = 2 ^ k - 1 := by
  induction k with
  | zero => rfl
  | succ k ih => rw [List.replicate_succ, numL_cons, List.length_replicate, ih, Int.pow_succ]; omega
theorem padS_none {l : List Int} (h : l.length % 8 = 0) : padS l = l := by unfold padS; rw [h]; simp
theorem padS_some {l : List Int} {m : Nat} (h : l.length % 8 = m) (h0 : 0 < m) :
    packS (padS l) = packS l ++ [numL (l.drop (8 * (l.length / 8))) * 2 ^ (8 - m) + (2 ^ (8 - m) - 1)] := by
  have hl : (padS l).length = 8 * (l.length / 8 + 1) := by unfold padS; rw [List.length_append, List.length_replicate]; omega
  have e : (padS l).length / 8 = l.length / 8 + 1 := by omega
  unfold packS; rw [e, packN_succ]; have e2 : packN (padS l) (l.length / 8) = packN l (l.length / 8) := by unfold padS; rw [packN_app _ _ _ (by omega)]
  rw [e2]
  congr 2
  have hk : (8 - l.length % 8) % 8 = 8 - m := by omega
  unfold padS; rw [hk, List.drop_append_of_le_length (by omega), List.take_of_length_le (by rw [List.length_append, List.length_drop, List.length_replicate]; omega), numL_app, List.length_replicate, numL_ones]
/-- the last byte of a writer -/
theorem last_u32 {r : Int} {m : Nat} (h0 : 0 ≤ r) (h1 : r < 2 ^ m) (hm : m < 8) (k : Nat) (hk : k ≤ 8) :
    bits .or .u32 (r * 2 ^ k % 4294967296) ((2 ^ k - 1) % 4294967296) = r * 2 ^ k + (2 ^ k - 1) := by
  have h := put_u32 (v := 2 ^ k - 1) h0 h1 hm (show k ≤ 16 by omega); have hq := pow_pos2 k; have h2 : (2 : Int) ^ k ≤ 2 ^ 8 := by exact_mod_cast Nat.pow_le_pow_right (by decide : 0 < 2) hk
  rw [low_u32 (by omega) (by omega) (by omega)] at h; have e1 : ((2 : Int) ^ k - 1) % 2 ^ k = 2 ^ k - 1 := Int.emod_eq_of_lt (by omega) (by omega); have e2 : ((2 : Int) ^ k - 1) % 4294967296 = 2 ^ k - 1 := Int.emod_eq_of_lt (by omega) (by omega); have e3 : (2 ^ k - 1 : Int) % 4294967296 % 2 ^ k = 2 ^ k - 1 := by rw [e2, e1]
  rw [e2]; simp only [e1, e2] at h; exact h
end Tt
namespace Go.Proofs.Ytpjopeojeglogaa
open Go.RowKit Tt
set_option linter.unusedVariables false
set_option linter.unusedSimpArgs false
set_option maxRecDepth 20000 in
set_option maxHeartbeats 2000000 in
theorem wdone_any (S : Nat → Prop) (wb : Nat) (L : List Int) (w : World) (h : Wl S w wb L) (hL : L.length ≤ 4000000) :
    Calls Try.prog 86 #[.pointer (some ⟨wb, 0, none⟩)] w fun e w' => ∃ a2 m c2, e = .returned (.slice a2 m c2) ∧ m = (bytesS L).length ∧ w'.ownsRow w.heap.size 5 1 (.slice a2 m c2) m (ints .u8 (bytesS L)) ∧ Below w.heap.size w w' := by
  obtain ⟨i0, hi, hz0, hz1, hz2⟩ := info_parts info8; obtain ⟨a, n, c, hb, ho, hown⟩ := h.ex; have hbit := h.bit; have hrb := numL_bound _ (hbit.drop (8 * (L.length / 8))); rw [List.length_drop, show L.length - 8 * (L.length / 8) = L.length % 8 by omega] at hrb; have hn : n = L.length / 8 := by have := (Sl.of_own ho).1.ilen; unfold packS at this; rw [packN_len] at this; omega
  have hsl := (Sl.of_own ho).1; have hp0 := @padS_none L; have hp1 := fun (m : Nat) (h : L.length % 8 = m) (h0 : 0 < m) => padS_some h h0; obtain ⟨m, hm⟩ : ∃ m, L.length % 8 = m := ⟨_, rfl⟩; obtain ⟨r, hr⟩ : ∃ r, numL (L.drop (8 * (L.length / 8))) = r := ⟨_, rfl⟩; rw [hm, hr] at hb hrb; rw [hm] at hp0; rw [hr] at hp1; have hp1 := hp1 m hm; have hm8 : m < 8 := by omega
  have c0 : w.cell? ⟨wb, 0, none⟩ = some (.slice a n c) := hb.cell rfl; have c1 : w.cell? ⟨wb, 1, none⟩ = some (.int .u32 r) := hb.cell rfl; have c2 : w.cell? ⟨wb, 2, none⟩ = some (.int .i64 m) := hb.cell rfl; have hST := fun W (a : Option Addr) (n c : Nat) (z : List Int) (hs : Sl W a n c 1 (ints .u8 z)) (hn : n ≤ 1000000) => stuff_any a n c z W hs hn; clear h ho; have hb' := Lib.hid hb; have hown' := Lib.hid hown; have hbit' := Lib.hid hbit; have hrb' := Lib.hid hrb; have hn' := Lib.hid hn; have hsl' := Lib.hid hsl; have hp0' := Lib.hid hp0; have hp1' := Lib.hid hp1; have hm' := Lib.hid hm; have hr' := Lib.hid hr; have hST' := Lib.hid hST; clear hb hown hbit hrb hn hsl hp0 hp1 hm hr hST
  by_cases hm0 : m = 0
  · subst hm0
    have d1 : decide ((8 : Int) - 0 < 8) = false := by decide
    have hz : packS (padS L) = packS L := by rw [hp0'.out rfl]
    have hz' := Lib.hid hz; clear hz
    go_enter Try.func86, Try.ntmps86
    go_wp2_with fail
    refine (hST'.out w a n c _ hsl'.out (by have h1 : n = _ := hn'.out; omega)).mono ?_; rintro e w1 ⟨a2, m2, c2, rfl, h1, h2, h3⟩; have h1' := Lib.hid h1; have h2' := Lib.hid h2; have h3' := Lib.hid h3; clear h1 h2 h3
    go_wp2_with fail
    go_ret
    unfold bytesS; rw [hz'.out]; exact ⟨a2, m2, c2, rfl, h1'.out, h2'.out, h3'.out⟩
  · have hpm : 0 < m := by omega
    have hz := hp1'.out hpm; obtain ⟨k, hk⟩ : ∃ k, 8 - m = k := ⟨_, rfl⟩; rw [hk] at hz; have hsub : (8 : Int) - (m : Int) = (k : Int) := by omega
    have d1 : decide ((k : Int) < 8) = true := by simp; omega
    have hla := last_u32 hrb'.out.1 hrb'.out.2 hm8 k (by omega); obtain ⟨y, hy⟩ : ∃ y, r * 2 ^ k + (2 ^ k - 1) = y := ⟨_, rfl⟩; rw [hy] at hz hla
    have hkp : (2 : Int) ^ k % 4294967296 = 2 ^ k := by
      have h1 : (2 : Int) ^ k ≤ 2 ^ 16 := by exact_mod_cast Nat.pow_le_pow_right (by decide : 0 < 2) (by omega)
      have h2 := pow_pos2 k
      omega
    have hyb : 0 ≤ y ∧ y < 256 := by
      have h1 := hrb'.out; have h2 := pow_pos2 k; have h3 : (2 : Int) ^ m * 2 ^ k = 256 := by rw [← Int.pow_add, show m + k = 8 by omega]; rfl
      have h4 : r * 2 ^ k ≤ (2 ^ m - 1) * 2 ^ k := Int.mul_le_mul_of_nonneg_right (by omega) (by omega); have h5 := Int.mul_nonneg h1.1 (Int.le_of_lt h2); rw [Int.sub_mul, Int.one_mul] at h4
      omega
    have hy8 : y % 256 = y := Int.emod_eq_of_lt hyb.1 hyb.2; obtain ⟨Ty, ff, hnn, hbel, hsurj⟩ := later_worlds w; have HD := Lib.hid ((Below.refl w.heap.size w).drew); have HS := Lib.hid (hsurj w.drew HD.out); have k1 : ∀ s, (ff s).cell? ⟨wb, 1, none⟩ = some (.int .u32 r) := fun s => (hb'.out.late (hbel s)).cell rfl; have hz' := Lib.hid hz; have hk' := Lib.hid hk; have hy' := Lib.hid hy; have hbel' := Lib.hid hbel; have hsurj' := Lib.hid hsurj; have hyb' := Lib.hid hyb; clear hz hk hy hbel hsurj hyb
    go_enter Try.func86, Try.ntmps86
    go_upto_region 6 with fail
    refine held_begin (S := fun W => ∃ s, W = ff s) (by kernel_rfl) 16 rfl ?_; obtain ⟨wD, hwD⟩ : ∃ wD, w.drew = wD := ⟨_, rfl⟩; rw [hwD] at HS HD ⊢; clear hwD; refine held_take [0, 2, 3, 4, 5, 6, 7, 8, 9, 10, 11, 12] 4 (by kernel_rfl) (fun d _ _ _ _ h => by cases d <;> exact h) (by kernel_rfl) (by kernel_rfl) (by kernel_rfl) HS.out ?_; simp only [pickL, List.map_cons, List.map_nil, List.getD_cons_succ, List.getD_cons_zero]
    iterate 12 (go_big_quiet_step (fail))
    refine wpQuiet_nil ?_; refine held_two 1 13 3 (by kernel_rfl) (by kernel_rfl) ?_ ?_
    · simp only [pickL, List.map_cons, List.map_nil, List.getD_cons_succ, List.getD_cons_zero]
      go_wp2_with fail
      refine (clip_any a n c (packS L) wD (hsl'.out.mono HD.out)).mono ?_; rintro e w1 ⟨rfl, hq1⟩; have hd1 := HD.out.trans ((hq1.below _).mono HD.out.size); have HS := Lib.hid (hsurj'.out w1 hd1); have hq1' := Lib.hid hq1; have hd1' := Lib.hid hd1; clear hq1 hd1
      go_wp2_with fail
      refine Mid.mk ⟨HS.out, ?_⟩; refine held_one 13 2 (by kernel_rfl) (by kernel_rfl) ?_; simp only [pickL, List.map_cons, List.map_nil, List.getD_cons_succ, List.getD_cons_zero]; have hal := (Below.refl w1.heap.size w1).alloc (Nat.le_refl _) (.cells #[.int .u8 y] 5); have hd2 := hd1'.out.trans (hal.mono hd1'.out.size); have s2 := Sl.new w1 5 1 1 #[.int .u8 y] (0, 0) (by decide) rfl; have HS := Lib.hid (hsurj'.out _ hd2); obtain ⟨w2, hw2⟩ : ∃ x, w1.alloc (.cells #[.int .u8 y] 5) = x := ⟨_, rfl⟩; rw [hw2] at hd2 s2 HS; obtain ⟨gl, hgl⟩ : ∃ x, w1.heap.size = x := ⟨_, rfl⟩; rw [hgl] at s2; clear hal; have hd2' := Lib.hid hd2; have s2' := Lib.hid s2; have hw2' := Lib.hid hw2; have hgl' := Lib.hid hgl; clear hd2 s2 hw2 hgl
      go_wp2_with fail
      rw [hgl'.out, hw2'.out]; clear hgl' hw2'; refine Mid.mk ⟨HS.out, ?_⟩; refine held_one 14 1 (by kernel_rfl) (by kernel_rfl) ?_; simp only [pickL, List.map_cons, List.map_nil, List.getD_cons_succ, List.getD_cons_zero]
      go_wp2_with (at_builtin; refine wpList_app_full rfl _ _ 30 rfl 5 i0 _ 1 1 Try.underlying30 hi hz0 hz1 hz2 rfl (by decide) a n (ints .u8 (packS L)) rfl (Sl.narrow (hsl'.out.mono hd2'.out)) ⟨gl, 0, none⟩ 1 1 [.int .u8 y] rfl s2'.out (by decide) (by simp [Value.oneCell']) (by have h1 : n = _ := hn'.out; omega) (by decide) ?_; intro a5 c5 w5 ho5 hg5; have Ho5 := Lib.hid ho5; have Hg5 := Lib.hid hg5; clear ho5 hg5)
      have hd5 : Below w.heap.size w w5 := hd2'.out.trans ⟨Hg5.out.os, Hg5.out.tape, Hg5.out.output, Hg5.out.size, fun k hk => Hg5.out.block k (Nat.lt_of_lt_of_le hk hd2'.out.size) (by simp)⟩; have HS5 := Lib.hid (hsurj'.out _ hd5); have ho5 := own_mono Ho5.out hd2'.out.size; have hz5 : ints .u8 (packS L) ++ [.int .u8 y] = ints .u8 (packS (padS L)) := by rw [hz'.out, ints_append (k := .u8)]; rfl
      rw [hz5] at ho5; have hsl5 := (Sl.of_own ho5).1; clear hz5; have hd5' := Lib.hid hd5; have ho5' := Lib.hid ho5; have hsl5' := Lib.hid hsl5; clear hd5 ho5 hsl5; refine Mid.mk ⟨HS5.out, ?_⟩; refine held_one 15 0 (by kernel_rfl) (by kernel_rfl) ?_; simp only [pickL, List.map_cons, List.map_nil, List.getD_cons_succ, List.getD_cons_zero]
      go_wp2_with fail
      refine Mid.mk ⟨HS5.out, ?_⟩; refine held_last (by kernel_rfl) ?_
      go_wp2_with fail
      refine (hST'.out w5 a5 (n + 1) c5 _ hsl5'.out (by have h1 : n = _ := hn'.out; omega)).mono ?_; rintro e w6 ⟨a6, m6, c6, rfl, h1, h2, h3⟩; have h7 := hd5'.out.trans (h3.mono hd5'.out.size); have h8 := own_mono h2 hd5'.out.size; have h1' := Lib.hid h1; have h7' := Lib.hid h7; have h8' := Lib.hid h8; clear h1 h7 h8
      go_wp2_with fail
      go_ret
      exact ⟨a6, m6, c6, rfl, h1'.out, h8'.out, h7'.out⟩
    · simp only [pickL, List.map_cons, List.map_nil, List.getD_cons_succ, List.getD_cons_zero]
      have hal := (Below.refl wD.heap.size wD).alloc (Nat.le_refl _) (.cells #[.int .u8 y] 5); have hd2 := HD.out.trans (hal.mono HD.out.size); have s2 := Sl.new wD 5 1 1 #[.int .u8 y] (0, 0) (by decide) rfl; have HS := Lib.hid (hsurj'.out _ hd2); obtain ⟨w2, hw2⟩ : ∃ x, wD.alloc (.cells #[.int .u8 y] 5) = x := ⟨_, rfl⟩; rw [hw2] at hd2 s2 HS; obtain ⟨gl, hgl⟩ : ∃ x, wD.heap.size = x := ⟨_, rfl⟩; rw [hgl] at s2; clear hal; have hd2' := Lib.hid hd2; have s2' := Lib.hid s2; have hw2' := Lib.hid hw2; have hgl' := Lib.hid hgl; clear hd2 s2 hw2 hgl
      go_wp2_with fail
      rw [hgl'.out, hw2'.out]; clear hgl' hw2'; refine Mid.mk ⟨HS.out, ?_⟩; refine held_one 1 2 (by kernel_rfl) (by kernel_rfl) ?_; simp only [pickL, List.map_cons, List.map_nil, List.getD_cons_succ, List.getD_cons_zero]
      go_wp2_with fail
      refine (clip_any a n c (packS L) w2 (hsl'.out.mono hd2'.out)).mono ?_; rintro e w1 ⟨rfl, hq1⟩; have hd1 := hd2'.out.trans ((hq1.below _).mono hd2'.out.size); have HS := Lib.hid (hsurj'.out w1 hd1); have hq1' := Lib.hid hq1; have hd1' := Lib.hid hd1; clear hq1 hd1
      go_wp2_with fail
      refine Mid.mk ⟨HS.out, ?_⟩; have s2 := Lib.hid (s2'.out.qt hq1'.out); clear s2'; have s2' := s2; clear s2; refine held_one 14 1 (by kernel_rfl) (by kernel_rfl) ?_; simp only [pickL, List.map_cons, List.map_nil, List.getD_cons_succ, List.getD_cons_zero]
      go_wp2_with (at_builtin; refine wpList_app_full rfl _ _ 30 rfl 5 i0 _ 1 1 Try.underlying30 hi hz0 hz1 hz2 rfl (by decide) a n (ints .u8 (packS L)) rfl (Sl.narrow (hsl'.out.mono hd1'.out)) ⟨gl, 0, none⟩ 1 1 [.int .u8 y] rfl s2'.out (by decide) (by simp [Value.oneCell']) (by have h1 : n = _ := hn'.out; omega) (by decide) ?_; intro a5 c5 w5 ho5 hg5; have Ho5 := Lib.hid ho5; have Hg5 := Lib.hid hg5; clear ho5 hg5)
      have hd5 : Below w.heap.size w w5 := hd1'.out.trans ⟨Hg5.out.os, Hg5.out.tape, Hg5.out.output, Hg5.out.size, fun k hk => Hg5.out.block k (Nat.lt_of_lt_of_le hk hd1'.out.size) (by simp)⟩; have HS5 := Lib.hid (hsurj'.out _ hd5); have ho5 := own_mono Ho5.out hd1'.out.size; have hz5 : ints .u8 (packS L) ++ [.int .u8 y] = ints .u8 (packS (padS L)) := by rw [hz'.out, ints_append (k := .u8)]; rfl
      rw [hz5] at ho5; have hsl5 := (Sl.of_own ho5).1; clear hz5; have hd5' := Lib.hid hd5; have ho5' := Lib.hid ho5; have hsl5' := Lib.hid hsl5; clear hd5 ho5 hsl5; refine Mid.mk ⟨HS5.out, ?_⟩; refine held_one 15 0 (by kernel_rfl) (by kernel_rfl) ?_; simp only [pickL, List.map_cons, List.map_nil, List.getD_cons_succ, List.getD_cons_zero]
      go_wp2_with fail
      refine Mid.mk ⟨HS5.out, ?_⟩; refine held_last (by kernel_rfl) ?_
      go_wp2_with fail
      refine (hST'.out w5 a5 (n + 1) c5 _ hsl5'.out (by have h1 : n = _ := hn'.out; omega)).mono ?_; rintro e w6 ⟨a6, m6, c6, rfl, h1, h2, h3⟩; have h7 := hd5'.out.trans (h3.mono hd5'.out.size); have h8 := own_mono h2 hd5'.out.size; have h1' := Lib.hid h1; have h7' := Lib.hid h7; have h8' := Lib.hid h8; clear h1 h7 h8
      go_wp2_with fail
      go_ret
      exact ⟨a6, m6, c6, rfl, h1'.out, h8'.out, h7'.out⟩
end Go.Proofs.Ytpjopeojeglogaa

namespace Go.Proofs.Ytpjopeojeglogaa
open Go.RowKit Tt
set_option linter.unusedVariables false
set_option linter.unusedSimpArgs false

def bitV (x : Int × Nat) : List Value := [.int .i64 x.1, .int .i64 x.2]
def bitsC (l : List (Int × Nat)) : List Value := (l.map bitV).flatten
theorem bitsC_app (l m : List (Int × Nat)) : bitsC (l ++ m) = bitsC l ++ bitsC m := by simp [bitsC]
theorem infoBits : (Try.prog.info? 102).map (fun i => (i.zero, i.size, i.bytes)) = some (some (.agg #[.int .i64 0, .int .i64 0]), 2, 16) := by kernel_rfl
theorem lvlS_take {c : List Int} {i j : Nat} (h : (j : Int) < c.getD i 0) : (lvlS c i).take (j + 1) = (lvlS c i).take j ++ [(valS c i + j, i + 1)] := by
  unfold lvlS; rw [List.take_add_one, ← List.map_take, List.getElem?_map, List.getElem?_range (by omega)]
  rfl
theorem lvlS_len (c : List Int) (i : Nat) : (lvlS c i).length = (c.getD i 0).toNat := by unfold lvlS; rw [List.length_map, List.length_range]
theorem codes_le {c : List Int} (h : CntOk c) {i : Nat} (hi : i ≤ 16) : (codesTo c i).length ≤ 65536 := by
  have h1 := (codes_inv h i hi).2.2; have h2 := many_bd (c := c) i fun j hj => h.ok j (by omega)
  omega
set_option maxRecDepth 20000 in
set_option maxHeartbeats 2000000 in
theorem codes_any (c : List Int) (a : Option Addr) (n cp : Nat) (w : World) (hc : c.length = 16) (hok : CntOk c) :
    Calls Try.prog 140 #[hV c a n cp] w fun e w' => ∃ a2 c2, e = .returned (.slice a2 (codesS c).length c2) ∧ w'.ownsRow w.heap.size 102 2 (.slice a2 (codesS c).length c2) (codesS c).length (bitsC (codesS c)) ∧ Below w.heap.size w w' := by
  obtain ⟨i1, hi, hz0, hz1, hz2⟩ := info_parts infoBits; unfold hV; have hcl : (ints .i64 c).length = 16 := by rw [ints_len, hc]
  obtain ⟨B, hB⟩ : ∃ B, (ints .i64 c ++ [Value.slice a n cp]).toArray = B := ⟨_, rfl⟩; obtain ⟨A, hA⟩ : ∃ A, (ints .i64 c).toArray = A := ⟨_, rfl⟩; have b1 := Blk.new w 45 B; have hb1 := (Below.refl w.heap.size w).alloc (Nat.le_refl _) (.cells B 45); obtain ⟨W1, hW1⟩ : ∃ W1, w.alloc (.cells B 45) = W1 := ⟨_, rfl⟩; rw [hW1] at b1 hb1
  have HC : ∀ j v, (ints .i64 c)[j]? = some v → W1.cell? ⟨w.heap.size, 0 + j, none⟩ = some v := fun j v h => by
    refine b1.cell ?_; rw [← hB, Nat.zero_add]; simp only [List.getElem?_toArray]; rw [List.getElem?_append_left (List.getElem?_eq_some_iff.1 h).1, h]
  have hix : ∀ (k : Nat) x, c[k]? = some x → k < 16 → ∀ W, (Instr.index 43 (.agg A) (.int .i64 k)).run Try.prog W = .ok (.int .i64 x) W := fun k x h1 h2 W => by
    rw [← hA]; exact run_index_arr _ _ 16 c .i64 k x Try.underlying43 Try.underlying3 (by kernel_rfl) h1 h2 W
  rw [hB]; have HA := Lib.hid hA; clear hA hB; have hb1' := Lib.hid hb1; have b1' := Lib.hid b1; have HC' := Lib.hid HC; have hix' := Lib.hid hix; have hcl' := Lib.hid hcl; have hc' := Lib.hid hc; have hW1' := Lib.hid hW1; have hok' := Lib.hid hok; clear hb1 b1 HC hix hcl hc hW1 hok
  go_enter Try.func140, Try.ntmps140
  go_upto_region 3 with fail
  rw [hW1'.out]
  go_wp2_with (refine wpList_load_at rfl 43 (.tmp 7) rfl w.heap.size 0 rfl (ints .i64 c) A HA.out _ HC'.out Try.underlying43 rfl 16 (by kernel_rfl) hcl'.out ?_)
  go_loopw [3, 4, 9] (fun ov cv iv wr => ∃ (k m : Nat) (V : Int) (a2 : Option Addr) (c2 : Nat), k ≤ 16 ∧ iv = .int .i64 k ∧ cv = .int .i64 V ∧ ov = .slice a2 m c2 ∧ Hid (m = (codesTo c k).length ∧ V = valS c k) ∧ Hid (wr.ownsRow w.heap.size 102 2 (.slice a2 m c2) m (bitsC (codesTo c k))) ∧ Hid (Below w.heap.size w wr)) (fun _ _ iv _ => 16 - (intOf iv).toNat)
  case atStart => exact ⟨0, 0, 0, none, 0, by omega, rfl, rfl, rfl, Lib.hid ⟨rfl, rfl⟩, Lib.hid (own_nil _ _ _ _), hb1'⟩
  case round =>
    obtain ⟨k, m, V, a2, c2, hk, rfl, rfl, rfl, hmV, hown, hbel⟩ := hrel
    by_cases hlt : k < 16
    · obtain ⟨x, hx⟩ : ∃ x, c[k]? = some x := ⟨_, List.getElem?_eq_getElem (by rw [hc'.out]; exact hlt)⟩
      have hxd : c.getD k 0 = x := by rw [List.getD_eq_getElem?_getD, hx]; rfl
      have hik := hix'.out k x hx hlt; obtain ⟨v0, v1, v2, _⟩ := hok'.out.val hlt; have hsm := hok'.out.small hlt; have hp16 : (2 : Int) ^ (k + 1) ≤ 2 ^ 16 := by exact_mod_cast Nat.pow_le_pow_right (by decide : 0 < 2) (by omega)
      rw [hxd, ← hmV.out.2] at hsm; rw [hxd] at v1 v2; rw [← hmV.out.2] at v0; have hml := codes_le hok'.out (show k ≤ 16 by omega); rw [← hmV.out.1] at hml; have hV : 0 ≤ V ∧ V + x < 65536 := by omega
      obtain ⟨n, rfl⟩ : ∃ n : Nat, x = n := ⟨x.toNat, by omega⟩; obtain ⟨hV1, hV2⟩ := hV; clear hsm hp16 v0 v1; have hx' := Lib.hid hx; have hxd' := Lib.hid hxd; clear hx hxd
      go_wp2
      go_loopw [3, 4, 14] (fun ov cv jv wx => ∃ (j : Nat) (a3 : Option Addr) (c3 : Nat), j ≤ n ∧ jv = .int .i64 j ∧ cv = .int .i64 (V + j) ∧ ov = .slice a3 (m + j) c3 ∧ Hid (wx.ownsRow w.heap.size 102 2 (.slice a3 (m + j) c3) (m + j) (bitsC (codesTo c k ++ (lvlS c k).take j))) ∧ Hid (Below w.heap.size w wx)) (fun _ _ jv _ => n - (intOf jv).toNat)
      case atStart => exact ⟨0, a2, c2, by omega, rfl, by simp, by simp, Lib.hid (by simpa using hown.out), hbel⟩
      case round =>
        obtain ⟨j, a3, c3, hj, rfl, rfl, rfl, ho3, hb3⟩ := hrel
        by_cases hjl : j < n
        · have hsz := hb3.out.size
          have hsn : bitsC (codesTo c k ++ (lvlS c k).take (j + 1)) = bitsC (codesTo c k ++ (lvlS c k).take j) ++ [.int .i64 (V + j), .int .i64 (k + 1 : Nat)] := by
            rw [lvlS_take (by rw [hxd'.out]; omega), ← List.append_assoc, bitsC_app _ [_], ← hmV.out.2]; rfl
          have hsn2 : bitsC (codesTo c k ++ (lvlS c k).take (j + 1)) = bitsC (codesTo c k ++ (lvlS c k).take j) ++ (#[Value.int .i64 (V + j), .int .i64 ((k : Int) + 1)]).toList := hsn; clear hsn; have hsz' := Lib.hid hsz; have hsn2' := Lib.hid hsn2; clear hsz hsn2
          go_wp2_with (at_builtin; refine wpList_app_lit rfl _ _ 106 rfl w.heap.size 102 i1 _ 2 16 Try.underlying106 hi hz0 hz1 hz2 rfl (by decide) _ (m + j) _ rfl ho3.out #[.int .i64 (V + j), .int .i64 ((k : Int) + 1)] rfl rfl (by simp [Value.oneCell']) (by omega) (by decide) w hb3.out hsz'.out ?_; intro a5 c5 w5 ho5 hb5; have Ho5 := Lib.hid ho5; have Hb5 := Lib.hid hb5; clear ho5 hb5)
          refine ⟨⟨_, _, _, ⟨j + 1, by omega, by go_num, by go_num, a5, c5, rfl, Lib.hid (by rw [hsn2'.out]; exact Ho5.out)⟩, rfl, rfl, rfl⟩, ?_⟩
          simp [intOf]; omega
        · obtain rfl : j = n := by omega
          have ht : (lvlS c k).take j = lvlS c k := List.take_of_length_le (by rw [lvlS_len, hxd'.out]; omega); rw [ht, ← codesTo_succ] at ho3; have hm2 : m + j = (codesTo c (k + 1)).length := by rw [codesTo_succ, List.length_append, ← hmV.out.1, lvlS_len, hxd'.out]; omega
          have hv2 : (V + j) * 2 = valS c (k + 1) := by show _ = 2 * (valS c k + c.getD k 0); rw [← hmV.out.2, hxd'.out]; omega
          have ht' := Lib.hid ht; have hm2' := Lib.hid hm2; have hv2' := Lib.hid hv2; clear ht hm2 hv2
          go_wp2
          go_roundw
          case rel => exact ⟨k + 1, m + j, (V + j) * 2, a3, c3, by omega, by go_num, by go_num, rfl, Lib.hid ⟨hm2'.out, hv2'.out⟩, ho3, hb3⟩
          case measure => simp [intOf]; omega
    · obtain rfl : k = 16 := by omega
      have h1 := hmV.out.1; have h2 := hown.out; rw [h1] at h2; clear hown; have h1' := Lib.hid h1; have h2' := Lib.hid h2; clear h1 h2
      go_wp2
      go_ret
      refine ⟨a2, c2, ?_, h2'.out, hbel.out⟩; rw [h1'.out]; rfl
end Go.Proofs.Ytpjopeojeglogaa
