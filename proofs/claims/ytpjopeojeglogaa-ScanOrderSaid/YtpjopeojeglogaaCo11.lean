/- Chapter 3: the program's Stuff, Plain, Clip. | Chapter 3: the writer's bytes: Done. -/
import Derived.Test.YtpjopeojeglogaaCo10
import Derived.Test.YtpjopeojeglogaaCo07
namespace Go.Proofs.Ytpjopeojeglogaa
open Go.RowKit Tt
set_option linter.unusedVariables false
set_option linter.unusedSimpArgs false

theorem Sl.narrow {w : World} {a : Option Addr} {n c sz : Nat} {cs : List Value} (h : Sl w a n c sz cs) : Sl w a n n sz cs :=
  ⟨h.len, Nat.le_refl _, by have := h.max; have := h.le; omega, h.lies, fun e => by have := h.fit e; have := h.le; omega⟩
theorem cut_hm {w : World} {a : Option Addr} {n c : Nat} {cs : List Value} (h : Sl w a n c 1 cs) (W : World) :
    (Instr.sliceAt 30 (.slice a n c) none (some (.int .i64 n)) (some (.int .i64 n))).run Try.prog W = .ok (.slice a n n) W := by
  have ht := Try.underlying30; have he : Try.prog.elem 30 = 5 := by unfold Program.elem; rw [ht]
  have hE : ∀ W, (Go.sizeOf 5).run Try.prog W = .ok 1 W := fun W => by kernel_rfl
  have hle := h.le; rw [run_sliceAt_slice (h := by rw [he]; exact ht), run_slice_hm (ht := by rw [he]; exact ht) (h0 := by omega) (h2 := by omega) (h3 := by omega), he, hE]
  have e : (if n = 0 then a else a.map (·.add (0 * 1))) = a := by
    split
    · rfl
    · cases a with
      | none => rfl
      | some x => rw [Option.map_some, Nat.zero_mul]; rfl
  simp only [Result.andThen, sliced, Nat.sub_zero, Int.toNat_natCast, e]
set_option maxRecDepth 20000 in
theorem clip_any (a : Option Addr) (n c : Nat) (z : List Int) (w : World) (hs : Sl w a n c 1 (ints .u8 z)) :
    Calls Try.prog 144 #[.slice a n c] w fun e w' => e = .returned (.slice a n n) ∧ Qt w w' := by
  have h1 := cut_hm hs; clear hs
  go_enter Try.func144, Try.ntmps144
  go_wp2
  go_ret
  exact ⟨rfl, Qt.refl _⟩
set_option maxRecDepth 20000 in
set_option maxHeartbeats 1000000 in
theorem stuff_any (a : Option Addr) (n c : Nat) (z : List Int) (w : World) (hs : Sl w a n c 1 (ints .u8 z)) (hn : n ≤ 1000000) :
    Calls Try.prog 145 #[.slice a n c] w fun e w' => ∃ a2 m c2, e = .returned (.slice a2 m c2) ∧ m = (stuffS z).length ∧ w'.ownsRow w.heap.size 5 1 (.slice a2 m c2) m (ints .u8 (stuffS z)) ∧ Below w.heap.size w w' := by
  obtain ⟨i0, hi, hz0, hz1, hz2⟩ := info_parts info8; have hl := hs.ilen; have hs' := Lib.hid hs; have hl' := Lib.hid hl; clear hs hl
  go_enter Try.func145, Try.ntmps145
  go_wp2
  go_loopw [3, 8] (fun ov iv wr => ∃ (k m : Nat) (a2 : Option Addr) (c2 : Nat), k ≤ n ∧ iv = .int .i64 k ∧ ov = .slice a2 m c2 ∧ m ≤ 2 * k ∧ Hid (m = (stuffS (z.take k)).length) ∧ Hid (wr.ownsRow w.heap.size 5 1 (.slice a2 m c2) m (ints .u8 (stuffS (z.take k)))) ∧ Hid (Below w.heap.size w wr)) (fun _ iv _ => n - (intOf iv).toNat)
  case atStart => exact ⟨0, 0, none, 0, by omega, rfl, rfl, by omega, Lib.hid (by simp [stuffS]), Lib.hid (by simp [stuffS]; exact own_nil _ _ _ _), Lib.hid (Below.refl _ _)⟩
  case round =>
    obtain ⟨k, m, a2, c2, hk, rfl, rfl, hm2, hm, hown, hbel⟩ := hrel
    by_cases hlt : k < n
    · obtain ⟨bb, of, rfl, hbb, f⟩ := (hs'.out.mono hbel.out).at hlt
      have f0 := f k _ (ints_get (by rw [hl'.out]; exact hlt)); have hsz := hbel.out.size; have hnx := stuffS_take (l := z) (k := k) (by rw [hl'.out]; exact hlt); obtain ⟨x, hx⟩ : ∃ x, z.getD k 0 = x := ⟨_, rfl⟩; rw [hx] at f0 hnx; clear f; have hml := hm.out
      by_cases hc : x = 255
      · subst hc
        rw [if_pos rfl] at hnx; have h1 : ints .u8 (stuffS (z.take k)) ++ [.int .u8 255] = ints .u8 (stuffS (z.take k) ++ [255]) := by rw [ints_append (k := .u8)]; rfl
        have h2 : ints .u8 (stuffS (z.take k) ++ [255]) ++ [.int .u8 0] = ints .u8 (stuffS (z.take (k + 1))) := by
          rw [hnx, show (stuffS (z.take k) ++ [255, 0] : List Int) = stuffS (z.take k) ++ [255] ++ [0] by simp]; rw [ints_append (k := .u8) (x := stuffS (z.take k) ++ [255])]; rfl
        have h3 : m + 2 = (stuffS (z.take (k + 1))).length := by rw [hnx, List.length_append, hml]; rfl
        have hx' := Lib.hid hx; have hnx' := Lib.hid hnx; have hsz' := Lib.hid hsz; have hml' := Lib.hid hml; have h1' := Lib.hid h1; have h2' := Lib.hid h2; have h3' := Lib.hid h3; clear hx hnx hsz hml h1 h2 h3
        go_wp2_with (first
          | (at_builtin; refine wpList_app_lit rfl _ _ 30 rfl w.heap.size 5 i0 _ 1 1 Try.underlying30 hi hz0 hz1 hz2 rfl (by decide) _ m _ rfl hown.out #[.int .u8 255] rfl rfl (by simp [Value.oneCell']) (by omega) (by decide) w hbel.out hsz'.out ?_; intro a5 c5 w5 ho5 hb5; have Ho5 := Lib.hid ho5; have Hb5 := Lib.hid hb5; clear ho5 hb5)
          | (at_builtin; refine wpList_app_lit rfl _ _ 30 rfl w.heap.size 5 i0 _ 1 1 Try.underlying30 hi hz0 hz1 hz2 rfl (by decide) _ (m + 1) _ rfl Ho5.out #[.int .u8 0] rfl rfl (by simp [Value.oneCell']) (by omega) (by decide) w Hb5.out Hb5.out.size ?_; intro a6 c6 w6 ho6 hb6; have Ho6 := Lib.hid ho6; have Hb6 := Lib.hid hb6; clear ho6 hb6))
        go_roundw
        case rel => exact ⟨k + 1, m + 2, a6, c6, by omega, by go_num, rfl, by omega, h3', Lib.hid (by rw [← h2'.out, ← h1'.out]; exact Ho6.out), Hb6⟩
        case measure => simp [intOf]; omega
      · rw [if_neg hc] at hnx
        have h1 : ints .u8 (stuffS (z.take k)) ++ [.int .u8 x] = ints .u8 (stuffS (z.take (k + 1))) := by rw [hnx, ints_append (k := .u8)]; rfl
        have h3 : m + 1 = (stuffS (z.take (k + 1))).length := by rw [hnx, List.length_append, hml]; rfl
        have hcd : (x == 255) = false := by simpa using hc
        clear hc; have hx' := Lib.hid hx; have hnx' := Lib.hid hnx; have hsz' := Lib.hid hsz; have hml' := Lib.hid hml; have h1' := Lib.hid h1; have h3' := Lib.hid h3; clear hx hnx hsz hml h1 h3
        go_wp2_with (at_builtin; refine wpList_app_lit rfl _ _ 30 rfl w.heap.size 5 i0 _ 1 1 Try.underlying30 hi hz0 hz1 hz2 rfl (by decide) _ m _ rfl hown.out #[.int .u8 x] rfl rfl (by simp [Value.oneCell']) (by omega) (by decide) w hbel.out hsz'.out ?_; intro a5 c5 w5 ho5 hb5; have Ho5 := Lib.hid ho5; have Hb5 := Lib.hid hb5; clear ho5 hb5)
        go_roundw
        case rel => exact ⟨k + 1, m + 1, a5, c5, by omega, by go_num, rfl, by omega, h3', Lib.hid (by rw [← h1'.out]; exact Ho5.out), Hb5⟩
        case measure => simp [intOf]; omega
    · obtain rfl : k = n := by omega
      have ht : z.take k = z := List.take_of_length_le (by rw [hl'.out]; omega); rw [ht] at hm hown; have ht' := Lib.hid ht; clear ht
      go_wp2
      go_ret
      exact ⟨a2, m, c2, rfl, hm.out, hown.out, hbel.out⟩
theorem bplain_any (a : Option Addr) (n c : Nat) (z : List Int) (w : World) (hs : Sl w a n c 1 (ints .u8 z)) (hn : n ≤ 1000000) :
    Calls Try.prog 149 #[.slice a n c] w fun e w' => ∃ v, e = .returned (.tuple #[v, .bool (decide ((plainS z).2 = z.length))]) ∧ Below w.heap.size w w' := by
  have hP := plain_any a n c z w hs hn; have hl := hs.ilen; have hle := (plainS_le z.length z (Nat.le_refl _)).2; obtain ⟨u, hu⟩ : ∃ u, (plainS z).2 = u := ⟨_, rfl⟩; rw [hu] at hP hle ⊢; rw [hl] at hle ⊢; clear hs; have hP' := Lib.hid hP; have hl' := Lib.hid hl; have hu' := Lib.hid hu; clear hP hl hu
  go_enter Try.func149, Try.ntmps149
  go_wp2_with fail
  refine (hP'.out).mono ?_; rintro e w1 ⟨a2, m, c2, rfl, _, _, hb1⟩
  by_cases h : u = n
  · subst h
    have d : decide ((u : Int) < u) = false := by simp
    have hb1' := Lib.hid hb1; clear hb1
    go_wp2
    go_ret2
    exact ⟨⟨_, rfl⟩, hb1'.out⟩
  · obtain ⟨e, rfl⟩ : ∃ e, n = u + e + 1 := ⟨n - u - 1, by omega⟩
    have d2 : decide (u = u + e + 1) = false := by simp; omega
    have d3 : decide ((u : Int) < (u : Int) + e + 1) = true := by simp; omega
    have hb1' := Lib.hid hb1; have h' := Lib.hid h; have d2' := Lib.hid d2; clear hb1 h d2
    go_wp2
    go_ret2
    first
      | exact ⟨⟨_, rfl⟩, hb1'.out⟩
      | (rw [d2'.out]; exact ⟨⟨_, rfl⟩, hb1'.out⟩)
      | (rw [d2'.out]; exact ⟨_, rfl, hb1'.out⟩)
end Go.Proofs.Ytpjopeojeglogaa

namespace Tt
open Go Go.RowKit
set_option linter.unusedVariables false
set_option linter.unusedSimpArgs false

section
variable {P : Program} {w : World} {ops : Array Oper} {rest : List Oper} {o : Oper} {a : Act} {Q : Exit → Act → World → Prop}
/-- append onto a slice that has no room: the row is a new one -/
theorem wpList_app_full (hgd : o.guard = none) (s x : Operand) (t : TypeId)
    (ho : o.op = .call { callee := .builtin .append, args := #[s, x], argTypes := #[t, t] })
    (e : TypeId) (i : TypeInfo) (z : Value) (size bytes : Nat) (ht : P.underlying t = some (.slice e)) (hi : P.info? e = some i) (hz : i.zero = some z)
    (hsize : i.size = size) (hby : i.bytes = bytes) (hzs : z.cells.size = size) (hsz : 0 < size)
    (ao : Option Addr) (n : Nat) (xs : List Value) (hs : a.eval s = .slice ao n n) (hsl : Sl w ao n n size xs)
    (xa : Addr) (m c : Nat) (news : List Value) (hx : a.eval x = .slice (some xa) m c) (hS : Sl w (some xa) m c size news) (hm : 0 < m) (h1 : ∀ u ∈ news, u.oneCell' = true)
    (hbytes : (n + m) * bytes ≤ 140737488355328) (hb0 : 0 < bytes)
    (h : ∀ (a' : Option Addr) (c' : Nat) (w' : World), w'.ownsRow w.heap.size e size (.slice a' (n + m) c') (n + m) (xs ++ news) → w.grownBy w' none → wpList P ops Q rest (a.put o.dst (.slice a' (n + m) c')) w') : wpList P ops Q (o :: rest) a w := by
  have h63 : n + m ≤ maxLen := by
    have : (n + m) * 1 ≤ (n + m) * bytes := Nat.mul_le_mul_left _ hb0; unfold maxLen; omega
  have hnews : ∀ j u, news[j]? = some u → w.cell? (xa.add j) = some u := fun j u hu => by
    obtain ⟨b, off, e1, _, hc⟩ := hS.lies 0 hm; injection e1 with e1; subst e1; rw [Addr.add_lit]; exact hc j u hu
  refine wpList_append_grows w hgd s x t ho e i z size bytes ht hi hz hsize hby hzs hsz ao n n xs hs (fun hn => ?_) hsl.len (fun b hb j u hj => ?_) xa m c news hx hS.len hnews h1 (by omega) h63 hbytes ?_
  · have := hsl.fit hn
    exact ⟨by omega, by omega⟩
  · subst hb
    have hj2 : j < xs.length := (List.getElem?_eq_some_iff.1 hj).1
    have hn0 : 0 < n := by
      rcases Nat.eq_zero_or_pos n with h0 | h0
      · rw [hsl.len, h0] at hj2; omega
      · exact h0
    obtain ⟨b', off, e1, _, hc⟩ := hsl.lies 0 hn0; injection e1 with e1; subst e1; rw [Addr.add_lit]; exact hc j u hj
  · intro v' w' h2 h3
    rcases h2.2 with ⟨rfl, h0⟩ | ⟨g, cap, cur, rfl, _⟩
    · omega
    · exact h _ _ w' h2 h3
end
theorem numL_ones (k : Nat) : numL (List.replicate k 1) = 2 ^ k - 1 := by
  induction k with
  | zero => rfl
  | succ k ih => rw [List.replicate_succ, numL_cons, List.length_replicate, ih, Int.pow_succ]; omega
theorem padS_none {l : List Int} (h : l.length % 8 = 0) : padS l = l := by unfold padS; rw [h]; simp
theorem padS_some {l : List Int} {m : Nat} (h : l.length % 8 = m) (h0 : 0 < m) :
    packS (padS l) = packS l ++ [numL (l.drop (8 * (l.length / 8))) * 2 ^ (8 - m) + (2 ^ (8 - m) - 1)] := by
  have hl : (padS l).length = 8 * (l.length / 8 + 1) := by unfold padS; rw [List.length_append, List.length_replicate]; omega
  have e : (padS l).length / 8 = l.length / 8 + 1 := by omega
  unfold packS; rw [e, packN_succ]; have e2 : packN (padS l) (l.length / 8) = packN l (l.length / 8) := by unfold padS; rw [packN_app _ _ _ (by omega)]
  rw [e2]
  congr 2
  have hk : (8 - l.length % 8) % 8 = 8 - m := by omega
  unfold padS; rw [hk, List.drop_append_of_le_length (by omega), List.take_of_length_le (by rw [List.length_append, List.length_drop, List.length_replicate]; omega), numL_app, List.length_replicate, numL_ones]
/-- the last byte of a writer -/
theorem last_u32 {r : Int} {m : Nat} (h0 : 0 ≤ r) (h1 : r < 2 ^ m) (hm : m < 8) (k : Nat) (hk : k ≤ 8) :
    bits .or .u32 (r * 2 ^ k % 4294967296) ((2 ^ k - 1) % 4294967296) = r * 2 ^ k + (2 ^ k - 1) := by
  have h := put_u32 (v := 2 ^ k - 1) h0 h1 hm (show k ≤ 16 by omega); have hq := pow_pos2 k; have h2 : (2 : Int) ^ k ≤ 2 ^ 8 := by exact_mod_cast Nat.pow_le_pow_right (by decide : 0 < 2) hk
  rw [low_u32 (by omega) (by omega) (by omega)] at h; have e1 : ((2 : Int) ^ k - 1) % 2 ^ k = 2 ^ k - 1 := Int.emod_eq_of_lt (by omega) (by omega); have e2 : ((2 : Int) ^ k - 1) % 4294967296 = 2 ^ k - 1 := Int.emod_eq_of_lt (by omega) (by omega); have e3 : (2 ^ k - 1 : Int) % 4294967296 % 2 ^ k = 2 ^ k - 1 := by rw [e2, e1]
  rw [e2]; simp only [e1, e2] at h; exact h
end Tt
namespace Go.Proofs.Ytpjopeojeglogaa
open Go.RowKit Tt
set_option linter.unusedVariables false
set_option linter.unusedSimpArgs false
set_option maxRecDepth 20000 in
set_option maxHeartbeats 2000000 in
theorem wdone_any (S : Nat → Prop) (wb : Nat) (L : List Int) (w : World) (h : Wl S w wb L) (hL : L.length ≤ 4000000) :
    Calls Try.prog 86 #[.pointer (some ⟨wb, 0, none⟩)] w fun e w' => ∃ a2 m c2, e = .returned (.slice a2 m c2) ∧ m = (bytesS L).length ∧ w'.ownsRow w.heap.size 5 1 (.slice a2 m c2) m (ints .u8 (bytesS L)) ∧ Below w.heap.size w w' := by
  obtain ⟨i0, hi, hz0, hz1, hz2⟩ := info_parts info8; obtain ⟨a, n, c, hb, ho, hown⟩ := h.ex; have hbit := h.bit; have hrb := numL_bound _ (hbit.drop (8 * (L.length / 8))); rw [List.length_drop, show L.length - 8 * (L.length / 8) = L.length % 8 by omega] at hrb; have hn : n = L.length / 8 := by have := (Sl.of_own ho).1.ilen; unfold packS at this; rw [packN_len] at this; omega
  have hsl := (Sl.of_own ho).1; have hp0 := @padS_none L; have hp1 := fun (m : Nat) (h : L.length % 8 = m) (h0 : 0 < m) => padS_some h h0; obtain ⟨m, hm⟩ : ∃ m, L.length % 8 = m := ⟨_, rfl⟩; obtain ⟨r, hr⟩ : ∃ r, numL (L.drop (8 * (L.length / 8))) = r := ⟨_, rfl⟩; rw [hm, hr] at hb hrb; rw [hm] at hp0; rw [hr] at hp1; have hp1 := hp1 m hm; have hm8 : m < 8 := by omega
  have c0 : w.cell? ⟨wb, 0, none⟩ = some (.slice a n c) := hb.cell rfl; have c1 : w.cell? ⟨wb, 1, none⟩ = some (.int .u32 r) := hb.cell rfl; have c2 : w.cell? ⟨wb, 2, none⟩ = some (.int .i64 m) := hb.cell rfl; have hST := fun W (a : Option Addr) (n c : Nat) (z : List Int) (hs : Sl W a n c 1 (ints .u8 z)) (hn : n ≤ 1000000) => stuff_any a n c z W hs hn; clear h ho; have hb' := Lib.hid hb; have hown' := Lib.hid hown; have hbit' := Lib.hid hbit; have hrb' := Lib.hid hrb; have hn' := Lib.hid hn; have hsl' := Lib.hid hsl; have hp0' := Lib.hid hp0; have hp1' := Lib.hid hp1; have hm' := Lib.hid hm; have hr' := Lib.hid hr; have hST' := Lib.hid hST; clear hb hown hbit hrb hn hsl hp0 hp1 hm hr hST
  by_cases hm0 : m = 0
  · subst hm0
    have d1 : decide ((8 : Int) - 0 < 8) = false := by decide
    have hz : packS (padS L) = packS L := by rw [hp0'.out rfl]
    have hz' := Lib.hid hz; clear hz
    go_enter Try.func86, Try.ntmps86
    go_wp2_with fail
    refine (hST'.out w a n c _ hsl'.out (by have h1 : n = _ := hn'.out; omega)).mono ?_; rintro e w1 ⟨a2, m2, c2, rfl, h1, h2, h3⟩; have h1' := Lib.hid h1; have h2' := Lib.hid h2; have h3' := Lib.hid h3; clear h1 h2 h3
    go_wp2_with fail
    go_ret
    unfold bytesS; rw [hz'.out]; exact ⟨a2, m2, c2, rfl, h1'.out, h2'.out, h3'.out⟩
  · have hpm : 0 < m := by omega
    have hz := hp1'.out hpm; obtain ⟨k, hk⟩ : ∃ k, 8 - m = k := ⟨_, rfl⟩; rw [hk] at hz; have hsub : (8 : Int) - (m : Int) = (k : Int) := by omega
    have d1 : decide ((k : Int) < 8) = true := by simp; omega
    have hla := last_u32 hrb'.out.1 hrb'.out.2 hm8 k (by omega); obtain ⟨y, hy⟩ : ∃ y, r * 2 ^ k + (2 ^ k - 1) = y := ⟨_, rfl⟩; rw [hy] at hz hla
    have hkp : (2 : Int) ^ k % 4294967296 = 2 ^ k := by
      have h1 : (2 : Int) ^ k ≤ 2 ^ 16 := by exact_mod_cast Nat.pow_le_pow_right (by decide : 0 < 2) (by omega)
      have h2 := pow_pos2 k
      omega
    have hyb : 0 ≤ y ∧ y < 256 := by
      have h1 := hrb'.out; have h2 := pow_pos2 k; have h3 : (2 : Int) ^ m * 2 ^ k = 256 := by rw [← Int.pow_add, show m + k = 8 by omega]; rfl
      have h4 : r * 2 ^ k ≤ (2 ^ m - 1) * 2 ^ k := Int.mul_le_mul_of_nonneg_right (by omega) (by omega); have h5 := Int.mul_nonneg h1.1 (Int.le_of_lt h2); rw [Int.sub_mul, Int.one_mul] at h4
      omega
    have hy8 : y % 256 = y := Int.emod_eq_of_lt hyb.1 hyb.2; obtain ⟨Ty, ff, hnn, hbel, hsurj⟩ := later_worlds w; have HD := Lib.hid ((Below.refl w.heap.size w).drew); have HS := Lib.hid (hsurj w.drew HD.out); have k1 : ∀ s, (ff s).cell? ⟨wb, 1, none⟩ = some (.int .u32 r) := fun s => (hb'.out.late (hbel s)).cell rfl; have hz' := Lib.hid hz; have hk' := Lib.hid hk; have hy' := Lib.hid hy; have hbel' := Lib.hid hbel; have hsurj' := Lib.hid hsurj; have hyb' := Lib.hid hyb; clear hz hk hy hbel hsurj hyb
    go_enter Try.func86, Try.ntmps86
    go_upto_region 6 with fail
    refine held_begin (S := fun W => ∃ s, W = ff s) (by kernel_rfl) 16 rfl ?_; obtain ⟨wD, hwD⟩ : ∃ wD, w.drew = wD := ⟨_, rfl⟩; rw [hwD] at HS HD ⊢; clear hwD; refine held_take [0, 2, 3, 4, 5, 6, 7, 8, 9, 10, 11, 12] 4 (by kernel_rfl) (fun d _ _ _ _ h => by cases d <;> exact h) (by kernel_rfl) (by kernel_rfl) (by kernel_rfl) HS.out ?_; simp only [pickL, List.map_cons, List.map_nil, List.getD_cons_succ, List.getD_cons_zero]
    iterate 12 (go_big_quiet_step (fail))
    refine wpQuiet_nil ?_; refine held_two 1 13 3 (by kernel_rfl) (by kernel_rfl) ?_ ?_
    · simp only [pickL, List.map_cons, List.map_nil, List.getD_cons_succ, List.getD_cons_zero]
      go_wp2_with fail
      refine (clip_any a n c (packS L) wD (hsl'.out.mono HD.out)).mono ?_; rintro e w1 ⟨rfl, hq1⟩; have hd1 := HD.out.trans ((hq1.below _).mono HD.out.size); have HS := Lib.hid (hsurj'.out w1 hd1); have hq1' := Lib.hid hq1; have hd1' := Lib.hid hd1; clear hq1 hd1
      go_wp2_with fail
      refine Mid.mk ⟨HS.out, ?_⟩; refine held_one 13 2 (by kernel_rfl) (by kernel_rfl) ?_; simp only [pickL, List.map_cons, List.map_nil, List.getD_cons_succ, List.getD_cons_zero]; have hal := (Below.refl w1.heap.size w1).alloc (Nat.le_refl _) (.cells #[.int .u8 y] 5); have hd2 := hd1'.out.trans (hal.mono hd1'.out.size); have s2 := Sl.new w1 5 1 1 #[.int .u8 y] (0, 0) (by decide) rfl; have HS := Lib.hid (hsurj'.out _ hd2); obtain ⟨w2, hw2⟩ : ∃ x, w1.alloc (.cells #[.int .u8 y] 5) = x := ⟨_, rfl⟩; rw [hw2] at hd2 s2 HS; obtain ⟨gl, hgl⟩ : ∃ x, w1.heap.size = x := ⟨_, rfl⟩; rw [hgl] at s2; clear hal; have hd2' := Lib.hid hd2; have s2' := Lib.hid s2; have hw2' := Lib.hid hw2; have hgl' := Lib.hid hgl; clear hd2 s2 hw2 hgl
      go_wp2_with fail
      rw [hgl'.out, hw2'.out]; clear hgl' hw2'; refine Mid.mk ⟨HS.out, ?_⟩; refine held_one 14 1 (by kernel_rfl) (by kernel_rfl) ?_; simp only [pickL, List.map_cons, List.map_nil, List.getD_cons_succ, List.getD_cons_zero]
      go_wp2_with (at_builtin; refine wpList_app_full rfl _ _ 30 rfl 5 i0 _ 1 1 Try.underlying30 hi hz0 hz1 hz2 rfl (by decide) a n (ints .u8 (packS L)) rfl (Sl.narrow (hsl'.out.mono hd2'.out)) ⟨gl, 0, none⟩ 1 1 [.int .u8 y] rfl s2'.out (by decide) (by simp [Value.oneCell']) (by have h1 : n = _ := hn'.out; omega) (by decide) ?_; intro a5 c5 w5 ho5 hg5; have Ho5 := Lib.hid ho5; have Hg5 := Lib.hid hg5; clear ho5 hg5)
      have hd5 : Below w.heap.size w w5 := hd2'.out.trans ⟨Hg5.out.os, Hg5.out.tape, Hg5.out.output, Hg5.out.size, fun k hk => Hg5.out.block k (Nat.lt_of_lt_of_le hk hd2'.out.size) (by simp)⟩; have HS5 := Lib.hid (hsurj'.out _ hd5); have ho5 := own_mono Ho5.out hd2'.out.size; have hz5 : ints .u8 (packS L) ++ [.int .u8 y] = ints .u8 (packS (padS L)) := by rw [hz'.out, ints_append (k := .u8)]; rfl
      rw [hz5] at ho5; have hsl5 := (Sl.of_own ho5).1; clear hz5; have hd5' := Lib.hid hd5; have ho5' := Lib.hid ho5; have hsl5' := Lib.hid hsl5; clear hd5 ho5 hsl5; refine Mid.mk ⟨HS5.out, ?_⟩; refine held_one 15 0 (by kernel_rfl) (by kernel_rfl) ?_; simp only [pickL, List.map_cons, List.map_nil, List.getD_cons_succ, List.getD_cons_zero]
      go_wp2_with fail
      refine Mid.mk ⟨HS5.out, ?_⟩; refine held_last (by kernel_rfl) ?_
      go_wp2_with fail
      refine (hST'.out w5 a5 (n + 1) c5 _ hsl5'.out (by have h1 : n = _ := hn'.out; omega)).mono ?_; rintro e w6 ⟨a6, m6, c6, rfl, h1, h2, h3⟩; have h7 := hd5'.out.trans (h3.mono hd5'.out.size); have h8 := own_mono h2 hd5'.out.size; have h1' := Lib.hid h1; have h7' := Lib.hid h7; have h8' := Lib.hid h8; clear h1 h7 h8
      go_wp2_with fail
      go_ret
      exact ⟨a6, m6, c6, rfl, h1'.out, h8'.out, h7'.out⟩
    · simp only [pickL, List.map_cons, List.map_nil, List.getD_cons_succ, List.getD_cons_zero]
      have hal := (Below.refl wD.heap.size wD).alloc (Nat.le_refl _) (.cells #[.int .u8 y] 5); have hd2 := HD.out.trans (hal.mono HD.out.size); have s2 := Sl.new wD 5 1 1 #[.int .u8 y] (0, 0) (by decide) rfl; have HS := Lib.hid (hsurj'.out _ hd2); obtain ⟨w2, hw2⟩ : ∃ x, wD.alloc (.cells #[.int .u8 y] 5) = x := ⟨_, rfl⟩; rw [hw2] at hd2 s2 HS; obtain ⟨gl, hgl⟩ : ∃ x, wD.heap.size = x := ⟨_, rfl⟩; rw [hgl] at s2; clear hal; have hd2' := Lib.hid hd2; have s2' := Lib.hid s2; have hw2' := Lib.hid hw2; have hgl' := Lib.hid hgl; clear hd2 s2 hw2 hgl
      go_wp2_with fail
      rw [hgl'.out, hw2'.out]; clear hgl' hw2'; refine Mid.mk ⟨HS.out, ?_⟩; refine held_one 1 2 (by kernel_rfl) (by kernel_rfl) ?_; simp only [pickL, List.map_cons, List.map_nil, List.getD_cons_succ, List.getD_cons_zero]
      go_wp2_with fail
      refine (clip_any a n c (packS L) w2 (hsl'.out.mono hd2'.out)).mono ?_; rintro e w1 ⟨rfl, hq1⟩; have hd1 := hd2'.out.trans ((hq1.below _).mono hd2'.out.size); have HS := Lib.hid (hsurj'.out w1 hd1); have hq1' := Lib.hid hq1; have hd1' := Lib.hid hd1; clear hq1 hd1
      go_wp2_with fail
      refine Mid.mk ⟨HS.out, ?_⟩; have s2 := Lib.hid (s2'.out.qt hq1'.out); clear s2'; have s2' := s2; clear s2; refine held_one 14 1 (by kernel_rfl) (by kernel_rfl) ?_; simp only [pickL, List.map_cons, List.map_nil, List.getD_cons_succ, List.getD_cons_zero]
      go_wp2_with (at_builtin; refine wpList_app_full rfl _ _ 30 rfl 5 i0 _ 1 1 Try.underlying30 hi hz0 hz1 hz2 rfl (by decide) a n (ints .u8 (packS L)) rfl (Sl.narrow (hsl'.out.mono hd1'.out)) ⟨gl, 0, none⟩ 1 1 [.int .u8 y] rfl s2'.out (by decide) (by simp [Value.oneCell']) (by have h1 : n = _ := hn'.out; omega) (by decide) ?_; intro a5 c5 w5 ho5 hg5; have Ho5 := Lib.hid ho5; have Hg5 := Lib.hid hg5; clear ho5 hg5)
      have hd5 : Below w.heap.size w w5 := hd1'.out.trans ⟨Hg5.out.os, Hg5.out.tape, Hg5.out.output, Hg5.out.size, fun k hk => Hg5.out.block k (Nat.lt_of_lt_of_le hk hd1'.out.size) (by simp)⟩; have HS5 := Lib.hid (hsurj'.out _ hd5); have ho5 := own_mono Ho5.out hd1'.out.size; have hz5 : ints .u8 (packS L) ++ [.int .u8 y] = ints .u8 (packS (padS L)) := by rw [hz'.out, ints_append (k := .u8)]; rfl
      rw [hz5] at ho5; have hsl5 := (Sl.of_own ho5).1; clear hz5; have hd5' := Lib.hid hd5; have ho5' := Lib.hid ho5; have hsl5' := Lib.hid hsl5; clear hd5 ho5 hsl5; refine Mid.mk ⟨HS5.out, ?_⟩; refine held_one 15 0 (by kernel_rfl) (by kernel_rfl) ?_; simp only [pickL, List.map_cons, List.map_nil, List.getD_cons_succ, List.getD_cons_zero]
      go_wp2_with fail
      refine Mid.mk ⟨HS5.out, ?_⟩; refine held_last (by kernel_rfl) ?_
      go_wp2_with fail
      refine (hST'.out w5 a5 (n + 1) c5 _ hsl5'.out (by have h1 : n = _ := hn'.out; omega)).mono ?_; rintro e w6 ⟨a6, m6, c6, rfl, h1, h2, h3⟩; have h7 := hd5'.out.trans (h3.mono hd5'.out.size); have h8 := own_mono h2 hd5'.out.size; have h1' := Lib.hid h1; have h7' := Lib.hid h7; have h8' := Lib.hid h8; clear h1 h7 h8
      go_wp2_with fail
      go_ret
      exact ⟨a6, m6, c6, rfl, h1'.out, h8'.out, h7'.out⟩
end Go.Proofs.Ytpjopeojeglogaa
