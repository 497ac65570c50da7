/- slices.Grow of nil, slices.Concat: over bytes, over ints. -/
import Derived.Lib.AppendZeros
import Derived.Test.YtpjopeojeglogaaCd06
import Derived.Test.YtpjopeojeglogaaCd07
namespace Go.Proofs.Ytpjopeojeglogaa
open Go.RowKit Tt
set_option linter.unusedVariables false
set_option linter.unusedSimpArgs false

/-- a slice of numbers, and what it reads as -/
abbrev Rw4 := Option Addr × Nat × Nat × List Int
def rwV (r : Rw4) : Value := .slice r.1 r.2.1 r.2.2.1
def rwF (rs : List Rw4) (k : Nat) : List Int := ((rs.take k).map (·.2.2.2)).flatten
theorem rwF_snoc {rs : List Rw4} {k : Nat} {r : Rw4} (h : rs[k]? = some r) : rwF rs (k + 1) = rwF rs k ++ r.2.2.2 := by
  unfold rwF; rw [List.take_add_one, h]
  simp
theorem rwF_le {rs : List Rw4} {k j : Nat} (h : k ≤ j) : (rwF rs k).length ≤ (rwF rs j).length := by
  unfold rwF; obtain ⟨m, rfl⟩ : ∃ m, j = k + m := ⟨j - k, by omega⟩; rw [List.take_add, List.map_append, List.flatten_append, List.length_append]
  omega
theorem rwF_all {rs : List Rw4} {n : Nat} (h : rs.length ≤ n) : rwF rs n = (rs.map (·.2.2.2)).flatten := by unfold rwF; rw [List.take_of_length_le h]
set_option maxHeartbeats 1000000 in
theorem bgrow_any (k : Nat) (w : World) (hk : k ≤ 1000000) : Calls Try.prog 164 #[.slice none 0 0, .int .i64 k] w fun e w' => ∃ a c, e = .returned (.slice a 0 c) ∧ w'.ownsRow w.heap.size 5 1 (.slice a 0 c) 0 [] ∧ Below w.heap.size w w' := by
  obtain ⟨i0, hi, hz0, hz1, hz2⟩ := info_parts info8
  rcases Nat.eq_zero_or_pos k with h0 | h0
  · subst h0
    go_enter Try.func164, Try.ntmps164
    go_wp2
    go_ret
    exact ⟨none, 0, rfl, own_nil _ _ _ _, Below.refl _ _⟩
  · have hr := fun ty => Lib.run_append_nil_zeros (P := Try.prog) w 30 3 ty 5 i0 (.int .u8 0) .i64 .i64 Try.underlying30 Try.underlying3 hi hz0 k h0 (by rw [hz1]; omega) (by omega) (by rw [hz2]; omega)
    have hge := grownCap_ge w k 0 5; have hcm := grownCap_le_maxLen w k 0 5 (by unfold maxLen; omega); obtain ⟨w1, hw1⟩ : ∃ w1, (w.drew.alloc (.cells (Builtin.zeroCells (Value.int .u8 0).cells k ++ Builtin.zeroCells (Value.int .u8 0).cells (grownCap w k 0 5 - k)) 5)) = w1 := ⟨_, rfl⟩
    have hown : w1.ownsRow w.heap.size 5 1 (.slice (some ⟨w.heap.size, 0, none⟩) 0 (grownCap w k 0 5)) 0 [] := by
      rw [← hw1]; exact ⟨by simp, .inr ⟨w.heap.size, _, _, rfl, Nat.le_refl _, heap_alloc_new w.drew _, Nat.zero_le _, hcm, by simp [size_zeroCells, Value.cells]; omega, by simp⟩⟩
    have hbel : Below w.heap.size w w1 := by rw [← hw1]; exact (Below.refl w.heap.size w).drew.alloc (Nat.le_refl _) _
    rw [hw1] at hr
    generalize grownCap w k 0 5 = cp at *
    clear hw1 hi hz0 hz1 hz2 hcm
    have hcut : ∀ W, (Instr.sliceAt 30 (.slice (some ⟨w.heap.size, 0, none⟩) k cp) none (some (.int .i64 0)) none).run Try.prog W = .ok (.slice (some ⟨w.heap.size, 0, none⟩) 0 cp) W := fun W => by
      have he : Try.prog.elem 30 = 5 := by unfold Program.elem; rw [Try.underlying30]
      rw [run_sliceAt_slice (h := by rw [he]; exact Try.underlying30), run_slice_h (ht := by rw [he]; exact Try.underlying30) (h0 := by omega) (h2 := by omega), he]; have hE : (Go.sizeOf 5).run Try.prog W = .ok 1 W := by kernel_rfl
      rw [hE]; simp only [Result.andThen, sliced]
      by_cases hc0 : cp = 0
      · simp [hc0, Addr.add_lit]
      · simp [hc0, Addr.add_lit]
    have hown' := Lib.hid hown; have hbel' := Lib.hid hbel; clear hown hbel
    go_enter Try.func164, Try.ntmps164
    go_wp2_with (at_builtin; refine Lib.wpList_append_run _ rfl _ _ 30 3 rfl _ _ rfl rfl _ _ (hr _) ?_)
    go_ret
    exact ⟨_, _, rfl, hown'.out, hbel'.out⟩
set_option maxRecDepth 20000 in
set_option maxHeartbeats 1000000 in
theorem bconcat_any (a : Option Addr) (n c : Nat) (rs : List Rw4) (w : World) (hs : Sl w a n c 1 (rs.map rwV)) (hr : ∀ r ∈ rs, Sl w r.1 r.2.1 r.2.2.1 1 (ints .u8 r.2.2.2)) (hn : n ≤ 1000000) (ht : (rs.map (·.2.2.2)).flatten.length ≤ 1000000) :
    Calls Try.prog 120 #[.slice a n c] w fun e w' => ∃ a2 m c2, e = .returned (.slice a2 m c2) ∧ m = (rs.map (·.2.2.2)).flatten.length ∧ w'.ownsRow w.heap.size 5 1 (.slice a2 m c2) m (ints .u8 (rs.map (·.2.2.2)).flatten) ∧ Below w.heap.size w w' := by
  obtain ⟨i0, hi, hz0, hz1, hz2⟩ := info_parts info8; have hl : rs.length = n := by have := hs.len; simpa using this
  rw [← rwF_all (Nat.le_of_eq hl)] at ht ⊢; have hle := fun k (h : k ≤ n) => @rwF_le rs k n h; have hrow := fun k r (h : rs[k]? = some r) => hr r (List.mem_of_getElem? h); clear hr; have hs' := Lib.hid hs; have hl' := Lib.hid hl; have hle' := Lib.hid hle; have hrow' := Lib.hid hrow; clear hs hl hle hrow
  go_enter Try.func120, Try.ntmps120
  go_wp2
  go_loop [3, 11] (fun sv iv => ∃ k S : Nat, k ≤ n ∧ S ≤ 1000000 ∧ iv = .int .i64 k ∧ sv = .int .i64 S ∧ Hid (S = (rwF rs k).length)) (fun _ iv => n - (intOf iv).toNat)
  case atStart => exact ⟨0, 0, by omega, by omega, rfl, rfl, Lib.hid rfl⟩
  case round =>
    obtain ⟨k, S, hk, hS, rfl, rfl, hSe⟩ := hrel
    by_cases hlt : k < n
    · obtain ⟨r, hrk⟩ : ∃ r, rs[k]? = some r := ⟨_, List.getElem?_eq_getElem (by rw [hl'.out]; exact hlt)⟩
      obtain ⟨bb, o, rfl, hbb, f⟩ := hs'.out.at hlt; have f0 := f k (rwV r) (by rw [List.getElem?_map, hrk]; rfl); have hsn := rwF_snoc hrk; have hil := (hrow'.out k r hrk).ilen; obtain ⟨ra, rn, rc, rl⟩ := r; simp only [rwV] at f0 hil hsn; have h2 := hle'.out (k + 1) hlt; have hnew : S + rn = (rwF rs (k + 1)).length := by rw [hsn, List.length_append, ← hSe.out, hil]
      have hb2 : S + rn ≤ 1000000 := by omega
      clear f h2; have hrk' := Lib.hid hrk; have hsn' := Lib.hid hsn; have hil' := Lib.hid hil; have hnew' := Lib.hid hnew; clear hrk hsn hil hnew
      go_wp2
      go_round
      case rel => exact ⟨k + 1, S + rn, by omega, hb2, by go_num, by go_num, hnew'⟩
      case measure => simp [intOf]; omega
    · have hkn : k = n := by omega
      have hG := fun W => bgrow_any S W hS; have hG' := Lib.hid hG; have hkn' := Lib.hid hkn; clear hG hkn
      go_wp2_with fail
      refine (hG'.out _).mono ?_; rintro e w2 ⟨a2, c2, rfl, ho, hb⟩; have ho' := Lib.hid ho; have hb' := Lib.hid hb; clear ho hb
      go_wp2
      go_loopw [6, 27] (fun bv iv wr => ∃ (k m : Nat) (a3 : Option Addr) (c3 : Nat), k ≤ n ∧ m ≤ 1000000 ∧ iv = .int .i64 k ∧ bv = .slice a3 m c3 ∧ Hid (m = (rwF rs k).length) ∧ Hid (wr.ownsRow w.heap.size 5 1 (.slice a3 m c3) m (ints .u8 (rwF rs k))) ∧ Hid (Below w.heap.size w wr)) (fun _ iv _ => n - (intOf iv).toNat)
      case atStart => exact ⟨0, 0, a2, c2, by omega, by omega, rfl, rfl, Lib.hid rfl, ho', hb'⟩
      case round =>
        obtain ⟨k, m, a3, c3, hk, hm, rfl, rfl, hme, hown, hbel⟩ := hrel
        by_cases hlt : k < n
        · obtain ⟨r, hrk⟩ : ∃ r, rs[k]? = some r := ⟨_, List.getElem?_eq_getElem (by rw [hl'.out]; exact hlt)⟩
          obtain ⟨bb, o, rfl, hbb, f⟩ := (hs'.out.mono hbel.out).at hlt; have f0 := f k (rwV r) (by rw [List.getElem?_map, hrk]; rfl); have hsn := rwF_snoc hrk; have hsl := (hrow'.out k r hrk).mono hbel.out; obtain ⟨ra, rn, rc, rl⟩ := r; simp only [rwV] at f0 hsl hsn; have hil := hsl.ilen; have h2 := hle'.out (k + 1) hlt; have hnew : m + rn = (rwF rs (k + 1)).length := by rw [hsn, List.length_append, ← hme.out, hil]
          have hb2 : m + rn ≤ 1000000 := by omega
          have hsz := hbel.out.size; clear f h2; have hrk' := Lib.hid hrk; have hsn' := Lib.hid hsn; have hil' := Lib.hid hil; have hnew' := Lib.hid hnew; have hsl' := Lib.hid hsl; have hsz' := Lib.hid hsz; clear hrk hsn hil hnew hsl hsz
          go_wp2_with (at_builtin; refine wpList_app rfl _ _ 30 rfl w.heap.size 5 i0 _ 1 1 Try.underlying30 hi hz0 hz1 hz2 rfl (by decide) _ m _ rfl hown.out ra rn rc _ rfl hsl'.out ints_one (by omega) (by decide) hsz'.out ?_; intro a5 c5 w5 ho5 hb5 hg5; have Ho5 := Lib.hid (ints_append (k := .u8) ▸ ho5); have Hb5 := Lib.hid (hbel.out.trans hb5); clear ho5 hb5 hg5)
          go_roundw
          case rel => exact ⟨k + 1, m + rn, a5, c5, by omega, hb2, by go_num, rfl, hnew', Lib.hid (by rw [hsn'.out]; exact Ho5.out), Hb5⟩
          case measure => simp [intOf]; omega
        · have hkn : k = n := by omega
          have hown2 := hown.out; have hme2 := hme.out; rw [hkn] at hown2 hme2; have hown2' := Lib.hid hown2; have hme2' := Lib.hid hme2; have hkn' := Lib.hid hkn; clear hown2 hme2 hkn
          go_wp2
          go_ret
          exact ⟨a3, m, c3, rfl, hme2'.out, hown2'.out, hbel.out⟩
set_option maxHeartbeats 1000000 in
theorem igrow_any (k : Nat) (w : World) (hk : k ≤ 1000000) : Calls Try.prog 191 #[.slice none 0 0, .int .i64 k] w fun e w' => ∃ a c, e = .returned (.slice a 0 c) ∧ w'.ownsRow w.heap.size 3 1 (.slice a 0 c) 0 [] ∧ Below w.heap.size w w' := by
  obtain ⟨i0, hi, hz0, hz1, hz2⟩ := info_parts infoI
  rcases Nat.eq_zero_or_pos k with h0 | h0
  · subst h0
    go_enter Try.func191, Try.ntmps191
    go_wp2
    go_ret
    exact ⟨none, 0, rfl, own_nil _ _ _ _, Below.refl _ _⟩
  · have hr := fun ty => Lib.run_append_nil_zeros (P := Try.prog) w 35 3 ty 3 i0 (.int .i64 0) .i64 .i64 Try.underlying35 Try.underlying3 hi hz0 k h0 (by rw [hz1]; omega) (by omega) (by rw [hz2]; omega)
    have hge := grownCap_ge w k 0 3; have hcm := grownCap_le_maxLen w k 0 3 (by unfold maxLen; omega); obtain ⟨w1, hw1⟩ : ∃ w1, (w.drew.alloc (.cells (Builtin.zeroCells (Value.int .i64 0).cells k ++ Builtin.zeroCells (Value.int .i64 0).cells (grownCap w k 0 3 - k)) 3)) = w1 := ⟨_, rfl⟩
    have hown : w1.ownsRow w.heap.size 3 1 (.slice (some ⟨w.heap.size, 0, none⟩) 0 (grownCap w k 0 3)) 0 [] := by
      rw [← hw1]; exact ⟨by simp, .inr ⟨w.heap.size, _, _, rfl, Nat.le_refl _, heap_alloc_new w.drew _, Nat.zero_le _, hcm, by simp [size_zeroCells, Value.cells]; omega, by simp⟩⟩
    have hbel : Below w.heap.size w w1 := by rw [← hw1]; exact (Below.refl w.heap.size w).drew.alloc (Nat.le_refl _) _
    rw [hw1] at hr
    generalize grownCap w k 0 3 = cp at *
    clear hw1 hi hz0 hz1 hz2 hcm
    have hcut : ∀ W, (Instr.sliceAt 35 (.slice (some ⟨w.heap.size, 0, none⟩) k cp) none (some (.int .i64 0)) none).run Try.prog W = .ok (.slice (some ⟨w.heap.size, 0, none⟩) 0 cp) W := fun W => by
      have he : Try.prog.elem 35 = 3 := by unfold Program.elem; rw [Try.underlying35]
      rw [run_sliceAt_slice (h := by rw [he]; exact Try.underlying35), run_slice_h (ht := by rw [he]; exact Try.underlying35) (h0 := by omega) (h2 := by omega), he]; have hE : (Go.sizeOf 3).run Try.prog W = .ok 1 W := by kernel_rfl
      rw [hE]; simp only [Result.andThen, sliced]
      by_cases hc0 : cp = 0
      · simp [hc0, Addr.add_lit]
      · simp [hc0, Addr.add_lit]
    have hown' := Lib.hid hown; have hbel' := Lib.hid hbel; clear hown hbel
    go_enter Try.func191, Try.ntmps191
    go_wp2_with (at_builtin; refine Lib.wpList_append_run _ rfl _ _ 35 3 rfl _ _ rfl rfl _ _ (hr _) ?_)
    go_ret
    exact ⟨_, _, rfl, hown'.out, hbel'.out⟩
set_option maxRecDepth 20000 in
set_option maxHeartbeats 1000000 in
theorem iconcat_any (a : Option Addr) (n c : Nat) (rs : List Rw4) (w : World) (hs : Sl w a n c 1 (rs.map rwV)) (hr : ∀ r ∈ rs, Sl w r.1 r.2.1 r.2.2.1 1 (ints .i64 r.2.2.2)) (hn : n ≤ 1000000) (ht : (rs.map (·.2.2.2)).flatten.length ≤ 1000000) :
    Calls Try.prog 159 #[.slice a n c] w fun e w' => ∃ a2 m c2, e = .returned (.slice a2 m c2) ∧ m = (rs.map (·.2.2.2)).flatten.length ∧ w'.ownsRow w.heap.size 3 1 (.slice a2 m c2) m (ints .i64 (rs.map (·.2.2.2)).flatten) ∧ Below w.heap.size w w' := by
  obtain ⟨i0, hi, hz0, hz1, hz2⟩ := info_parts infoI; have hl : rs.length = n := by have := hs.len; simpa using this
  rw [← rwF_all (Nat.le_of_eq hl)] at ht ⊢; have hle := fun k (h : k ≤ n) => @rwF_le rs k n h; have hrow := fun k r (h : rs[k]? = some r) => hr r (List.mem_of_getElem? h); clear hr; have hs' := Lib.hid hs; have hl' := Lib.hid hl; have hle' := Lib.hid hle; have hrow' := Lib.hid hrow; clear hs hl hle hrow
  go_enter Try.func159, Try.ntmps159
  go_wp2
  go_loop [3, 11] (fun sv iv => ∃ k S : Nat, k ≤ n ∧ S ≤ 1000000 ∧ iv = .int .i64 k ∧ sv = .int .i64 S ∧ Hid (S = (rwF rs k).length)) (fun _ iv => n - (intOf iv).toNat)
  case atStart => exact ⟨0, 0, by omega, by omega, rfl, rfl, Lib.hid rfl⟩
  case round =>
    obtain ⟨k, S, hk, hS, rfl, rfl, hSe⟩ := hrel
    by_cases hlt : k < n
    · obtain ⟨r, hrk⟩ : ∃ r, rs[k]? = some r := ⟨_, List.getElem?_eq_getElem (by rw [hl'.out]; exact hlt)⟩
      obtain ⟨bb, o, rfl, hbb, f⟩ := hs'.out.at hlt; have f0 := f k (rwV r) (by rw [List.getElem?_map, hrk]; rfl); have hsn := rwF_snoc hrk; have hil := (hrow'.out k r hrk).ilen; obtain ⟨ra, rn, rc, rl⟩ := r; simp only [rwV] at f0 hil hsn; have h2 := hle'.out (k + 1) hlt; have hnew : S + rn = (rwF rs (k + 1)).length := by rw [hsn, List.length_append, ← hSe.out, hil]
      have hb2 : S + rn ≤ 1000000 := by omega
      clear f h2; have hrk' := Lib.hid hrk; have hsn' := Lib.hid hsn; have hil' := Lib.hid hil; have hnew' := Lib.hid hnew; clear hrk hsn hil hnew
      go_wp2
      go_round
      case rel => exact ⟨k + 1, S + rn, by omega, hb2, by go_num, by go_num, hnew'⟩
      case measure => simp [intOf]; omega
    · have hkn : k = n := by omega
      have hG := fun W => igrow_any S W hS; have hG' := Lib.hid hG; have hkn' := Lib.hid hkn; clear hG hkn
      go_wp2_with fail
      refine (hG'.out _).mono ?_; rintro e w2 ⟨a2, c2, rfl, ho, hb⟩; have ho' := Lib.hid ho; have hb' := Lib.hid hb; clear ho hb
      go_wp2
      go_loopw [6, 27] (fun bv iv wr => ∃ (k m : Nat) (a3 : Option Addr) (c3 : Nat), k ≤ n ∧ m ≤ 1000000 ∧ iv = .int .i64 k ∧ bv = .slice a3 m c3 ∧ Hid (m = (rwF rs k).length) ∧ Hid (wr.ownsRow w.heap.size 3 1 (.slice a3 m c3) m (ints .i64 (rwF rs k))) ∧ Hid (Below w.heap.size w wr)) (fun _ iv _ => n - (intOf iv).toNat)
      case atStart => exact ⟨0, 0, a2, c2, by omega, by omega, rfl, rfl, Lib.hid rfl, ho', hb'⟩
      case round =>
        obtain ⟨k, m, a3, c3, hk, hm, rfl, rfl, hme, hown, hbel⟩ := hrel
        by_cases hlt : k < n
        · obtain ⟨r, hrk⟩ : ∃ r, rs[k]? = some r := ⟨_, List.getElem?_eq_getElem (by rw [hl'.out]; exact hlt)⟩
          obtain ⟨bb, o, rfl, hbb, f⟩ := (hs'.out.mono hbel.out).at hlt; have f0 := f k (rwV r) (by rw [List.getElem?_map, hrk]; rfl); have hsn := rwF_snoc hrk; have hsl := (hrow'.out k r hrk).mono hbel.out; obtain ⟨ra, rn, rc, rl⟩ := r; simp only [rwV] at f0 hsl hsn; have hil := hsl.ilen; have h2 := hle'.out (k + 1) hlt; have hnew : m + rn = (rwF rs (k + 1)).length := by rw [hsn, List.length_append, ← hme.out, hil]
          have hb2 : m + rn ≤ 1000000 := by omega
          have hsz := hbel.out.size; clear f h2; have hrk' := Lib.hid hrk; have hsn' := Lib.hid hsn; have hil' := Lib.hid hil; have hnew' := Lib.hid hnew; have hsl' := Lib.hid hsl; have hsz' := Lib.hid hsz; clear hrk hsn hil hnew hsl hsz
          go_wp2_with (at_builtin; refine wpList_app rfl _ _ 35 rfl w.heap.size 3 i0 _ 1 8 Try.underlying35 hi hz0 hz1 hz2 rfl (by decide) _ m _ rfl hown.out ra rn rc _ rfl hsl'.out ints_one (by omega) (by decide) hsz'.out ?_; intro a5 c5 w5 ho5 hb5 hg5; have Ho5 := Lib.hid (ints_append (k := .i64) ▸ ho5); have Hb5 := Lib.hid (hbel.out.trans hb5); clear ho5 hb5 hg5)
          go_roundw
          case rel => exact ⟨k + 1, m + rn, a5, c5, by omega, hb2, by go_num, rfl, hnew', Lib.hid (by rw [hsn'.out]; exact Ho5.out), Hb5⟩
          case measure => simp [intOf]; omega
        · have hkn : k = n := by omega
          have hown2 := hown.out; have hme2 := hme.out; rw [hkn] at hown2 hme2; have hown2' := Lib.hid hown2; have hme2' := Lib.hid hme2; have hkn' := Lib.hid hkn; clear hown2 hme2 hkn
          go_wp2
          go_ret
          exact ⟨a3, m, c3, rfl, hme2'.out, hown2'.out, hbel.out⟩
end Go.Proofs.Ytpjopeojeglogaa
