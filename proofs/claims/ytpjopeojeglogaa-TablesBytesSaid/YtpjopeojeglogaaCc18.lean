/- slices.Collect, Sorted, Compact over ints; whether numbers of planes are unlike: the program and the document. | Chapter 4: whether a table may be: the program. A map from ints to ints that the call makes. -/
import Derived.Test.YtpjopeojeglogaaCc10
import Derived.Test.YtpjopeojeglogaaCc17
import Derived.Maps.Own
import Derived.Maps.OwnOps
import Derived.Maps.Views
import Derived.Test.YtpjopeojeglogaaCc01
import Derived.Test.YtpjopeojeglogaaCc12
namespace Go.Proofs.Ytpjopeojeglogaa
open Go.RowKit Tt
set_option linter.unusedVariables false
set_option linter.unusedSimpArgs false

theorem collect_any (pb : Nat) (a : Option Addr) (n c : Nat) (ls : List Int) (w : World) (hpb : pb < w.heap.size) (hc : w.cell? ⟨pb, 0, none⟩ = some (.slice a n c)) (hs : Sl w a n c 1 (ints .i64 ls)) (hn : n ≤ 1000000) :
    Calls Try.prog 218 #[.func (.func 219) #[] #[.pointer (some ⟨pb, 0, none⟩)]] w fun e w' => ∃ a' c', e = .returned (.slice a' n c') ∧ w'.ownsRow w.heap.size 3 1 (.slice a' n c') n (ints .i64 ls) ∧ Below w.heap.size w w' := by
  have HA := appseq_any pb a n c ls w hpb hc hs hn; clear hc hs; have HA' := Lib.hid HA; clear HA
  go_enter Try.func218, Try.ntmps218
  go_wp2_with fail
  refine HA'.out.mono ?_; rintro e w2 ⟨a2, c2, rfl, ho, hb⟩; have ho' := Lib.hid ho; have hb' := Lib.hid hb; clear ho hb
  go_wp2
  go_ret
  exact ⟨a2, c2, rfl, ho'.out, hb'.out⟩
theorem sorted_any (pb : Nat) (a : Option Addr) (n c : Nat) (ls : List Int) (w : World) (hpb : pb < w.heap.size) (hc : w.cell? ⟨pb, 0, none⟩ = some (.slice a n c)) (hs : Sl w a n c 1 (ints .i64 ls)) (hn : n ≤ 1000000) :
    Calls Try.prog 192 #[.func (.func 219) #[] #[.pointer (some ⟨pb, 0, none⟩)]] w fun e w' => ∃ a' c', e = .returned (.slice a' n c') ∧ w'.ownsRow w.heap.size 3 1 (.slice a' n c') n (ints .i64 (ls.mergeSort fun x y => decide (x ≤ y))) ∧ Below w.heap.size w w' := by
  have HA := collect_any pb a n c ls w hpb hc hs hn; clear hc hs; have HA' := Lib.hid HA; clear HA
  go_enter Try.func192, Try.ntmps192
  go_wp2_with fail
  refine HA'.out.mono ?_; rintro e w2 ⟨a2, c2, rfl, ho, hb⟩; have HS := isort_any w.heap.size a2 n c2 ls w2 ho (by omega); have ho' := Lib.hid ho; have hb' := Lib.hid hb; have HS' := Lib.hid HS; clear ho hb HS
  go_wp2_with fail
  refine HS'.out.mono ?_; rintro e w3 ⟨rfl, ho3, hg3⟩; have hb3 := below_grown hb'.out hg3 hb'.out.size ho'.out; clear hg3; have ho3' := Lib.hid ho3; have hb3' := Lib.hid hb3; clear ho3 hb3
  go_wp2
  go_ret
  exact ⟨a2, c2, rfl, ho3'.out, hb3'.out⟩
theorem compact_any (B0 : Nat) (a : Option Addr) (n c : Nat) (xs : List Int) (w : World) (ho : w.ownsRow B0 3 1 (.slice a n c) n (ints .i64 xs)) :
    Calls Try.prog 194 #[.slice a n c] w fun e w' => ∃ a' c', e = .returned (.slice a' (Lib.compact xs).length c') ∧ Below B0 w w' := by
  have hl : xs.length = n := by have := ho.1; rw [ints_len] at this; omega
  rcases Nat.eq_zero_or_pos n with h0 | h0
  · subst h0
    have hx : xs = [] := List.eq_nil_of_length_eq_zero hl; subst hx; refine (Try.slices_Compact_int_empty a c w).mono ?_; rintro e w' ⟨rfl, rfl⟩; exact ⟨a, c, rfl, Below.refl _ _⟩
  · rcases ho.2 with ⟨_, h1⟩ | ⟨g, cap, cur, hv, hB, hg, h1, h2, h3, h4⟩
    · omega
    · cases hv
      have hb := holds_of_blockI hg (by rw [hl]; simpa [ints] using h4); have hs := Try.slices_Compact_int g 0 c xs w hb (by unfold maxLen at h2; omega) (by omega); rw [hl] at hs; refine hs.mono ?_; rintro e w' ⟨rfl, q, rfl⟩; refine ⟨_, _, rfl, ?_⟩; have := grownBy_sortedI (w := w) (g := g) (n := q) (os := #[]) (Lib.compact xs ++ List.replicate (n - (Lib.compact xs).length) 0).toArray; have e0 : ∀ w0 : World, Sort.grow w0 #[] = w0 := fun w0 => by simp [Sort.grow]
      rw [e0] at this; exact (Below.refl B0 w).grown this (Nat.le_trans hB (Nat.le_of_lt (Array.getElem?_eq_some_iff.1 hg).1)) (fun k e => by injection e with e; omega)

theorem compact_len (zs : List Int) : (Lib.compact zs).length = zs.length ↔ ∀ j, 0 < j → j < zs.length → zs.getD j 0 ≠ zs.getD (j - 1) 0 := by
  unfold Lib.compact Lib.compactUpTo; rw [List.length_map]; have e : (List.range zs.length).length = zs.length := by simp
  constructor
  · intro h j h0 hj he
    have h2 : ∀ a ∈ List.range zs.length, Lib.keeps zs.toArray a = true := List.length_filter_eq_length_iff.1 (by rw [h, e]); have h3 := h2 j (List.mem_range.2 hj); unfold Lib.keeps at h3; rw [decide_eq_true_eq] at h3
    rcases h3 with h3 | h3
    · omega
    · refine h3 ?_
      rw [List.getD_eq_getElem?_getD, List.getD_eq_getElem?_getD, List.getElem?_eq_getElem hj, List.getElem?_eq_getElem (by omega)] at he; rw [getElem!_pos zs.toArray j (by simpa using hj), getElem!_pos zs.toArray (j - 1) (by simp; omega)]
      simpa using he
  · intro h
    have h2 := List.length_filter_eq_length_iff (l := List.range zs.length) (p := Lib.keeps zs.toArray); rw [e] at h2; refine h2.2 fun j hj => ?_; have hj := List.mem_range.1 hj; unfold Lib.keeps; rw [decide_eq_true_eq]
    rcases Nat.eq_zero_or_pos j with h0 | h0
    · exact .inl h0
    · refine .inr fun he => h j h0 hj ?_
      rw [getElem!_pos zs.toArray j (by simpa using hj), getElem!_pos zs.toArray (j - 1) (by simp; omega)] at he; rw [List.getD_eq_getElem?_getD, List.getD_eq_getElem?_getD, List.getElem?_eq_getElem hj, List.getElem?_eq_getElem (by omega)]
      simpa using he
theorem nodup_compact (ls : List Int) : (Lib.compact (ls.mergeSort fun x y => decide (x ≤ y))).length = ls.length ↔ ls.Nodup := by
  have hp : (ls.mergeSort fun x y => decide (x ≤ y)).Perm ls := List.mergeSort_perm ls _
  have hs : (ls.mergeSort fun x y => decide (x ≤ y)).Pairwise (fun x y => x ≤ y) := by
    have := List.pairwise_mergeSort (le := fun x y : Int => decide (x ≤ y)) (by intro a b c h1 h2; simp at *; omega) (by intro a b; simp; omega) ls; exact this.imp (by intro a b h; simpa using h)
  generalize (ls.mergeSort fun x y => decide (x ≤ y)) = zs at *
  rw [← hp.length_eq, compact_len, ← hp.nodup_iff]
  constructor
  · intro h
    rw [List.pairwise_iff_getElem] at hs
    show zs.Pairwise (· ≠ ·)
    rw [List.pairwise_iff_getElem]; intro i j hi hj hij he; have h1 := h j (by omega) hj; rw [List.getD_eq_getElem?_getD, List.getD_eq_getElem?_getD, List.getElem?_eq_getElem hj, List.getElem?_eq_getElem (by omega)] at h1; have h2 : zs[j - 1] ≤ zs[j] := hs (j - 1) j (by omega) hj (by omega)
    have h3 : zs[i] ≤ zs[j - 1] := by
      rcases Nat.lt_or_ge i (j - 1) with h | h
      · exact hs i (j - 1) hi (by omega) h
      · have : i = j - 1 := by omega
        subst this; exact Int.le_refl _
    have h4 : zs[j] ≠ zs[j - 1] := h1
    omega
  · intro h j h0 hj
    have h : zs.Pairwise (· ≠ ·) := h; rw [List.pairwise_iff_getElem] at h; have := h (j - 1) j (by omega) hj (by omega); rw [List.getD_eq_getElem?_getD, List.getD_eq_getElem?_getD, List.getElem?_eq_getElem hj, List.getElem?_eq_getElem (by omega)]; exact fun e => this e.symm
theorem sym_all (ls : List Int) : (List.range ls.length).all (symOk ls) = true ↔ belowS 256 ls = true ∧ ls.Nodup := by
  unfold belowS; rw [List.all_eq_true, List.all_eq_true]
  constructor
  · intro h
    have h2 := fun i (hi : i < ls.length) => symOk_iff.1 (h i (List.mem_range.2 hi)); refine ⟨fun x hx => ?_, ?_⟩
    · obtain ⟨i, hi, rfl⟩ := mem_get hx
      have := (h2 i hi).1; rw [decide_eq_true_eq]; omega
    · show ls.Pairwise (· ≠ ·)
      rw [List.pairwise_iff_getElem]; intro i j hi hj hij he; refine (h2 j hj).2 i hij hi ?_; rw [List.getD_eq_getElem?_getD, List.getD_eq_getElem?_getD, List.getElem?_eq_getElem hj, List.getElem?_eq_getElem hi]; exact he
  · rintro ⟨h1, h2⟩ i hi
    have hi := List.mem_range.1 hi; rw [symOk_iff]; have h3 := h1 _ (get_mem hi); rw [decide_eq_true_eq] at h3; refine ⟨by omega, fun k hk hkl he => ?_⟩; have h2 : ls.Pairwise (· ≠ ·) := h2; rw [List.pairwise_iff_getElem] at h2; refine h2 k i hkl hi hk ?_; rw [List.getD_eq_getElem?_getD, List.getD_eq_getElem?_getD, List.getElem?_eq_getElem hi, List.getElem?_eq_getElem hkl] at he; exact he
theorem idOk_eq (ls : List Int) : idOk ls = (decide (1 ≤ ls.length ∧ ls.length ≤ 4) && (belowS 256 ls && decide ((Lib.compact (ls.mergeSort fun x y => decide (x ≤ y))).length = ls.length))) := by
  unfold idOk; rw [Bool.eq_iff_iff]; simp only [Bool.and_eq_true]; rw [sym_all, decide_eq_true_eq, decide_eq_true_eq, nodup_compact]; exact ⟨fun ⟨⟨a, b⟩, c⟩ => ⟨c, a, b⟩, fun ⟨c, a, b⟩ => ⟨⟨a, b⟩, c⟩⟩
set_option maxHeartbeats 1000000 in
theorem unlike_any (a : Option Addr) (n c : Nat) (ls : List Int) (w : World) (hs : Sl w a n c 1 (ints .i64 ls)) (hn : n ≤ 1000000) : Calls Try.prog 160 #[.slice a n c] w fun e w' => e = .returned (.bool (idOk ls)) ∧ Below w.heap.size w w' := by
  have hl := hs.ilen; have hid := idOk_eq ls; rw [hl] at hid; obtain ⟨m, hm⟩ : ∃ m, idOk ls = m := ⟨_, rfl⟩; rw [hm] at hid ⊢
  have hcl : (Lib.compact (ls.mergeSort fun x y => decide (x ≤ y))).length ≤ 1000000 := by
    have h1 : (Lib.compact (ls.mergeSort fun x y => decide (x ≤ y))).length ≤ (ls.mergeSort fun x y => decide (x ≤ y)).length := by
      unfold Lib.compact Lib.compactUpTo; rw [List.length_map]; exact Nat.le_trans (List.length_filter_le _ _) (by simp)
    have h2 : (ls.mergeSort fun x y => decide (x ≤ y)).length = ls.length := List.length_mergeSort _
    omega
  have b1 := Blk.new w 35 #[.slice a n c]; have hb1 := (Below.refl w.heap.size w).alloc (Nat.le_refl _) (.cells #[.slice a n c] 35); have HV := valsfn_any a n c w; obtain ⟨W1, hW1⟩ : ∃ W1, w.alloc (.cells #[.slice a n c] 35) = W1 := ⟨_, rfl⟩; rw [hW1] at b1 hb1 HV; have HS := sorted_any w.heap.size a n c ls W1 b1.lt (b1.cell rfl) (hs.mono hb1) hn; have HCp := fun B0 (a' : Option Addr) c' w' ho => compact_any B0 a' n c' (ls.mergeSort fun x y => decide (x ≤ y)) w' ho
  generalize hz : (ls.mergeSort fun x y => decide (x ≤ y)) = zs at *
  generalize hq : (Lib.compact zs).length = q at *
  have HB := fun W (hb : Below w.heap.size w W) => below_any 256 a n c ls W (hs.mono hb); obtain ⟨r, hr⟩ : ∃ r, belowS 256 ls = r := ⟨_, rfl⟩; rw [hr] at hid; simp only [hr] at HB; have HV' := Lib.hid HV; have HS' := Lib.hid HS; have HCp' := Lib.hid HCp; have HB' := Lib.hid HB; have hb1' := Lib.hid hb1; have b1' := Lib.hid b1; have hs' := Lib.hid hs; have hl' := Lib.hid hl; have hid' := Lib.hid hid; have hm' := Lib.hid hm; have hz' := Lib.hid hz; have hq' := Lib.hid hq; have hW1' := Lib.hid hW1; have hr' := Lib.hid hr; clear HV HS HCp HB hb1 b1 hs hl hid hm hz hq hW1 hr
  go_enter Try.func160, Try.ntmps160
  go_wp2_with fail
  refine HV'.out.mono ?_; rintro e w2 ⟨rfl, rfl⟩
  go_wp2_with fail
  refine HS'.out.mono ?_; rintro e w3 ⟨a3, c3, rfl, ho3, hb3⟩; have hbw := hb1'.out.trans (hb3.mono hb1'.out.size); have HB3 := HB'.out w3 hbw; have HB3' := Lib.hid HB3; clear HB3
  by_cases h1 : 1 ≤ n ∧ n ≤ 4
  · obtain ⟨h1a, h1b⟩ := h1
    have hid2 := hid'.out; rw [decide_eq_true (show 1 ≤ n ∧ n ≤ 4 from ⟨h1a, h1b⟩), Bool.true_and] at hid2; have ho3' := Lib.hid ho3; have hb3' := Lib.hid hb3; have hbw' := Lib.hid hbw; have hid2' := Lib.hid hid2; clear ho3 hb3 hbw hid2
    go_wp2_with fail
    refine HB3'.out.mono ?_; rintro e w4 ⟨rfl, hb4⟩; have hbw4 := hbw'.out.trans (hb4.mono hbw'.out.size); have ho4 := own_later ho3'.out hb4
    cases r with
    | false =>
      obtain rfl : m = false := hid2'.out; have hbw4' := Lib.hid hbw4; have ho4' := Lib.hid ho4; clear hbw4 ho4; clear hb4
      go_wp2
      go_ret
      exact ⟨rfl, hbw4'.out⟩
    | true =>
      have hid3 : m = decide (q = n) := hid2'.out; have HC := HCp'.out W1.heap.size a3 c3 w4 ho4; have hbW : Below w.heap.size w w4 := hbw4; have hsz := hb1'.out.size; clear hb4; have hbw4' := Lib.hid hbw4; have ho4' := Lib.hid ho4; have hid3' := Lib.hid hid3; have HC' := Lib.hid HC; have hbW' := Lib.hid hbW; clear hbw4 ho4 hid3 HC hbW
      go_wp2_with fail
      refine HC'.out.mono ?_; rintro e w5 ⟨a5, c5, rfl, hb5⟩; have hbw5 := hbw4'.out.trans (hb5.mono hsz)
      by_cases hqn : q = n
      · obtain rfl : m = true := by rw [hid3'.out, hqn]; simp
        subst hqn; have hb5' := Lib.hid hb5; have hbw5' := Lib.hid hbw5; clear hb5 hbw5
        go_wp2
        go_ret
        exact ⟨rfl, hbw5'.out⟩
      · obtain rfl : m = false := by rw [hid3'.out]; simpa using hqn
        have hqb : ((q : Int) == (n : Int)) = false := by simp; omega
        have hqc : (q == n) = false := by simpa using hqn
        clear hqn; have hb5' := Lib.hid hb5; have hbw5' := Lib.hid hbw5; clear hb5 hbw5
        go_wp2
        go_ret
        exact ⟨rfl, hbw5'.out⟩
  · obtain rfl : m = false := by
      have := hid'.out; rw [decide_eq_false h1, Bool.false_and] at this; exact this
    have ho3' := Lib.hid ho3; have hb3' := Lib.hid hb3; have hbw' := Lib.hid hbw; clear ho3 hb3 hbw
    by_cases h2 : 1 ≤ n
    · have h3 : ¬ n ≤ 4 := fun h => h1 ⟨h2, h⟩
      clear h1
      go_wp2
      go_ret
      exact ⟨rfl, hbw'.out⟩
    · clear h1
      go_wp2
      go_ret
      exact ⟨rfl, hbw'.out⟩
end Go.Proofs.Ytpjopeojeglogaa

namespace Go.Proofs.Ytpjopeojeglogaa
open Go.RowKit Tt
set_option linter.unusedVariables false
set_option linter.unusedSimpArgs false

theorem wf_of {n : Int} (h1 : -9223372036854775808 ≤ n) (h2 : n ≤ 9223372036854775807) : (Lit.int .i64 n).wf = true := by
  unfold Lit.wf; rw [Bool.and_eq_true, decide_eq_true_eq, decide_eq_true_eq]; exact ⟨h1, h2⟩
/-- block b is a map from ints to ints, of at most n entries, that has f -/
def CMap (w : World) (b n : Nat) (f : Int → Int) : Prop :=
  ∃ D : DataW Unit, w.ownsMap Try.prog 3 (plainElem Try.prog 3) b n D ∧ Go.Maps.IsMap D ∧ ∀ x, (Lit.int .i64 x).wf = true → D.atKey (.int .i64 x) (.lit (.int .i64 0)) = .lit (.int .i64 (f x))
theorem zeroI (w : World) : (zeroValue 3).run Try.prog w = .ok (.int .i64 0) w := by kernel_rfl
theorem keyI : Go.Maps.Keyed Try.prog 3 := Go.Maps.int_keyed Try.underlying3
theorem CMap.new (w : World) : CMap (w.alloc (.map #[] 0)) w.heap.size 0 (fun _ => 0) := ⟨_, World.ownsMap_made _ _ _ _, Go.Maps.isMap_empty, fun x _ => rfl⟩
theorem CMap.lt {w : World} {b n : Nat} {f : Int → Int} (h : CMap w b n f) : b < w.heap.size := by obtain ⟨D, h, _⟩ := h; exact h.lt
theorem CMap.look {w : World} {b n : Nat} {f : Int → Int} (h : CMap w b n f) {x : Int} (hx : (Lit.int .i64 x).wf = true) : (Instr.lookup 195 (.map (some b)) (.int .i64 x) false).run Try.prog w = .ok (.int .i64 (f x)) w := by
  obtain ⟨D, h, _, hf⟩ := h; obtain ⟨c, h1, h2, _⟩ := h.lookup_int keyI Try.underlying195 Try.underlying3 (zeroI w) (Go.Maps.keyOf_int_mk Try.underlying3 hx); have e : f x = c := (Lit.int.inj (DataW.lit.inj ((hf x hx).symm.trans h2))).2; rw [e]; exact h1
theorem CMap.put {w : World} {b n : Nat} {f : Int → Int} (h : CMap w b n f) (hn : n < 1000000) {x v : Int} (hx : (Lit.int .i64 x).wf = true) (hv : (Lit.int .i64 v).wf = true) :
    ∃ w', (Instr.mapUpdate 195 (.map (some b)) (.int .i64 x) (.int .i64 v)).run Try.prog w = .ok () w' ∧ CMap w' b (n + 1) (fun y => if y = x then v else f y) ∧ But b w w' := by
  obtain ⟨D, h, hi, hf⟩ := h; obtain ⟨w', h1, h2, h3⟩ := h.update keyI Try.underlying195 (by unfold maxLen; omega) (Go.Maps.keyOf_int_mk Try.underlying3 hx) (plainElem_int Try.underlying3 hv); obtain ⟨r1, r2, r3, r4, r5⟩ := h3; refine ⟨w', h1, ⟨_, h2, hi.put _ _, fun y hy => ?_⟩, ⟨r1, r2, r3, r4, fun k hk hne => r5 k hk (by simpa using hne)⟩⟩
  by_cases he : y = x
  · subst he
    show _ = DataW.lit (Lit.int .i64 (if y = y then v else f y))
    rw [if_pos rfl]; exact Go.Maps.atKey_put_same hi (by trivial) _ _
  · show _ = DataW.lit (Lit.int .i64 (if y = x then v else f y))
    rw [if_neg he, ← hf y hy]; exact Go.Maps.atKey_put_other (by intro e; injection e with _ e; exact he e) _ _
end Go.Proofs.Ytpjopeojeglogaa
