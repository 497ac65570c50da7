/- slices.Collect, Sorted, Compact over ints; whether numbers of planes are unlike: the program and the document. -/
import Derived.Test.YtpjopeojeglogaaCd07
import Derived.Test.YtpjopeojeglogaaCd14
namespace Go.Proofs.Ytpjopeojeglogaa
open Go.RowKit Tt
set_option linter.unusedVariables false
set_option linter.unusedSimpArgs false

theorem collect_any (pb : Nat) (a : Option Addr) (n c : Nat) (ls : List Int) (w : World) (hpb : pb < w.heap.size) (hc : w.cell? ⟨pb, 0, none⟩ = some (.slice a n c)) (hs : Sl w a n c 1 (ints .i64 ls)) (hn : n ≤ 1000000) :
    Calls Try.prog 218 #[.func (.func 219) #[] #[.pointer (some ⟨pb, 0, none⟩)]] w fun e w' => ∃ a' c', e = .returned (.slice a' n c') ∧ w'.ownsRow w.heap.size 3 1 (.slice a' n c') n (ints .i64 ls) ∧ Below w.heap.size w w' := by
  have HA := appseq_any pb a n c ls w hpb hc hs hn; clear hc hs; have HA' := Lib.hid HA; clear HA
  go_enter Try.func218, Try.ntmps218
  go_wp2_with fail
  refine HA'.out.mono ?_; rintro e w2 ⟨a2, c2, rfl, ho, hb⟩; have ho' := Lib.hid ho; have hb' := Lib.hid hb; clear ho hb
  go_wp2
  go_ret
  exact ⟨a2, c2, rfl, ho'.out, hb'.out⟩
theorem sorted_any (pb : Nat) (a : Option Addr) (n c : Nat) (ls : List Int) (w : World) (hpb : pb < w.heap.size) (hc : w.cell? ⟨pb, 0, none⟩ = some (.slice a n c)) (hs : Sl w a n c 1 (ints .i64 ls)) (hn : n ≤ 1000000) :
    Calls Try.prog 192 #[.func (.func 219) #[] #[.pointer (some ⟨pb, 0, none⟩)]] w fun e w' => ∃ a' c', e = .returned (.slice a' n c') ∧ w'.ownsRow w.heap.size 3 1 (.slice a' n c') n (ints .i64 (ls.mergeSort fun x y => decide (x ≤ y))) ∧ Below w.heap.size w w' := by
  have HA := collect_any pb a n c ls w hpb hc hs hn; clear hc hs; have HA' := Lib.hid HA; clear HA
  go_enter Try.func192, Try.ntmps192
  go_wp2_with fail
  refine HA'.out.mono ?_; rintro e w2 ⟨a2, c2, rfl, ho, hb⟩; have HS := isort_any w.heap.size a2 n c2 ls w2 ho (by omega); have ho' := Lib.hid ho; have hb' := Lib.hid hb; have HS' := Lib.hid HS; clear ho hb HS
  go_wp2_with fail
  refine HS'.out.mono ?_; rintro e w3 ⟨rfl, ho3, hg3⟩; have hb3 := below_grown hb'.out hg3 hb'.out.size ho'.out; clear hg3; have ho3' := Lib.hid ho3; have hb3' := Lib.hid hb3; clear ho3 hb3
  go_wp2
  go_ret
  exact ⟨a2, c2, rfl, ho3'.out, hb3'.out⟩
theorem compact_any (B0 : Nat) (a : Option Addr) (n c : Nat) (xs : List Int) (w : World) (ho : w.ownsRow B0 3 1 (.slice a n c) n (ints .i64 xs)) :
    Calls Try.prog 194 #[.slice a n c] w fun e w' => ∃ a' c', e = .returned (.slice a' (Lib.compact xs).length c') ∧ Below B0 w w' := by
  have hl : xs.length = n := by have := ho.1; rw [ints_len] at this; omega
  rcases Nat.eq_zero_or_pos n with h0 | h0
  · subst h0
    have hx : xs = [] := List.eq_nil_of_length_eq_zero hl; subst hx; refine (Try.slices_Compact_int_empty a c w).mono ?_; rintro e w' ⟨rfl, rfl⟩; exact ⟨a, c, rfl, Below.refl _ _⟩
  · rcases ho.2 with ⟨_, h1⟩ | ⟨g, cap, cur, hv, hB, hg, h1, h2, h3, h4⟩
    · omega
    · cases hv
      have hb := holds_of_blockI hg (by rw [hl]; simpa [ints] using h4); have hs := Try.slices_Compact_int g 0 c xs w hb (by unfold maxLen at h2; omega) (by omega); rw [hl] at hs; refine hs.mono ?_; rintro e w' ⟨rfl, q, rfl⟩; refine ⟨_, _, rfl, ?_⟩; have := grownBy_sortedI (w := w) (g := g) (n := q) (os := #[]) (Lib.compact xs ++ List.replicate (n - (Lib.compact xs).length) 0).toArray; have e0 : ∀ w0 : World, Sort.grow w0 #[] = w0 := fun w0 => by simp [Sort.grow]
      rw [e0] at this; exact (Below.refl B0 w).grown this (Nat.le_trans hB (Nat.le_of_lt (Array.getElem?_eq_some_iff.1 hg).1)) (fun k e => by injection e with e; omega)

theorem compact_len (zs : List Int) : (Lib.compact zs).length = zs.length ↔ ∀ j, 0 < j → j < zs.length → zs.getD j 0 ≠ zs.getD (j - 1) 0 := by
  unfold Lib.compact Lib.compactUpTo; rw [List.length_map]; have e : (List.range zs.length).length = zs.length := by simp
  constructor
  · intro h j h0 hj he
    have h2 : ∀ a ∈ List.range zs.length, Lib.keeps zs.toArray a = true := List.length_filter_eq_length_iff.1 (by rw [h, e]); have h3 := h2 j (List.mem_range.2 hj); unfold Lib.keeps at h3; rw [decide_eq_true_eq] at h3
    rcases h3 with h3 | h3
    · omega
    · refine h3 ?_
      rw [List.getD_eq_getElem?_getD, List.getD_eq_getElem?_getD, List.getElem?_eq_getElem hj, List.getElem?_eq_getElem (by omega)] at he; rw [getElem!_pos zs.toArray j (by simpa using hj), getElem!_pos zs.toArray (j - 1) (by simp; omega)]
      simpa using he
  · intro h
    have h2 := List.length_filter_eq_length_iff (l := List.range zs.length) (p := Lib.keeps zs.toArray); rw [e] at h2; refine h2.2 fun j hj => ?_; have hj := List.mem_range.1 hj; unfold Lib.keeps; rw [decide_eq_true_eq]
    rcases Nat.eq_zero_or_pos j with h0 | h0
    · exact .inl h0
    · refine .inr fun he => h j h0 hj ?_
      rw [getElem!_pos zs.toArray j (by simpa using hj), getElem!_pos zs.toArray (j - 1) (by simp; omega)] at he; rw [List.getD_eq_getElem?_getD, List.getD_eq_getElem?_getD, List.getElem?_eq_getElem hj, List.getElem?_eq_getElem (by omega)]
      simpa using he
theorem nodup_compact (ls : List Int) : (Lib.compact (ls.mergeSort fun x y => decide (x ≤ y))).length = ls.length ↔ ls.Nodup := by
  have hp : (ls.mergeSort fun x y => decide (x ≤ y)).Perm ls := List.mergeSort_perm ls _
  have hs : (ls.mergeSort fun x y => decide (x ≤ y)).Pairwise (fun x y => x ≤ y) := by
    have := List.pairwise_mergeSort (le := fun x y : Int => decide (x ≤ y)) (by intro a b c h1 h2; simp at *; omega) (by intro a b; simp; omega) ls; exact this.imp (by intro a b h; simpa using h)
  generalize (ls.mergeSort fun x y => decide (x ≤ y)) = zs at *
  rw [← hp.length_eq, compact_len, ← hp.nodup_iff]
  constructor
  · intro h
    rw [List.pairwise_iff_getElem] at hs
    show zs.Pairwise (· ≠ ·)
    rw [List.pairwise_iff_getElem]; intro i j hi hj hij he; have h1 := h j (by omega) hj; rw [List.getD_eq_getElem?_getD, List.getD_eq_getElem?_getD, List.getElem?_eq_getElem hj, List.getElem?_eq_getElem (by omega)] at h1; have h2 : zs[j - 1] ≤ zs[j] := hs (j - 1) j (by omega) hj (by omega)
    have h3 : zs[i] ≤ zs[j - 1] := by
      rcases Nat.lt_or_ge i (j - 1) with h | h
      · exact hs i (j - 1) hi (by omega) h
      · have : i = j - 1 := by omega
        subst this; exact Int.le_refl _
    have h4 : zs[j] ≠ zs[j - 1] := h1
    omega
  · intro h j h0 hj
    have h : zs.Pairwise (· ≠ ·) := h; rw [List.pairwise_iff_getElem] at h; have := h (j - 1) j (by omega) hj (by omega); rw [List.getD_eq_getElem?_getD, List.getD_eq_getElem?_getD, List.getElem?_eq_getElem hj, List.getElem?_eq_getElem (by omega)]; exact fun e => this e.symm
theorem sym_all (ls : List Int) : (List.range ls.length).all (symOk ls) = true ↔ belowS 256 ls = true ∧ ls.Nodup := by
  unfold belowS; rw [List.all_eq_true, List.all_eq_true]
  constructor
  · intro h
    have h2 := fun i (hi : i < ls.length) => symOk_iff.1 (h i (List.mem_range.2 hi)); refine ⟨fun x hx => ?_, ?_⟩
    · obtain ⟨i, hi, rfl⟩ := mem_get hx
      have := (h2 i hi).1; rw [decide_eq_true_eq]; omega
    · show ls.Pairwise (· ≠ ·)
      rw [List.pairwise_iff_getElem]; intro i j hi hj hij he; refine (h2 j hj).2 i hij hi ?_; rw [List.getD_eq_getElem?_getD, List.getD_eq_getElem?_getD, List.getElem?_eq_getElem hj, List.getElem?_eq_getElem hi]; exact he
  · rintro ⟨h1, h2⟩ i hi
    have hi := List.mem_range.1 hi; rw [symOk_iff]; have h3 := h1 _ (get_mem hi); rw [decide_eq_true_eq] at h3; refine ⟨by omega, fun k hk hkl he => ?_⟩; have h2 : ls.Pairwise (· ≠ ·) := h2; rw [List.pairwise_iff_getElem] at h2; refine h2 k i hkl hi hk ?_; rw [List.getD_eq_getElem?_getD, List.getD_eq_getElem?_getD, List.getElem?_eq_getElem hi, List.getElem?_eq_getElem hkl] at he; exact he
theorem idOk_eq (ls : List Int) : idOk ls = (decide (1 ≤ ls.length ∧ ls.length ≤ 4) && (belowS 256 ls && decide ((Lib.compact (ls.mergeSort fun x y => decide (x ≤ y))).length = ls.length))) := by
  unfold idOk; rw [Bool.eq_iff_iff]; simp only [Bool.and_eq_true]; rw [sym_all, decide_eq_true_eq, decide_eq_true_eq, nodup_compact]; exact ⟨fun ⟨⟨a, b⟩, c⟩ => ⟨c, a, b⟩, fun ⟨c, a, b⟩ => ⟨⟨a, b⟩, c⟩⟩
set_option maxHeartbeats 1000000 in
theorem unlike_any (a : Option Addr) (n c : Nat) (ls : List Int) (w : World) (hs : Sl w a n c 1 (ints .i64 ls)) (hn : n ≤ 1000000) : Calls Try.prog 160 #[.slice a n c] w fun e w' => e = .returned (.bool (idOk ls)) ∧ Below w.heap.size w w' := by
  have hl := hs.ilen; have hid := idOk_eq ls; rw [hl] at hid; obtain ⟨m, hm⟩ : ∃ m, idOk ls = m := ⟨_, rfl⟩; rw [hm] at hid ⊢
  have hcl : (Lib.compact (ls.mergeSort fun x y => decide (x ≤ y))).length ≤ 1000000 := by
    have h1 : (Lib.compact (ls.mergeSort fun x y => decide (x ≤ y))).length ≤ (ls.mergeSort fun x y => decide (x ≤ y)).length := by
      unfold Lib.compact Lib.compactUpTo; rw [List.length_map]; exact Nat.le_trans (List.length_filter_le _ _) (by simp)
    have h2 : (ls.mergeSort fun x y => decide (x ≤ y)).length = ls.length := List.length_mergeSort _
    omega
  have b1 := Blk.new w 35 #[.slice a n c]; have hb1 := (Below.refl w.heap.size w).alloc (Nat.le_refl _) (.cells #[.slice a n c] 35); have HV := valsfn_any a n c w; obtain ⟨W1, hW1⟩ : ∃ W1, w.alloc (.cells #[.slice a n c] 35) = W1 := ⟨_, rfl⟩; rw [hW1] at b1 hb1 HV; have HS := sorted_any w.heap.size a n c ls W1 b1.lt (b1.cell rfl) (hs.mono hb1) hn; have HCp := fun B0 (a' : Option Addr) c' w' ho => compact_any B0 a' n c' (ls.mergeSort fun x y => decide (x ≤ y)) w' ho
  generalize hz : (ls.mergeSort fun x y => decide (x ≤ y)) = zs at *
  generalize hq : (Lib.compact zs).length = q at *
  have HB := fun W (hb : Below w.heap.size w W) => below_any 256 a n c ls W (hs.mono hb); obtain ⟨r, hr⟩ : ∃ r, belowS 256 ls = r := ⟨_, rfl⟩; rw [hr] at hid; simp only [hr] at HB; have HV' := Lib.hid HV; have HS' := Lib.hid HS; have HCp' := Lib.hid HCp; have HB' := Lib.hid HB; have hb1' := Lib.hid hb1; have b1' := Lib.hid b1; have hs' := Lib.hid hs; have hl' := Lib.hid hl; have hid' := Lib.hid hid; have hm' := Lib.hid hm; have hz' := Lib.hid hz; have hq' := Lib.hid hq; have hW1' := Lib.hid hW1; have hr' := Lib.hid hr; clear HV HS HCp HB hb1 b1 hs hl hid hm hz hq hW1 hr
  go_enter Try.func160, Try.ntmps160
  go_wp2_with fail
  refine HV'.out.mono ?_; rintro e w2 ⟨rfl, rfl⟩
  go_wp2_with fail
  refine HS'.out.mono ?_; rintro e w3 ⟨a3, c3, rfl, ho3, hb3⟩; have hbw := hb1'.out.trans (hb3.mono hb1'.out.size); have HB3 := HB'.out w3 hbw; have HB3' := Lib.hid HB3; clear HB3
  by_cases h1 : 1 ≤ n ∧ n ≤ 4
  · obtain ⟨h1a, h1b⟩ := h1
    have hid2 := hid'.out; rw [decide_eq_true (show 1 ≤ n ∧ n ≤ 4 from ⟨h1a, h1b⟩), Bool.true_and] at hid2; have ho3' := Lib.hid ho3; have hb3' := Lib.hid hb3; have hbw' := Lib.hid hbw; have hid2' := Lib.hid hid2; clear ho3 hb3 hbw hid2
    go_wp2_with fail
    refine HB3'.out.mono ?_; rintro e w4 ⟨rfl, hb4⟩; have hbw4 := hbw'.out.trans (hb4.mono hbw'.out.size); have ho4 := own_later ho3'.out hb4
    cases r with
    | false =>
      obtain rfl : m = false := hid2'.out; have hbw4' := Lib.hid hbw4; have ho4' := Lib.hid ho4; clear hbw4 ho4; clear hb4
      go_wp2
      go_ret
      exact ⟨rfl, hbw4'.out⟩
    | true =>
      have hid3 : m = decide (q = n) := hid2'.out; have HC := HCp'.out W1.heap.size a3 c3 w4 ho4; have hbW : Below w.heap.size w w4 := hbw4; have hsz := hb1'.out.size; clear hb4; have hbw4' := Lib.hid hbw4; have ho4' := Lib.hid ho4; have hid3' := Lib.hid hid3; have HC' := Lib.hid HC; have hbW' := Lib.hid hbW; clear hbw4 ho4 hid3 HC hbW
      go_wp2_with fail
      refine HC'.out.mono ?_; rintro e w5 ⟨a5, c5, rfl, hb5⟩; have hbw5 := hbw4'.out.trans (hb5.mono hsz)
      by_cases hqn : q = n
      · obtain rfl : m = true := by rw [hid3'.out, hqn]; simp
        subst hqn; have hb5' := Lib.hid hb5; have hbw5' := Lib.hid hbw5; clear hb5 hbw5
        go_wp2
        go_ret
        exact ⟨rfl, hbw5'.out⟩
      · obtain rfl : m = false := by rw [hid3'.out]; simpa using hqn
        have hqb : ((q : Int) == (n : Int)) = false := by simp; omega
        have hqc : (q == n) = false := by simpa using hqn
        clear hqn; have hb5' := Lib.hid hb5; have hbw5' := Lib.hid hbw5; clear hb5 hbw5
        go_wp2
        go_ret
        exact ⟨rfl, hbw5'.out⟩
  · obtain rfl : m = false := by
      have := hid'.out; rw [decide_eq_false h1, Bool.false_and] at this; exact this
    have ho3' := Lib.hid ho3; have hb3' := Lib.hid hb3; have hbw' := Lib.hid hbw; clear ho3 hb3 hbw
    by_cases h2 : 1 ≤ n
    · have h3 : ¬ n ≤ 4 := fun h => h1 ⟨h2, h⟩
      clear h1
      go_wp2
      go_ret
      exact ⟨rfl, hbw'.out⟩
    · clear h1
      go_wp2
      go_ret
      exact ⟨rfl, hbw'.out⟩
theorem idOk_sym {s : List Int} {i : Nat} (hi : i < s.length) (h : symOk s i = false) : idOk s = false := by
  unfold idOk; rw [all_range_false hi h]
  rfl
theorem idOk_end {s : List Int} (h : ∀ i, i < s.length → symOk s i = true) : idOk s = decide (1 ≤ s.length ∧ s.length ≤ 4) := by
  unfold idOk; rw [all_range_true h]
  rfl
set_option maxRecDepth 20000 in
set_option maxHeartbeats 1000000 in
theorem rplanes_any (a : Option Addr) (n c : Nat) (s : List Int) (w : World) (hs : Sl w a n c 1 (ints .i64 s)) (hn : n ≤ 1000000) : Calls Try.prog 121 #[.slice a n c] w fun e w' => e = .returned (.bool (idOk s)) ∧ Qt w w' := by
  obtain ⟨m, hm⟩ : ∃ m, idOk s = m := ⟨_, rfl⟩; rw [hm]; have hl := hs.ilen; have hend : (∀ i, i < s.length → symOk s i = true) → m = decide (1 ≤ n ∧ n ≤ 4) := fun h => by rw [← hm, idOk_end h, hl]
  have hm' := Lib.hid hm; have hl' := Lib.hid hl; have hs' := Lib.hid hs; have hend' := Lib.hid hend; clear hm hl hs hend
  go_enter Try.func121, Try.ntmps121
  go_wp2
  go_loopw [3, 4] (fun iv _ wr => ∃ k : Nat, k ≤ n ∧ iv = .int .i64 k ∧ Hid (∀ j, j < k → symOk s j = true) ∧ Hid (Qt w wr)) (fun iv _ _ => n - (intOf iv).toNat)
  case atStart => exact ⟨0, by omega, rfl, Lib.hid (fun j hj => by omega), Lib.hid (Qt.refl _)⟩
  case round =>
    obtain ⟨k, hk, rfl, hall, hq⟩ := hrel; obtain ⟨dq, rfl⟩ := hq.out.ex
    by_cases hlt : k < n
    · have hkl : k < s.length := by rw [hl'.out]; exact hlt
      obtain ⟨x, hx⟩ : ∃ x, s[k]? = some x := ⟨_, List.getElem?_eq_getElem hkl⟩; have hxd : s.getD k 0 = x := by rw [List.getD_eq_getElem?_getD, hx]; rfl
      obtain ⟨bb, o, rfl, hbb, f⟩ := hs'.out.at hlt; have f0 : w.cell? ⟨bb, o + k, none⟩ = some (.int .i64 x) := f k _ (by show (ints .i64 s)[k]? = _; rw [ints_get hkl, hxd]); have hso : symOk s k = (decide (0 ≤ x ∧ x ≤ 255) && !(s.take k).contains x) := by unfold symOk; rw [hxd]
      by_cases h1 : x < 0
      · obtain rfl : m = false := by rw [← hm'.out]; exact idOk_sym hkl (by rw [hso]; simp; omega)
        clear f; have hx' := Lib.hid hx; have hxd' := Lib.hid hxd; have hso' := Lib.hid hso; clear hx hxd hso
        go_wp2
        go_ret
        exact ⟨rfl, hq.out⟩
      by_cases h2 : 255 < x
      · obtain rfl : m = false := by rw [← hm'.out]; exact idOk_sym hkl (by rw [hso]; simp; omega)
        clear f; have hx' := Lib.hid hx; have hxd' := Lib.hid hxd; have hso' := Lib.hid hso; clear hx hxd hso
        go_wp2
        go_ret
        exact ⟨rfl, hq.out⟩
      have f' := Lib.hid f; have hx' := Lib.hid hx; have hxd' := Lib.hid hxd; have hso' := Lib.hid hso; clear f hx hxd hso; have hltd : decide ((k : Int) < n) = true := by simp; omega
      have hltd2 : decide (k < n) = true := by simp; omega
      go_wp2
      go_loopw [4] (fun jv wr => ∃ j : Nat, j ≤ k ∧ jv = .int .i64 j ∧ Hid (∀ i, i < j → s.getD i 0 ≠ x) ∧ Hid (Qt w wr)) (fun jv _ => k - (intOf jv).toNat)
      case atStart => exact ⟨0, by omega, rfl, Lib.hid (fun j hj => by omega), hq⟩
      case round =>
        obtain ⟨j, hj, rfl, hno, hq⟩ := hrel; obtain ⟨dq, rfl⟩ := hq.out.ex
        by_cases hjk : j < k
        · have hjl : j < s.length := by omega
          obtain ⟨y, hy⟩ : ∃ y, s[j]? = some y := ⟨_, List.getElem?_eq_getElem hjl⟩; have hyd : s.getD j 0 = y := by rw [List.getD_eq_getElem?_getD, hy]; rfl
          have f1 : w.cell? ⟨bb, o + j, none⟩ = some (.int .i64 y) := f'.out j _ (by show (ints .i64 s)[j]? = _; rw [ints_get hjl, hyd])
          by_cases hyx : y = x
          · obtain rfl : m = false := by
              rw [← hm'.out]; refine idOk_sym hkl ?_; rw [hso'.out]
              have : (s.take k).contains x = true := by
                rw [List.contains_eq_mem, decide_eq_true_iff]; exact List.mem_take_iff_getElem.2 ⟨j, by omega, by rw [List.getElem?_eq_getElem hjl] at hy; injection hy with hy; rw [hy, hyx]⟩
              rw [this]
              simp
            subst hyx; have hy' := Lib.hid hy; have hyd' := Lib.hid hyd; clear hy hyd
            go_wp2
            go_quiet (fail)
            go_wp2
            go_ret
            exact ⟨rfl, (Qt.refl _).step _ |>.step _⟩
          · have hno2 : ∀ i, i < j + 1 → s.getD i 0 ≠ x := fun i hi => by
              rcases Nat.lt_or_ge i j with h | h
              · exact hno.out i h
              · obtain rfl : i = j := by omega
                rw [hyd]; exact hyx
            have hyb : (y == x) = false := by simpa using hyx
            clear hyx; have hy' := Lib.hid hy; have hyd' := Lib.hid hyd; have hno2' := Lib.hid hno2; clear hy hyd hno2
            go_wp2
            go_quiet (fail)
            go_wp2
            go_roundw
            case rel => exact ⟨j + 1, by omega, by go_num, hno2', Lib.hid ⟨_, rfl⟩⟩
            case measure => simp [intOf]; omega
        · obtain rfl : j = k := by omega
          have hok : symOk s j = true := by
            rw [hso'.out]
            have : (s.take j).contains x = false := by
              rw [List.contains_eq_mem, decide_eq_false_iff_not]; intro hm; obtain ⟨i, hi, he⟩ := List.mem_take_iff_getElem.1 hm; refine hno.out i (by omega) ?_; rw [List.getD_eq_getElem?_getD, List.getElem?_eq_getElem (by omega)]; exact he
            rw [this]
            simp
            omega
          have hall2 : ∀ i, i < j + 1 → symOk s i = true := fun i hi => by
            rcases Nat.lt_or_ge i j with h | h
            · exact hall.out i h
            · obtain rfl : i = j := by omega
              exact hok
          have hok' := Lib.hid hok; have hall2' := Lib.hid hall2; clear hok hall2
          go_wp2
          go_roundw
          case rel => exact ⟨j + 1, by omega, by go_num, hall2', hq⟩
          case measure => simp [intOf]; omega
    · obtain rfl : k = n := by omega
      have hmd := hend'.out (by rw [hl'.out]; exact hall.out)
      by_cases h1 : 1 ≤ k
      · have g1 : decide ((1 : Int) ≤ k) = true := by simp; omega
        by_cases h2 : k ≤ 4
        · have g2 : decide ((k : Int) ≤ 4) = true := by simp; omega
          obtain rfl : m = true := by rw [hmd]; simp; omega
          clear hmd
          go_wp2
          go_ret
          exact ⟨rfl, hq.out⟩
        · obtain rfl : m = false := by rw [hmd]; simp; omega
          have g2 : decide ((k : Int) ≤ 4) = false := by simp; omega
          clear hmd
          go_wp2
          go_ret
          exact ⟨rfl, hq.out⟩
      · obtain rfl : m = false := by rw [hmd]; simp; omega
        have g1 : decide ((1 : Int) ≤ k) = false := by simp; omega
        clear hmd
        go_wp2
        go_ret
        exact ⟨rfl, hq.out⟩
end Go.Proofs.Ytpjopeojeglogaa
