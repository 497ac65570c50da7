/- Chapter 21: what is in writer.dir: its closures; the entries sorted: the program. -/
import Derived.Test.YtceclmpmpldmlaaGreatCs17
import Derived.Test.YtceclmpmpldmlaaGreatShelf
import Derived.Test.YtceclmpmpldmlaaGreatCs12
import Derived.Test.YtceclmpmpldmlaaGreatCs10
namespace Go.Proofs.YtceclmpmpldmlaaGreat
open Go.RowKit Tt Go.Sort
set_option linter.unusedVariables false
set_option linter.unusedSimpArgs false

def cmpS (a b : Int) : Int := if a < b then -1 else if b < a then 1 else 0
theorem cmp_any (a b : Int) (w : World) : Calls Tryz.prog 97 #[.int .i64 a, .int .i64 b] w fun e w' => e = .returned (.int .i64 (cmpS a b)) ∧ w = w' := by
  have hn : ∀ (x : Int) (W : World), Calls Tryz.prog 155 #[.int .i64 x] W fun e w' => e = .returned (.bool false) ∧ W = w' := fun x W => by
    have hx : (x != x) = false := by simp
    go_enter Tryz.func155, Tryz.ntmps155
    go_wp2
    go_ret
    exact ⟨rfl, rfl⟩
  have hn' := Lib.hid hn; clear hn; unfold cmpS
  by_cases h1 : a < b
  · have d1 : decide (a < b) = true := by simp; omega
    rw [if_pos h1]
    go_enter Tryz.func97, Tryz.ntmps97
    go_wp2_with (go_at_call 155; refine (hn'.out _ _).mono ?_; rintro e w' ⟨rfl, rfl⟩)
    go_ret
    exact ⟨rfl, rfl⟩
  · have d1 : decide (a < b) = false := by simp; omega
    rw [if_neg h1]
    by_cases h2 : b < a
    · have d2 : decide (b < a) = true := by simp; omega
      rw [if_pos h2]
      go_enter Tryz.func97, Tryz.ntmps97
      go_wp2_with (go_at_call 155; refine (hn'.out _ _).mono ?_; rintro e w' ⟨rfl, rfl⟩)
      go_ret
      exact ⟨rfl, rfl⟩
    · have d2 : decide (b < a) = false := by simp; omega
      rw [if_neg h2]
      go_enter Tryz.func97, Tryz.ntmps97
      go_wp2_with (go_at_call 155; refine (hn'.out _ _).mono ?_; rintro e w' ⟨rfl, rfl⟩)
      go_ret
      exact ⟨rfl, rfl⟩
def cfE (x y : Ent) : Int := cmpS x.1 y.1
theorem wd3_any (x y : Ent) (w : World) : Calls Tryz.prog 96 #[.agg (entC x).toArray, .agg (entC y).toArray] w fun e w' => e = .returned (.int .i64 (cfE x y)) ∧ ∃ q os', w' = grow (w.drewN q) os' := by
  obtain ⟨x1, x2, x3, x4⟩ := x; obtain ⟨y1, y2, y3, y4⟩ := y; obtain ⟨W1, hW1, b0, b1, hb1, s1⟩ := two_boxes w 55 #[.int .i64 x1, .int .i64 x2, .int .i64 x3, .int .i64 x4] 55 #[.int .i64 y1, .int .i64 y2, .int .i64 y3, .int .i64 y4]; have hgr : ∃ q os', W1 = grow (w.drewN q) os' := ⟨0, #[_, _], by rw [← hW1, alloc_eq_grow, alloc_eq_grow, grow_grow]; rfl⟩; have p0 : W1.cell? ⟨w.heap.size, 0, none⟩ = some (.int .i64 x1) := b0.cell rfl; have p1 : W1.cell? ⟨w.heap.size + 1, 0, none⟩ = some (.int .i64 y1) := b1.cell rfl
  show Calls Tryz.prog 96 #[.agg #[.int .i64 x1, .int .i64 x2, .int .i64 x3, .int .i64 x4], .agg #[.int .i64 y1, .int .i64 y2, .int .i64 y3, .int .i64 y4]] w _
  have hW1' := Lib.hid hW1; have b0' := Lib.hid b0; have b1' := Lib.hid b1; have hb1' := Lib.hid hb1; have s1' := Lib.hid s1; have hgr' := Lib.hid hgr; clear hW1 b0 b1 hb1 s1 hgr
  go_enter Tryz.func96, Tryz.ntmps96
  go_wp2_with fail
  rw [hW1'.out]
  go_wp2_with (go_at_call 97; refine (cmp_any _ _ _).mono ?_; rintro e w' ⟨rfl, rfl⟩)
  go_ret
  exact ⟨rfl, hgr'.out⟩
theorem wd2_any (g : Nat) (tag : Int) (u v : Int) (w : World) (h : w.cell? ⟨g, 0, none⟩ = some (.int .i64 tag)) (hg : g < w.heap.size) :
    Calls Tryz.prog 92 #[.agg #[.int .i64 u, .int .i64 v], .pointer (some ⟨g, 0, none⟩)] w fun e w' => e = .returned (.bool (u == tag)) ∧ Below w.heap.size w w' := by
  have hb := (Below.refl w.heap.size w).alloc (Nat.le_refl _) (.cells #[.int .i64 u, .int .i64 v] 32); have hb' := Lib.hid hb; clear hb
  go_enter Tryz.func92, Tryz.ntmps92
  go_wp2_with fail
  go_ret
  exact ⟨rfl, hb'.out⟩

/-- the entries in order -/
def sortE (l : List Ent) : List Ent := l.mergeSort fun x y => !Go.Proofs.ltOf cfE y x
theorem ltE (x y : Ent) : Go.Proofs.ltOf cfE x y = decide (x.1 < y.1) := by
  unfold Go.Proofs.ltOf cfE cmpS; rw [Bool.eq_iff_iff, decide_eq_true_eq, decide_eq_true_eq]
  split
  · omega
  · split <;> omega
theorem swoE : SWO (Go.Proofs.ltOf cfE) := ⟨fun x => by rw [ltE]; simp, fun x y z h1 h2 => by rw [ltE, decide_eq_true_eq] at *; omega, fun x y z h1 h2 => by rw [ltE, decide_eq_false_iff_not] at *; omega⟩
theorem sortE_len (l : List Ent) : (sortE l).length = l.length := (List.mergeSort_perm _ _).length_eq
theorem sortE_one {l : List Ent} (hd : l.Pairwise fun x y => x.1 ≠ y.1) {d' : Array Ent} (hP : PermIn 0 l.length l.toArray d') (hS : SortedIn (Go.Proofs.ltOf cfE) 0 l.length d') : d'.toList = sortE l := by
  obtain ⟨hsz, _, hperm⟩ := hP; have hsz' : d'.size = l.length := by simpa using hsz
  have e1 : d'.extract 0 l.length = d' := by rw [← hsz']; exact Array.extract_size
  have e2 : l.toArray.extract 0 l.length = l.toArray := by simp
  rw [e1, e2] at hperm; have hpl : d'.toList.Perm l := hperm
  have hmem : ∀ a b, a ∈ l → b ∈ l → a.1 = b.1 → a = b := by
    intro a b ha hb hab; obtain ⟨i, hi, rfl⟩ := List.getElem_of_mem ha; obtain ⟨j, hj, rfl⟩ := List.getElem_of_mem hb
    rcases Nat.lt_trichotomy i j with h | h | h
    · exact absurd hab (List.pairwise_iff_getElem.1 hd i j hi hj h)
    · subst h; rfl
    · exact absurd hab.symm (List.pairwise_iff_getElem.1 hd j i hj hi h)
  refine List.Perm.eq_of_pairwise (le := fun x y => (!Go.Proofs.ltOf cfE y x) = true) ?_ ?_ ?_ (hpl.trans (List.mergeSort_perm _ _).symm)
  · intro a b ha hb h1 h2
    simp only [ltE, Bool.not_eq_true', decide_eq_false_iff_not] at h1 h2; exact hmem a b (hpl.subset ha) ((List.mergeSort_perm _ _).subset hb) (by omega)
  · rw [List.pairwise_iff_getElem]
    intro i j hi hj hij; have hi' : i < d'.size := by simpa using hi
    have hj' : j < d'.size := by simpa using hj
    have := hS i j (Nat.zero_le _) hij (by omega); rw [getElem!_pos d' j hj', getElem!_pos d' i hi'] at this
    simpa using this
  · refine List.pairwise_mergeSort ?_ ?_ _
    · intro a b c h1 h2
      simp only [ltE, Bool.not_eq_true', decide_eq_false_iff_not] at h1 h2 ⊢
      omega
    · intro a b
      simp only [ltE, Bool.or_eq_true, Bool.not_eq_true', decide_eq_false_iff_not]
      omega
theorem flatE (l : List Ent) : flatK entC 4 l.toArray = (fl entC l).toArray := by
  have hsz : (fl entC l).length = l.length * 4 := fl_len entC_len l; refine ext_get! (by simp [hsz]) fun t ht => ?_; have ht' : t < l.length * 4 := by simpa using ht
  rw [get_flatK _ _ _ t (by simpa using ht')]; have h1 : t / 4 < l.length := by omega
  have h2 : t % 4 < 4 := Nat.mod_lt _ (by decide); have := fl_get entC_len default h1 h2; rw [show t / 4 * 4 + t % 4 = t by omega] at this
  have e1 : l.toArray[t / 4]! = l.getD (t / 4) default := by
    rw [getElem!_pos _ _ (by simpa using h1)]
    simp [List.getD, List.getElem?_eq_getElem h1]
  rw [e1, getElem!_pos (fl entC l).toArray t (by simpa [hsz] using ht')]; have h3 : t < (fl entC l).length := by omega
  rw [List.getElem?_eq_getElem h3] at this; have h4 : t % 4 < (entC (l.getD (t / 4) default)).length := by rw [entC_len]; exact h2
  rw [List.getElem?_eq_getElem h4] at this; rw [getElem!_pos (entC (l.getD (t / 4) default)) (t % 4) h4]
  simpa using this.symm
theorem take_putV (cur : Array Value) (ts : List Value) (h : ts.length ≤ cur.size) : (putCells id 0 ts.toArray cur).toList.take ts.length = ts := by
  apply List.ext_getElem?
  intro j
  by_cases hj : j < ts.length
  · rw [List.getElem?_take_of_lt hj, Array.getElem?_toList]
    simp [putCells, hj, show j < cur.size by omega]
  · rw [List.getElem?_take_eq_none (by omega), List.getElem?_eq_none (by omega)]
set_option maxHeartbeats 2000000 in
theorem wsort_any (B : Nat) (l : List Ent) (v : Value) (w : World) (h : w.ownsRow B 55 4 v l.length (fl entC l)) (h1 : 1 ≤ l.length) (hn : l.length ≤ 1000000) (hd : l.Pairwise fun x y => x.1 ≠ y.1) :
    Calls Tryz.prog 95 #[v, .func (.func 96) #[] #[]] w fun e w' => e = .returned (.tuple #[]) ∧ w'.ownsRow B 55 4 v (sortE l).length (fl entC (sortE l)) ∧ w.grownBy w' v.ownBlock := by
  obtain ⟨hlen, hr⟩ := h
  rcases hr with ⟨_, h0⟩ | ⟨g, cap, cur, rfl, hB, hg, hc, hmx, hcs, htk⟩
  · omega
  have hH : HoldsK entC 4 w g 0 l.toArray := by
    unfold HoldsK; rw [flatE]; intro j hj; have hj' : j < (fl entC l).length := by simpa using hj
    refine ⟨?_, by simp [World.frozen?, hg]⟩; have h1 : (cur.toList.take (l.length * 4))[j]? = (fl entC l)[j]? := by rw [htk]
    rw [List.getElem?_take_of_lt (by rw [fl_len entC_len] at hj'; exact hj')] at h1; simp only [World.cell?, hg, Nat.zero_add]; simp only [Option.isSome_none, Bool.false_eq_true, if_false]; rw [← Array.getElem?_toList, h1]
    simp [hj']
  have hgl := (Array.getElem?_eq_some_iff.1 hg).1
  have hone : ∀ (x : Ent), ∀ v ∈ entC x, v.oneCell' = true := by
    intro x v hv; simp only [entC, List.mem_cons, List.not_mem_nil, or_false] at hv
    rcases hv with rfl | rfl | rfl | rfl <;> rfl
  refine (Go.Proofs.AnyQ.slices_SortFunc Tryz.sortE 4 Tryz.isAgg55 Tryz.sizeOf55 entC entC_len hone cfE swoE 96 #[] g 0 cap l.toArray w (fun args W => by kernel_rfl) (fun m os dk _ x y => wd3_any x y _) hH hgl (by simpa using Nat.lt_of_le_of_lt hn (by decide))).mono ?_; rintro e w' ⟨rfl, d', n, os, hP, hS, rfl⟩; have hd' := sortE_one hd (by simpa using hP) (by simpa using hS); obtain rfl : d' = (sortE l).toArray := by rw [← hd']
  refine ⟨rfl, ⟨fl_len entC_len _, .inr ⟨g, cap, putCells id 0 (fl entC (sortE l)).toArray cur, by rw [sortE_len], hB, ?_, by rw [sortE_len]; exact hc, hmx, by simp [putCells, hcs], ?_⟩⟩, ⟨rfl, rfl, rfl, ?_, ?_⟩⟩
  · unfold sortWorldK putRowK
    rw [flatE, heap_grow_old _ _ (by simpa using hgl)]
    simp [putRow, mapBlock, Sort.ahead, Array.getElem?_modify, hg, onCells]
  · rw [← fl_len entC_len (sortE l)]
    refine take_putV cur _ ?_; rw [fl_len entC_len, sortE_len, hcs]; exact Nat.mul_le_mul_right _ hc
  · unfold sortWorldK; simp [size_putRowK]
  · intro k hk hne
    unfold sortWorldK putRowK; rw [heap_grow_old _ _ (by simpa using hk)]; have : g ≠ k := fun e => hne (by rw [← e]; rfl)
    simp [putRow, mapBlock, Sort.ahead, Array.getElem?_modify, this]
theorem infoSz {T : TypeId} {sz by_ : Nat} (h1 : (Tryz.prog.info? T).map (fun i => (i.size, i.bytes)) = some (sz, by_)) (h2 : (Tryz.prog.info? T).map (fun i => i.zero.map (fun z => z.cells.size)) = some (some sz)) :
    ∃ (i : TypeInfo) (z : Value), Tryz.prog.info? T = some i ∧ i.zero = some z ∧ i.size = sz ∧ i.bytes = by_ ∧ z.cells.size = sz := by
  cases hi : Tryz.prog.info? T with
  | none => rw [hi] at h1; cases h1
  | some i =>
    rw [hi] at h1 h2; simp only [Option.map_some, Option.some.injEq, Prod.mk.injEq] at h1 h2
    cases hz : i.zero with
    | none => rw [hz] at h2; cases h2
    | some z =>
      rw [hz] at h2; simp only [Option.map_some, Option.some.injEq] at h2; exact ⟨i, z, rfl, hz, h1.1, h1.2, h2⟩
theorem infoE : (Tryz.prog.info? 55).map (fun i => (i.size, i.bytes)) = some (4, 32) := by kernel_rfl
theorem infoEz : (Tryz.prog.info? 55).map (fun i => i.zero.map (fun z => z.cells.size)) = some (some 4) := by kernel_rfl
theorem own_but0 {w w' : World} {B b : Nat} {E : TypeId} {sz n : Nat} {v : Value} {xs : List Value} (h : w.ownsRow B E sz v n xs) (hb : But b w w') (hne : v.ownBlock ≠ some b) : w'.ownsRow B E sz v n xs := by
  obtain ⟨hl, hr⟩ := h; refine ⟨hl, ?_⟩
  rcases hr with hn | ⟨g, cap, cur, rfl, hB, hg, r⟩
  · exact .inl hn
  · exact .inr ⟨g, cap, cur, rfl, hB, (hb.block g (Array.getElem?_eq_some_iff.1 hg).1 (fun e => hne (by rw [← e]; rfl))).trans hg, r⟩
set_option maxRecDepth 20000 in
/-- entries are put behind those that there are -/
theorem wd1_any (B gl : Nat) (l xs : List Ent) (v : Value) (a : Option Addr) (n c : Nat) (w : World) (hv : Blk w gl 154 #[v]) (h : w.ownsRow B 55 4 v l.length (fl entC l)) (hne : v.ownBlock ≠ some gl) (hB : B ≤ w.heap.size) (hs : Sl w a n c 4 (fl entC xs)) (h1 : 1 ≤ n) (hn : l.length + n ≤ 1000000) :
    Calls Tryz.prog 89 #[.slice a n c, .pointer (some ⟨gl, 0, none⟩)] w fun e w' => ∃ v', e = .returned (.tuple #[]) ∧ Blk w' gl 154 #[v'] ∧ w'.ownsRow B 55 4 v' (l ++ xs).length (fl entC (l ++ xs)) ∧ v'.ownBlock ≠ some gl ∧ Mv gl gl v v' w w' := by
  have hxl : xs.length = n := hs.flen entC_len (by decide); obtain ⟨b, off, rfl, hlt, _⟩ := hs.lies 0 (by omega); have hgl := hv.lt; have p0 : w.cell? ⟨gl, 0, none⟩ = some v := hv.cell rfl; have y0 := hv.frozen 0
  have hone : ∀ u ∈ fl entC xs, u.oneCell' = true := fl_one (fun x v hv => by
    simp only [entC, List.mem_cons, List.not_mem_nil, or_false] at hv
    rcases hv with rfl | rfl | rfl | rfl <;> rfl)
  obtain ⟨i0, z0, hi0, hz, hz1, hz2, hz3⟩ := infoSz infoE infoEz; have hv' := Lib.hid hv; have h' := Lib.hid h; have hne' := Lib.hid hne; have hs' := Lib.hid hs; have hone' := Lib.hid hone; clear hv h hne hs hone
  go_enter Tryz.func89, Tryz.ntmps89
  go_wp2_with (at_builtin; refine wpList_app2 rfl _ _ 154 rfl B 55 i0 z0 4 32 Tryz.underlying154 hi0 hz hz1 hz2 hz3 (by decide) v _ _ rfl h'.out ⟨b, off, none⟩ n c (fl entC xs) rfl hs'.out hone'.out (by omega) (by decide) hB ?_; intro a5 c5 wa ob hga hoa; have Ob := Lib.hid ob; have Hga := Lib.hid hga; have Hoa := Lib.hid hoa; clear p0 y0; have y0 := (hv'.out.grown hga hne'.out).frozen 0; have p0 := (hv'.out.grown hga hne'.out).cell (i := 0) rfl; clear ob hga hoa)
  refine bodyPost_end (results_none rfl _ _ _) rfl ?_; have hv1 := hv'.out.grown Hga.out hne'.out
  have hne1 : (Value.slice a5 (l.length + n) c5).ownBlock ≠ some gl := fun e => by
    rcases Hoa.out gl e with h | h
    · exact hne'.out h
    · omega
  refine ⟨_, rfl, hv1.set 0 _, ?_, hne1, ?_⟩
  · rw [fl_append, List.length_append, hxl]
    exact own_but0 Ob.out ((But.refl gl wa).set 0 _) hne1
  · exact (Mv.of_grown Hga.out Hoa.out).trans (Mv.of_but ((But.refl gl wa).set 0 _) (.inl rfl))
end Go.Proofs.YtceclmpmpldmlaaGreat
