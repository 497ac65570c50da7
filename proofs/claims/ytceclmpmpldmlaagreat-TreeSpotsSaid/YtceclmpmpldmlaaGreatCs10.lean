/- Chapter 22: what changes while a block is read: the walker's own blocks; rows that are kept; directories in memory. | append onto what the call owns: the row lies where it lay, or in a new block. | Chapter 20: entries, even places, ends, one more spot: program and document. | Chapter 20: one more spot, in the document's row. | Chapter 20: one more spot, in the program's planner. | Bytes, values, spots that are the same: chapters 1, 18, 20 of the document's answer. | Directories and trees that are the same: chapter 20 of the document's answer. | Directories that are the same: chapter 20 of the document's answer. | Trees that are the same: chapter 20 of the document's answer. -/
import Derived.Test.YtceclmpmpldmlaaGreatCs08
import Derived.Test.YtceclmpmpldmlaaGreatCs09
import Derived.ArgAppend
import Derived.Test.YtceclmpmpldmlaaGreatCs01
import Derived.Test.YtceclmpmpldmlaaGreatCs02
import Derived.Laws.StructEq
namespace Tt
open Go Go.RowKit
set_option linter.unusedVariables false

/-- of the old blocks no others have turned but g, gt and the one that sv lies in; sv' lies in that one or in a new one -/
structure Mv (g gt : Nat) (sv sv' : Value) (w w' : World) : Prop where
  os : w'.os = w.os
  tape : w'.tape = w.tape
  output : w'.output = w.output
  size : w.heap.size ≤ w'.heap.size
  block : ∀ k, k < w.heap.size → k ≠ g → k ≠ gt → sv.ownBlock ≠ some k → w'.heap[k]? = w.heap[k]?
  own : ∀ k, sv'.ownBlock = some k → sv.ownBlock = some k ∨ w.heap.size ≤ k
theorem Mv.trans {g gt : Nat} {sv s1 s2 : Value} {w w1 w2 : World} (h : Mv g gt sv s1 w w1) (k : Mv g gt s1 s2 w1 w2) : Mv g gt sv s2 w w2 :=
  ⟨k.os.trans h.os, k.tape.trans h.tape, k.output.trans h.output, Nat.le_trans h.size k.size, fun i hi h1 h2 h3 =>
    (k.block i (Nat.lt_of_lt_of_le hi h.size) h1 h2 (fun e => by rcases h.own i e with e' | e' <;> first | exact h3 e' | omega)).trans (h.block i hi h1 h2 h3),
   fun i e => by
    rcases k.own i e with e' | e'
    · exact h.own i e'
    · exact .inr (Nat.le_trans h.size e')⟩
theorem Mv.of_below {g gt : Nat} {sv : Value} {w w' : World} (h : Below w.heap.size w w') : Mv g gt sv sv w w' :=
  ⟨h.os, h.tape, h.output, h.size, fun k hk _ _ _ => h.block k hk, fun _ e => .inl e⟩
theorem Mv.later {g gt : Nat} {sv s1 : Value} {w w1 w2 : World} (h : Mv g gt sv s1 w w1) (k : Below w1.heap.size w1 w2) : Mv g gt sv s1 w w2 := h.trans (Mv.of_below k)
theorem Mv.of_but {g gt b : Nat} {sv : Value} {w w' : World} (h : But b w w') (hb : b = g ∨ b = gt) : Mv g gt sv sv w w' :=
  ⟨h.os, h.tape, h.output, h.size, fun k hk h1 h2 _ => h.block k hk (by rintro rfl; rcases hb with rfl | rfl <;> contradiction), fun _ e => .inl e⟩
theorem Mv.of_grown {g gt : Nat} {sv sv' : Value} {w w' : World} (h : w.grownBy w' sv.ownBlock) (ho : ∀ k, sv'.ownBlock = some k → sv.ownBlock = some k ∨ w.heap.size ≤ k) : Mv g gt sv sv' w w' :=
  ⟨h.os, h.tape, h.output, h.size, fun k hk _ _ h3 => h.block k hk (Ne.symm h3), ho⟩
theorem Blk.grown {w w' : World} {row : Option Nat} {g : Nat} {T : TypeId} {cs : Array Value} (h : Blk w g T cs) (hg : w.grownBy w' row) (hne : row ≠ some g) : Blk w' g T cs := (hg.block g h.lt (Ne.symm hne)).trans h
theorem Mv.below {g gt B : Nat} {sv sv' : Value} {w w' : World} (h : Mv g gt sv sv' w w') (h1 : B ≤ g) (h2 : B ≤ gt) (h3 : ∀ k, sv.ownBlock = some k → B ≤ k) (h4 : B ≤ w.heap.size) : Below B w w' :=
  ⟨h.os, h.tape, h.output, h.size, fun k hk => h.block k (by omega) (by omega) (by omega) (fun e => by have := h3 k e; omega)⟩
end Tt
namespace Go.Proofs.YtceclmpmpldmlaaGreat
open Go.RowKit Tt
set_option linter.unusedVariables false
set_option linter.unusedSimpArgs false

/-- what the cells of a tag hold, and its data -/
abbrev Tz := (Int × Int × Int × Option Addr × Nat × Nat) × List Int
abbrev tz0 : Tz := ((0, 0, 0, none, 0, 0), [])
def tagz (z : Tz) : Tgs := (z.1.1, z.1.2.1, z.1.2.2.1, z.2)
def tzc (z : Tz) : List Value := [.int .i64 z.1.1, .int .i64 z.1.2.1, .int .i64 z.1.2.2.1, .slice z.1.2.2.2.1 z.1.2.2.2.2.1 z.1.2.2.2.2.2]
theorem tzc_len (z : Tz) : (tzc z).length = 4 := rfl
theorem tzc_one (z : Tz) : ∀ u ∈ tzc z, u.oneCell' = true := by
  intro u hu; simp only [tzc, List.mem_cons, List.not_mem_nil, or_false] at hu
  rcases hu with rfl | rfl | rfl | rfl <;> rfl
/-- a sub-directory's cells -/
abbrev Dz := Value × Value × Value
def dvC (d : Dz) : List Value := [d.1, d.2.1, d.2.2]
def sbC (x : Int × Dz) : List Value := [.int .i64 x.1, x.2.1, x.2.2.1, x.2.2.2]
theorem sbC_len (x : Int × Dz) : (sbC x).length = 4 := rfl
theorem dvC_len (x : Dz) : (dvC x).length = 3 := rfl
/-- a spot's cells -/
def spC (x : Spt) : List Value := [.int .i64 x.1, .int .i64 x.2.1, .int .i64 x.2.2.1, .int .i64 x.2.2.2.1, .int .i64 x.2.2.2.2]
theorem spC_len (x : Spt) : (spC x).length = 5 := rfl
theorem spC_one (x : Spt) : ∀ u ∈ spC x, u.oneCell' = true := by
  intro u hu; simp only [spC, List.mem_cons, List.not_mem_nil, or_false] at hu
  rcases hu with rfl | rfl | rfl | rfl | rfl <;> rfl
end Go.Proofs.YtceclmpmpldmlaaGreat

namespace Tt
open Go Go.RowKit
set_option linter.unusedVariables false

section
variable {P : Program} {w : World} {ops : Array Oper} {rest : List Oper} {o : Oper} {a : Act} {Q : Exit → Act → World → Prop}
theorem wpList_app2 (hgd : o.guard = none) (s x : Operand) (t : TypeId)
    (ho : o.op = .call { callee := .builtin .append, args := #[s, x], argTypes := #[t, t] })
    (base : Nat) (e : TypeId) (i : TypeInfo) (z : Value) (size bytes : Nat) (ht : P.underlying t = some (.slice e)) (hi : P.info? e = some i) (hz : i.zero = some z)
    (hsize : i.size = size) (hby : i.bytes = bytes) (hzs : z.cells.size = size) (hsz : 0 < size)
    (v : Value) (n : Nat) (xs : List Value) (hs : a.eval s = v) (hown : w.ownsRow base e size v n xs)
    (xa : Addr) (m c : Nat) (news : List Value) (hx : a.eval x = .slice (some xa) m c) (hS : Sl w (some xa) m c size news) (h1 : ∀ u ∈ news, u.oneCell' = true)
    (hbytes : (n + m) * bytes ≤ 140737488355328) (hb0 : 0 < bytes) (hbase : base ≤ w.heap.size)
    (h : ∀ (a' : Option Addr) (c' : Nat) (w' : World), w'.ownsRow base e size (.slice a' (n + m) c') (n + m) (xs ++ news) → w.grownBy w' v.ownBlock → (∀ k, (Value.slice a' (n + m) c').ownBlock = some k → v.ownBlock = some k ∨ w.heap.size ≤ k) → wpList P ops Q rest (a.put o.dst (.slice a' (n + m) c')) w') : wpList P ops Q (o :: rest) a w := by
  have h63 : n + m ≤ maxLen := by
    have : (n + m) * 1 ≤ (n + m) * bytes := Nat.mul_le_mul_left _ hb0; unfold maxLen; omega
  have hv' : ∀ (B : Nat) (v' : Value) (w' : World), w'.ownsRow B e size v' (n + m) (xs ++ news) → ∃ (a' : Option Addr) (c' : Nat), v' = .slice a' (n + m) c' := by
    intro B v' w' hw
    rcases hw.2 with ⟨rfl, h0⟩ | ⟨g, cap, cur, rfl, _⟩
    · exact ⟨none, 0, by rw [h0]⟩
    · exact ⟨_, _, rfl⟩
  have hnews : ∀ j u, news[j]? = some u → w.cell? (xa.add j) = some u := fun j u hu => by
    have hj : j < news.length := (List.getElem?_eq_some_iff.1 hu).1
    have hm : 0 < m := by
      rcases Nat.eq_zero_or_pos m with h0 | h0
      · rw [hS.len, h0] at hj; omega
      · exact h0
    obtain ⟨b, off, e1, _, hc⟩ := hS.lies 0 hm; injection e1 with e1; subst e1; rw [Addr.add_lit]; exact hc j u hu
  have grow : ∀ (ao : Option Addr) (cap : Nat), v = .slice ao n cap → cap < n + m → wpList P ops Q (o :: rest) a w := fun ao cap hv hfull => by
    subst hv; have hsl := (Sl.of_own hown).1; refine wpList_append_grows w hgd s x t ho e i z size bytes ht hi hz hsize hby hzs hsz ao n cap xs hs (fun hn => ?_) hsl.len (fun b hb j u hj => ?_) xa m c news hx hS.len hnews h1 hfull h63 hbytes ?_
    · subst hn
      have := hsl.fit rfl; have := hsl.le; exact ⟨by omega, by omega⟩
    · subst hb
      have hj2 : j < xs.length := (List.getElem?_eq_some_iff.1 hj).1
      have hn0 : 0 < n := by
        rcases Nat.eq_zero_or_pos n with h0 | h0
        · rw [hsl.len, h0] at hj2; omega
        · exact h0
      obtain ⟨b', off, e1, _, hc⟩ := hsl.lies 0 hn0; injection e1 with e1; subst e1; rw [Addr.add_lit]; exact hc j u hj
    · intro v' w' h2 h3
      obtain ⟨a', c', rfl⟩ := hv' _ v' w' h2; refine h _ _ w' (own_mono h2 hbase) ⟨h3.os, h3.tape, h3.output, h3.size, fun k hk _ => h3.block k hk (by simp)⟩ (fun k hk => .inr (h2.lt k hk).1)
  rcases hown.2 with ⟨hv, hn⟩ | ⟨g, cap, cur, hv, _⟩
  · by_cases hm : 0 < m
    · exact grow none 0 (by rw [hv, hn]) (by omega)
    · subst hv hn
      have hm0 : m = 0 := by omega
      have hn0 : news = [] := List.eq_nil_of_length_eq_zero (by rw [hS.len, hm0]; simp); have hx0 : xs = [] := List.eq_nil_of_length_eq_zero (by rw [hown.1]; simp)
      exact wpList_append_own w hgd s x t ho base e i z size bytes ht hi hz hsize hby hzs hsz (.slice none 0 0) 0 xs hs hown xa m c news hx hS.len hnews h1 h63 hbytes hbase fun v' w' h2 h3 h4 => by
        obtain rfl := h4.2 ⟨rfl, hm0⟩; have := h none 0 w' (by rw [hm0]; rw [hm0] at h2; exact h2) h3 (fun k hk => by cases hk); rw [hm0] at this; exact this
  · by_cases hfit : n + m ≤ cap
    · subst hv
      exact wpList_append_fits w hgd s x t ho base e i size ht hi hsize g n cap xs hs hown xa m c news hx hS.len hnews h1 hfit fun w' h2 h3 => h _ _ w' h2 h3 (fun k hk => .inl hk)
    · exact grow _ cap hv (by omega)
end
end Tt

namespace Go.Proofs.YtceclmpmpldmlaaGreat
open Go.RowKit Tt
set_option linter.unusedVariables false
set_option linter.unusedSimpArgs false

theorem spI1 : (Tryz.prog.info? 50).map (fun i => (i.size, i.bytes)) = some (5, 40) := by kernel_rfl
theorem spI2 : (Tryz.prog.info? 50).map (fun i => i.zero.map (fun z => z.cells.size)) = some (some 5) := by kernel_rfl
theorem info_of {T : TypeId} {sz by_ : Nat} (h1 : (Tryz.prog.info? T).map (fun i => (i.size, i.bytes)) = some (sz, by_)) (h2 : (Tryz.prog.info? T).map (fun i => i.zero.map (fun z => z.cells.size)) = some (some sz)) :
    ∃ (i : TypeInfo) (z : Value), Tryz.prog.info? T = some i ∧ i.zero = some z ∧ i.size = sz ∧ i.bytes = by_ ∧ z.cells.size = sz := by
  cases hi : Tryz.prog.info? T with
  | none => rw [hi] at h1; cases h1
  | some i =>
    rw [hi] at h1 h2; simp only [Option.map_some, Option.some.injEq, Prod.mk.injEq] at h1 h2
    cases hz : i.zero with
    | none => rw [hz] at h2; cases h2
    | some z =>
      rw [hz] at h2; simp only [Option.map_some, Option.some.injEq] at h2; exact ⟨i, z, rfl, hz, h1.1, h1.2, h2⟩
theorem ent_any (ta sa ba : Option Addr) (tn tc sn sc bn bc : Nat) (w : World) (h1 : tn < 1000000) (h2 : sn < 1000000) :
    Calls Tryz.prog 15 #[.agg #[.slice ta tn tc, .slice sa sn sc, .slice ba bn bc]] w fun e w' => e = .returned (.int .i64 (entN tn sn bn : Nat)) ∧ Below w.heap.size w w' := by
  have hw1 : IntKind.i64.wrap ((tn : Int) + sn) = (tn : Int) + sn := by rw [IntKind.wrap_i64]; omega
  have hw2 : IntKind.i64.wrap ((tn : Int) + sn + 2) = (tn : Int) + sn + 2 := by rw [IntKind.wrap_i64]; omega
  unfold entN; have hb := (Below.refl w.heap.size w).alloc (Nat.le_refl _) (.cells #[.slice ta tn tc, .slice sa sn sc, .slice ba bn bc] 26); have hb' := Lib.hid hb; clear hb
  by_cases h : 0 < bn
  · rw [if_pos h]
    have d : decide ((0 : Int) < bn) = true := by simp; omega
    go_enter Tryz.func15, Tryz.ntmps15
    go_wp2_with fail
    go_ret
    exact ⟨ret_int (by omega), hb'.out⟩
  · rw [if_neg h]
    have d : decide ((0 : Int) < bn) = false := by simp; omega
    go_enter Tryz.func15, Tryz.ntmps15
    go_wp2_with fail
    go_ret
    exact ⟨ret_int (by omega), hb'.out⟩
theorem even_any (n : Nat) (w : World) (h1 : n < 4611686018427387904) : Calls Tryz.prog 160 #[.int .i64 n] w fun e w' => e = .returned (.int .i64 (evenS n)) ∧ w = w' := by
  have ha : bits .and .i64 (n : Int) 1 = ((n % 2 : Nat) : Int) := by
    have := and_i64 n 1 (by omega) (by omega); rw [Nat.and_one_is_mod] at this; exact this
  have hw : IntKind.i64.wrap ((n : Int) + (n % 2 : Nat)) = evenS n := by rw [IntKind.wrap_i64]; unfold evenS; omega
  go_enter Tryz.func160, Tryz.ntmps160
  go_wp2_with fail
  go_ret
  exact ⟨rfl, rfl⟩
theorem endS_last {l : List Spt} {n : Nat} (hl : l.length = n + 1) : endS l = (l.getD n (0, 0, 0, 0, 0)).2.2.2.1 + (l.getD n (0, 0, 0, 0, 0)).2.2.2.2 := by
  unfold endS; rw [List.getLast?_eq_getElem?, hl, Nat.add_sub_cancel, List.getD_eq_getElem?_getD, List.getElem?_eq_getElem (by omega)]
  rfl
end Go.Proofs.YtceclmpmpldmlaaGreat

namespace Tt
open Go Go.RowKit
set_option linter.unusedVariables false
end Tt
namespace Go.Proofs.YtceclmpmpldmlaaGreat
open Go.RowKit Tt
set_option linter.unusedVariables false
set_option linter.unusedSimpArgs false

theorem row_slice {w : World} {B : Nat} {E : TypeId} {sz : Nat} {v : Value} {n : Nat} {xs : List Value} (h : w.ownsRow B E sz v n xs) : ∃ a c, v = .slice a n c := by
  rcases h.2 with ⟨rfl, h0⟩ | ⟨g, cap, cur, rfl, _⟩
  · exact ⟨none, 0, by rw [h0]⟩
  · exact ⟨_, _, rfl⟩
/-- a row of spots that is owned from B on -/
def Spr (B : Nat) (w : World) (v : Value) (l : List Spt) : Prop := w.ownsRow B 50 5 v l.length (fl spC l)
end Go.Proofs.YtceclmpmpldmlaaGreat

namespace Go.Proofs.YtceclmpmpldmlaaGreat
open Go.RowKit Tt
set_option linter.unusedVariables false
set_option linter.unusedSimpArgs false

set_option maxHeartbeats 1000000 in
theorem ptake_any (g : Nat) (e : Nat) (y z : Value) (T : TypeId) (long : Int) (w : World) (h : Blk w g T #[.int .i64 e, y, z]) (h1 : e < 4611686018427387) (h2 : 0 ≤ long) (h3 : long < 4611686018427387) :
    Calls Tryz.prog 103 #[.pointer (some ⟨g, 0, none⟩), .int .i64 long] w fun x w' => x = .returned (.int .i64 (evenS e)) ∧ Blk w' g T #[.int .i64 (evenS e + long), y, z] ∧ But g w w' := by
  have hV := fun W => even_any e W (by omega); have hev := evenS_le (n := e) (by omega); have c0 : w.cell? ⟨g, 0, none⟩ = some (.int .i64 e) := h.cell rfl; have f0 := h.frozen 0
  generalize evenS e = q at *
  have hw : IntKind.i64.wrap (q + long) = q + long := by rw [IntKind.wrap_i64]; omega
  have h' := Lib.hid h; have hV' := Lib.hid hV; clear h hV
  go_enter Tryz.func103, Tryz.ntmps103
  go_wp2_with fail
  refine (hV'.out _).mono ?_; rintro e w2 ⟨rfl, rfl⟩
  go_wp2_with fail
  go_ret
  exact ⟨rfl, h'.out.set 0 _, (But.refl g w).set 0 _⟩
/-- the planner, in block g; its spots in blocks behind that one -/
structure Pln (g : Nat) (w : World) (no : Int) (v : Value) (l : List Spt) : Prop where
  blk : Blk w g 98 #[.int .i64 (endS l), .int .i64 no, v]
  spots : Spr (g + 1) w v l
theorem Pln.later {g : Nat} {w w' : World} {no : Int} {v : Value} {l : List Spt} (h : Pln g w no v l) (hb : Below w.heap.size w w') : Pln g w' no v l := ⟨h.blk.late hb, own_later h.spots hb⟩
set_option maxHeartbeats 2000000 in
theorem pput_any (g : Nat) (no : Int) (v : Value) (l : List Spt) (x0 x1 x2 x4 : Int) (w : World) (h : Pln g w no v l) (h0 : 0 ≤ endS l) (h1 : endS l < 4611686018427387) (h2 : 0 ≤ x4) (h3 : x4 < 4611686018427387) (hl : l.length < 1000000) :
    Calls Tryz.prog 45 #[.pointer (some ⟨g, 0, none⟩), .int .i64 x0, .int .i64 x1, .int .i64 x2, .int .i64 x4] w fun e w' => ∃ v', e = .returned (.tuple #[]) ∧ Pln g w' no v' (addS l x0 x1 x2 x4) ∧ Mv g g v v' w w' := by
  obtain ⟨i0, z0, hi0, hz, hz1, hz2, hz3⟩ := info_of spI1 spI2; obtain ⟨hblk, hsp⟩ := h; have hne : v.ownBlock ≠ some g := own_ne hsp (by omega); have hgw := hblk.lt; obtain ⟨a, c, rfl⟩ := row_slice hsp; obtain ⟨e, he⟩ := Int.eq_ofNat_of_zero_le h0; have hea := endS_add l x0 x1 x2 x4; have hT := fun W (h : Blk W g 98 #[.int .i64 (endS l), .int .i64 no, .slice a l.length c]) => ptake_any g e (.int .i64 no) (.slice a l.length c) 98 x4 W (by rw [he] at h; exact h) (by omega) h2 h3
  suffices hgoal : Calls Tryz.prog 45 #[.pointer (some ⟨g, 0, none⟩), .int .i64 x0, .int .i64 x1, .int .i64 x2, .int .i64 x4] w fun e w' => ∃ v', e = .returned (.tuple #[]) ∧ Blk w' g 98 #[.int .i64 (endS (addS l x0 x1 x2 x4)), .int .i64 no, v'] ∧ w'.ownsRow (g + 1) 50 5 v' (addS l x0 x1 x2 x4).length (fl spC (addS l x0 x1 x2 x4)) ∧ Mv g g (.slice a l.length c) v' w w' by
    refine hgoal.mono ?_; rintro e w' ⟨v', q1, q2, q3, q4⟩; exact ⟨v', q1, ⟨q2, q3⟩, q4⟩
  rw [hea]; unfold Spr at hsp; unfold addS; rw [fl_snoc, List.length_append]; simp only [List.length_cons, List.length_nil, Nat.zero_add]; rw [← he] at hT; have hr : ((e : Nat) : Int) = endS l := he.symm; clear hea h0 h1 he
  generalize endS l = p at *
  subst hr
  generalize evenS e = q at *
  have c2 : w.cell? ⟨g, 2, none⟩ = some (.slice a l.length c) := hblk.cell rfl; obtain ⟨Ty, f, hne0, hcell, hsurj⟩ := cell_worlds ⟨g, 2, none⟩ _ w c2; have HS := Lib.hid (hsurj _ (show w.drew.cell? _ = _ from c2)); have HD := Lib.hid ((Below.refl w.heap.size w).drew); have hblk' := Lib.hid hblk; have hsp' := Lib.hid hsp; have hne' := Lib.hid hne; have hsurj' := Lib.hid hsurj; have hT' := Lib.hid hT; have c2' := Lib.hid c2; clear hblk hsp hne hsurj hT c2
  go_enter Tryz.func45, Tryz.ntmps45
  go_wp2_with fail
  refine wp_noP ?_; refine till_begin (t := 19) (C := fun W => ∃ s, W = f s) (by kernel_rfl) 20 rfl ?_; refine till_take [0, 1, 2, 3, 4, 5, 6, 7, 8, 9, 10, 11, 13] 7 (by kernel_rfl) noP_put (by kernel_rfl) (by kernel_rfl) (by kernel_rfl) HS.out ?_; simp only [pickL, List.map_cons, List.map_nil, List.getD_cons_succ, List.getD_cons_zero]
  iterate 13 (go_big_quiet_step (fail))
  refine wpQuiet_nil ?_; refine till_one 12 6 (by kernel_rfl) (by kernel_rfl) ?_; simp only [pickL, List.map_cons, List.map_nil, List.getD_cons_succ, List.getD_cons_zero]
  go_wp2_with fail
  refine (hT'.out _ (hblk'.out.late HD.out)).mono ?_; rintro e1 w1 ⟨rfl, hb1, hbut1⟩; have hbut := (But.of_below (b := g) HD.out).trans hbut1; have hsp1 := own_but hsp'.out hbut hne'.out; have d2 : w1.cell? ⟨g, 2, none⟩ = some (.slice a l.length c) := hb1.cell rfl; have HS := Lib.hid (hsurj'.out _ d2); have hg1 := hb1.lt; clear hbut1 d2; have hb1' := Lib.hid hb1; have hbut' := Lib.hid hbut; have hsp1' := Lib.hid hsp1; clear hb1 hbut hsp1
  go_wp2_with fail
  refine Mid.mk ⟨fun _ => HS.out, ?_⟩; refine till_take [14] 5 (by kernel_rfl) noP_put (by kernel_rfl) (by kernel_rfl) (by kernel_rfl) HS.out ?_; simp only [pickL, List.map_cons, List.map_nil, List.getD_cons_succ, List.getD_cons_zero]
  iterate 1 (go_big_quiet_step (fail))
  refine wpQuiet_nil ?_; refine till_one 15 4 (by kernel_rfl) (by kernel_rfl) ?_; simp only [pickL, List.map_cons, List.map_nil, List.getD_cons_succ, List.getD_cons_zero]
  go_wp2_with fail
  have hal := (Below.refl w1.heap.size w1).alloc (Nat.le_refl _) (.cells #[.int .i64 x0, .int .i64 x1, .int .i64 x2, .int .i64 q, .int .i64 x4] 50); have hnew : Sl (w1.alloc (.cells #[.int .i64 x0, .int .i64 x1, .int .i64 x2, .int .i64 q, .int .i64 x4] 50)) (some ⟨w1.heap.size, 0, none⟩) 1 1 5 (spC (x0, x1, x2, q, x4)) := Sl.new w1 50 5 1 #[.int .i64 x0, .int .i64 x1, .int .i64 x2, .int .i64 q, .int .i64 x4] (0, 0) (by omega) rfl; have hb2 := hb1'.out.late hal; have hsp2 := own_later hsp1'.out hal; have d2 : (w1.alloc (.cells #[.int .i64 x0, .int .i64 x1, .int .i64 x2, .int .i64 q, .int .i64 x4] 50)).cell? ⟨g, 2, none⟩ = some (.slice a l.length c) := hb2.cell rfl; have HS := Lib.hid (hsurj'.out _ d2); clear d2; have hmv2 : Mv g g (.slice a l.length c) (.slice a l.length c) w (w1.alloc (.cells #[.int .i64 x0, .int .i64 x1, .int .i64 x2, .int .i64 q, .int .i64 x4] 50)) := (Mv.of_but hbut'.out (.inl rfl)).trans (Mv.of_below hal); have hB2 : g + 1 ≤ (w1.alloc (.cells #[.int .i64 x0, .int .i64 x1, .int .i64 x2, .int .i64 q, .int .i64 x4] 50)).heap.size := by simp; omega
  have hal' := Lib.hid hal; have hnew' := Lib.hid hnew; have hb2' := Lib.hid hb2; have hsp2' := Lib.hid hsp2; have hmv2' := Lib.hid hmv2; clear hal hnew hb2 hsp2 hmv2; refine Mid.mk ⟨fun _ => HS.out, ?_⟩; refine till_one 16 3 (by kernel_rfl) (by kernel_rfl) ?_; simp only [pickL, List.map_cons, List.map_nil, List.getD_cons_succ, List.getD_cons_zero]
  go_wp2_with (at_builtin; refine wpList_app2 rfl _ _ 43 rfl (g + 1) 50 i0 z0 5 40 Tryz.underlying43 hi0 hz hz1 hz2 hz3 (by decide) (.slice a l.length c) l.length _ rfl hsp2'.out ⟨w1.heap.size, 0, none⟩ 1 1 (spC (x0, x1, x2, q, x4)) rfl hnew'.out (spC_one _) (by omega) (by decide) hB2 ?_; intro a8 c8 w8 ob hg8 hown8; have Ob := Lib.hid ob; have Hg8 := Lib.hid hg8; have Ho8 := Lib.hid hown8; clear ob hg8 hown8)
  have hb8 := hb2'.out.grown Hg8.out hne'.out; have hmv8 := hmv2'.out.trans (Mv.of_grown Hg8.out Ho8.out); have d2 : w8.cell? ⟨g, 2, none⟩ = some (.slice a l.length c) := hb8.cell rfl; have HS := Lib.hid (hsurj'.out _ d2); have f2 := hb8.frozen 2; have hb8' := Lib.hid hb8; have hmv8' := Lib.hid hmv8; clear hb8 hmv8; refine Mid.mk ⟨fun _ => HS.out, ?_⟩; refine till_free [17, 18] 1 (by kernel_rfl) noP_put (by kernel_rfl) (by kernel_rfl) (by kernel_rfl) HS.out ?_; simp only [pickL, List.map_cons, List.map_nil, List.getD_cons_succ, List.getD_cons_zero]
  iterate 2 (go_big_quiet_step (fail))
  refine wpQuiet_nil ?_; refine till_one 19 0 (by kernel_rfl) (by kernel_rfl) ?_; simp only [pickL, List.map_cons, List.map_nil, List.getD_cons_succ, List.getD_cons_zero]
  go_wp2_with fail
  have hb9 := hb8'.out.set 2 (.slice a8 (l.length + 1) c8); have ho9 := own_set_other Ob.out (show g < g + 1 by omega) 2 (.slice a8 (l.length + 1) c8); have hmv9 := hmv8'.out.trans (Mv.of_but (g := g) (gt := g) (sv := .slice a8 (l.length + 1) c8) ((But.refl g w8).set 2 (.slice a8 (l.length + 1) c8)) (.inl rfl)); have hb9' := Lib.hid hb9; have ho9' := Lib.hid ho9; have hmv9' := Lib.hid hmv9; clear hb9 ho9 hmv9
  first | refine Mid.mk ?_ | skip
  first | refine ⟨fun h => (Bool.false_ne_true h.symm).elim, ?_⟩ | skip
  refine till_last (by kernel_rfl) ?_; refine noP_normal ?_
  go_wp2_with fail
  refine bodyPost_end (results_none rfl _ _ _) rfl ?_; exact ⟨_, rfl, hb9'.out, ho9'.out, hmv9'.out⟩
end Go.Proofs.YtceclmpmpldmlaaGreat

namespace Go.Proofs.YtceclmpmpldmlaaGreat
open Go.RowKit Tt
set_option linter.unusedVariables false
set_option linter.unusedSimpArgs false

set_option maxHeartbeats 400000 in
theorem same01 (a a' : Option Addr) (n n' c c' : Nat) (x y : List Int) (w : World) (hx : Sl w a n c 1 (ints .u8 x)) (hy : Sl w a' n' c' 1 (ints .u8 y)) :
    Calls Tryz.prog 26 #[.slice a n c, .slice a' n' c'] w fun e w' => e = .returned (.bool (x == y)) ∧ Qt w w' := by
  have hxl : x.length = n := hx.ilen; have hyl : y.length = n' := hy.ilen; have hn := hx.le; have hm := hx.max; have hn' := hy.le; have hm' := hy.max
  by_cases hne : n = n'
  · subst hne
    have Hx := Lib.hid hxl; have Hy := Lib.hid hyl; have hne : ((n : Int) != (n : Int)) = false := by simp
    clear hxl hyl
    go_enter Tryz.func26, Tryz.ntmps26
    go_wp2
    go_loopw [4, 5] (fun r i wr => ∃ k : Nat, k ≤ n ∧ i = .int .i64 k ∧ (x.take k = y.take k) ∧ r = .bool false ∧ Qt w wr) (fun _ i _ => n - (intOf i).toNat)
    case atStart => exact ⟨0, Nat.zero_le _, rfl, rfl, rfl, Qt.refl _⟩
    case round =>
      obtain ⟨k, hk, rfl, htk, rfl, hq⟩ := hrel
      by_cases hlt : k < n
      · obtain ⟨b, o, rfl, hbx, cx⟩ := (hx.qt hq).at hlt
        obtain ⟨b', o', rfl, hby, cy⟩ := (hy.qt hq).at hlt; have c1 := cx k _ (ints_get (by rw [Hx.out]; exact hlt)); have c2 := cy k _ (ints_get (by rw [Hy.out]; exact hlt)); clear cx cy; have Htk := Lib.hid htk; clear htk
        by_cases he : x.getD k 0 = y.getD k 0
        · have hb : (x.getD k 0 != y.getD k 0) = false := by rw [he]; simp
          have He := Lib.hid he; clear he
          generalize hu : x.getD k 0 = u at *
          generalize hv : y.getD k 0 = v at *
          have Hu := Lib.hid hu; have Hv := Lib.hid hv; clear hu hv
          go_wp2
          go_quiet (fail)
          go_wp2
          go_roundw
          case rel => exact ⟨k + 1, by omega, by go_num, take_succ_eq Hx.out Hy.out hlt Htk.out (Hu.out.trans (He.out.trans Hv.out.symm)), rfl, hq.step _⟩
          case measure => simp [intOf]; omega
        · have hb : (x.getD k 0 != y.getD k 0) = true := by simpa using he
          have He := Lib.hid he; clear he
          generalize hu : x.getD k 0 = u at *
          generalize hv : y.getD k 0 = v at *
          have Hu := Lib.hid hu; have Hv := Lib.hid hv; clear hu hv
          go_wp2
          go_quiet (fail)
          go_wp2
          go_ret
          exact ⟨ret_bool (ne_of_at (fun h => He.out (Hu.out.symm.trans (h.trans Hv.out)))).symm, hq.step _⟩
      · have Htk := Lib.hid htk
        clear htk
        go_wp2
        go_ret
        exact ⟨ret_bool (eq_of_take Hx.out Hy.out (by omega) Htk.out).symm, hq⟩
  · have hne : ((n : Int) != (n' : Int)) = true := by simp; omega
    have e : (x == y) = false := by rw [beq_eq_false_iff_ne]; rintro rfl; omega
    go_enter Tryz.func26, Tryz.ntmps26
    go_wp2
    go_ret
    exact ⟨ret_bool e.symm, Qt.refl _⟩
attribute [-go_sem] run_neq_struct
end Go.Proofs.YtceclmpmpldmlaaGreat

namespace Go.Proofs.YtceclmpmpldmlaaGreat
open Go.RowKit Tt
set_option linter.unusedVariables false
set_option linter.unusedSimpArgs false

/-- a row of tags that is read -/
structure Tgr (w : World) (a : Option Addr) (n c : Nat) (zs : List Tz) : Prop where
  row : Sl w a n c 4 (fl tzc zs)
  each : ∀ z ∈ zs, Sl w z.1.2.2.2.1 z.1.2.2.2.2.1 z.1.2.2.2.2.2 1 (ints .u8 z.2)
theorem Tgr.mono {w w' : World} {a : Option Addr} {n c : Nat} {zs : List Tz} (h : Tgr w a n c zs) (hb : Below w.heap.size w w') : Tgr w' a n c zs := ⟨h.row.mono hb, fun z hz => (h.each z hz).mono hb⟩
theorem Tgr.len {w : World} {a : Option Addr} {n c : Nat} {zs : List Tz} (h : Tgr w a n c zs) : zs.length = n := h.row.flen tzc_len (by decide)
theorem Tgr.at {w : World} {a : Option Addr} {n c : Nat} {zs : List Tz} (h : Tgr w a n c zs) {k : Nat} (hk : k < n) :
    ∃ b o, a = some ⟨b, o, none⟩ ∧ b < w.heap.size ∧ w.cell? ⟨b, o + k * 4, none⟩ = some (.int .i64 (zs.getD k tz0).1.1) ∧ w.cell? ⟨b, o + k * 4 + 1, none⟩ = some (.int .i64 (zs.getD k tz0).1.2.1) ∧ w.cell? ⟨b, o + k * 4 + 2, none⟩ = some (.int .i64 (zs.getD k tz0).1.2.2.1) ∧
      w.cell? ⟨b, o + k * 4 + 3, none⟩ = some (.slice (zs.getD k tz0).1.2.2.2.1 (zs.getD k tz0).1.2.2.2.2.1 (zs.getD k tz0).1.2.2.2.2.2) ∧ Sl w (zs.getD k tz0).1.2.2.2.1 (zs.getD k tz0).1.2.2.2.2.1 (zs.getD k tz0).1.2.2.2.2.2 1 (ints .u8 (zs.getD k tz0).2) := by
  obtain ⟨b, o, rfl, hb, fe⟩ := h.row.elem tzc_len (by decide) tz0 hk; have f0 := fe 0 _ rfl; refine ⟨b, o, rfl, hb, by simpa using f0, fe 1 _ rfl, fe 2 _ rfl, fe 3 _ rfl, h.each _ ?_⟩; rw [getD_el (by rw [h.len]; exact hk)]; exact List.getElem_mem _
theorem map_getD {α β : Type} (f : α → β) (l : List α) (d : α) (i : Nat) : (l.map f).getD i (f d) = f (l.getD i d) := by
  simp only [List.getD_eq_getElem?_getD, List.getElem?_map]
  cases l[i]? <;> rfl
/-- a directory that is read -/
def DirR (w : World) : (f : Nat) → DirT f → Dz → Prop
  | 0, _, _ => False
  | f + 1, d, v => ∃ (ta : Option Addr) (tn tc : Nat) (zs : List Tz) (sa : Option Addr) (sn sc : Nat) (ds : List (Int × Dz)) (ba : Option Addr) (bn bc : Nat), v = (.slice ta tn tc, .slice sa sn sc, .slice ba bn bc) ∧ Tgr w ta tn tc zs ∧ d.1 = zs.map tagz ∧
      Sl w sa sn sc 4 (fl sbC ds) ∧ ds.length = d.2.1.length ∧ (∀ i (h : i < ds.length) (h' : i < d.2.1.length), ds[i].1 = d.2.1[i].1 ∧ DirR w f d.2.1[i].2 ds[i].2) ∧ Sl w ba bn bc 1 (ints .u8 d.2.2)
theorem DirR.mono {w w' : World} (hb : Below w.heap.size w w') : ∀ {f : Nat} {d : DirT f} {v : Dz}, DirR w f d v → DirR w' f d v
  | 0, _, _, h => h.elim
  | f + 1, d, v, h => by
    obtain ⟨ta, tn, tc, zs, sa, sn, sc, ds, ba, bn, bc, h1, h2, h3, h4, h5, h6, h7⟩ := h; exact ⟨ta, tn, tc, zs, sa, sn, sc, ds, ba, bn, bc, h1, h2.mono hb, h3, h4.mono hb, h5, fun i hi hi' => ⟨(h6 i hi hi').1, (h6 i hi hi').2.mono hb⟩, h7.mono hb⟩
end Go.Proofs.YtceclmpmpldmlaaGreat

namespace Go.Proofs.YtceclmpmpldmlaaGreat
open Go.RowKit Tt
set_option linter.unusedVariables false
set_option linter.unusedSimpArgs false

end Go.Proofs.YtceclmpmpldmlaaGreat

namespace Go.Proofs.YtceclmpmpldmlaaGreat
open Go.RowKit Tt
set_option linter.unusedVariables false
set_option linter.unusedSimpArgs false

/-- directories that are read -/
def DirsR (f : Nat) (w : World) (a : Option Addr) (n c : Nat) (ds : List (DirT f)) : Prop :=
  ∃ dzs : List Dz, dzs.length = ds.length ∧ Sl w a n c 3 (fl dvC dzs) ∧ ∀ i (h : i < dzs.length) (h' : i < ds.length), DirR w f ds[i] dzs[i]
theorem DirsR.mono {f : Nat} {w w' : World} {a : Option Addr} {n c : Nat} {ds : List (DirT f)} (h : DirsR f w a n c ds) (hb : Below w.heap.size w w') : DirsR f w' a n c ds := by
  obtain ⟨dzs, h1, h2, h3⟩ := h; exact ⟨dzs, h1, h2.mono hb, fun i hi hi' => (h3 i hi hi').mono hb⟩
abbrev dzz : Dz := (.slice none 0 0, .slice none 0 0, .slice none 0 0)
end Go.Proofs.YtceclmpmpldmlaaGreat
