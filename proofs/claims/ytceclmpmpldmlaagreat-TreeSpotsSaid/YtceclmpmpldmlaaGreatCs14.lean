/- Chapter 19: an entry's bytes: the program. | Chapter 21: bytes with others in their place; where a spot is: the document. | Bytes that are laid over bytes: plain. -/
import Derived.Test.YtceclmpmpldmlaaGreatCs13
import Derived.Test.YtceclmpmpldmlaaGreatCs12
import Derived.Test.YtceclmpmpldmlaaGreatCs00
namespace Go.Proofs.YtceclmpmpldmlaaGreat
open Go.RowKit Tt
set_option linter.unusedVariables false
set_option linter.unusedSimpArgs false

theorem putS_length {n s o : Int} (h : putOk n s o = true) : (putS n s o).length = s.toNat := by
  unfold putS; rw [if_pos h]
  split <;> simp [leb_len]
def preE (x : Ent) (o k : Int) : List Int :=
  if k = 0 then [] else if k = 1 then putS x.1 2 o else if k = 2 then putS x.1 2 o ++ putS x.2.1 2 o else if k = 3 then putS x.1 2 o ++ putS x.2.1 2 o ++ putS x.2.2.1 4 o else entW x o
def lenE (k : Int) : Nat := if k = 0 then 0 else if k = 1 then 2 else if k = 2 then 4 else if k = 3 then 8 else 12
theorem infoBB : (Tryz.prog.info? 5).map (fun i => (i.zero, i.size, i.bytes)) = some (some (.int .u8 0), 1, 1) := by kernel_rfl
theorem own_ne_blk0 {w : World} {B : Nat} {E T : TypeId} {sz : Nat} {v : Value} {n g : Nat} {xs : List Value} {cs : Array Value} (h : w.ownsRow B E sz v n xs) (hb : Blk w g T cs) (hE : E ≠ T) : v.ownBlock ≠ some g := fun e => by
  rcases h.2 with ⟨rfl, _⟩ | ⟨g', cap, cur, rfl, _, hg, _⟩
  · cases e
  · obtain rfl : g' = g := by injection e
    unfold Blk at hb; rw [hb] at hg; injection hg with hg; injection hg with h1 h2; exact hE h2.symm
set_option maxRecDepth 20000 in
set_option maxHeartbeats 4000000 in
theorem ewrite_any (x0 x1 x2 x3 o : Int) (w : World) (hok : entOk (x0, x1, x2, x3) o = true) :
    Calls Tryz.prog 98 #[.agg #[.int .i64 x0, .int .i64 x1, .int .i64 x2, .int .i64 x3], .int .i64 o] w fun e w' => ∃ a c, e = .returned (.tuple #[.slice a 12 c, .bool true]) ∧ w'.ownsRow w.heap.size 5 1 (.slice a 12 c) 12 (ints .u8 (entW (x0, x1, x2, x3) o)) ∧ Below w.heap.size w w' := by
  obtain ⟨i0, hi, hz0, hz1, hz2⟩ := info_parts infoBB; unfold entOk at hok; simp only [Bool.and_eq_true] at hok; obtain ⟨W1, hW1, bA, bB, hb1, s1⟩ := two_boxes w 55 #[.int .i64 x0, .int .i64 x1, .int .i64 x2, .int .i64 x3] 222 #[.int .i64 2, .int .i64 2, .int .i64 4, .int .i64 4]; have hok' := Lib.hid hok; have bA' := Lib.hid bA; have bB' := Lib.hid bB; have hb1' := Lib.hid hb1; have hW1' := Lib.hid hW1; clear hok bA bB hb1 hW1
  go_enter Tryz.func98, Tryz.ntmps98
  go_wp2_with fail
  rw [hW1'.out]
  go_loopw [6, 22] (fun v iv wr => ∃ (k : Int) (a : Option Addr) (c : Nat), (k = 0 ∨ k = 1 ∨ k = 2 ∨ k = 3 ∨ k = 4) ∧ iv = .int .i64 k ∧ v = .slice a (lenE k) c ∧ Hid (wr.ownsRow w.heap.size 5 1 (.slice a (lenE k) c) (lenE k) (ints .u8 (preE (x0, x1, x2, x3) o k))) ∧ Hid (Blk wr (w.heap.size + 1) 222 #[.int .i64 2, .int .i64 2, .int .i64 4, .int .i64 4]) ∧ Hid (Below w.heap.size w wr)) (fun _ iv _ => 4 - (intOf iv).toNat)
  case atStart => exact ⟨0, none, 0, .inl rfl, rfl, rfl, Lib.hid (own_nil _ _ _ _), bB', hb1'⟩
  clear bB'
  case round =>
    obtain ⟨k, a, c, hk, rfl, rfl, ho, bB, hb⟩ := hrel; have ho := ho.out; have bB := bB.out; have hb := hb.out
    rcases hk with rfl | rfl | rfl | rfl | rfl
    ·
      have hX : ∀ W, (Instr.index 222 (.agg #[.int .i64 x0, .int .i64 x1, .int .i64 x2, .int .i64 x3]) (.int .i64 0)).run Tryz.prog W = .ok (.int .i64 x0) W := fun W => by kernel_rfl
      have hP := fun W => put_any x0 2 o W; have hpk : putOk x0 2 o = true := by simp only [hok'.out]
      have hpl := putS_length hpk; simp only [hpk] at hP; have hpe : preE (x0, x1, x2, x3) o (0 + 1) = preE (x0, x1, x2, x3) o 0 ++ putS x0 2 o := by simp [preE, entW]
      obtain ⟨by_, hby⟩ : ∃ b, putS x0 2 o = b := ⟨_, rfl⟩; rw [hby] at hpl hpe; simp only [hby] at hP; have c7 : wr.cell? ⟨w.heap.size + 1, 0, none⟩ = some (.int .i64 2) := bB.cell rfl; have hle : lenE 0 = 0 := by simp [lenE]
      rw [hle] at ho ⊢; have hP' := Lib.hid hP; have hpk' := Lib.hid hpk; have hpe' := Lib.hid hpe; have hby' := Lib.hid hby
      have bB' := Lib.hid bB; have hb' := Lib.hid hb; clear hP hpk hpe hby bB hb
      go_wp2_with fail
      refine (hP'.out _).mono ?_; rintro e w2 ⟨a2, m2, c2, rfl, ho2, hb2⟩; have hbl2 : by_.length = m2 := (Sl.of_own ho2).1.ilen; have hs2 := (Sl.of_own ho2).1; obtain rfl : m2 = 2 := by rw [← hbl2, hpl]; rfl
      have ho1 := own_later ho hb2; have bB2 := bB'.out.late hb2; have hbw2 := hb'.out.trans (hb2.mono hb'.out.size); have hsz2 := hbw2.size; clear c7 hbl2 hpl; have hs2' := Lib.hid hs2; have bB2' := Lib.hid bB2; have hbw2' := Lib.hid hbw2; have hb2' := Lib.hid hb2; clear hs2 bB2 hbw2 hb2
      go_wp2_with (at_builtin; refine wpList_app rfl _ _ 24 rfl w.heap.size 5 i0 _ 1 1 Tryz.underlying24 hi hz0 hz1 hz2 rfl (by decide) _ 0 _ rfl ho1 a2 2 c2 (ints .u8 by_) rfl hs2'.out ints_one (by decide) (by decide) hsz2 ?_; intro a5 c5 w5 ob hb5 hg5; have Ob := Lib.hid ob; have Hb5 := Lib.hid (hbw2'.out.trans hb5); have BB5 := Lib.hid (bB2'.out.grown hg5 (own_ne_blk0 ho1 bB2'.out (by decide))); clear ob hb5 hg5)
      go_roundw
      case rel => exact ⟨0 + 1, a5, c5, by decide, rfl, rfl, Lib.hid (by rw [hpe'.out, ints_append]; exact Ob.out), BB5, Hb5⟩
      case measure => simp [intOf]
    ·
      have hX : ∀ W, (Instr.index 222 (.agg #[.int .i64 x0, .int .i64 x1, .int .i64 x2, .int .i64 x3]) (.int .i64 1)).run Tryz.prog W = .ok (.int .i64 x1) W := fun W => by kernel_rfl
      have hP := fun W => put_any x1 2 o W; have hpk : putOk x1 2 o = true := by simp only [hok'.out]
      have hpl := putS_length hpk; simp only [hpk] at hP; have hpe : preE (x0, x1, x2, x3) o (1 + 1) = preE (x0, x1, x2, x3) o 1 ++ putS x1 2 o := by simp [preE, entW]
      obtain ⟨by_, hby⟩ : ∃ b, putS x1 2 o = b := ⟨_, rfl⟩; rw [hby] at hpl hpe; simp only [hby] at hP; have c7 : wr.cell? ⟨w.heap.size + 1, 1, none⟩ = some (.int .i64 2) := bB.cell rfl; have hle : lenE 1 = 2 := by simp [lenE]
      rw [hle] at ho ⊢; have hP' := Lib.hid hP; have hpk' := Lib.hid hpk; have hpe' := Lib.hid hpe; have hby' := Lib.hid hby
      have bB' := Lib.hid bB; have hb' := Lib.hid hb; clear hP hpk hpe hby bB hb
      go_wp2_with fail
      refine (hP'.out _).mono ?_; rintro e w2 ⟨a2, m2, c2, rfl, ho2, hb2⟩; have hbl2 : by_.length = m2 := (Sl.of_own ho2).1.ilen; have hs2 := (Sl.of_own ho2).1; obtain rfl : m2 = 2 := by rw [← hbl2, hpl]; rfl
      have ho1 := own_later ho hb2; have bB2 := bB'.out.late hb2; have hbw2 := hb'.out.trans (hb2.mono hb'.out.size); have hsz2 := hbw2.size; clear c7 hbl2 hpl; have hs2' := Lib.hid hs2; have bB2' := Lib.hid bB2; have hbw2' := Lib.hid hbw2; have hb2' := Lib.hid hb2; clear hs2 bB2 hbw2 hb2
      go_wp2_with (at_builtin; refine wpList_app rfl _ _ 24 rfl w.heap.size 5 i0 _ 1 1 Tryz.underlying24 hi hz0 hz1 hz2 rfl (by decide) _ 2 _ rfl ho1 a2 2 c2 (ints .u8 by_) rfl hs2'.out ints_one (by decide) (by decide) hsz2 ?_; intro a5 c5 w5 ob hb5 hg5; have Ob := Lib.hid ob; have Hb5 := Lib.hid (hbw2'.out.trans hb5); have BB5 := Lib.hid (bB2'.out.grown hg5 (own_ne_blk0 ho1 bB2'.out (by decide))); clear ob hb5 hg5)
      go_roundw
      case rel => exact ⟨1 + 1, a5, c5, by decide, rfl, rfl, Lib.hid (by rw [hpe'.out, ints_append]; exact Ob.out), BB5, Hb5⟩
      case measure => simp [intOf]
    ·
      have hX : ∀ W, (Instr.index 222 (.agg #[.int .i64 x0, .int .i64 x1, .int .i64 x2, .int .i64 x3]) (.int .i64 2)).run Tryz.prog W = .ok (.int .i64 x2) W := fun W => by kernel_rfl
      have hP := fun W => put_any x2 4 o W; have hpk : putOk x2 4 o = true := by simp only [hok'.out]
      have hpl := putS_length hpk; simp only [hpk] at hP; have hpe : preE (x0, x1, x2, x3) o (2 + 1) = preE (x0, x1, x2, x3) o 2 ++ putS x2 4 o := by simp [preE, entW]
      obtain ⟨by_, hby⟩ : ∃ b, putS x2 4 o = b := ⟨_, rfl⟩; rw [hby] at hpl hpe; simp only [hby] at hP; have c7 : wr.cell? ⟨w.heap.size + 1, 2, none⟩ = some (.int .i64 4) := bB.cell rfl; have hle : lenE 2 = 4 := by simp [lenE]
      rw [hle] at ho ⊢; have hP' := Lib.hid hP; have hpk' := Lib.hid hpk; have hpe' := Lib.hid hpe; have hby' := Lib.hid hby
      have bB' := Lib.hid bB; have hb' := Lib.hid hb; clear hP hpk hpe hby bB hb
      go_wp2_with fail
      refine (hP'.out _).mono ?_; rintro e w2 ⟨a2, m2, c2, rfl, ho2, hb2⟩; have hbl2 : by_.length = m2 := (Sl.of_own ho2).1.ilen; have hs2 := (Sl.of_own ho2).1; obtain rfl : m2 = 4 := by rw [← hbl2, hpl]; rfl
      have ho1 := own_later ho hb2; have bB2 := bB'.out.late hb2; have hbw2 := hb'.out.trans (hb2.mono hb'.out.size); have hsz2 := hbw2.size; clear c7 hbl2 hpl; have hs2' := Lib.hid hs2; have bB2' := Lib.hid bB2; have hbw2' := Lib.hid hbw2; have hb2' := Lib.hid hb2; clear hs2 bB2 hbw2 hb2
      go_wp2_with (at_builtin; refine wpList_app rfl _ _ 24 rfl w.heap.size 5 i0 _ 1 1 Tryz.underlying24 hi hz0 hz1 hz2 rfl (by decide) _ 4 _ rfl ho1 a2 4 c2 (ints .u8 by_) rfl hs2'.out ints_one (by decide) (by decide) hsz2 ?_; intro a5 c5 w5 ob hb5 hg5; have Ob := Lib.hid ob; have Hb5 := Lib.hid (hbw2'.out.trans hb5); have BB5 := Lib.hid (bB2'.out.grown hg5 (own_ne_blk0 ho1 bB2'.out (by decide))); clear ob hb5 hg5)
      go_roundw
      case rel => exact ⟨2 + 1, a5, c5, by decide, rfl, rfl, Lib.hid (by rw [hpe'.out, ints_append]; exact Ob.out), BB5, Hb5⟩
      case measure => simp [intOf]
    ·
      have hX : ∀ W, (Instr.index 222 (.agg #[.int .i64 x0, .int .i64 x1, .int .i64 x2, .int .i64 x3]) (.int .i64 3)).run Tryz.prog W = .ok (.int .i64 x3) W := fun W => by kernel_rfl
      have hP := fun W => put_any x3 4 o W; have hpk : putOk x3 4 o = true := by simp only [hok'.out]
      have hpl := putS_length hpk; simp only [hpk] at hP; have hpe : preE (x0, x1, x2, x3) o (3 + 1) = preE (x0, x1, x2, x3) o 3 ++ putS x3 4 o := by simp [preE, entW]
      obtain ⟨by_, hby⟩ : ∃ b, putS x3 4 o = b := ⟨_, rfl⟩; rw [hby] at hpl hpe; simp only [hby] at hP; have c7 : wr.cell? ⟨w.heap.size + 1, 3, none⟩ = some (.int .i64 4) := bB.cell rfl; have hle : lenE 3 = 8 := by simp [lenE]
      rw [hle] at ho ⊢; have hP' := Lib.hid hP; have hpk' := Lib.hid hpk; have hpe' := Lib.hid hpe; have hby' := Lib.hid hby
      have bB' := Lib.hid bB; have hb' := Lib.hid hb; clear hP hpk hpe hby bB hb
      go_wp2_with fail
      refine (hP'.out _).mono ?_; rintro e w2 ⟨a2, m2, c2, rfl, ho2, hb2⟩; have hbl2 : by_.length = m2 := (Sl.of_own ho2).1.ilen; have hs2 := (Sl.of_own ho2).1; obtain rfl : m2 = 4 := by rw [← hbl2, hpl]; rfl
      have ho1 := own_later ho hb2; have bB2 := bB'.out.late hb2; have hbw2 := hb'.out.trans (hb2.mono hb'.out.size); have hsz2 := hbw2.size; clear c7 hbl2 hpl; have hs2' := Lib.hid hs2; have bB2' := Lib.hid bB2; have hbw2' := Lib.hid hbw2; have hb2' := Lib.hid hb2; clear hs2 bB2 hbw2 hb2
      go_wp2_with (at_builtin; refine wpList_app rfl _ _ 24 rfl w.heap.size 5 i0 _ 1 1 Tryz.underlying24 hi hz0 hz1 hz2 rfl (by decide) _ 8 _ rfl ho1 a2 4 c2 (ints .u8 by_) rfl hs2'.out ints_one (by decide) (by decide) hsz2 ?_; intro a5 c5 w5 ob hb5 hg5; have Ob := Lib.hid ob; have Hb5 := Lib.hid (hbw2'.out.trans hb5); have BB5 := Lib.hid (bB2'.out.grown hg5 (own_ne_blk0 ho1 bB2'.out (by decide))); clear ob hb5 hg5)
      go_roundw
      case rel => exact ⟨3 + 1, a5, c5, by decide, rfl, rfl, Lib.hid (by rw [hpe'.out, ints_append]; exact Ob.out), BB5, Hb5⟩
      case measure => simp [intOf]
    · have e12 : lenE 4 = 12 := by decide
      rw [e12] at ho ⊢; have bB' := Lib.hid bB; have hb' := Lib.hid hb; clear bB hb
      go_wp2_with fail
      refine bodyPost_ret (results_tmp2 rfl _ _ _) rfl ?_; exact ⟨a, c, rfl, by simpa [preE] using ho, hb'.out⟩
end Go.Proofs.YtceclmpmpldmlaaGreat

namespace Go.Proofs.YtceclmpmpldmlaaGreat
open Go.RowKit Tt
set_option linter.unusedVariables false
set_option linter.unusedSimpArgs false

theorem find_at {α : Type} {p : α → Bool} {l : List α} {k : Nat} (hk : k < l.length) (h : p l[k] = true) (hn : ∀ i (hi : i < l.length), i < k → p l[i] = false) : l.find? p = some l[k] := by
  rw [List.find?_eq_some_iff_getElem]; exact ⟨h, k, hk, rfl, fun j hj => by rw [hn j (by omega) hj]; rfl⟩
end Go.Proofs.YtceclmpmpldmlaaGreat

namespace Go.Proofs.YtceclmpmpldmlaaGreat
open Go.RowKit Tt
set_option linter.unusedVariables false
set_option linter.unusedSimpArgs false

/-- two patches do not meet -/
def Dj (p q : Pt) : Prop := p.1 + p.2.length ≤ q.1 ∨ q.1 + q.2.length ≤ p.1
theorem Dj.symm {p q : Pt} (h : Dj p q) : Dj q p := Or.symm h
theorem splice_getD {b c : List Int} {i : Nat} (h : i + c.length ≤ b.length) (k : Nat) : (splice b i c).getD k 0 = if i ≤ k ∧ k < i + c.length then c.getD (k - i) 0 else b.getD k 0 := by
  unfold splice; simp only [List.getD_eq_getElem?_getD, List.getElem?_append, List.getElem?_take, List.getElem?_drop, List.length_take]
  by_cases h1 : k < i
  · rw [if_pos (by omega), if_pos h1, if_neg (by omega)]
  · rw [if_neg (by omega)]
    by_cases h2 : k < i + c.length
    · rw [if_pos (by omega), if_pos (by omega), Nat.min_eq_left (by omega)]
    · rw [if_neg (by omega), if_neg (by omega)]
      congr 2
      omega
theorem list_ext0 {a b : List Int} (hl : a.length = b.length) (h : ∀ k, k < a.length → a.getD k 0 = b.getD k 0) : a = b := by
  refine List.ext_getElem hl fun k h1 h2 => ?_; have := h k h1
  rwa [List.getD_eq_getElem?_getD, List.getD_eq_getElem?_getD, List.getElem?_eq_getElem h1, List.getElem?_eq_getElem h2] at this
theorem splice_comm {b : List Int} {p q : Pt} (h : Dj p q) (hp : p.1 + p.2.length ≤ b.length) (hq : q.1 + q.2.length ≤ b.length) : splice (splice b p.1 p.2) q.1 q.2 = splice (splice b q.1 q.2) p.1 p.2 := by
  have e1 := splice_len hp; have e2 := splice_len hq; refine list_ext0 ((splice_len (by omega)).trans (e1.trans (e2.symm.trans (splice_len (by omega)).symm))) fun k hk => ?_; rw [splice_getD (by omega), splice_getD (by omega), splice_getD (by omega), splice_getD (by omega)]
  rcases h with h | h
  · by_cases h1 : q.1 ≤ k ∧ k < q.1 + q.2.length
    · rw [if_pos h1, if_neg (by omega), if_pos h1]
    · rw [if_neg h1]; by_cases h2 : p.1 ≤ k ∧ k < p.1 + p.2.length
      · rw [if_pos h2, if_pos h2]
      · rw [if_neg h2, if_neg h2, if_neg h1]
  · by_cases h1 : q.1 ≤ k ∧ k < q.1 + q.2.length
    · rw [if_pos h1, if_neg (by omega), if_pos h1]
    · rw [if_neg h1]; by_cases h2 : p.1 ≤ k ∧ k < p.1 + p.2.length
      · rw [if_pos h2, if_pos h2]
      · rw [if_neg h2, if_neg h2, if_neg h1]
def InB (n : Nat) (ps : List Pt) : Prop := ∀ p ∈ ps, p.1 + p.2.length ≤ n
theorem apP_cons (p : Pt) (ps : List Pt) (b : List Int) : apP (p :: ps) b = apP ps (splice b p.1 p.2) := rfl
theorem apP_len : ∀ (ps : List Pt) (b : List Int), InB b.length ps → (apP ps b).length = b.length
  | [], _, _ => rfl
  | p :: ps, b, h => by
    have h1 := splice_len (h p (List.mem_cons_self ..)); rw [apP_cons, apP_len ps _ (by rw [h1]; exact fun q hq => h q (List.mem_cons_of_mem _ hq)), h1]
theorem apP_out : ∀ (ps : List Pt) (b : List Int) (k : Nat), InB b.length ps → (∀ p ∈ ps, ¬ (p.1 ≤ k ∧ k < p.1 + p.2.length)) → (apP ps b).getD k 0 = b.getD k 0
  | [], _, _, _, _ => rfl
  | p :: ps, b, k, h, hk => by
    have hp := h p (List.mem_cons_self ..); have h1 := splice_len hp; rw [apP_cons, apP_out ps _ k (by rw [h1]; exact fun q hq => h q (List.mem_cons_of_mem _ hq)) (fun q hq => hk q (List.mem_cons_of_mem _ hq)), splice_getD hp, if_neg (hk p (List.mem_cons_self ..))]
theorem apP_at : ∀ (ps : List Pt) (b : List Int), InB b.length ps → ps.Pairwise Dj → ∀ p ∈ ps, ∀ i, i < p.2.length → (apP ps b).getD (p.1 + i) 0 = p.2.getD i 0
  | [], _, _, _, _, hp, _, _ => by cases hp
  | q :: ps, b, h, hd, p, hp, i, hi => by
    have hq := h q (List.mem_cons_self ..); have h1 := splice_len hq; have hb : InB (splice b q.1 q.2).length ps := by rw [h1]; exact fun r hr => h r (List.mem_cons_of_mem _ hr)
    obtain ⟨hd1, hd2⟩ := List.pairwise_cons.1 hd; rw [apP_cons]
    rcases List.mem_cons.1 hp with rfl | hp
    · rw [apP_out ps _ _ hb (fun r hr => by have := hd1 r hr; unfold Dj at this; omega), splice_getD hq, if_pos (by omega), Nat.add_sub_cancel_left]
    · exact apP_at ps _ hb hd2 p hp i hi
theorem apP_get {ps : List Pt} {b : List Int} (h : InB b.length ps) (hd : ps.Pairwise Dj) {p : Pt} (hp : p ∈ ps) : ((apP ps b).drop p.1).take p.2.length = p.2 := by
  have hl := apP_len ps b h; have := h p hp; refine list_ext0 (by simp; omega) fun k hk => ?_; have hk' : k < p.2.length := by simp at hk; omega
  rw [← apP_at ps b h hd p hp k hk']; simp only [List.getD_eq_getElem?_getD, List.getElem?_take, List.getElem?_drop]; rw [if_pos hk']
theorem apP_perm {ps qs : List Pt} (hpm : ps.Perm qs) : ∀ (b : List Int), InB b.length ps → ps.Pairwise Dj → apP ps b = apP qs b := by
  induction hpm with
  | nil => intros; rfl
  | cons p _ ih =>
    intro b h hd; have h1 := splice_len (h p (List.mem_cons_self ..)); rw [apP_cons, apP_cons]; exact ih _ (by rw [h1]; exact fun r hr => h r (List.mem_cons_of_mem _ hr)) (List.pairwise_cons.1 hd).2
  | swap p q l =>
    intro b h hd; have hq := h q (List.mem_cons_self ..); have hp := h p (List.mem_cons_of_mem _ (List.mem_cons_self ..)); have hdj := (List.pairwise_cons.1 hd).1 p (List.mem_cons_self ..); rw [apP_cons, apP_cons, apP_cons, apP_cons, splice_comm hdj hq hp]
  | trans h1 _ ih1 ih2 =>
    intro b h hd; rw [ih1 b h hd]; exact ih2 b (fun r hr => h r (h1.mem_iff.2 hr)) ((h1.pairwise_iff (fun {_ _} h => Dj.symm h)).1 hd)
theorem flatMap_perm {α β : Type} {f g : α → List β} : ∀ (l : List α), (∀ x ∈ l, (f x).Perm (g x)) → (l.flatMap f).Perm (l.flatMap g)
  | [], _ => List.Perm.refl _
  | x :: l, h => by
    rw [List.flatMap_cons, List.flatMap_cons]; exact (h x (List.mem_cons_self ..)).append (flatMap_perm l fun y hy => h y (List.mem_cons_of_mem _ hy))

/-- what is laid, behind an end: what, no, tag, long -/
abbrev Itm := Int × Int × Int × Int
def pushI (l : List Spt) (x : Itm) : List Spt := addS l x.1 x.2.1 x.2.2.1 x.2.2.2
def placed : Int → List Itm → List Spt
  | _, [] => []
  | e, x :: r => (x.1, x.2.1, x.2.2.1, evenS e, x.2.2.2) :: placed (evenS e + x.2.2.2) r
def endP : Int → List Itm → Int
  | e, [] => e
  | e, x :: r => endP (evenS e + x.2.2.2) r
theorem endS_push (l : List Spt) (x : Itm) : endS (pushI l x) = evenS (endS l) + x.2.2.2 := endS_add ..
theorem push_all : ∀ (is : List Itm) (l : List Spt), is.foldl pushI l = l ++ placed (endS l) is ∧ endS (is.foldl pushI l) = endP (endS l) is
  | [], l => by simp [placed, endP]
  | x :: is, l => by
    have ih := push_all is (pushI l x); rw [List.foldl_cons, ih.2, ih.1, endS_push]; refine ⟨?_, rfl⟩; unfold pushI addS; rw [List.append_assoc]
    rfl
theorem endP_le : ∀ (is : List Itm) (e : Int), 0 ≤ e → (∀ x ∈ is, 0 ≤ x.2.2.2) → e ≤ endP e is
  | [], e, _, _ => Int.le_refl _
  | x :: is, e, h, hx => by
    have h1 := evenS_le h; have h2 := hx x (List.mem_cons_self ..); have := endP_le is (evenS e + x.2.2.2) (by omega) fun y hy => hx y (List.mem_cons_of_mem _ hy)
    show e ≤ endP (evenS e + x.2.2.2) is
    omega
theorem placed_in : ∀ (is : List Itm) (e : Int), 0 ≤ e → (∀ x ∈ is, 0 ≤ x.2.2.2) → ∀ s ∈ placed e is, e ≤ s.2.2.2.1 ∧ s.2.2.2.1 % 2 = 0 ∧ 0 ≤ s.2.2.2.2 ∧ s.2.2.2.1 + s.2.2.2.2 ≤ endP e is
  | [], _, _, _, s, hs => by cases hs
  | x :: is, e, h, hx, s, hs => by
    have h1 := evenS_le h; have h2 := hx x (List.mem_cons_self ..); have hx' := fun y hy => hx y (List.mem_cons_of_mem _ hy)
    rcases List.mem_cons.1 hs with rfl | hs
    · have := endP_le is (evenS e + x.2.2.2) (by omega) hx'
      refine ⟨h1.1, ?_, h2, this⟩
      show evenS e % 2 = 0
      unfold evenS; omega
    · have := placed_in is (evenS e + x.2.2.2) (by omega) hx' s hs
      exact ⟨by omega, this.2⟩
/-- one spot lies ahead of another one -/
def Ahead (s t : Spt) : Prop := s.2.2.2.1 + s.2.2.2.2 ≤ t.2.2.2.1
theorem placed_ahead : ∀ (is : List Itm) (e : Int), 0 ≤ e → (∀ x ∈ is, 0 ≤ x.2.2.2) → (placed e is).Pairwise Ahead
  | [], _, _, _ => List.Pairwise.nil
  | x :: is, e, h, hx => by
    have h1 := evenS_le h; have h2 := hx x (List.mem_cons_self ..); have hx' := fun y hy => hx y (List.mem_cons_of_mem _ hy); exact List.Pairwise.cons (fun s hs => (placed_in is _ (by omega) hx' s hs).1) (placed_ahead is _ (by omega) hx')
def keyI (x : Itm) : Int × Int × Int := (x.1, x.2.1, x.2.2.1)
def keyS (x : Spt) : Int × Int × Int := (x.1, x.2.1, x.2.2.1)
theorem placed_keys : ∀ (is : List Itm) (e : Int), (placed e is).map keyS = is.map keyI
  | [], _ => rfl
  | x :: is, e => by
    show keyS _ :: (placed _ is).map keyS = keyI x :: is.map keyI
    rw [placed_keys is]; rfl
theorem placed_len (is : List Itm) (e : Int) : (placed e is).length = is.length := by
  have := congrArg List.length (placed_keys is e); simpa using this
theorem placed_mem : ∀ (is : List Itm) (e : Int) (x : Itm), x ∈ is → ∃ s ∈ placed e is, keyS s = keyI x ∧ s.2.2.2.2 = x.2.2.2
  | [], _, _, h => by cases h
  | y :: is, e, x, h => by
    rcases List.mem_cons.1 h with rfl | h
    · exact ⟨_, List.mem_cons_self .., rfl, rfl⟩
    · obtain ⟨s, h1, h2⟩ := placed_mem is (evenS e + y.2.2.2) x h
      exact ⟨s, List.mem_cons_of_mem _ h1, h2⟩
theorem atP_key {a b c : Int} {s : Spt} : atP a b c s = true ↔ keyS s = (a, b, c) := by
  unfold atP keyS
  simp [Prod.ext_iff, and_assoc]
theorem atS_key {l : List Spt} (hd : (l.map keyS).Nodup) {s : Spt} (hs : s ∈ l) : l.any (atP s.1 s.2.1 s.2.2.1) = true ∧ atS l s.1 s.2.1 s.2.2.1 = s.2.2.2.1 := by
  induction l with
  | nil => cases hs
  | cons t l ih =>
    obtain ⟨h1, h2⟩ := List.nodup_cons.1 hd
    rcases List.mem_cons.1 hs with rfl | hs
    · have : atP s.1 s.2.1 s.2.2.1 s = true := atP_key.2 rfl
      unfold atS
      simp [List.find?, this]
    · obtain ⟨i1, i2⟩ := ih h2 hs
      have hne : atP s.1 s.2.1 s.2.2.1 t = false := by
        cases hh : atP s.1 s.2.1 s.2.2.1 t with
        | false => rfl
        | true => exact absurd (List.mem_map.2 ⟨s, hs, (atP_key.1 hh).symm⟩) h1
      unfold atS at i2 ⊢; rw [List.any_cons, hne, List.find?, hne]; exact ⟨by simpa using i1, i2⟩
/-- a patch lies in a spot of a kind -/
def InQ (l : List Spt) (Q : Spt → Prop) (p : Pt) : Prop := ∃ s ∈ l, Q s ∧ s.2.2.2.1 ≤ p.1 ∧ (p.1 : Int) + p.2.length ≤ s.2.2.2.1 + s.2.2.2.2
theorem ahead_two {l : List Spt} (h : l.Pairwise Ahead) {s t : Spt} (hs : s ∈ l) (ht : t ∈ l) (hn : s ≠ t) : Ahead s t ∨ Ahead t s := by
  induction l with
  | nil => cases hs
  | cons u l ih =>
    obtain ⟨h1, h2⟩ := List.pairwise_cons.1 h
    rcases List.mem_cons.1 hs with e1 | hs2 <;> rcases List.mem_cons.1 ht with e2 | ht2
    · exact absurd (e1.trans e2.symm) hn
    · exact .inl (e1 ▸ h1 _ ht2)
    · exact .inr (e2 ▸ h1 _ hs2)
    · exact ih h2 hs2 ht2
theorem dj_of {l : List Spt} (h : l.Pairwise Ahead) {Q R : Spt → Prop} {p q : Pt} (hp : InQ l Q p) (hq : InQ l R q) (hx : ∀ s, Q s → R s → False) : Dj p q := by
  obtain ⟨s, hs, h1, h2, h3⟩ := hp; obtain ⟨t, ht, h4, h5, h6⟩ := hq; have hn : s ≠ t := fun e => hx s h1 (e ▸ h4); unfold Dj
  rcases ahead_two h hs ht hn with h7 | h7 <;> unfold Ahead at h7 <;> omega
theorem InQ.mono {l : List Spt} {Q R : Spt → Prop} {p : Pt} (h : InQ l Q p) (hx : ∀ s, Q s → R s) : InQ l R p := by
  obtain ⟨s, h1, h2, h3⟩ := h; exact ⟨s, h1, hx s h2, h3⟩
end Go.Proofs.YtceclmpmpldmlaaGreat
