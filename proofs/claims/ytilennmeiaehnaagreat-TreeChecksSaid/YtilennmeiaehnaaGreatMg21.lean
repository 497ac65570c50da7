/- Chapter 21: a tree's bytes: plain words; the writer in memory. | Chapter 19: an entry's bytes: the program. | Chapter 21: the writer's spots, entries with a number: the program. -/
import Derived.Test.YtilennmeiaehnaaGreatMg20
import Derived.Test.YtilennmeiaehnaaGreatMg04
import Derived.Test.YtilennmeiaehnaaGreatMg09
namespace Go.Proofs.YtilennmeiaehnaaGreat
open Go.RowKit Tt
set_option linter.unusedVariables false
set_option linter.unusedSimpArgs false

/-- a value's bytes in an order -/
def bytesV (x : Tgs) (o : Int) : List Int := if mayS x.2.1 x.2.2.1 x.2.2.2 = true then turnS x.2.2.2 (kindS x.2.1).2.1 o else []
def padB (b : List Int) : List Int := b ++ List.replicate (4 - b.length) 0
/-- is a value within its entry? -/
def eofB (tag : Int) (b : List Int) (o : Int) : Bool := putOk tag 2 o && decide (b.length ≠ 0) && decide (b.length ≤ 4)
def entW (x : Ent) (o : Int) : List Int := putS x.1 2 o ++ putS x.2.1 2 o ++ putS x.2.2.1 4 o ++ putS x.2.2.2 4 o
def entOk (x : Ent) (o : Int) : Bool := putOk x.1 2 o && putOk x.2.1 2 o && putOk x.2.2.1 4 o && putOk x.2.2.2 4 o
def atP (what no tag : Int) (s : Spt) : Bool := s.1 == what && s.2.1 == no && s.2.2.1 == tag
def atS (l : List Spt) (what no tag : Int) : Int := match l.find? (atP what no tag) with
  | some s => s.2.2.2.1
  | none => 0
/-- there is such a spot, and room there -/
def Fits (l : List Spt) (n : Nat) (what no tag : Int) (m : Nat) : Prop := (l.any (atP what no tag) = true) ∧ 0 ≤ atS l what no tag ∧ (atS l what no tag).toNat + m ≤ n
abbrev Pt := Nat × List Int
def apP (ps : List Pt) (b : List Int) : List Int := ps.foldl (fun b p => splice b p.1 p.2) b
theorem apP_append (p q : List Pt) (b : List Int) : apP (p ++ q) b = apP q (apP p b) := by unfold apP; rw [List.foldl_append]
theorem splice_len {b by_ : List Int} {i : Nat} (h : i + by_.length ≤ b.length) : (splice b i by_).length = b.length := by unfold splice; simp; omega
def inlV (x : Tgs) (o : Int) : Bool := eofB x.1 (bytesV x o) o
def entT (l : List Spt) (o no : Int) (x : Tgs) : Ent := (x.1, x.2.1, x.2.2.1, if inlV x o = true then getV (padB (bytesV x o)) 0 4 o else atS l 3 no x.1)
def patV (l : List Spt) (o no : Int) (x : Tgs) : List Pt := if inlV x o = true then [] else [((atS l 3 no x.1).toNat, bytesV x o)]
theorem find_any {α : Type} {p : α → Bool} {l : List α} (h : l.any p = true) : ∃ s, l.find? p = some s ∧ l[(fst p l).toNat]? = some s ∧ 0 ≤ fst p l := by
  induction l with
  | nil => cases h
  | cons x r ih =>
    cases hx : p x with
    | true =>
      have hf : fst p (x :: r) = 0 := fst_at (k := 0) (by simp) (by simpa using hx) (fun i hi => by omega)
      exact ⟨x, by simp [List.find?, hx], by rw [hf]; rfl, by rw [hf]; decide⟩
    | false =>
      have hr : r.any p = true := by simpa [hx] using h
      obtain ⟨s, h1, h2, h3⟩ := ih hr
      have hf : fst p (x :: r) = fst p r + 1 := by
        unfold fst at h3 ⊢
        rw [List.findIdx?_cons, hx]
        cases hh : r.findIdx? p with
        | none => rw [hh] at h3; simp at h3
        | some i => simp
      refine ⟨s, by simp [List.find?, hx, h1], ?_, by omega⟩
      rw [hf, show (fst p r + 1).toNat = (fst p r).toNat + 1 by omega]
      exact h2
/-- what a writer is made of -/
structure Wc where
  gw : Nat
  gb : Nat
  n : Nat
  o : Int
  spa : Option Addr
  spn : Nat
  spc : Nat
  l : List Spt
  qa : Option Addr
  qn : Nat
  qc : Nat
  sb : Nat
structure WrS (K : Wc) (w : World) (no : Int) (P : List Int) : Prop where
  blk : Blk w K.gw 86 #[.slice (some ⟨K.gb, 0, none⟩) K.n K.n, .int .i64 K.o, .slice K.spa K.spn K.spc, .slice K.qa K.qn K.qc, .int .i64 no]
  row : Row w K.gb 5 .u8 P
  len : P.length = K.n
  sp : Sl w K.spa K.spn K.spc 5 (fl spC K.l)
  spne : ∀ x, K.spa = some x → x.block ≠ K.gw ∧ x.block ≠ K.gb
  ne : K.gw ≠ K.gb
  splt : ∀ x, K.spa = some x → x.block < K.sb
  sble : K.sb ≤ w.heap.size
abbrev nilV : Value := .slice none 0 0
theorem sl_eqs {w w' : World} {a : Option Addr} {n c sz : Nat} {cs : List Value} (h : Sl w a n c sz cs) (hs : w.heap.size ≤ w'.heap.size) (hb : ∀ x, a = some x → x.block < w.heap.size → w'.heap[x.block]? = w.heap[x.block]?) : Sl w' a n c sz cs :=
  ⟨h.len, h.le, h.max, fun i hi => by
    obtain ⟨g, off, e, hlt, hc⟩ := h.lies i hi
    refine ⟨g, off, e, Nat.lt_of_lt_of_le hlt hs, fun j v hv => ?_⟩
    have h1 := hc j v hv
    have h2 := hb _ e hlt
    unfold World.cell? at h1 ⊢
    rw [h2]
    exact h1, h.fit⟩
theorem WrS.later {K : Wc} {w w' : World} {no : Int} {P : List Int} (h : WrS K w no P) (hb : Below w.heap.size w w') : WrS K w' no P :=
  ⟨h.blk.late hb, Blk.late (T := 5) h.row hb, h.len, h.sp.mono hb, h.spne, h.ne, h.splt, Nat.le_trans h.sble hb.size⟩
theorem WrS.no {K : Wc} {w : World} {no : Int} {P : List Int} (h : WrS K w no P) (m : Int) : WrS K (w.setCell ⟨K.gw, 4, none⟩ (.int .i64 m)) m P ∧ Mv K.gw K.gb nilV nilV w (w.setCell ⟨K.gw, 4, none⟩ (.int .i64 m)) := by
  have hbt := (But.refl K.gw w).set 4 (.int .i64 m)
  exact ⟨⟨h.blk.set 4 _, (hbt.block _ (Row.lt h.row) (Ne.symm h.ne)).trans h.row, h.len, sl_eqs h.sp hbt.size (fun x e hx => hbt.block _ hx (h.spne x e).1), h.spne, h.ne, h.splt, Nat.le_trans h.sble hbt.size⟩, Mv.of_but hbt (.inl rfl)⟩
theorem low_at {P : Program} {T E : TypeId} (ht : P.underlying T = some (.slice E)) (hE : ∀ w, (Go.sizeOf E).run P w = .ok 1 w) (g n q : Nat) (h : q < n) (W : World) :
    (Instr.sliceAt T (.slice (some ⟨g, 0, none⟩) n n) (some (.int .i64 (q : Int))) none none).run P W = .ok (.slice (some ⟨g, q, none⟩) (n - q) (n - q)) W := by
  have he : P.elem T = E := by unfold Program.elem; rw [ht]
  rw [run_sliceAt_slice (h := by rw [he]; exact ht), run_slice_l (ht := by rw [he]; exact ht) (h0 := by omega) (h1 := by omega), he, hE]
  simp only [Result.andThen, sliced]
  have e2 : ¬ n = q := by omega
  simp [e2, Addr.add]
  omega
theorem sizeB : ∀ w, (Go.sizeOf 5).run Tryz.prog w = .ok 1 w := fun w => by kernel_rfl
/-- bytes are copied into the page -/
theorem page_copy {K : Wc} {w : World} {no : Int} {P : List Int} (h : WrS K w no P) (ba : Option Addr) (bm bc : Nat) (by_ : List Int) (hs : Sl w ba bm bc 1 (ints .u8 by_)) (q : Nat) (h1 : 1 ≤ bm) (hq : q + bm ≤ K.n) (ty : TypeId) :
    ∃ w', (Builtin.copy_ #[30, 30] ty #[.slice (some ⟨K.gb, q, none⟩) (K.n - q) (K.n - q), .slice ba bm bc]).run Tryz.prog w = .ok (goInt (bm : Nat)) w' ∧ WrS K w' no (splice P q by_) ∧ Mv K.gw K.gb nilV nilV w w' ∧ But K.gb w w' := by
  have hbl : by_.length = bm := hs.ilen
  obtain ⟨b, off, e, hlt, hc⟩ := hs.lies 0 (by omega)
  subst e
  have hmin : Nat.min bm (K.n - q) = bm := by simp [Nat.min_def]; omega
  have hsz : (Tryz.prog.info? 5).map (·.size) = some 1 := by kernel_rfl
  have hr := run_copy_sz (P := Tryz.prog) w 30 30 ty 5 1 K.gb q (K.n - q) (K.n - q) ⟨b, off, none⟩ bm bc (ints .u8 P).toArray 5 (ints .u8 by_) Tryz.underlying30 hsz h.row (by rw [hmin, ints_len, hbl, Nat.mul_one]) (fun j v hv => by rw [Addr.add_lit]; exact hc j v hv) (by rw [ints_len, hbl]; simp [ints_len, h.len]; omega) ints_one
  rw [hmin] at hr
  refine ⟨_, hr, ?_, ?_, ⟨rfl, rfl, rfl, by simp [World.setRow], fun k hk h2 => setRow_other w K.gb k _ h2⟩⟩
  · have ho : ∀ k, k ≠ K.gb → (w.setRow K.gb (splice (ints .u8 P).toArray.toList q (ints .u8 by_)).toArray).heap[k]? = w.heap[k]? := fun k hk => setRow_other w K.gb k _ hk
    refine ⟨(ho _ h.ne).trans h.blk, ?_, by rw [splice_len (by rw [hbl, h.len]; exact hq)]; exact h.len, ?_, h.spne, h.ne, h.splt, by simp [World.setRow]; exact h.sble⟩
    · have := setRow_heap w K.gb (ints .u8 P).toArray (splice (ints .u8 P).toArray.toList q (ints .u8 by_)).toArray 5 (0, 0) h.row
      unfold Row
      rw [this]
      have e : (ints .u8 P).toArray.toList = ints .u8 P := by simp
      rw [e, ints_splice]
    · exact sl_eqs h.sp (by simp [World.setRow]) (fun x e hx => ho _ (h.spne x e).2)
  · exact ⟨rfl, rfl, rfl, by simp [World.setRow], fun k hk h2 h3 _ => setRow_other w K.gb k _ h3, fun _ h => .inl h⟩
/-- what lies elsewhere stays -/
theorem Mv.sl {g gt : Nat} {w w' : World} {a : Option Addr} {n c sz : Nat} {cs : List Value} (h : Mv g gt nilV nilV w w') (hs : Sl w a n c sz cs) (hb : ∀ x, a = some x → x.block ≠ g ∧ x.block ≠ gt) : Sl w' a n c sz cs :=
  sl_eqs hs h.size (fun x e hx => h.block _ hx (hb x e).1 (hb x e).2 (by intro e; cases e))
theorem Mv.blk {g gt : Nat} {w w' : World} {k : Nat} {T : TypeId} {cs : Array Value} (h : Mv g gt nilV nilV w w') (hb : Blk w k T cs) (h1 : k ≠ g) (h2 : k ≠ gt) : Blk w' k T cs := (h.block k hb.lt h1 h2 (by intro e; cases e)).trans hb
theorem Mv.own {g gt : Nat} {w w' : World} {B : Nat} {E : TypeId} {sz n : Nat} {v : Value} {xs : List Value} (h : Mv g gt nilV nilV w w') (ho : w.ownsRow B E sz v n xs) (h1 : v.ownBlock ≠ some g) (h2 : v.ownBlock ≠ some gt) : w'.ownsRow B E sz v n xs := by
  obtain ⟨hl, hr⟩ := ho
  refine ⟨hl, ?_⟩
  rcases hr with hn | ⟨b, cap, cur, rfl, hB, hg, r⟩
  · exact .inl hn
  · exact .inr ⟨b, cap, cur, rfl, hB, (h.block b (Array.getElem?_eq_some_iff.1 hg).1 (fun e => h1 (by rw [← e]; rfl)) (fun e => h2 (by rw [← e]; rfl)) (by intro e; cases e)).trans hg, r⟩
/-- another block has turned -/
theorem WrS.but {K : Wc} {w w' : World} {no : Int} {P : List Int} {g : Nat} (h : WrS K w no P) (hb : But g w w') (h1 : g ≠ K.gw) (h2 : g ≠ K.gb) (h3 : K.sb ≤ g) : WrS K w' no P :=
  ⟨Blk.but_ hb h.blk (Ne.symm h1), (hb.block _ (Row.lt h.row) (Ne.symm h2)).trans h.row, h.len, sl_eqs h.sp hb.size (fun x e hx => hb.block _ hx (by have := h.splt x e; omega)), h.spne, h.ne, h.splt, Nat.le_trans h.sble hb.size⟩
theorem Mv.new {g gt b : Nat} {w w1 w2 : World} (h : Mv g gt nilV nilV w w1) (hb : But b w1 w2) (h1 : w.heap.size ≤ b) : Mv g gt nilV nilV w w2 :=
  ⟨hb.os.trans h.os, hb.tape.trans h.tape, hb.output.trans h.output, Nat.le_trans h.size hb.size, fun k hk h2 h3 h4 => (hb.block k (Nat.lt_of_lt_of_le hk h.size) (by omega)).trans (h.block k hk h2 h3 h4), fun _ e => by cases e⟩
end Go.Proofs.YtilennmeiaehnaaGreat

namespace Go.Proofs.YtilennmeiaehnaaGreat
open Go.RowKit Tt
set_option linter.unusedVariables false
set_option linter.unusedSimpArgs false

theorem putS_length {n s o : Int} (h : putOk n s o = true) : (putS n s o).length = s.toNat := by
  unfold putS
  rw [if_pos h]
  split <;> simp [leb_len]
def preE (x : Ent) (o k : Int) : List Int :=
  if k = 0 then [] else if k = 1 then putS x.1 2 o else if k = 2 then putS x.1 2 o ++ putS x.2.1 2 o else if k = 3 then putS x.1 2 o ++ putS x.2.1 2 o ++ putS x.2.2.1 4 o else entW x o
def lenE (k : Int) : Nat := if k = 0 then 0 else if k = 1 then 2 else if k = 2 then 4 else if k = 3 then 8 else 12
theorem infoBB : (Tryz.prog.info? 5).map (fun i => (i.zero, i.size, i.bytes)) = some (some (.int .u8 0), 1, 1) := by kernel_rfl
theorem own_ne_blk0 {w : World} {B : Nat} {E T : TypeId} {sz : Nat} {v : Value} {n g : Nat} {xs : List Value} {cs : Array Value} (h : w.ownsRow B E sz v n xs) (hb : Blk w g T cs) (hE : E ≠ T) : v.ownBlock ≠ some g := fun e => by
  rcases h.2 with ⟨rfl, _⟩ | ⟨g', cap, cur, rfl, _, hg, _⟩
  · cases e
  · obtain rfl : g' = g := by injection e
    unfold Blk at hb
    rw [hb] at hg
    injection hg with hg
    injection hg with h1 h2
    exact hE h2.symm
set_option maxRecDepth 20000 in
set_option maxHeartbeats 4000000 in
theorem ewrite_any (x0 x1 x2 x3 o : Int) (w : World) (hok : entOk (x0, x1, x2, x3) o = true) :
    Calls Tryz.prog 86 #[.agg #[.int .i64 x0, .int .i64 x1, .int .i64 x2, .int .i64 x3], .int .i64 o] w fun e w' => ∃ a c, e = .returned (.tuple #[.slice a 12 c, .bool true]) ∧ w'.ownsRow w.heap.size 5 1 (.slice a 12 c) 12 (ints .u8 (entW (x0, x1, x2, x3) o)) ∧ Below w.heap.size w w' := by
  obtain ⟨i0, hi, hz0, hz1, hz2⟩ := info_parts infoBB
  unfold entOk at hok
  simp only [Bool.and_eq_true] at hok
  obtain ⟨W1, hW1, bA, bB, hb1, s1⟩ := two_boxes w 62 #[.int .i64 x0, .int .i64 x1, .int .i64 x2, .int .i64 x3] 197 #[.int .i64 2, .int .i64 2, .int .i64 4, .int .i64 4]
  have hok' := Lib.hid hok
  have bA' := Lib.hid bA
  have bB' := Lib.hid bB
  have hb1' := Lib.hid hb1
  have hW1' := Lib.hid hW1
  clear hok bA bB hb1 hW1
  go_enter Tryz.func86, Tryz.ntmps86
  go_wp2_with fail
  rw [hW1'.out]
  go_loopw [6, 22] (fun v iv wr => ∃ (k : Int) (a : Option Addr) (c : Nat), (k = 0 ∨ k = 1 ∨ k = 2 ∨ k = 3 ∨ k = 4) ∧ iv = .int .i64 k ∧ v = .slice a (lenE k) c ∧ Hid (wr.ownsRow w.heap.size 5 1 (.slice a (lenE k) c) (lenE k) (ints .u8 (preE (x0, x1, x2, x3) o k))) ∧ Hid (Blk wr (w.heap.size + 1) 197 #[.int .i64 2, .int .i64 2, .int .i64 4, .int .i64 4]) ∧ Hid (Below w.heap.size w wr)) (fun _ iv _ => 4 - (intOf iv).toNat)
  case atStart => exact ⟨0, none, 0, .inl rfl, rfl, rfl, Lib.hid (own_nil _ _ _ _), bB', hb1'⟩
  clear bB'
  case round =>
    obtain ⟨k, a, c, hk, rfl, rfl, ho, bB, hb⟩ := hrel
    have ho := ho.out
    have bB := bB.out
    have hb := hb.out
    rcases hk with rfl | rfl | rfl | rfl | rfl
    ·
      have hX : ∀ W, (Instr.index 197 (.agg #[.int .i64 x0, .int .i64 x1, .int .i64 x2, .int .i64 x3]) (.int .i64 0)).run Tryz.prog W = .ok (.int .i64 x0) W := fun W => by kernel_rfl
      have hP := fun W => put_any x0 2 o W
      have hpk : putOk x0 2 o = true := by simp only [hok'.out]
      have hpl := putS_length hpk
      simp only [hpk] at hP
      have hpe : preE (x0, x1, x2, x3) o (0 + 1) = preE (x0, x1, x2, x3) o 0 ++ putS x0 2 o := by simp [preE, entW]
      obtain ⟨by_, hby⟩ : ∃ b, putS x0 2 o = b := ⟨_, rfl⟩
      rw [hby] at hpl hpe
      simp only [hby] at hP
      have c7 : wr.cell? ⟨w.heap.size + 1, 0, none⟩ = some (.int .i64 2) := bB.cell rfl
      have hle : lenE 0 = 0 := by simp [lenE]
      rw [hle] at ho ⊢
      have hP' := Lib.hid hP
      have hpk' := Lib.hid hpk
      have hpe' := Lib.hid hpe
      have hby' := Lib.hid hby
      have bB' := Lib.hid bB
      have hb' := Lib.hid hb
      clear hP hpk hpe hby bB hb
      go_wp2_with fail
      refine (hP'.out _).mono ?_
      rintro e w2 ⟨a2, m2, c2, rfl, ho2, hb2⟩
      have hbl2 : by_.length = m2 := (Sl.of_own ho2).1.ilen
      have hs2 := (Sl.of_own ho2).1
      obtain rfl : m2 = 2 := by rw [← hbl2, hpl]; rfl
      have ho1 := own_later ho hb2
      have bB2 := bB'.out.late hb2
      have hbw2 := hb'.out.trans (hb2.mono hb'.out.size)
      have hsz2 := hbw2.size
      clear c7 hbl2 hpl
      have hs2' := Lib.hid hs2
      have bB2' := Lib.hid bB2
      have hbw2' := Lib.hid hbw2
      have hb2' := Lib.hid hb2
      clear hs2 bB2 hbw2 hb2
      go_wp2_with (at_builtin; refine wpList_app rfl _ _ 30 rfl w.heap.size 5 i0 _ 1 1 Tryz.underlying30 hi hz0 hz1 hz2 rfl (by decide) _ 0 _ rfl ho1 a2 2 c2 (ints .u8 by_) rfl hs2'.out ints_one (by decide) (by decide) hsz2 ?_; intro a5 c5 w5 ob hb5 hg5; have Ob := Lib.hid ob; have Hb5 := Lib.hid (hbw2'.out.trans hb5); have BB5 := Lib.hid (bB2'.out.grown hg5 (own_ne_blk0 ho1 bB2'.out (by decide))); clear ob hb5 hg5)
      go_roundw
      case rel => exact ⟨0 + 1, a5, c5, by decide, rfl, rfl, Lib.hid (by rw [hpe'.out, ints_append]; exact Ob.out), BB5, Hb5⟩
      case measure => simp [intOf]
    ·
      have hX : ∀ W, (Instr.index 197 (.agg #[.int .i64 x0, .int .i64 x1, .int .i64 x2, .int .i64 x3]) (.int .i64 1)).run Tryz.prog W = .ok (.int .i64 x1) W := fun W => by kernel_rfl
      have hP := fun W => put_any x1 2 o W
      have hpk : putOk x1 2 o = true := by simp only [hok'.out]
      have hpl := putS_length hpk
      simp only [hpk] at hP
      have hpe : preE (x0, x1, x2, x3) o (1 + 1) = preE (x0, x1, x2, x3) o 1 ++ putS x1 2 o := by simp [preE, entW]
      obtain ⟨by_, hby⟩ : ∃ b, putS x1 2 o = b := ⟨_, rfl⟩
      rw [hby] at hpl hpe
      simp only [hby] at hP
      have c7 : wr.cell? ⟨w.heap.size + 1, 1, none⟩ = some (.int .i64 2) := bB.cell rfl
      have hle : lenE 1 = 2 := by simp [lenE]
      rw [hle] at ho ⊢
      have hP' := Lib.hid hP
      have hpk' := Lib.hid hpk
      have hpe' := Lib.hid hpe
      have hby' := Lib.hid hby
      have bB' := Lib.hid bB
      have hb' := Lib.hid hb
      clear hP hpk hpe hby bB hb
      go_wp2_with fail
      refine (hP'.out _).mono ?_
      rintro e w2 ⟨a2, m2, c2, rfl, ho2, hb2⟩
      have hbl2 : by_.length = m2 := (Sl.of_own ho2).1.ilen
      have hs2 := (Sl.of_own ho2).1
      obtain rfl : m2 = 2 := by rw [← hbl2, hpl]; rfl
      have ho1 := own_later ho hb2
      have bB2 := bB'.out.late hb2
      have hbw2 := hb'.out.trans (hb2.mono hb'.out.size)
      have hsz2 := hbw2.size
      clear c7 hbl2 hpl
      have hs2' := Lib.hid hs2
      have bB2' := Lib.hid bB2
      have hbw2' := Lib.hid hbw2
      have hb2' := Lib.hid hb2
      clear hs2 bB2 hbw2 hb2
      go_wp2_with (at_builtin; refine wpList_app rfl _ _ 30 rfl w.heap.size 5 i0 _ 1 1 Tryz.underlying30 hi hz0 hz1 hz2 rfl (by decide) _ 2 _ rfl ho1 a2 2 c2 (ints .u8 by_) rfl hs2'.out ints_one (by decide) (by decide) hsz2 ?_; intro a5 c5 w5 ob hb5 hg5; have Ob := Lib.hid ob; have Hb5 := Lib.hid (hbw2'.out.trans hb5); have BB5 := Lib.hid (bB2'.out.grown hg5 (own_ne_blk0 ho1 bB2'.out (by decide))); clear ob hb5 hg5)
      go_roundw
      case rel => exact ⟨1 + 1, a5, c5, by decide, rfl, rfl, Lib.hid (by rw [hpe'.out, ints_append]; exact Ob.out), BB5, Hb5⟩
      case measure => simp [intOf]
    ·
      have hX : ∀ W, (Instr.index 197 (.agg #[.int .i64 x0, .int .i64 x1, .int .i64 x2, .int .i64 x3]) (.int .i64 2)).run Tryz.prog W = .ok (.int .i64 x2) W := fun W => by kernel_rfl
      have hP := fun W => put_any x2 4 o W
      have hpk : putOk x2 4 o = true := by simp only [hok'.out]
      have hpl := putS_length hpk
      simp only [hpk] at hP
      have hpe : preE (x0, x1, x2, x3) o (2 + 1) = preE (x0, x1, x2, x3) o 2 ++ putS x2 4 o := by simp [preE, entW]
      obtain ⟨by_, hby⟩ : ∃ b, putS x2 4 o = b := ⟨_, rfl⟩
      rw [hby] at hpl hpe
      simp only [hby] at hP
      have c7 : wr.cell? ⟨w.heap.size + 1, 2, none⟩ = some (.int .i64 4) := bB.cell rfl
      have hle : lenE 2 = 4 := by simp [lenE]
      rw [hle] at ho ⊢
      have hP' := Lib.hid hP
      have hpk' := Lib.hid hpk
      have hpe' := Lib.hid hpe
      have hby' := Lib.hid hby
      have bB' := Lib.hid bB
      have hb' := Lib.hid hb
      clear hP hpk hpe hby bB hb
      go_wp2_with fail
      refine (hP'.out _).mono ?_
      rintro e w2 ⟨a2, m2, c2, rfl, ho2, hb2⟩
      have hbl2 : by_.length = m2 := (Sl.of_own ho2).1.ilen
      have hs2 := (Sl.of_own ho2).1
      obtain rfl : m2 = 4 := by rw [← hbl2, hpl]; rfl
      have ho1 := own_later ho hb2
      have bB2 := bB'.out.late hb2
      have hbw2 := hb'.out.trans (hb2.mono hb'.out.size)
      have hsz2 := hbw2.size
      clear c7 hbl2 hpl
      have hs2' := Lib.hid hs2
      have bB2' := Lib.hid bB2
      have hbw2' := Lib.hid hbw2
      have hb2' := Lib.hid hb2
      clear hs2 bB2 hbw2 hb2
      go_wp2_with (at_builtin; refine wpList_app rfl _ _ 30 rfl w.heap.size 5 i0 _ 1 1 Tryz.underlying30 hi hz0 hz1 hz2 rfl (by decide) _ 4 _ rfl ho1 a2 4 c2 (ints .u8 by_) rfl hs2'.out ints_one (by decide) (by decide) hsz2 ?_; intro a5 c5 w5 ob hb5 hg5; have Ob := Lib.hid ob; have Hb5 := Lib.hid (hbw2'.out.trans hb5); have BB5 := Lib.hid (bB2'.out.grown hg5 (own_ne_blk0 ho1 bB2'.out (by decide))); clear ob hb5 hg5)
      go_roundw
      case rel => exact ⟨2 + 1, a5, c5, by decide, rfl, rfl, Lib.hid (by rw [hpe'.out, ints_append]; exact Ob.out), BB5, Hb5⟩
      case measure => simp [intOf]
    ·
      have hX : ∀ W, (Instr.index 197 (.agg #[.int .i64 x0, .int .i64 x1, .int .i64 x2, .int .i64 x3]) (.int .i64 3)).run Tryz.prog W = .ok (.int .i64 x3) W := fun W => by kernel_rfl
      have hP := fun W => put_any x3 4 o W
      have hpk : putOk x3 4 o = true := by simp only [hok'.out]
      have hpl := putS_length hpk
      simp only [hpk] at hP
      have hpe : preE (x0, x1, x2, x3) o (3 + 1) = preE (x0, x1, x2, x3) o 3 ++ putS x3 4 o := by simp [preE, entW]
      obtain ⟨by_, hby⟩ : ∃ b, putS x3 4 o = b := ⟨_, rfl⟩
      rw [hby] at hpl hpe
      simp only [hby] at hP
      have c7 : wr.cell? ⟨w.heap.size + 1, 3, none⟩ = some (.int .i64 4) := bB.cell rfl
      have hle : lenE 3 = 8 := by simp [lenE]
      rw [hle] at ho ⊢
      have hP' := Lib.hid hP
      have hpk' := Lib.hid hpk
      have hpe' := Lib.hid hpe
      have hby' := Lib.hid hby
      have bB' := Lib.hid bB
      have hb' := Lib.hid hb
      clear hP hpk hpe hby bB hb
      go_wp2_with fail
      refine (hP'.out _).mono ?_
      rintro e w2 ⟨a2, m2, c2, rfl, ho2, hb2⟩
      have hbl2 : by_.length = m2 := (Sl.of_own ho2).1.ilen
      have hs2 := (Sl.of_own ho2).1
      obtain rfl : m2 = 4 := by rw [← hbl2, hpl]; rfl
      have ho1 := own_later ho hb2
      have bB2 := bB'.out.late hb2
      have hbw2 := hb'.out.trans (hb2.mono hb'.out.size)
      have hsz2 := hbw2.size
      clear c7 hbl2 hpl
      have hs2' := Lib.hid hs2
      have bB2' := Lib.hid bB2
      have hbw2' := Lib.hid hbw2
      have hb2' := Lib.hid hb2
      clear hs2 bB2 hbw2 hb2
      go_wp2_with (at_builtin; refine wpList_app rfl _ _ 30 rfl w.heap.size 5 i0 _ 1 1 Tryz.underlying30 hi hz0 hz1 hz2 rfl (by decide) _ 8 _ rfl ho1 a2 4 c2 (ints .u8 by_) rfl hs2'.out ints_one (by decide) (by decide) hsz2 ?_; intro a5 c5 w5 ob hb5 hg5; have Ob := Lib.hid ob; have Hb5 := Lib.hid (hbw2'.out.trans hb5); have BB5 := Lib.hid (bB2'.out.grown hg5 (own_ne_blk0 ho1 bB2'.out (by decide))); clear ob hb5 hg5)
      go_roundw
      case rel => exact ⟨3 + 1, a5, c5, by decide, rfl, rfl, Lib.hid (by rw [hpe'.out, ints_append]; exact Ob.out), BB5, Hb5⟩
      case measure => simp [intOf]
    · have e12 : lenE 4 = 12 := by decide
      rw [e12] at ho ⊢
      have bB' := Lib.hid bB
      have hb' := Lib.hid hb
      clear bB hb
      go_wp2_with fail
      refine bodyPost_ret (results_tmp2 rfl _ _ _) rfl ?_
      exact ⟨a, c, rfl, by simpa [preE] using ho, hb'.out⟩
end Go.Proofs.YtilennmeiaehnaaGreat

namespace Go.Proofs.YtilennmeiaehnaaGreat
open Go.RowKit Tt
set_option linter.unusedVariables false
set_option linter.unusedSimpArgs false

theorem long21_any (t n : Int) (w : World) : Calls Tryz.prog 81 #[.int .i64 t, .int .i64 n] w fun e w' => e = .returned (.agg #[.int .i64 t, .int .i64 4, .int .i64 1, .int .i64 n]) ∧ Below w.heap.size w w' := by
  have hb1 := (Below.refl w.heap.size w).alloc (Nat.le_refl _) (.cells #[.int .i64 t, .int .i64 4, .int .i64 1, .int .i64 n] 62)
  have b1 := Blk.new w 62 #[.int .i64 t, .int .i64 4, .int .i64 1, .int .i64 n]
  have hb1' := Lib.hid hb1
  have b1' := Lib.hid b1
  clear hb1 b1
  go_enter Tryz.func81, Tryz.ntmps81
  go_wp2_with fail
  refine bodyPost_ret (results_cell_row rfl _ _ w.heap.size 62 #[.int .i64 t, .int .i64 4, .int .i64 1, .int .i64 n] (0, 0) _ rfl b1'.out Tryz.underlying62 rfl (by kernel_rfl)) rfl ?_
  exact ⟨rfl, hb1'.out⟩
set_option maxHeartbeats 1000000 in
theorem spot1_any (g0 g1 g2 : Nat) (what no tag : Int) (x : Spt) (w : World) (h0 : w.cell? ⟨g0, 0, none⟩ = some (.int .i64 what)) (h1 : w.cell? ⟨g1, 0, none⟩ = some (.int .i64 no)) (h2 : w.cell? ⟨g2, 0, none⟩ = some (.int .i64 tag)) (l0 : g0 < w.heap.size) (l1 : g1 < w.heap.size) (l2 : g2 < w.heap.size) :
    Calls Tryz.prog 131 #[.agg (spC x).toArray, .pointer (some ⟨g0, 0, none⟩), .pointer (some ⟨g1, 0, none⟩), .pointer (some ⟨g2, 0, none⟩)] w fun e w' => e = .returned (.bool (atP what no tag x)) ∧ Below w.heap.size w w' := by
  obtain ⟨x0, x1, x2, x3, x4⟩ := x
  have hb1 := (Below.refl w.heap.size w).alloc (Nat.le_refl _) (.cells #[.int .i64 x0, .int .i64 x1, .int .i64 x2, .int .i64 x3, .int .i64 x4] 57)
  have e : atP what no tag (x0, x1, x2, x3, x4) = (x0 == what && x1 == no && x2 == tag) := rfl
  rw [e]
  simp only [spC]
  obtain ⟨b0, hb0⟩ : ∃ b, (x0 == what) = b := ⟨_, rfl⟩
  obtain ⟨b1, hbb⟩ : ∃ b, (x1 == no) = b := ⟨_, rfl⟩
  obtain ⟨b2, hb2⟩ : ∃ b, (x2 == tag) = b := ⟨_, rfl⟩
  rw [hb0, hbb, hb2]
  clear e
  have hb1' := Lib.hid hb1
  clear hb1
  cases b0
  · go_enter Tryz.func131, Tryz.ntmps131
    go_wp2_with fail
    go_ret
    exact ⟨rfl, hb1'.out⟩
  · cases b1
    · go_enter Tryz.func131, Tryz.ntmps131
      go_wp2_with fail
      go_ret
      exact ⟨rfl, hb1'.out⟩
    · go_enter Tryz.func131, Tryz.ntmps131
      go_wp2_with fail
      go_ret
      exact ⟨rfl, hb1'.out⟩
set_option maxHeartbeats 1000000 in
theorem sidx_any (caps : Array Value) (a : Option Addr) (n c : Nat) (ls : List Spt) (p : Spt → Bool) (w : World) (hs : Sl w a n c 5 (fl spC ls))
    (hc : ∀ W (x : Spt), Below w.heap.size w W → Calls Tryz.prog 131 (#[.agg (spC x).toArray] ++ caps) W fun e W' => e = .returned (.bool (p x)) ∧ Below W.heap.size W W') :
    Calls Tryz.prog 130 #[.slice a n c, .func (.func 131) #[] caps] w fun e w' => e = .returned (.int .i64 (fst p ls)) ∧ Below w.heap.size w w' := by
  have hl := hs.flen spC_len (by decide)
  have hm := hs.max
  have hle := hs.le
  have hs' := Lib.hid hs
  have hc' := Lib.hid hc
  have hl' := Lib.hid hl
  clear hs hc hl
  go_enter Tryz.func130, Tryz.ntmps130
  go_wp2
  go_loopw [8] (fun iv wr => ∃ k : Nat, k ≤ n ∧ iv = .int .i64 k ∧ Hid (∀ i (hi : i < ls.length), i < k → p ls[i] = false) ∧ Hid (Below w.heap.size w wr)) (fun iv _ => n - (intOf iv).toNat)
  case atStart => exact ⟨0, by omega, rfl, Lib.hid (fun j _ hj => by omega), Lib.hid (Below.refl _ _)⟩
  case round =>
    obtain ⟨k, hk, rfl, hall, hb⟩ := hrel
    by_cases hlt : k < n
    · have hww : IntKind.i64.wrap ((k : Int) + 1) = k + 1 := by rw [IntKind.wrap_i64]; omega
      have hkl : k < ls.length := by rw [hl'.out]; exact hlt
      obtain ⟨b, o, rfl, hbb, f⟩ := (hs'.out.mono hb.out).elem spC_len (by decide) (0, 0, 0, 0, 0) hlt
      rw [getD_el hkl] at f
      obtain ⟨r, hr⟩ : ∃ r, p (ls[k]'hkl) = r := ⟨_, rfl⟩
      have HC := hc'.out wr (ls[k]'hkl) hb.out
      rw [hr] at HC
      obtain ⟨⟨x0, x1, x2, x3, x4⟩, hx⟩ : ∃ x, ls[k]'hkl = x := ⟨_, rfl⟩
      rw [hx] at HC f
      have f0 := f 0 _ rfl
      have f1 := f 1 _ rfl
      have f2 := f 2 _ rfl
      have f3 := f 3 _ rfl
      have f4 := f 4 _ rfl
      clear f
      simp only [spC, Nat.add_zero] at f0 f1 f2 f3 f4 HC
      have HC' := Lib.hid HC
      have hr' := Lib.hid hr
      have hx' := Lib.hid hx
      clear HC hr hx
      go_wp2_with fail
      refine HC'.out.mono ?_
      rintro e w2 ⟨rfl, hb2⟩
      have hbw := hb.out.trans (hb2.mono hb.out.size)
      clear hb2
      cases r with
      | true =>
        have hbw' := Lib.hid hbw
        clear hbw
        go_wp2
        go_ret
        exact ⟨by rw [fst_at hkl hr'.out (fun i hi => hall.out i (by omega) hi)]; rfl, hbw'.out⟩
      | false =>
        have hall2 : ∀ i (hi : i < ls.length), i < k + 1 → p ls[i] = false := fun i hi h => by
          rcases Nat.lt_or_ge i k with h1 | h1
          · exact hall.out i hi h1
          · obtain rfl : i = k := by omega
            exact hr'.out
        have hbw' := Lib.hid hbw
        have hall2' := Lib.hid hall2
        clear hbw hall2
        go_wp2
        go_roundw
        case rel => exact ⟨k + 1, by omega, by go_num, hall2', hbw'⟩
        case measure => simp [intOf]; omega
    · obtain rfl : k = n := by omega
      go_wp2
      go_ret
      exact ⟨by rw [fst_no (fun i hi => hall.out i hi (by rw [hl'.out] at hi; exact hi))]; rfl, hb.out⟩
set_option maxHeartbeats 2000000 in
theorem wspot_any (K : Wc) (w : World) (no : Int) (P : List Int) (h : WrS K w no P) (what dir tag : Int) (hf : K.l.any (atP what dir tag) = true) :
    Calls Tryz.prog 82 #[.pointer (some ⟨K.gw, 0, none⟩), .int .i64 what, .int .i64 dir, .int .i64 tag] w fun e w' => e = .returned (.int .i64 (atS K.l what dir tag)) ∧ Below w.heap.size w w' := by
  obtain ⟨W1, hW1, b0, b1, b2, hb1, s1⟩ := three_boxes w 3 #[.int .i64 what] 3 #[.int .i64 dir] 3 #[.int .i64 tag]
  have h1 := h.later hb1
  have hI := sidx_any #[.pointer (some ⟨w.heap.size, 0, none⟩), .pointer (some ⟨w.heap.size + 1, 0, none⟩), .pointer (some ⟨w.heap.size + 2, 0, none⟩)] K.spa K.spn K.spc K.l (atP what dir tag) W1 h1.sp
    (fun W x hb => spot1_any _ _ _ what dir tag x W (late hb b0.lt (b0.cell rfl)) (late hb b1.lt (b1.cell rfl)) (late hb b2.lt (b2.cell rfl)) (Nat.lt_of_lt_of_le b0.lt hb.size) (Nat.lt_of_lt_of_le b1.lt hb.size) (Nat.lt_of_lt_of_le b2.lt hb.size))
  obtain ⟨s, hs1, hs2, hs3⟩ := find_any hf
  have hat : atS K.l what dir tag = s.2.2.2.1 := by unfold atS; rw [hs1]
  rw [hat]
  have hlen := h1.sp.flen spC_len (by decide)
  have hmx := h1.sp.max
  have hle := h1.sp.le
  obtain ⟨k, hk⟩ : ∃ k : Nat, fst (atP what dir tag) K.l = k := ⟨(fst (atP what dir tag) K.l).toNat, by omega⟩
  rw [hk] at hI hs2
  rw [Int.toNat_natCast] at hs2
  obtain ⟨hkl, hks⟩ := List.getElem?_eq_some_iff.1 hs2
  have hkn : k < K.spn := by rw [← hlen]; exact hkl
  have hkn2 : (k : Int) < (K.spn : Int) := by omega
  have hkn3 : (0 : Int) ≤ (k : Int) := by omega
  have c2 : W1.cell? ⟨K.gw, 2, none⟩ = some (.slice K.spa K.spn K.spc) := h1.blk.cell rfl
  rw [← hW1] at c2 hI
  clear hs3
  have h' := Lib.hid h
  have h1' := Lib.hid h1
  have b0' := Lib.hid b0
  have b1' := Lib.hid b1
  have b2' := Lib.hid b2
  have hb1' := Lib.hid hb1
  have hI' := Lib.hid hI
  have hs1' := Lib.hid hs1
  have hs2' := Lib.hid hs2
  have hlen' := Lib.hid hlen
  have hk' := Lib.hid hk
  have hks' := Lib.hid hks
  have hW1' := Lib.hid hW1
  have hat' := Lib.hid hat
  have hf' := Lib.hid hf
  clear h h1 b0 b1 b2 hb1 hI hs1 hs2 hlen hk hks hW1 hat hf
  go_enter Tryz.func82, Tryz.ntmps82
  go_wp2_with fail
  refine hI'.out.mono ?_
  rw [hW1'.out]
  rintro e w2 ⟨rfl, hb2⟩
  have h2 := h1'.out.later hb2
  clear c2
  have c2 : w2.cell? ⟨K.gw, 2, none⟩ = some (.slice K.spa K.spn K.spc) := h2.blk.cell rfl
  obtain ⟨b, o, e, hlt, fe⟩ := h2.sp.elem spC_len (by decide) (0, 0, 0, 0, 0) hkn
  rw [getD_el (by rw [hlen'.out]; exact hkn), hks'.out] at fe
  have f3 := fe 3 _ rfl
  clear fe
  have hbw := hb1'.out.trans (hb2.mono hb1'.out.size)
  have h2' := Lib.hid h2
  have hb2' := Lib.hid hb2
  have hbw' := Lib.hid hbw
  clear h2 hb2 hbw
  rw [e] at c2
  go_wp2_with fail
  go_ret
  exact ⟨rfl, hbw'.out⟩
end Go.Proofs.YtilennmeiaehnaaGreat
