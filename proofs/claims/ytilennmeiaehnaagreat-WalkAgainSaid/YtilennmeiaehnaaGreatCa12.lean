/- Chapter 21: a tree's bytes: plain words; the writer in memory. | Bytes that are laid over bytes: plain. | Chapter 19: an entry's bytes: the program. -/
import Derived.Test.YtilennmeiaehnaaGreatCa11
import Derived.Test.YtilennmeiaehnaaGreatCa02
import Derived.Test.YtilennmeiaehnaaGreatCa06
namespace Go.Proofs.YtilennmeiaehnaaGreat
open Go.RowKit Tt
set_option linter.unusedVariables false
set_option linter.unusedSimpArgs false

/-- a value's bytes in an order -/
def bytesV (x : Tgs) (o : Int) : List Int := if mayS x.2.1 x.2.2.1 x.2.2.2 = true then turnS x.2.2.2 (kindS x.2.1).2.1 o else []
def padB (b : List Int) : List Int := b ++ List.replicate (4 - b.length) 0
/-- is a value within its entry? -/
def eofB (tag : Int) (b : List Int) (o : Int) : Bool := putOk tag 2 o && decide (b.length ≠ 0) && decide (b.length ≤ 4)
def entW (x : Ent) (o : Int) : List Int := putS x.1 2 o ++ putS x.2.1 2 o ++ putS x.2.2.1 4 o ++ putS x.2.2.2 4 o
def entOk (x : Ent) (o : Int) : Bool := putOk x.1 2 o && putOk x.2.1 2 o && putOk x.2.2.1 4 o && putOk x.2.2.2 4 o
def atP (what no tag : Int) (s : Spt) : Bool := s.1 == what && s.2.1 == no && s.2.2.1 == tag
def atS (l : List Spt) (what no tag : Int) : Int := match l.find? (atP what no tag) with
  | some s => s.2.2.2.1
  | none => 0
/-- there is such a spot, and room there -/
def Fits (l : List Spt) (n : Nat) (what no tag : Int) (m : Nat) : Prop := (l.any (atP what no tag) = true) ∧ 0 ≤ atS l what no tag ∧ (atS l what no tag).toNat + m ≤ n
abbrev Pt := Nat × List Int
def apP (ps : List Pt) (b : List Int) : List Int := ps.foldl (fun b p => splice b p.1 p.2) b
theorem apP_append (p q : List Pt) (b : List Int) : apP (p ++ q) b = apP q (apP p b) := by unfold apP; rw [List.foldl_append]
theorem splice_len {b by_ : List Int} {i : Nat} (h : i + by_.length ≤ b.length) : (splice b i by_).length = b.length := by unfold splice; simp; omega
def inlV (x : Tgs) (o : Int) : Bool := eofB x.1 (bytesV x o) o
def entT (l : List Spt) (o no : Int) (x : Tgs) : Ent := (x.1, x.2.1, x.2.2.1, if inlV x o = true then getV (padB (bytesV x o)) 0 4 o else atS l 3 no x.1)
def patV (l : List Spt) (o no : Int) (x : Tgs) : List Pt := if inlV x o = true then [] else [((atS l 3 no x.1).toNat, bytesV x o)]
theorem find_any {α : Type} {p : α → Bool} {l : List α} (h : l.any p = true) : ∃ s, l.find? p = some s ∧ l[(fst p l).toNat]? = some s ∧ 0 ≤ fst p l := by
  induction l with
  | nil => cases h
  | cons x r ih =>
    cases hx : p x with
    | true =>
      have hf : fst p (x :: r) = 0 := fst_at (k := 0) (by simp) (by simpa using hx) (fun i hi => by omega); exact ⟨x, by simp [List.find?, hx], by rw [hf]; rfl, by rw [hf]; decide⟩
    | false =>
      have hr : r.any p = true := by simpa [hx] using h
      obtain ⟨s, h1, h2, h3⟩ := ih hr
      have hf : fst p (x :: r) = fst p r + 1 := by
        unfold fst at h3 ⊢; rw [List.findIdx?_cons, hx]
        cases hh : r.findIdx? p with
        | none => rw [hh] at h3; simp at h3
        | some i => simp
      refine ⟨s, by simp [List.find?, hx, h1], ?_, by omega⟩; rw [hf, show (fst p r + 1).toNat = (fst p r).toNat + 1 by omega]; exact h2
/-- what a writer is made of -/
structure Wc where
  gw : Nat
  gb : Nat
  n : Nat
  o : Int
  spa : Option Addr
  spn : Nat
  spc : Nat
  l : List Spt
  qa : Option Addr
  qn : Nat
  qc : Nat
  sb : Nat
structure WrS (K : Wc) (w : World) (no : Int) (P : List Int) : Prop where
  blk : Blk w K.gw 86 #[.slice (some ⟨K.gb, 0, none⟩) K.n K.n, .int .i64 K.o, .slice K.spa K.spn K.spc, .slice K.qa K.qn K.qc, .int .i64 no]
  row : Row w K.gb 5 .u8 P
  len : P.length = K.n
  sp : Sl w K.spa K.spn K.spc 5 (fl spC K.l)
  spne : ∀ x, K.spa = some x → x.block ≠ K.gw ∧ x.block ≠ K.gb
  ne : K.gw ≠ K.gb
  splt : ∀ x, K.spa = some x → x.block < K.sb
  sble : K.sb ≤ w.heap.size
abbrev nilV : Value := .slice none 0 0
theorem sl_eqs {w w' : World} {a : Option Addr} {n c sz : Nat} {cs : List Value} (h : Sl w a n c sz cs) (hs : w.heap.size ≤ w'.heap.size) (hb : ∀ x, a = some x → x.block < w.heap.size → w'.heap[x.block]? = w.heap[x.block]?) : Sl w' a n c sz cs :=
  ⟨h.len, h.le, h.max, fun i hi => by
    obtain ⟨g, off, e, hlt, hc⟩ := h.lies i hi; refine ⟨g, off, e, Nat.lt_of_lt_of_le hlt hs, fun j v hv => ?_⟩; have h1 := hc j v hv; have h2 := hb _ e hlt; unfold World.cell? at h1 ⊢; rw [h2]; exact h1, h.fit⟩
theorem WrS.later {K : Wc} {w w' : World} {no : Int} {P : List Int} (h : WrS K w no P) (hb : Below w.heap.size w w') : WrS K w' no P :=
  ⟨h.blk.late hb, Blk.late (T := 5) h.row hb, h.len, h.sp.mono hb, h.spne, h.ne, h.splt, Nat.le_trans h.sble hb.size⟩
theorem WrS.no {K : Wc} {w : World} {no : Int} {P : List Int} (h : WrS K w no P) (m : Int) : WrS K (w.setCell ⟨K.gw, 4, none⟩ (.int .i64 m)) m P ∧ Mv K.gw K.gb nilV nilV w (w.setCell ⟨K.gw, 4, none⟩ (.int .i64 m)) := by
  have hbt := (But.refl K.gw w).set 4 (.int .i64 m); exact ⟨⟨h.blk.set 4 _, (hbt.block _ (Row.lt h.row) (Ne.symm h.ne)).trans h.row, h.len, sl_eqs h.sp hbt.size (fun x e hx => hbt.block _ hx (h.spne x e).1), h.spne, h.ne, h.splt, Nat.le_trans h.sble hbt.size⟩, Mv.of_but hbt (.inl rfl)⟩
theorem low_at {P : Program} {T E : TypeId} (ht : P.underlying T = some (.slice E)) (hE : ∀ w, (Go.sizeOf E).run P w = .ok 1 w) (g n q : Nat) (h : q < n) (W : World) :
    (Instr.sliceAt T (.slice (some ⟨g, 0, none⟩) n n) (some (.int .i64 (q : Int))) none none).run P W = .ok (.slice (some ⟨g, q, none⟩) (n - q) (n - q)) W := by
  have he : P.elem T = E := by unfold Program.elem; rw [ht]
  rw [run_sliceAt_slice (h := by rw [he]; exact ht), run_slice_l (ht := by rw [he]; exact ht) (h0 := by omega) (h1 := by omega), he, hE]; simp only [Result.andThen, sliced]; have e2 : ¬ n = q := by omega
  simp [e2, Addr.add]
  omega
theorem sizeB : ∀ w, (Go.sizeOf 5).run Tryz.prog w = .ok 1 w := fun w => by kernel_rfl
/-- bytes are copied into the page -/
theorem page_copy {K : Wc} {w : World} {no : Int} {P : List Int} (h : WrS K w no P) (ba : Option Addr) (bm bc : Nat) (by_ : List Int) (hs : Sl w ba bm bc 1 (ints .u8 by_)) (q : Nat) (h1 : 1 ≤ bm) (hq : q + bm ≤ K.n) (ty : TypeId) :
    ∃ w', (Builtin.copy_ #[30, 30] ty #[.slice (some ⟨K.gb, q, none⟩) (K.n - q) (K.n - q), .slice ba bm bc]).run Tryz.prog w = .ok (goInt (bm : Nat)) w' ∧ WrS K w' no (splice P q by_) ∧ Mv K.gw K.gb nilV nilV w w' ∧ But K.gb w w' := by
  have hbl : by_.length = bm := hs.ilen; obtain ⟨b, off, e, hlt, hc⟩ := hs.lies 0 (by omega); subst e; have hmin : Nat.min bm (K.n - q) = bm := by simp [Nat.min_def]; omega
  have hsz : (Tryz.prog.info? 5).map (·.size) = some 1 := by kernel_rfl
  have hr := run_copy_sz (P := Tryz.prog) w 30 30 ty 5 1 K.gb q (K.n - q) (K.n - q) ⟨b, off, none⟩ bm bc (ints .u8 P).toArray 5 (ints .u8 by_) Tryz.underlying30 hsz h.row (by rw [hmin, ints_len, hbl, Nat.mul_one]) (fun j v hv => by rw [Addr.add_lit]; exact hc j v hv) (by rw [ints_len, hbl]; simp [ints_len, h.len]; omega) ints_one; rw [hmin] at hr; refine ⟨_, hr, ?_, ?_, ⟨rfl, rfl, rfl, by simp [World.setRow], fun k hk h2 => setRow_other w K.gb k _ h2⟩⟩
  · have ho : ∀ k, k ≠ K.gb → (w.setRow K.gb (splice (ints .u8 P).toArray.toList q (ints .u8 by_)).toArray).heap[k]? = w.heap[k]? := fun k hk => setRow_other w K.gb k _ hk
    refine ⟨(ho _ h.ne).trans h.blk, ?_, by rw [splice_len (by rw [hbl, h.len]; exact hq)]; exact h.len, ?_, h.spne, h.ne, h.splt, by simp [World.setRow]; exact h.sble⟩
    · have := setRow_heap w K.gb (ints .u8 P).toArray (splice (ints .u8 P).toArray.toList q (ints .u8 by_)).toArray 5 (0, 0) h.row
      unfold Row; rw [this]; have e : (ints .u8 P).toArray.toList = ints .u8 P := by simp
      rw [e, ints_splice]
    · exact sl_eqs h.sp (by simp [World.setRow]) (fun x e hx => ho _ (h.spne x e).2)
  · exact ⟨rfl, rfl, rfl, by simp [World.setRow], fun k hk h2 h3 _ => setRow_other w K.gb k _ h3, fun _ h => .inl h⟩
theorem Mv.blk {g gt : Nat} {w w' : World} {k : Nat} {T : TypeId} {cs : Array Value} (h : Mv g gt nilV nilV w w') (hb : Blk w k T cs) (h1 : k ≠ g) (h2 : k ≠ gt) : Blk w' k T cs := (h.block k hb.lt h1 h2 (by intro e; cases e)).trans hb
theorem Mv.own {g gt : Nat} {w w' : World} {B : Nat} {E : TypeId} {sz n : Nat} {v : Value} {xs : List Value} (h : Mv g gt nilV nilV w w') (ho : w.ownsRow B E sz v n xs) (h1 : v.ownBlock ≠ some g) (h2 : v.ownBlock ≠ some gt) : w'.ownsRow B E sz v n xs := by
  obtain ⟨hl, hr⟩ := ho; refine ⟨hl, ?_⟩
  rcases hr with hn | ⟨b, cap, cur, rfl, hB, hg, r⟩
  · exact .inl hn
  · exact .inr ⟨b, cap, cur, rfl, hB, (h.block b (Array.getElem?_eq_some_iff.1 hg).1 (fun e => h1 (by rw [← e]; rfl)) (fun e => h2 (by rw [← e]; rfl)) (by intro e; cases e)).trans hg, r⟩
/-- another block has turned -/
theorem WrS.but {K : Wc} {w w' : World} {no : Int} {P : List Int} {g : Nat} (h : WrS K w no P) (hb : But g w w') (h1 : g ≠ K.gw) (h2 : g ≠ K.gb) (h3 : K.sb ≤ g) : WrS K w' no P :=
  ⟨Blk.but_ hb h.blk (Ne.symm h1), (hb.block _ (Row.lt h.row) (Ne.symm h2)).trans h.row, h.len, sl_eqs h.sp hb.size (fun x e hx => hb.block _ hx (by have := h.splt x e; omega)), h.spne, h.ne, h.splt, Nat.le_trans h.sble hb.size⟩
theorem Mv.new {g gt b : Nat} {w w1 w2 : World} (h : Mv g gt nilV nilV w w1) (hb : But b w1 w2) (h1 : w.heap.size ≤ b) : Mv g gt nilV nilV w w2 :=
  ⟨hb.os.trans h.os, hb.tape.trans h.tape, hb.output.trans h.output, Nat.le_trans h.size hb.size, fun k hk h2 h3 h4 => (hb.block k (Nat.lt_of_lt_of_le hk h.size) (by omega)).trans (h.block k hk h2 h3 h4), fun _ e => by cases e⟩
end Go.Proofs.YtilennmeiaehnaaGreat

namespace Go.Proofs.YtilennmeiaehnaaGreat
open Go.RowKit Tt
set_option linter.unusedVariables false
set_option linter.unusedSimpArgs false

/-- two patches do not meet -/
def Dj (p q : Pt) : Prop := p.1 + p.2.length ≤ q.1 ∨ q.1 + q.2.length ≤ p.1
theorem Dj.symm {p q : Pt} (h : Dj p q) : Dj q p := Or.symm h
theorem splice_getD {b c : List Int} {i : Nat} (h : i + c.length ≤ b.length) (k : Nat) : (splice b i c).getD k 0 = if i ≤ k ∧ k < i + c.length then c.getD (k - i) 0 else b.getD k 0 := by
  unfold splice; simp only [List.getD_eq_getElem?_getD, List.getElem?_append, List.getElem?_take, List.getElem?_drop, List.length_take]
  by_cases h1 : k < i
  · rw [if_pos (by omega), if_pos h1, if_neg (by omega)]
  · rw [if_neg (by omega)]
    by_cases h2 : k < i + c.length
    · rw [if_pos (by omega), if_pos (by omega), Nat.min_eq_left (by omega)]
    · rw [if_neg (by omega), if_neg (by omega)]
      congr 2
      omega
theorem list_ext0 {a b : List Int} (hl : a.length = b.length) (h : ∀ k, k < a.length → a.getD k 0 = b.getD k 0) : a = b := by
  refine List.ext_getElem hl fun k h1 h2 => ?_; have := h k h1
  rwa [List.getD_eq_getElem?_getD, List.getD_eq_getElem?_getD, List.getElem?_eq_getElem h1, List.getElem?_eq_getElem h2] at this
theorem splice_comm {b : List Int} {p q : Pt} (h : Dj p q) (hp : p.1 + p.2.length ≤ b.length) (hq : q.1 + q.2.length ≤ b.length) : splice (splice b p.1 p.2) q.1 q.2 = splice (splice b q.1 q.2) p.1 p.2 := by
  have e1 := splice_len hp; have e2 := splice_len hq; refine list_ext0 ((splice_len (by omega)).trans (e1.trans (e2.symm.trans (splice_len (by omega)).symm))) fun k hk => ?_; rw [splice_getD (by omega), splice_getD (by omega), splice_getD (by omega), splice_getD (by omega)]
  rcases h with h | h
  · by_cases h1 : q.1 ≤ k ∧ k < q.1 + q.2.length
    · rw [if_pos h1, if_neg (by omega), if_pos h1]
    · rw [if_neg h1]; by_cases h2 : p.1 ≤ k ∧ k < p.1 + p.2.length
      · rw [if_pos h2, if_pos h2]
      · rw [if_neg h2, if_neg h2, if_neg h1]
  · by_cases h1 : q.1 ≤ k ∧ k < q.1 + q.2.length
    · rw [if_pos h1, if_neg (by omega), if_pos h1]
    · rw [if_neg h1]; by_cases h2 : p.1 ≤ k ∧ k < p.1 + p.2.length
      · rw [if_pos h2, if_pos h2]
      · rw [if_neg h2, if_neg h2, if_neg h1]
def InB (n : Nat) (ps : List Pt) : Prop := ∀ p ∈ ps, p.1 + p.2.length ≤ n
theorem apP_cons (p : Pt) (ps : List Pt) (b : List Int) : apP (p :: ps) b = apP ps (splice b p.1 p.2) := rfl
theorem apP_len : ∀ (ps : List Pt) (b : List Int), InB b.length ps → (apP ps b).length = b.length
  | [], _, _ => rfl
  | p :: ps, b, h => by
    have h1 := splice_len (h p (List.mem_cons_self ..)); rw [apP_cons, apP_len ps _ (by rw [h1]; exact fun q hq => h q (List.mem_cons_of_mem _ hq)), h1]
theorem apP_out : ∀ (ps : List Pt) (b : List Int) (k : Nat), InB b.length ps → (∀ p ∈ ps, ¬ (p.1 ≤ k ∧ k < p.1 + p.2.length)) → (apP ps b).getD k 0 = b.getD k 0
  | [], _, _, _, _ => rfl
  | p :: ps, b, k, h, hk => by
    have hp := h p (List.mem_cons_self ..); have h1 := splice_len hp; rw [apP_cons, apP_out ps _ k (by rw [h1]; exact fun q hq => h q (List.mem_cons_of_mem _ hq)) (fun q hq => hk q (List.mem_cons_of_mem _ hq)), splice_getD hp, if_neg (hk p (List.mem_cons_self ..))]
theorem apP_at : ∀ (ps : List Pt) (b : List Int), InB b.length ps → ps.Pairwise Dj → ∀ p ∈ ps, ∀ i, i < p.2.length → (apP ps b).getD (p.1 + i) 0 = p.2.getD i 0
  | [], _, _, _, _, hp, _, _ => by cases hp
  | q :: ps, b, h, hd, p, hp, i, hi => by
    have hq := h q (List.mem_cons_self ..); have h1 := splice_len hq; have hb : InB (splice b q.1 q.2).length ps := by rw [h1]; exact fun r hr => h r (List.mem_cons_of_mem _ hr)
    obtain ⟨hd1, hd2⟩ := List.pairwise_cons.1 hd; rw [apP_cons]
    rcases List.mem_cons.1 hp with rfl | hp
    · rw [apP_out ps _ _ hb (fun r hr => by have := hd1 r hr; unfold Dj at this; omega), splice_getD hq, if_pos (by omega), Nat.add_sub_cancel_left]
    · exact apP_at ps _ hb hd2 p hp i hi
theorem apP_get {ps : List Pt} {b : List Int} (h : InB b.length ps) (hd : ps.Pairwise Dj) {p : Pt} (hp : p ∈ ps) : ((apP ps b).drop p.1).take p.2.length = p.2 := by
  have hl := apP_len ps b h; have := h p hp; refine list_ext0 (by simp; omega) fun k hk => ?_; have hk' : k < p.2.length := by simp at hk; omega
  rw [← apP_at ps b h hd p hp k hk']; simp only [List.getD_eq_getElem?_getD, List.getElem?_take, List.getElem?_drop]; rw [if_pos hk']
theorem apP_perm {ps qs : List Pt} (hpm : ps.Perm qs) : ∀ (b : List Int), InB b.length ps → ps.Pairwise Dj → apP ps b = apP qs b := by
  induction hpm with
  | nil => intros; rfl
  | cons p _ ih =>
    intro b h hd; have h1 := splice_len (h p (List.mem_cons_self ..)); rw [apP_cons, apP_cons]; exact ih _ (by rw [h1]; exact fun r hr => h r (List.mem_cons_of_mem _ hr)) (List.pairwise_cons.1 hd).2
  | swap p q l =>
    intro b h hd; have hq := h q (List.mem_cons_self ..); have hp := h p (List.mem_cons_of_mem _ (List.mem_cons_self ..)); have hdj := (List.pairwise_cons.1 hd).1 p (List.mem_cons_self ..); rw [apP_cons, apP_cons, apP_cons, apP_cons, splice_comm hdj hq hp]
  | trans h1 _ ih1 ih2 =>
    intro b h hd; rw [ih1 b h hd]; exact ih2 b (fun r hr => h r (h1.mem_iff.2 hr)) ((h1.pairwise_iff (fun {_ _} h => Dj.symm h)).1 hd)
theorem flatMap_perm {α β : Type} {f g : α → List β} : ∀ (l : List α), (∀ x ∈ l, (f x).Perm (g x)) → (l.flatMap f).Perm (l.flatMap g)
  | [], _ => List.Perm.refl _
  | x :: l, h => by
    rw [List.flatMap_cons, List.flatMap_cons]; exact (h x (List.mem_cons_self ..)).append (flatMap_perm l fun y hy => h y (List.mem_cons_of_mem _ hy))

/-- what is laid, behind an end: what, no, tag, long -/
abbrev Itm := Int × Int × Int × Int
def pushI (l : List Spt) (x : Itm) : List Spt := addS l x.1 x.2.1 x.2.2.1 x.2.2.2
def placed : Int → List Itm → List Spt
  | _, [] => []
  | e, x :: r => (x.1, x.2.1, x.2.2.1, evenS e, x.2.2.2) :: placed (evenS e + x.2.2.2) r
def endP : Int → List Itm → Int
  | e, [] => e
  | e, x :: r => endP (evenS e + x.2.2.2) r
theorem endS_push (l : List Spt) (x : Itm) : endS (pushI l x) = evenS (endS l) + x.2.2.2 := endS_add ..
theorem push_all : ∀ (is : List Itm) (l : List Spt), is.foldl pushI l = l ++ placed (endS l) is ∧ endS (is.foldl pushI l) = endP (endS l) is
  | [], l => by simp [placed, endP]
  | x :: is, l => by
    have ih := push_all is (pushI l x); rw [List.foldl_cons, ih.2, ih.1, endS_push]; refine ⟨?_, rfl⟩; unfold pushI addS; rw [List.append_assoc]
    rfl
theorem endP_le : ∀ (is : List Itm) (e : Int), 0 ≤ e → (∀ x ∈ is, 0 ≤ x.2.2.2) → e ≤ endP e is
  | [], e, _, _ => Int.le_refl _
  | x :: is, e, h, hx => by
    have h1 := evenS_le h; have h2 := hx x (List.mem_cons_self ..); have := endP_le is (evenS e + x.2.2.2) (by omega) fun y hy => hx y (List.mem_cons_of_mem _ hy)
    show e ≤ endP (evenS e + x.2.2.2) is
    omega
theorem placed_in : ∀ (is : List Itm) (e : Int), 0 ≤ e → (∀ x ∈ is, 0 ≤ x.2.2.2) → ∀ s ∈ placed e is, e ≤ s.2.2.2.1 ∧ s.2.2.2.1 % 2 = 0 ∧ 0 ≤ s.2.2.2.2 ∧ s.2.2.2.1 + s.2.2.2.2 ≤ endP e is
  | [], _, _, _, s, hs => by cases hs
  | x :: is, e, h, hx, s, hs => by
    have h1 := evenS_le h; have h2 := hx x (List.mem_cons_self ..); have hx' := fun y hy => hx y (List.mem_cons_of_mem _ hy)
    rcases List.mem_cons.1 hs with rfl | hs
    · have := endP_le is (evenS e + x.2.2.2) (by omega) hx'
      refine ⟨h1.1, ?_, h2, this⟩
      show evenS e % 2 = 0
      unfold evenS; omega
    · have := placed_in is (evenS e + x.2.2.2) (by omega) hx' s hs
      exact ⟨by omega, this.2⟩
/-- one spot lies ahead of another one -/
def Ahead (s t : Spt) : Prop := s.2.2.2.1 + s.2.2.2.2 ≤ t.2.2.2.1
theorem placed_ahead : ∀ (is : List Itm) (e : Int), 0 ≤ e → (∀ x ∈ is, 0 ≤ x.2.2.2) → (placed e is).Pairwise Ahead
  | [], _, _, _ => List.Pairwise.nil
  | x :: is, e, h, hx => by
    have h1 := evenS_le h; have h2 := hx x (List.mem_cons_self ..); have hx' := fun y hy => hx y (List.mem_cons_of_mem _ hy); exact List.Pairwise.cons (fun s hs => (placed_in is _ (by omega) hx' s hs).1) (placed_ahead is _ (by omega) hx')
def keyI (x : Itm) : Int × Int × Int := (x.1, x.2.1, x.2.2.1)
def keyS (x : Spt) : Int × Int × Int := (x.1, x.2.1, x.2.2.1)
theorem placed_keys : ∀ (is : List Itm) (e : Int), (placed e is).map keyS = is.map keyI
  | [], _ => rfl
  | x :: is, e => by
    show keyS _ :: (placed _ is).map keyS = keyI x :: is.map keyI
    rw [placed_keys is]; rfl
theorem placed_mem : ∀ (is : List Itm) (e : Int) (x : Itm), x ∈ is → ∃ s ∈ placed e is, keyS s = keyI x ∧ s.2.2.2.2 = x.2.2.2
  | [], _, _, h => by cases h
  | y :: is, e, x, h => by
    rcases List.mem_cons.1 h with rfl | h
    · exact ⟨_, List.mem_cons_self .., rfl, rfl⟩
    · obtain ⟨s, h1, h2⟩ := placed_mem is (evenS e + y.2.2.2) x h
      exact ⟨s, List.mem_cons_of_mem _ h1, h2⟩
theorem atP_key {a b c : Int} {s : Spt} : atP a b c s = true ↔ keyS s = (a, b, c) := by
  unfold atP keyS
  simp [Prod.ext_iff, and_assoc]
theorem atS_key {l : List Spt} (hd : (l.map keyS).Nodup) {s : Spt} (hs : s ∈ l) : l.any (atP s.1 s.2.1 s.2.2.1) = true ∧ atS l s.1 s.2.1 s.2.2.1 = s.2.2.2.1 := by
  induction l with
  | nil => cases hs
  | cons t l ih =>
    obtain ⟨h1, h2⟩ := List.nodup_cons.1 hd
    rcases List.mem_cons.1 hs with rfl | hs
    · have : atP s.1 s.2.1 s.2.2.1 s = true := atP_key.2 rfl
      unfold atS
      simp [List.find?, this]
    · obtain ⟨i1, i2⟩ := ih h2 hs
      have hne : atP s.1 s.2.1 s.2.2.1 t = false := by
        cases hh : atP s.1 s.2.1 s.2.2.1 t with
        | false => rfl
        | true => exact absurd (List.mem_map.2 ⟨s, hs, (atP_key.1 hh).symm⟩) h1
      unfold atS at i2 ⊢; rw [List.any_cons, hne, List.find?, hne]; exact ⟨by simpa using i1, i2⟩
/-- a patch lies in a spot of a kind -/
def InQ (l : List Spt) (Q : Spt → Prop) (p : Pt) : Prop := ∃ s ∈ l, Q s ∧ s.2.2.2.1 ≤ p.1 ∧ (p.1 : Int) + p.2.length ≤ s.2.2.2.1 + s.2.2.2.2
theorem ahead_two {l : List Spt} (h : l.Pairwise Ahead) {s t : Spt} (hs : s ∈ l) (ht : t ∈ l) (hn : s ≠ t) : Ahead s t ∨ Ahead t s := by
  induction l with
  | nil => cases hs
  | cons u l ih =>
    obtain ⟨h1, h2⟩ := List.pairwise_cons.1 h
    rcases List.mem_cons.1 hs with e1 | hs2 <;> rcases List.mem_cons.1 ht with e2 | ht2
    · exact absurd (e1.trans e2.symm) hn
    · exact .inl (e1 ▸ h1 _ ht2)
    · exact .inr (e2 ▸ h1 _ hs2)
    · exact ih h2 hs2 ht2
theorem dj_of {l : List Spt} (h : l.Pairwise Ahead) {Q R : Spt → Prop} {p q : Pt} (hp : InQ l Q p) (hq : InQ l R q) (hx : ∀ s, Q s → R s → False) : Dj p q := by
  obtain ⟨s, hs, h1, h2, h3⟩ := hp; obtain ⟨t, ht, h4, h5, h6⟩ := hq; have hn : s ≠ t := fun e => hx s h1 (e ▸ h4); unfold Dj
  rcases ahead_two h hs ht hn with h7 | h7 <;> unfold Ahead at h7 <;> omega
theorem InQ.mono {l : List Spt} {Q R : Spt → Prop} {p : Pt} (h : InQ l Q p) (hx : ∀ s, Q s → R s) : InQ l R p := by
  obtain ⟨s, h1, h2, h3⟩ := h; exact ⟨s, h1, hx s h2, h3⟩
end Go.Proofs.YtilennmeiaehnaaGreat

namespace Go.Proofs.YtilennmeiaehnaaGreat
open Go.RowKit Tt
set_option linter.unusedVariables false
set_option linter.unusedSimpArgs false

theorem putS_length {n s o : Int} (h : putOk n s o = true) : (putS n s o).length = s.toNat := by
  unfold putS; rw [if_pos h]
  split <;> simp [leb_len]
def preE (x : Ent) (o k : Int) : List Int :=
  if k = 0 then [] else if k = 1 then putS x.1 2 o else if k = 2 then putS x.1 2 o ++ putS x.2.1 2 o else if k = 3 then putS x.1 2 o ++ putS x.2.1 2 o ++ putS x.2.2.1 4 o else entW x o
def lenE (k : Int) : Nat := if k = 0 then 0 else if k = 1 then 2 else if k = 2 then 4 else if k = 3 then 8 else 12
theorem infoBB : (Tryz.prog.info? 5).map (fun i => (i.zero, i.size, i.bytes)) = some (some (.int .u8 0), 1, 1) := by kernel_rfl
theorem own_ne_blk0 {w : World} {B : Nat} {E T : TypeId} {sz : Nat} {v : Value} {n g : Nat} {xs : List Value} {cs : Array Value} (h : w.ownsRow B E sz v n xs) (hb : Blk w g T cs) (hE : E ≠ T) : v.ownBlock ≠ some g := fun e => by
  rcases h.2 with ⟨rfl, _⟩ | ⟨g', cap, cur, rfl, _, hg, _⟩
  · cases e
  · obtain rfl : g' = g := by injection e
    unfold Blk at hb; rw [hb] at hg; injection hg with hg; injection hg with h1 h2; exact hE h2.symm
set_option maxRecDepth 20000 in
set_option maxHeartbeats 4000000 in
theorem ewrite_any (x0 x1 x2 x3 o : Int) (w : World) (hok : entOk (x0, x1, x2, x3) o = true) :
    Calls Tryz.prog 86 #[.agg #[.int .i64 x0, .int .i64 x1, .int .i64 x2, .int .i64 x3], .int .i64 o] w fun e w' => ∃ a c, e = .returned (.tuple #[.slice a 12 c, .bool true]) ∧ w'.ownsRow w.heap.size 5 1 (.slice a 12 c) 12 (ints .u8 (entW (x0, x1, x2, x3) o)) ∧ Below w.heap.size w w' := by
  obtain ⟨i0, hi, hz0, hz1, hz2⟩ := info_parts infoBB; unfold entOk at hok; simp only [Bool.and_eq_true] at hok; obtain ⟨W1, hW1, bA, bB, hb1, s1⟩ := two_boxes w 62 #[.int .i64 x0, .int .i64 x1, .int .i64 x2, .int .i64 x3] 197 #[.int .i64 2, .int .i64 2, .int .i64 4, .int .i64 4]; have hok' := Lib.hid hok; have bA' := Lib.hid bA; have bB' := Lib.hid bB; have hb1' := Lib.hid hb1; have hW1' := Lib.hid hW1; clear hok bA bB hb1 hW1
  go_enter Tryz.func86, Tryz.ntmps86
  go_wp2_with fail
  rw [hW1'.out]
  go_loopw [6, 22] (fun v iv wr => ∃ (k : Int) (a : Option Addr) (c : Nat), (k = 0 ∨ k = 1 ∨ k = 2 ∨ k = 3 ∨ k = 4) ∧ iv = .int .i64 k ∧ v = .slice a (lenE k) c ∧ Hid (wr.ownsRow w.heap.size 5 1 (.slice a (lenE k) c) (lenE k) (ints .u8 (preE (x0, x1, x2, x3) o k))) ∧ Hid (Blk wr (w.heap.size + 1) 197 #[.int .i64 2, .int .i64 2, .int .i64 4, .int .i64 4]) ∧ Hid (Below w.heap.size w wr)) (fun _ iv _ => 4 - (intOf iv).toNat)
  case atStart => exact ⟨0, none, 0, .inl rfl, rfl, rfl, Lib.hid (own_nil _ _ _ _), bB', hb1'⟩
  clear bB'
  case round =>
    obtain ⟨k, a, c, hk, rfl, rfl, ho, bB, hb⟩ := hrel; have ho := ho.out; have bB := bB.out; have hb := hb.out
    rcases hk with rfl | rfl | rfl | rfl | rfl
    ·
      have hX : ∀ W, (Instr.index 197 (.agg #[.int .i64 x0, .int .i64 x1, .int .i64 x2, .int .i64 x3]) (.int .i64 0)).run Tryz.prog W = .ok (.int .i64 x0) W := fun W => by kernel_rfl
      have hP := fun W => put_any x0 2 o W; have hpk : putOk x0 2 o = true := by simp only [hok'.out]
      have hpl := putS_length hpk; simp only [hpk] at hP; have hpe : preE (x0, x1, x2, x3) o (0 + 1) = preE (x0, x1, x2, x3) o 0 ++ putS x0 2 o := by simp [preE, entW]
      obtain ⟨by_, hby⟩ : ∃ b, putS x0 2 o = b := ⟨_, rfl⟩; rw [hby] at hpl hpe; simp only [hby] at hP; have c7 : wr.cell? ⟨w.heap.size + 1, 0, none⟩ = some (.int .i64 2) := bB.cell rfl; have hle : lenE 0 = 0 := by simp [lenE]
      rw [hle] at ho ⊢; have hP' := Lib.hid hP; have hpk' := Lib.hid hpk; have hpe' := Lib.hid hpe; have hby' := Lib.hid hby
      have bB' := Lib.hid bB; have hb' := Lib.hid hb; clear hP hpk hpe hby bB hb
      go_wp2_with fail
      refine (hP'.out _).mono ?_; rintro e w2 ⟨a2, m2, c2, rfl, ho2, hb2⟩; have hbl2 : by_.length = m2 := (Sl.of_own ho2).1.ilen; have hs2 := (Sl.of_own ho2).1; obtain rfl : m2 = 2 := by rw [← hbl2, hpl]; rfl
      have ho1 := own_later ho hb2; have bB2 := bB'.out.late hb2; have hbw2 := hb'.out.trans (hb2.mono hb'.out.size); have hsz2 := hbw2.size; clear c7 hbl2 hpl; have hs2' := Lib.hid hs2; have bB2' := Lib.hid bB2; have hbw2' := Lib.hid hbw2; have hb2' := Lib.hid hb2; clear hs2 bB2 hbw2 hb2
      go_wp2_with (at_builtin; refine wpList_app rfl _ _ 30 rfl w.heap.size 5 i0 _ 1 1 Tryz.underlying30 hi hz0 hz1 hz2 rfl (by decide) _ 0 _ rfl ho1 a2 2 c2 (ints .u8 by_) rfl hs2'.out ints_one (by decide) (by decide) hsz2 ?_; intro a5 c5 w5 ob hb5 hg5; have Ob := Lib.hid ob; have Hb5 := Lib.hid (hbw2'.out.trans hb5); have BB5 := Lib.hid (bB2'.out.grown hg5 (own_ne_blk0 ho1 bB2'.out (by decide))); clear ob hb5 hg5)
      go_roundw
      case rel => exact ⟨0 + 1, a5, c5, by decide, rfl, rfl, Lib.hid (by rw [hpe'.out, ints_append]; exact Ob.out), BB5, Hb5⟩
      case measure => simp [intOf]
    ·
      have hX : ∀ W, (Instr.index 197 (.agg #[.int .i64 x0, .int .i64 x1, .int .i64 x2, .int .i64 x3]) (.int .i64 1)).run Tryz.prog W = .ok (.int .i64 x1) W := fun W => by kernel_rfl
      have hP := fun W => put_any x1 2 o W; have hpk : putOk x1 2 o = true := by simp only [hok'.out]
      have hpl := putS_length hpk; simp only [hpk] at hP; have hpe : preE (x0, x1, x2, x3) o (1 + 1) = preE (x0, x1, x2, x3) o 1 ++ putS x1 2 o := by simp [preE, entW]
      obtain ⟨by_, hby⟩ : ∃ b, putS x1 2 o = b := ⟨_, rfl⟩; rw [hby] at hpl hpe; simp only [hby] at hP; have c7 : wr.cell? ⟨w.heap.size + 1, 1, none⟩ = some (.int .i64 2) := bB.cell rfl; have hle : lenE 1 = 2 := by simp [lenE]
      rw [hle] at ho ⊢; have hP' := Lib.hid hP; have hpk' := Lib.hid hpk; have hpe' := Lib.hid hpe; have hby' := Lib.hid hby
      have bB' := Lib.hid bB; have hb' := Lib.hid hb; clear hP hpk hpe hby bB hb
      go_wp2_with fail
      refine (hP'.out _).mono ?_; rintro e w2 ⟨a2, m2, c2, rfl, ho2, hb2⟩; have hbl2 : by_.length = m2 := (Sl.of_own ho2).1.ilen; have hs2 := (Sl.of_own ho2).1; obtain rfl : m2 = 2 := by rw [← hbl2, hpl]; rfl
      have ho1 := own_later ho hb2; have bB2 := bB'.out.late hb2; have hbw2 := hb'.out.trans (hb2.mono hb'.out.size); have hsz2 := hbw2.size; clear c7 hbl2 hpl; have hs2' := Lib.hid hs2; have bB2' := Lib.hid bB2; have hbw2' := Lib.hid hbw2; have hb2' := Lib.hid hb2; clear hs2 bB2 hbw2 hb2
      go_wp2_with (at_builtin; refine wpList_app rfl _ _ 30 rfl w.heap.size 5 i0 _ 1 1 Tryz.underlying30 hi hz0 hz1 hz2 rfl (by decide) _ 2 _ rfl ho1 a2 2 c2 (ints .u8 by_) rfl hs2'.out ints_one (by decide) (by decide) hsz2 ?_; intro a5 c5 w5 ob hb5 hg5; have Ob := Lib.hid ob; have Hb5 := Lib.hid (hbw2'.out.trans hb5); have BB5 := Lib.hid (bB2'.out.grown hg5 (own_ne_blk0 ho1 bB2'.out (by decide))); clear ob hb5 hg5)
      go_roundw
      case rel => exact ⟨1 + 1, a5, c5, by decide, rfl, rfl, Lib.hid (by rw [hpe'.out, ints_append]; exact Ob.out), BB5, Hb5⟩
      case measure => simp [intOf]
    ·
      have hX : ∀ W, (Instr.index 197 (.agg #[.int .i64 x0, .int .i64 x1, .int .i64 x2, .int .i64 x3]) (.int .i64 2)).run Tryz.prog W = .ok (.int .i64 x2) W := fun W => by kernel_rfl
      have hP := fun W => put_any x2 4 o W; have hpk : putOk x2 4 o = true := by simp only [hok'.out]
      have hpl := putS_length hpk; simp only [hpk] at hP; have hpe : preE (x0, x1, x2, x3) o (2 + 1) = preE (x0, x1, x2, x3) o 2 ++ putS x2 4 o := by simp [preE, entW]
      obtain ⟨by_, hby⟩ : ∃ b, putS x2 4 o = b := ⟨_, rfl⟩; rw [hby] at hpl hpe; simp only [hby] at hP; have c7 : wr.cell? ⟨w.heap.size + 1, 2, none⟩ = some (.int .i64 4) := bB.cell rfl; have hle : lenE 2 = 4 := by simp [lenE]
      rw [hle] at ho ⊢; have hP' := Lib.hid hP; have hpk' := Lib.hid hpk; have hpe' := Lib.hid hpe; have hby' := Lib.hid hby
      have bB' := Lib.hid bB; have hb' := Lib.hid hb; clear hP hpk hpe hby bB hb
      go_wp2_with fail
      refine (hP'.out _).mono ?_; rintro e w2 ⟨a2, m2, c2, rfl, ho2, hb2⟩; have hbl2 : by_.length = m2 := (Sl.of_own ho2).1.ilen; have hs2 := (Sl.of_own ho2).1; obtain rfl : m2 = 4 := by rw [← hbl2, hpl]; rfl
      have ho1 := own_later ho hb2; have bB2 := bB'.out.late hb2; have hbw2 := hb'.out.trans (hb2.mono hb'.out.size); have hsz2 := hbw2.size; clear c7 hbl2 hpl; have hs2' := Lib.hid hs2; have bB2' := Lib.hid bB2; have hbw2' := Lib.hid hbw2; have hb2' := Lib.hid hb2; clear hs2 bB2 hbw2 hb2
      go_wp2_with (at_builtin; refine wpList_app rfl _ _ 30 rfl w.heap.size 5 i0 _ 1 1 Tryz.underlying30 hi hz0 hz1 hz2 rfl (by decide) _ 4 _ rfl ho1 a2 4 c2 (ints .u8 by_) rfl hs2'.out ints_one (by decide) (by decide) hsz2 ?_; intro a5 c5 w5 ob hb5 hg5; have Ob := Lib.hid ob; have Hb5 := Lib.hid (hbw2'.out.trans hb5); have BB5 := Lib.hid (bB2'.out.grown hg5 (own_ne_blk0 ho1 bB2'.out (by decide))); clear ob hb5 hg5)
      go_roundw
      case rel => exact ⟨2 + 1, a5, c5, by decide, rfl, rfl, Lib.hid (by rw [hpe'.out, ints_append]; exact Ob.out), BB5, Hb5⟩
      case measure => simp [intOf]
    ·
      have hX : ∀ W, (Instr.index 197 (.agg #[.int .i64 x0, .int .i64 x1, .int .i64 x2, .int .i64 x3]) (.int .i64 3)).run Tryz.prog W = .ok (.int .i64 x3) W := fun W => by kernel_rfl
      have hP := fun W => put_any x3 4 o W; have hpk : putOk x3 4 o = true := by simp only [hok'.out]
      have hpl := putS_length hpk; simp only [hpk] at hP; have hpe : preE (x0, x1, x2, x3) o (3 + 1) = preE (x0, x1, x2, x3) o 3 ++ putS x3 4 o := by simp [preE, entW]
      obtain ⟨by_, hby⟩ : ∃ b, putS x3 4 o = b := ⟨_, rfl⟩; rw [hby] at hpl hpe; simp only [hby] at hP; have c7 : wr.cell? ⟨w.heap.size + 1, 3, none⟩ = some (.int .i64 4) := bB.cell rfl; have hle : lenE 3 = 8 := by simp [lenE]
      rw [hle] at ho ⊢; have hP' := Lib.hid hP; have hpk' := Lib.hid hpk; have hpe' := Lib.hid hpe; have hby' := Lib.hid hby
      have bB' := Lib.hid bB; have hb' := Lib.hid hb; clear hP hpk hpe hby bB hb
      go_wp2_with fail
      refine (hP'.out _).mono ?_; rintro e w2 ⟨a2, m2, c2, rfl, ho2, hb2⟩; have hbl2 : by_.length = m2 := (Sl.of_own ho2).1.ilen; have hs2 := (Sl.of_own ho2).1; obtain rfl : m2 = 4 := by rw [← hbl2, hpl]; rfl
      have ho1 := own_later ho hb2; have bB2 := bB'.out.late hb2; have hbw2 := hb'.out.trans (hb2.mono hb'.out.size); have hsz2 := hbw2.size; clear c7 hbl2 hpl; have hs2' := Lib.hid hs2; have bB2' := Lib.hid bB2; have hbw2' := Lib.hid hbw2; have hb2' := Lib.hid hb2; clear hs2 bB2 hbw2 hb2
      go_wp2_with (at_builtin; refine wpList_app rfl _ _ 30 rfl w.heap.size 5 i0 _ 1 1 Tryz.underlying30 hi hz0 hz1 hz2 rfl (by decide) _ 8 _ rfl ho1 a2 4 c2 (ints .u8 by_) rfl hs2'.out ints_one (by decide) (by decide) hsz2 ?_; intro a5 c5 w5 ob hb5 hg5; have Ob := Lib.hid ob; have Hb5 := Lib.hid (hbw2'.out.trans hb5); have BB5 := Lib.hid (bB2'.out.grown hg5 (own_ne_blk0 ho1 bB2'.out (by decide))); clear ob hb5 hg5)
      go_roundw
      case rel => exact ⟨3 + 1, a5, c5, by decide, rfl, rfl, Lib.hid (by rw [hpe'.out, ints_append]; exact Ob.out), BB5, Hb5⟩
      case measure => simp [intOf]
    · have e12 : lenE 4 = 12 := by decide
      rw [e12] at ho ⊢; have bB' := Lib.hid bB; have hb' := Lib.hid hb; clear bB hb
      go_wp2_with fail
      refine bodyPost_ret (results_tmp2 rfl _ _ _) rfl ?_; exact ⟨a, c, rfl, by simpa [preE] using ho, hb'.out⟩
end Go.Proofs.YtilennmeiaehnaaGreat
