/- Chapter 21: a directory's bytes: plain words; what lies while it is written. -/
import Derived.Test.YtceclmpmpldmlaaGreatCs14
import Derived.Test.YtceclmpmpldmlaaGreatCs18
import Derived.Test.YtceclmpmpldmlaaGreatCs11
import Derived.Test.YtceclmpmpldmlaaGreatCs21
namespace Go.Proofs.YtceclmpmpldmlaaGreat
open Go.RowKit Tt
set_option linter.unusedVariables false
set_option linter.unusedSimpArgs false

def ent0 : Ent := (0, 0, 0, 0)
/-- the number of the directory that a link leads to -/
def subN (f : Nat) (ss : List (Int × DirT f)) (no : Int) (j : Nat) : Int := no + 1 + (flats f (ss.take j)).length
def subX (f : Nat) (l : List Spt) (ss : List (Int × DirT f)) (no : Int) (j : Nat) : Ent := ((ss.getD j (0, dirZ f)).1, 4, 1, atS l 2 (subN f ss no j) 0)
def subE (f : Nat) (l : List Spt) (ss : List (Int × DirT f)) (no : Int) (n : Nat) : List Ent := (List.range n).map (subX f l ss no)
def blobE (l : List Spt) (s : Shp) (b : List Int) (no : Int) : List Ent := if 0 < b.length then [(s.2.1, 4, 1, atS l 4 no 0), (s.2.2.1, 4, 1, (b.length : Int))] else []
def entsD (f : Nat) (l : List Spt) (o no : Int) (s : Shp) (d : DirT (f + 1)) : List Ent := d.1.map (entT l o no) ++ subE f l d.2.1 no d.2.1.length ++ blobE l s d.2.2 no
def blobP (l : List Spt) (b : List Int) (no : Int) : List Pt := if 0 < b.length then [((atS l 4 no 0).toNat, b)] else []
def rowP (q : Nat) (o : Int) (es : List Ent) (n : Nat) : List Pt := (List.range n).map fun i => (q + 2 + 12 * i, entW (es.getD i ent0) o)
def headP (l : List Spt) (o no : Int) (es : List Ent) : List Pt := ((atS l 2 no 0).toNat, putS (es.length : Nat) 2 o) :: rowP (atS l 2 no 0).toNat o (sortE es) es.length
def subP {f : Nat} (rec : DirT f → Int → Int → List Pt) (s : Shp) (ss : List (Int × DirT f)) (no : Int) (n : Nat) : List Pt := (List.range n).flatMap fun j => rec (ss.getD j (0, dirZ f)).2 (subN f ss no j) (subI s (ss.getD j (0, dirZ f)).1)
/-- what is written of a directory and all within it, in the program's order -/
def dirW (L : List Shp) (l : List Spt) (o : Int) : (f : Nat) → DirT f → Int → Int → List Pt
  | 0, _, _, _ => []
  | f + 1, d, no, i => d.1.flatMap (patV l o no) ++ subP (dirW L l o f) (L.getD i.toNat shp0) d.2.1 no d.2.1.length ++ blobP l d.2.2 no ++ headP l o no (entsD f l o no (L.getD i.toNat shp0) d)
theorem dirW_succ (L : List Shp) (l : List Spt) (o : Int) (f : Nat) (d : DirT (f + 1)) (no i : Int) : dirW L l o (f + 1) d no i =
    d.1.flatMap (patV l o no) ++ subP (dirW L l o f) (L.getD i.toNat shp0) d.2.1 no d.2.1.length ++ blobP l d.2.2 no ++ headP l o no (entsD f l o no (L.getD i.toNat shp0) d) := rfl
/-- all has its place -/
def okW (L : List Shp) (l : List Spt) (n : Nat) (o : Int) : (f : Nat) → DirT f → Int → Int → Prop
  | 0, _, _, _ => True
  | f + 1, d, no, i => (∀ x ∈ d.1, okV l n o no x ∧ x.2.2.2.length ≤ 1000000000) ∧
      (∀ j, j < d.2.1.length → linkP (L.getD i.toNat shp0) (d.2.1.getD j (0, dirZ f)).1 = true ∧ okW L l n o f (d.2.1.getD j (0, dirZ f)).2 (subN f d.2.1 no j) (subI (L.getD i.toNat shp0) (d.2.1.getD j (0, dirZ f)).1)) ∧
      (0 < d.2.2.length → Fits l n 4 no 0 d.2.2.length) ∧ Fits l n 2 no 0 (2 + 12 * (entsD f l o no (L.getD i.toNat shp0) d).length) ∧
      1 ≤ (entsD f l o no (L.getD i.toNat shp0) d).length ∧ (entsD f l o no (L.getD i.toNat shp0) d).length ≤ 65535 ∧ (o = 1 ∨ o = 2) ∧
      ((entsD f l o no (L.getD i.toNat shp0) d).Pairwise fun x y => x.1 ≠ y.1) ∧ (∀ x ∈ entsD f l o no (L.getD i.toNat shp0) d, entOk x o = true)
theorem okW_succ {L : List Shp} {l : List Spt} {n : Nat} {o : Int} {f : Nat} {d : DirT (f + 1)} {no i : Int} (h : okW L l n o (f + 1) d no i) : (∀ x ∈ d.1, okV l n o no x ∧ x.2.2.2.length ≤ 1000000000) ∧
      (∀ j, j < d.2.1.length → linkP (L.getD i.toNat shp0) (d.2.1.getD j (0, dirZ f)).1 = true ∧ okW L l n o f (d.2.1.getD j (0, dirZ f)).2 (subN f d.2.1 no j) (subI (L.getD i.toNat shp0) (d.2.1.getD j (0, dirZ f)).1)) ∧
      (0 < d.2.2.length → Fits l n 4 no 0 d.2.2.length) ∧ Fits l n 2 no 0 (2 + 12 * (entsD f l o no (L.getD i.toNat shp0) d).length) ∧
      1 ≤ (entsD f l o no (L.getD i.toNat shp0) d).length ∧ (entsD f l o no (L.getD i.toNat shp0) d).length ≤ 65535 ∧ (o = 1 ∨ o = 2) ∧
      ((entsD f l o no (L.getD i.toNat shp0) d).Pairwise fun x y => x.1 ≠ y.1) ∧ (∀ x ∈ entsD f l o no (L.getD i.toNat shp0) d, entOk x o = true) := h
theorem subE_step (f : Nat) (l : List Spt) (ss : List (Int × DirT f)) (no : Int) (n : Nat) : subE f l ss no (n + 1) = subE f l ss no n ++ [subX f l ss no n] := by
  unfold subE; rw [List.range_succ, List.map_append]; rfl
theorem subP_step {f : Nat} (rec : DirT f → Int → Int → List Pt) (s : Shp) (ss : List (Int × DirT f)) (no : Int) (n : Nat) : subP rec s ss no (n + 1) = subP rec s ss no n ++ rec (ss.getD n (0, dirZ f)).2 (subN f ss no n) (subI s (ss.getD n (0, dirZ f)).1) := by
  unfold subP; rw [List.range_succ, List.flatMap_append]; simp
theorem rowP_step (q : Nat) (o : Int) (es : List Ent) (n : Nat) : rowP q o es (n + 1) = rowP q o es n ++ [(q + 2 + 12 * n, entW (es.getD n ent0) o)] := by
  unfold rowP; rw [List.range_succ, List.map_append]; rfl
theorem patV_step (l : List Spt) (o no : Int) (ts : List Tgs) {i : Nat} (h : i < ts.length) : (ts.take (i + 1)).flatMap (patV l o no) = (ts.take i).flatMap (patV l o no) ++ patV l o no ts[i] := by
  rw [List.take_add_one, List.getElem?_eq_getElem h, Option.toList_some, List.flatMap_append]; simp
theorem entT_step (l : List Spt) (o no : Int) (ts : List Tgs) {i : Nat} (h : i < ts.length) : (ts.take (i + 1)).map (entT l o no) = (ts.take i).map (entT l o no) ++ [entT l o no ts[i]] := by
  rw [List.take_add_one, List.getElem?_eq_getElem h, Option.toList_some, List.map_append]; rfl
theorem subN_step (f : Nat) (ss : List (Int × DirT f)) (no : Int) {j : Nat} (h : j < ss.length) : subN f ss no (j + 1) = subN f ss no j + (flatS f (ss.getD j (0, dirZ f)).2).length := by
  unfold subN; rw [flats_step f ss h, getD_el h]; omega
theorem subN_le (f : Nat) (ss : List (Int × DirT f)) (no : Int) (j : Nat) : no + 1 ≤ subN f ss no j ∧ subN f ss no j ≤ no + 1 + (flats f ss).length := by
  have := flats_take_le f ss j; unfold subN; omega
theorem subN_all (f : Nat) (ss : List (Int × DirT f)) (no : Int) : subN f ss no ss.length = no + 1 + (flats f ss).length := by
  unfold subN; rw [List.take_of_length_le (Nat.le_refl _)]
theorem subE_len (f : Nat) (l : List Spt) (ss : List (Int × DirT f)) (no : Int) (n : Nat) : (subE f l ss no n).length = n := by unfold subE; simp
theorem entsD_len (f : Nat) (l : List Spt) (o no : Int) (s : Shp) (d : DirT (f + 1)) : (entsD f l o no s d).length = entN d.1.length d.2.1.length d.2.2.length := by
  unfold entsD blobE entN; simp only [List.length_append, List.length_map, subE_len]
  split <;> simp <;> omega
/-- all below B stays: so does the writer -/
theorem WrS.low {K : Wc} {w w' : World} {no : Int} {P : List Int} {B : Nat} (h : WrS K w no P) (hb : Below B w w') (h1 : K.gw < B) (h2 : K.gb < B) (h3 : K.sb ≤ B) : WrS K w' no P :=
  ⟨(hb.block _ h1).trans h.blk, (hb.block _ h2).trans h.row, h.len, sl_eqs h.sp hb.size (fun x e hx => hb.block _ (by have := h.splt x e; omega)), h.spne, h.ne, h.splt, Nat.le_trans h.sble hb.size⟩
theorem Mv.low {g gt B : Nat} {w w1 w2 : World} (h : Mv g gt nilV nilV w w1) (hb : Below B w1 w2) (hB : w.heap.size ≤ B) : Mv g gt nilV nilV w w2 :=
  ⟨hb.os.trans h.os, hb.tape.trans h.tape, hb.output.trans h.output, Nat.le_trans h.size hb.size, fun k hk h2 h3 h4 => (hb.block k (Nat.lt_of_lt_of_le hk hB)).trans (h.block k hk h2 h3 h4), fun _ e => by cases e⟩
/-- what lies while a directory is written: its two boxes, the entries -/
structure WIn (K : Wc) (w wr : World) (no : Int) (P : List Int) (A S gl : Nat) (dv sv : Array Value) (v : Value) (es : List Ent) : Prop where
  ws : WrS K wr no P
  bA : Blk wr A 26 dv
  bS : Blk wr S 35 sv
  bl : Blk wr gl 154 #[v]
  ow : wr.ownsRow w.heap.size 55 4 v es.length (fl entC es)
  mv : Mv K.gw K.gb nilV nilV w wr
theorem own_nw {K : Wc} {w wr : World} {no : Int} {P : List Int} {A S gl : Nat} {dv sv : Array Value} {v : Value} {es : List Ent} (h : WIn K w wr no P A S gl dv sv v es) (b : Nat) (hb : b < w.heap.size) : v.ownBlock ≠ some b := fun e => by
  have := (h.ow.lt b e).1; omega
theorem WIn.later {K : Wc} {w wr w2 : World} {no : Int} {P : List Int} {A S gl : Nat} {dv sv : Array Value} {v : Value} {es : List Ent} (h : WIn K w wr no P A S gl dv sv v es) (hb : Below wr.heap.size wr w2) : WIn K w w2 no P A S gl dv sv v es :=
  ⟨h.ws.later hb, h.bA.late hb, h.bS.late hb, h.bl.late hb, own_later h.ow hb, h.mv.later hb⟩
theorem WIn.turn {K : Wc} {w wr w2 : World} {no no2 : Int} {P P2 : List Int} {A S gl : Nat} {dv sv : Array Value} {v : Value} {es : List Ent} (h : WIn K w wr no P A S gl dv sv v es) (hws : WrS K w2 no2 P2) (hm : Mv K.gw K.gb nilV nilV wr w2)
    (h1 : K.gw < w.heap.size) (h2 : K.gb < w.heap.size) (h3 : w.heap.size ≤ A) (h4 : w.heap.size ≤ S) (h5 : w.heap.size ≤ gl) : WIn K w w2 no2 P2 A S gl dv sv v es :=
  ⟨hws, Mv.blk hm h.bA (by omega) (by omega), Mv.blk hm h.bS (by omega) (by omega), Mv.blk hm h.bl (by omega) (by omega), Mv.own hm h.ow (own_nw h _ h1) (own_nw h _ h2), h.mv.trans hm⟩
theorem WIn.add {K : Wc} {w wr w2 : World} {no : Int} {P : List Int} {A S gl : Nat} {dv sv : Array Value} {v v2 : Value} {es es2 : List Ent} (h : WIn K w wr no P A S gl dv sv v es)
    (hl : Blk w2 gl 154 #[v2]) (ho : w2.ownsRow w.heap.size 55 4 v2 es2.length (fl entC es2)) (hm : Mv gl gl v v2 wr w2)
    (h1 : K.gw < w.heap.size) (h2 : K.gb < w.heap.size) (h3 : K.sb ≤ w.heap.size) (h5 : w.heap.size ≤ gl) (h6 : A ≠ gl) (h7 : S ≠ gl) : WIn K w w2 no P A S gl dv sv v2 es2 := by
  have hb := hm.below (B := w.heap.size) h5 h5 (fun k e => (h.ow.lt k e).1) h.mv.size; exact ⟨h.ws.low hb h1 h2 h3, h.bA.mv hm h6 h6 (own_ne_blk0 h.ow h.bA (by decide)), h.bS.mv hm h7 h7 (own_ne_blk0 h.ow h.bS (by decide)), hl, ho, Mv.low h.mv hb (Nat.le_refl _)⟩
theorem WIn.sort {K : Wc} {w wr w2 : World} {no : Int} {P : List Int} {A S gl : Nat} {dv sv : Array Value} {v : Value} {es es2 : List Ent} (h : WIn K w wr no P A S gl dv sv v es)
    (ho : w2.ownsRow w.heap.size 55 4 v es2.length (fl entC es2)) (hg : wr.grownBy w2 v.ownBlock)
    (h1 : K.gw < w.heap.size) (h2 : K.gb < w.heap.size) (h3 : K.sb ≤ w.heap.size) (h5 : w.heap.size ≤ gl) : WIn K w w2 no P A S gl dv sv v es2 := by
  have hm := Mv.of_grown (g := gl) (gt := gl) hg (fun k e => .inl e); have hb := hm.below (B := w.heap.size) h5 h5 (fun k e => (h.ow.lt k e).1) h.mv.size; exact ⟨h.ws.low hb h1 h2 h3, h.bA.grown hg (own_ne_blk0 h.ow h.bA (by decide)), h.bS.grown hg (own_ne_blk0 h.ow h.bS (by decide)), h.bl.grown hg (own_ne_blk0 h.ow h.bl (by decide)), ho, Mv.low h.mv hb (Nat.le_refl _)⟩
set_option maxHeartbeats 1000000 in
theorem lidx2_any (cap : Value) (a : Option Addr) (n c : Nat) (ls : List Lk) (p : Lk → Bool) (w : World) (hs : Sl w a n c 2 (fl lkc ls))
    (hc : ∀ W (x : Lk), Below w.heap.size w W → Calls Tryz.prog 92 #[.agg #[.int .i64 x.1, .int .i64 x.2], cap] W fun e W' => e = .returned (.bool (p x)) ∧ Below W.heap.size W W') :
    Calls Tryz.prog 91 #[.slice a n c, .func (.func 92) #[] #[cap]] w fun e w' => e = .returned (.int .i64 (fst p ls)) ∧ Below w.heap.size w w' := by
  have hl := hs.flen lkc_len (by decide); have hm := hs.max; have hle := hs.le; have hs' := Lib.hid hs; have hc' := Lib.hid hc; have hl' := Lib.hid hl; clear hs hc hl
  go_enter Tryz.func91, Tryz.ntmps91
  go_wp2
  go_loopw [8] (fun iv wr => ∃ k : Nat, k ≤ n ∧ iv = .int .i64 k ∧ Hid (∀ i (hi : i < ls.length), i < k → p ls[i] = false) ∧ Hid (Below w.heap.size w wr)) (fun iv _ => n - (intOf iv).toNat)
  case atStart => exact ⟨0, by omega, rfl, Lib.hid (fun j _ hj => by omega), Lib.hid (Below.refl _ _)⟩
  case round =>
    obtain ⟨k, hk, rfl, hall, hb⟩ := hrel
    by_cases hlt : k < n
    · have hww : IntKind.i64.wrap ((k : Int) + 1) = k + 1 := by rw [IntKind.wrap_i64]; omega
      have hkl : k < ls.length := by rw [hl'.out]; exact hlt
      obtain ⟨b, o, rfl, hbb, f⟩ := (hs'.out.mono hb.out).elem lkc_len (by decide) (0, 0) hlt; rw [getD_el hkl] at f; have f0 := f 0 _ rfl; have f1 := f 1 _ rfl; clear f; rw [Nat.add_zero] at f0; obtain ⟨r, hr⟩ : ∃ r, p (ls[k]'hkl) = r := ⟨_, rfl⟩; have HC := hc'.out wr (ls[k]'hkl) hb.out; rw [hr] at HC
      generalize (ls[k]'hkl).1 = x1 at *
      generalize (ls[k]'hkl).2 = x2 at *
      have HC' := Lib.hid HC; have hr' := Lib.hid hr; clear HC hr
      go_wp2_with fail
      refine HC'.out.mono ?_; rintro e w2 ⟨rfl, hb2⟩; have hbw := hb.out.trans (hb2.mono hb.out.size); clear hb2
      cases r with
      | true =>
        have hbw' := Lib.hid hbw; clear hbw
        go_wp2
        go_ret
        exact ⟨by rw [fst_at hkl hr'.out (fun i hi => hall.out i (by omega) hi)]; rfl, hbw'.out⟩
      | false =>
        have hall2 : ∀ i (hi : i < ls.length), i < k + 1 → p ls[i] = false := fun i hi h => by
          rcases Nat.lt_or_ge i k with h1 | h1
          · exact hall.out i hi h1
          · obtain rfl : i = k := by omega
            exact hr'.out
        have hbw' := Lib.hid hbw; have hall2' := Lib.hid hall2; clear hbw hall2
        go_wp2
        go_roundw
        case rel => exact ⟨k + 1, by omega, by go_num, hall2', hbw'⟩
        case measure => simp [intOf]; omega
    · obtain rfl : k = n := by omega
      go_wp2
      go_ret
      exact ⟨by rw [fst_no (fun i hi => hall.out i hi (by rw [hl'.out] at hi; exact hi))]; rfl, hb.out⟩
/-- worlds of which something is known -/
theorem pred_worlds (C : World → Prop) (w : World) (h : C w) : ∃ (S : Type) (f : S → World), Nonempty S ∧ (∀ s, C (f s)) ∧ ∀ W, C W → ∃ s, W = f s :=
  ⟨{W : World // C W}, Subtype.val, ⟨⟨w, h⟩⟩, fun s => s.2, fun W h => ⟨⟨W, h⟩, rfl⟩⟩
theorem Mv.cell {g gt : Nat} {w w' : World} (h : Mv g gt nilV nilV w w') {p : Addr} {v : Value} (h0 : p.block < w.heap.size) (h1 : p.block ≠ g) (h2 : p.block ≠ gt) (hc : w.cell? p = some v) : w'.cell? p = some v := by
  unfold World.cell? at hc ⊢; rw [h.block _ h0 h1 h2 (by intro e; cases e)]; exact hc
theorem below_cell {B : Nat} {w w' : World} (h : Below B w w') {p : Addr} {v : Value} (h0 : p.block < B) (hc : w.cell? p = some v) : w'.cell? p = some v := by
  unfold World.cell? at hc ⊢; rw [h.block _ h0]; exact hc
end Go.Proofs.YtceclmpmpldmlaaGreat
