/- Chapter 22, the document's walk: all of a block. | Chapter 22: Of, Clean of the document; Clean of the program. | Chapter 22: the walk of WalkReads. -/
import Derived.Test.YtheelhepelbgcaaDw5
import Derived.Test.YtheelhepelbgcaaWkB
import Derived.Test.YtheelhepelbgcaaAw1
import Derived.Test.YtheelhepelbgcaaDw1
namespace Tt
open Go Go.RowKit
theorem results_blk_blk {P : Program} {fn : Func} {p q : Tmp} {ty ty2 : TypeId} (h : fn.results = #[.cell p ty, .cell q ty2]) (tmps : Array Value) (w : World) (gp gq : Nat) (t t2 : TypeId) (cs cs2 : Array Value) (d d2 : TypeDesc)
    (hp : tmps.getD p undef = .pointer (some ⟨gp, 0, none⟩)) (hq : tmps.getD q undef = .pointer (some ⟨gq, 0, none⟩)) (hg : Blk w gp t cs) (hg2 : Blk w gq t2 cs2)
    (hu : P.underlying ty = some d) (hd : (match d with | .struct _ | .array _ _ => true | _ => false) = true) (hi : (P.info? ty).map (·.size) = some cs.size)
    (hu2 : P.underlying ty2 = some d2) (hd2 : (match d2 with | .struct _ | .array _ _ => true | _ => false) = true) (hi2 : (P.info? ty2).map (·.size) = some cs2.size) :
    (results fn tmps).run P w = .ok (.tuple #[.agg cs, .agg cs2]) w := by
  have e : (results fn tmps).run P w = ((asAddr (tmps.getD p undef)).run P w).andThen fun a w₁ => ((loadVar ty a).run P w₁).andThen fun x w₂ => ((asAddr (tmps.getD q undef)).run P w₂).andThen fun b w₃ => ((loadVar ty2 b).run P w₃).andThen fun y w₄ => .ok (.tuple #[x, y]) w₄ := by
    simp only [results, h]
    simp [Sem.run_bind, Result.andThen]
  rw [e, hp, hq]
  simp [asAddr, Result.andThen, run_loadVar_row w gp t ty cs (0, 0) d hg hu hd hi, run_loadVar_row w gq t2 ty2 cs2 (0, 0) d2 hg2 hu2 hd2 hi2]
end Tt
namespace Go.Proofs.Ytheelhepelbgcaa
open Go.RowKit Tt
set_option linter.unusedVariables false
set_option linter.unusedSimpArgs false

theorem infoI64 : (Try.prog.info? 3).map (fun i => (i.zero, i.size, i.bytes)) = some (some (.int .i64 0), 1, 8) := by kernel_rfl
def dord (K : DwS) (o : Int) : DwS := { K with o := o }
theorem DwT.ord {K : DwS} (t : DwT K) (o : Int) : DwT (dord K o) := ⟨t.hs, t.hsh, t.byt, t.n1, t.gB, t.gtB, t.ne⟩
theorem DwOk.ord {K : DwS} {s : St} {sv : Value} {tk : List Int} {E : Int} {w : World} (h : DwOk K s sv tk E w) (t : DwT K) (o : Int) : DwOk (dord K o) s sv tk E (w.setCell ⟨K.g, 1, none⟩ (.int .i64 o)) :=
  ⟨h.old.setCell (p := ⟨K.g, 1, none⟩) t.gB _, h.blk.set 1 _, (Below.heap_setCell _ ⟨K.g, 1, none⟩ _ K.gt (Ne.symm t.ne)).trans h.tak, h.tkl, h.bits, own_but h.spot ((But.refl K.g w).set 1 _) h.sg, h.sg, h.sgt⟩
abbrev wkZ : Array Value := #[.slice none 0 0, .int .i64 0, .slice none 0 0, .slice none 0 0, .slice none 0 0, .int .i64 0, .int .i64 0, .int .i64 0]
abbrev wkC (K : DwS) (s : St) (sv : Value) (E : Int) : Array Value := #[.slice K.a K.n K.c, .int .i64 K.o, .slice K.sa K.sn K.sc, .slice (some ⟨K.gt, 0, none⟩) K.n K.n, sv, .int .i64 s.no, .int .i64 s.soiled, .int .i64 E]
theorem byte_at {w : World} {a : Option Addr} {n c : Nat} {z : List Int} (h : Sl w a n c 1 (ints .u8 z)) (i : Nat) (hi : i < n) :
    ∃ p : Addr, (∀ W, (Instr.indexAt 24 (.slice a n c) (.int .i64 (i : Int))).run Try.prog W = .ok (.pointer (some p)) W) ∧ p.block < w.heap.size ∧ w.cell? p = some (.int .u8 (z.getD i 0)) := by
  have hl := h.ilen
  obtain ⟨b, off, rfl, hb, hc⟩ := h.lies i hi
  refine ⟨⟨b, off + i, none⟩, fun W => ?_, hb, hc i _ (ints_get (by omega))⟩
  rw [run_indexAt_slice (h := by kernel_rfl), if_pos (by omega)]
  have hsz : (sizeOf (Program.elem Try.prog 24)).run Try.prog W = .ok 1 W := by kernel_rfl
  rw [hsz]
  simp [Result.andThen, Addr.add]
/-- what a block is read as by the document -/
def RdPost (w : World) (a : Option Addr) (n c : Nat) (sa : Option Addr) (sn sc : Nat) (z : List Int) (R : Except Int (List (DirT 16) × St)) (e : Ending) (w' : World) : Prop := match R with
  | .error x => x ≠ 0 ∧ Below w.heap.size w w' ∧ ∃ (o' : Int) (gt : Nat) (b : Option Addr) (k d : Nat) (no so : Int), e = .returned (.tuple #[.agg #[.int .i64 0, .slice none 0 0], .agg #[.slice a n c, .int .i64 o', .slice sa sn sc, .slice (some ⟨gt, 0, none⟩) n n, .slice b k d, .int .i64 no, .int .i64 so, .int .i64 x]])
  | .ok (ds, s) => Below w.heap.size w w' ∧ ∃ (gt : Nat) (b : Option Addr) (k d : Nat) (ad : Option Addr) (m cd : Nat) (tk : List Int), e = .returned (.tuple #[.agg #[.int .i64 (orderS z), .slice ad m cd], .agg #[.slice a n c, .int .i64 (orderS z), .slice sa sn sc, .slice (some ⟨gt, 0, none⟩) n n, .slice b k d, .int .i64 s.no, .int .i64 s.soiled, .int .i64 0]]) ∧
      DirsAt (Xv (.slice b k d)) w.heap.size w' (.slice ad m cd) ds ∧ w'.ownsRow w.heap.size 38 5 (.slice b k d) s.spots.length (fl spC s.spots) ∧ Row w' gt 3 .i64 tk ∧ tk.length = n ∧ w.heap.size ≤ gt ∧ ∀ i : Nat, i < n → tk.getD i 0 = if takenB s i = true then 1 else 0
/-- what stands while the document reads a block -/
structure Pr (K : DwS) (A : Nat) (s : St) (svi : Value) (tk : List Int) (E : Int) (wr : World) : Prop where
  ok : DwOk K s svi tk E wr
  b4 : Blk wr A 28 #[.int .i64 0, .slice none 0 0]
  b5 : Blk wr (A + 1) 72 wkZ
  nb : ∀ k, svi.ownBlock = some k → A + 2 ≤ k
section
variable {K : DwS} {A : Nat} {s : St} {svi : Value} {tk : List Int} {E : Int} {wr wr' : World}
theorem Pr.later (h : Pr K A s svi tk E wr) (hb : Below wr.heap.size wr wr') : Pr K A s svi tk E wr' := ⟨h.ok.later hb, h.b4.late hb, h.b5.late hb, h.nb⟩
theorem Pr.mv2 {s' : St} {sv' : Value} {tk' : List Int} {E' : Int} (h : Pr K A s svi tk E wr) (hg : A + 2 ≤ K.g) (hgt : A + 2 ≤ K.gt) (m : Mv K.g K.gt svi sv' wr wr') (ok' : DwOk K s' sv' tk' E' wr') : Pr K A s' sv' tk' E' wr' :=
  have h1 := h.b5.lt
  ⟨ok', h.b4.mv m (by omega) (by omega) (fun e => by have := h.nb _ e; omega), h.b5.mv m (by omega) (by omega) (fun e => by have := h.nb _ e; omega), fun k e => by rcases m.own k e with h2 | h2 <;> first | exact h.nb k h2 | omega⟩
theorem Pr.but {r : Nat} (h : Pr K A s svi tk E wr) (hb : But r wr wr') (h1 : r ≠ K.g) (h2 : r ≠ K.gt) (h3 : svi.ownBlock ≠ some r) (h4 : A + 2 ≤ r) (h0 : K.w0.heap.size ≤ A) : Pr K A s svi tk E wr' :=
  ⟨h.ok.but hb h1 h2 h3 (by omega), h.b4.but hb (by omega), h.b5.but hb (by omega), h.nb⟩
theorem Pr.err (h : Pr K A s svi tk E wr) (t : DwT K) (hg : A + 2 ≤ K.g) (e : Int) : Pr K A s svi tk e (wr.setCell ⟨K.g, 7, none⟩ (.int .i64 e)) :=
  ⟨h.ok.err t e, h.b4.but ((But.refl K.g wr).set 7 _) (by omega), h.b5.but ((But.refl K.g wr).set 7 _) (by omega), h.nb⟩
theorem Pr.ord (h : Pr K A s svi tk E wr) (t : DwT K) (hg : A + 2 ≤ K.g) (o : Int) : Pr (dord K o) A s svi tk E (wr.setCell ⟨K.g, 1, none⟩ (.int .i64 o)) :=
  ⟨h.ok.ord t o, h.b4.but ((But.refl K.g wr).set 1 _) (by omega), h.b5.but ((But.refl K.g wr).set 1 _) (by omega), h.nb⟩
end
theorem Pr.grown {K : DwS} {A : Nat} {s : St} {svi : Value} {tk : List Int} {E : Int} {wr wr' : World} {row : Option Nat} (h : Pr K A s svi tk E wr) (hg : wr.grownBy wr' row) (hr : ∀ r, row = some r → r ≠ K.g ∧ r ≠ K.gt ∧ svi.ownBlock ≠ some r ∧ A + 2 ≤ r) (h0 : K.w0.heap.size ≤ A) : Pr K A s svi tk E wr' := by
  cases row with
  | none => exact h.later (grown_below hg)
  | some r => have q := hr r rfl; exact h.but (grown_but hg) q.1 q.2.1 q.2.2.1 q.2.2.2 h0
theorem Blk.set2_same {w : World} {g : Nat} {T : TypeId} {x y : Value} (h : Blk w g T #[x, y]) : (w.setCell ⟨g, 0, none⟩ x).setCell ⟨g, 1, none⟩ y = w := by
  rw [h.set_same rfl, h.set_same rfl]
theorem DwOk.sv {K : DwS} {s : St} {sv : Value} {tk : List Int} {E : Int} {w : World} (h : DwOk K s sv tk E w) : ∃ b k d, sv = .slice b k d := by
  obtain ⟨a, c, e⟩ := own_v' h.spot
  exact ⟨a, _, c, e⟩
theorem Blk.set8 {w : World} {g : Nat} {T : TypeId} {x0 x1 x2 x3 x4 x5 x6 x7 : Value} (h : Blk w g T #[x0, x1, x2, x3, x4, x5, x6, x7]) (y0 y1 y2 y3 y4 y5 y6 y7 : Value) :
    Blk ((((((((w.setCell ⟨g, 0, none⟩ y0).setCell ⟨g, 1, none⟩ y1).setCell ⟨g, 2, none⟩ y2).setCell ⟨g, 3, none⟩ y3).setCell ⟨g, 4, none⟩ y4).setCell ⟨g, 5, none⟩ y5).setCell ⟨g, 6, none⟩ y6).setCell ⟨g, 7, none⟩ y7) g T #[y0, y1, y2, y3, y4, y5, y6, y7] := by
  have h0 : Blk (w.setCell ⟨g, 0, none⟩ y0) g T #[y0, x1, x2, x3, x4, x5, x6, x7] := h.set 0 y0
  have h1 : Blk ((w.setCell ⟨g, 0, none⟩ y0).setCell ⟨g, 1, none⟩ y1) g T #[y0, y1, x2, x3, x4, x5, x6, x7] := h0.set 1 y1
  have h2 : Blk (((w.setCell ⟨g, 0, none⟩ y0).setCell ⟨g, 1, none⟩ y1).setCell ⟨g, 2, none⟩ y2) g T #[y0, y1, y2, x3, x4, x5, x6, x7] := h1.set 2 y2
  have h3 : Blk ((((w.setCell ⟨g, 0, none⟩ y0).setCell ⟨g, 1, none⟩ y1).setCell ⟨g, 2, none⟩ y2).setCell ⟨g, 3, none⟩ y3) g T #[y0, y1, y2, y3, x4, x5, x6, x7] := h2.set 3 y3
  have h4 : Blk (((((w.setCell ⟨g, 0, none⟩ y0).setCell ⟨g, 1, none⟩ y1).setCell ⟨g, 2, none⟩ y2).setCell ⟨g, 3, none⟩ y3).setCell ⟨g, 4, none⟩ y4) g T #[y0, y1, y2, y3, y4, x5, x6, x7] := h3.set 4 y4
  have h5 : Blk ((((((w.setCell ⟨g, 0, none⟩ y0).setCell ⟨g, 1, none⟩ y1).setCell ⟨g, 2, none⟩ y2).setCell ⟨g, 3, none⟩ y3).setCell ⟨g, 4, none⟩ y4).setCell ⟨g, 5, none⟩ y5) g T #[y0, y1, y2, y3, y4, y5, x6, x7] := h4.set 5 y5
  have h6 : Blk (((((((w.setCell ⟨g, 0, none⟩ y0).setCell ⟨g, 1, none⟩ y1).setCell ⟨g, 2, none⟩ y2).setCell ⟨g, 3, none⟩ y3).setCell ⟨g, 4, none⟩ y4).setCell ⟨g, 5, none⟩ y5).setCell ⟨g, 6, none⟩ y6) g T #[y0, y1, y2, y3, y4, y5, y6, x7] := h5.set 6 y6
  have h7 : Blk ((((((((w.setCell ⟨g, 0, none⟩ y0).setCell ⟨g, 1, none⟩ y1).setCell ⟨g, 2, none⟩ y2).setCell ⟨g, 3, none⟩ y3).setCell ⟨g, 4, none⟩ y4).setCell ⟨g, 5, none⟩ y5).setCell ⟨g, 6, none⟩ y6).setCell ⟨g, 7, none⟩ y7) g T #[y0, y1, y2, y3, y4, y5, y6, y7] := h6.set 7 y7
  exact h7
theorem But.set8 {w : World} {g : Nat} (y0 y1 y2 y3 y4 y5 y6 y7 : Value) :
    But g w ((((((((w.setCell ⟨g, 0, none⟩ y0).setCell ⟨g, 1, none⟩ y1).setCell ⟨g, 2, none⟩ y2).setCell ⟨g, 3, none⟩ y3).setCell ⟨g, 4, none⟩ y4).setCell ⟨g, 5, none⟩ y5).setCell ⟨g, 6, none⟩ y6).setCell ⟨g, 7, none⟩ y7) :=
  ((((((((But.refl g w).set 0 y0).set 1 y1).set 2 y2).set 3 y3).set 4 y4).set 5 y5).set 6 y6).set 7 y7
set_option maxRecDepth 30000 in
set_option maxHeartbeats 40000000 in
theorem rread22_any (a : Option Addr) (n c : Nat) (z : List Int) (sa : Option Addr) (sn sc : Nat) (zs : List Shz) (w : World) (hs : Sl w a n c 1 (ints .u8 z)) (hsh : ShR w sa sn sc zs) (hby : Byt z) (hn : n ≤ 1000000) :
    Calls Try.prog 23 #[.slice a n c, .slice sa sn sc] w (RdPost w a n c sa sn sc z (readS z (shps zs))) := by
  have hzl := hs.ilen
  have hsl := hsh.len
  obtain ⟨R, hR⟩ : ∃ R, readS z (shps zs) = R := ⟨_, rfl⟩
  rw [hR]
  unfold readS at hR
  obtain ⟨A, hA⟩ : ∃ A, w.heap.size = A := ⟨_, rfl⟩
  obtain ⟨W2, hW2⟩ : ∃ W, (w.alloc (.cells #[.int .i64 0, .slice none 0 0] 28)).alloc (.cells wkZ 72) = W := ⟨_, rfl⟩
  have b4 : Blk W2 A 28 #[.int .i64 0, .slice none 0 0] := by rw [← hW2, ← hA]; exact (Blk.new w _ _).alloc _
  have b5 : Blk W2 (A + 1) 72 wkZ := by rw [← hW2]; exact heap_new' _ _ (by rw [World.size_alloc, hA])
  have hb2 : Below w.heap.size w W2 := by rw [← hW2]; exact ((Below.refl w.heap.size w).alloc (Nat.le_refl _) _).alloc (by simp) _
  have hsz2 : W2.heap.size = A + 1 + 1 := by rw [← hW2]; rw [World.size_alloc, World.size_alloc, hA]
  obtain ⟨i0, hi, hz0, hz1, hz2⟩ := info_parts infoI64
  have hrow : (madeCells (Value.int .i64 0).cells (n * 1)).toList = ints .i64 (List.replicate n 0) := by
    rw [Nat.mul_one]
    show (madeCells #[Value.int .i64 0] n).toList = _
    rw [toList_madeCells_one]; simp [ints]
  obtain ⟨shb, hshb⟩ : ∃ b, shapesB (shps zs) = b := ⟨_, rfl⟩
  have hSh := fun W (h : Below w.heap.size w W) => rshapes_any sa sn sc zs W (hsh.mono h)
  rw [hshb] at hSh hR
  have hA' := Lib.hid hA
  have hs' := Lib.hid hs
  have hsh' := Lib.hid hsh
  have hSh' := Lib.hid hSh
  have hby' := Lib.hid hby
  have hzl' := Lib.hid hzl
  have hsl' := Lib.hid hsl
  have hR' := Lib.hid hR
  have b4' := Lib.hid b4
  have b5' := Lib.hid b5
  have hb2' := Lib.hid hb2
  have hrow' := Lib.hid hrow
  have hshb' := Lib.hid hshb
  clear hs hsh hSh hby hzl hsl hR b4 b5 hb2 hrow hshb
  go_enter Try.func23, Try.ntmps23
  go_upto_region 2 with (at_make; first | rw [hW2] | skip; refine wpList_make_full W2 rfl _ _ 57 rfl W2.heap.size 3 i0 _ 1 Try.underlying57 hi hz0 hz1 .i64 .i64 _ _ n rfl rfl rfl rfl (by rw [hz2]; omega) (by unfold maxLen; omega) (Nat.le_refl _) ?_; intro w1 hown hg1; have Hown := Lib.hid hown; have Hg1 := Lib.hid hg1; clear hown hg1)
  obtain ⟨g, hg⟩ : ∃ g, w1.heap.size = g := ⟨_, rfl⟩
  obtain ⟨gt, hgt⟩ : ∃ gt, A + 1 + 1 = gt := ⟨_, rfl⟩
  obtain ⟨K, e0, e1, e2, e3, e4, e5, e6, e7, e8, e9, e10, e11⟩ : ∃ K : DwS, K.w0 = w ∧ K.a = a ∧ K.n = n ∧ K.c = c ∧ K.z = z ∧ K.sa = sa ∧ K.sn = sn ∧ K.sc = sc ∧ K.zs = zs ∧ K.g = g ∧ K.gt = gt ∧ K.o = 0 := ⟨⟨w, a, n, c, z, 0, sa, sn, sc, zs, g, gt⟩, rfl, rfl, rfl, rfl, rfl, rfl, rfl, rfl, rfl, rfl, rfl, rfl⟩
  rw [hg, hgt]
  have hszW2 : W2.heap.size = gt := hsz2.trans hgt
  have R1 : Row w1 gt 3 .i64 (List.replicate n 0) := by have h := Hown.out; rw [hrow'.out, hszW2] at h; exact Row.of_own h
  have hb1 : Below W2.heap.size W2 w1 := (Below.refl _ _).grown Hg1.out (Nat.le_refl _) (fun k e => by cases e)
  have hgg : gt < g := by rw [← hg]; exact Blk.lt (T := 3) R1
  obtain ⟨W3, hW3⟩ : ∃ W, w1.alloc (.cells #[.slice a n c, .int .i64 0, .slice sa sn sc, .slice (some ⟨gt, 0, none⟩) n n, .slice none 0 0, .int .i64 0, .int .i64 0, .int .i64 0] 72) = W := ⟨_, rfl⟩
  have hal : Below w1.heap.size w1 W3 := by rw [← hW3]; exact (Below.refl w1.heap.size w1).alloc (Nat.le_refl _) _
  have b6 : Blk W3 g 72 #[.slice a n c, .int .i64 0, .slice sa sn sc, .slice (some ⟨gt, 0, none⟩) n n, .slice none 0 0, .int .i64 0, .int .i64 0, .int .i64 0] := by rw [← hW3, ← hg]; exact Blk.new w1 _ _
  rw [hW3]
  have hbW3 : Below w.heap.size w W3 := (hb2'.out.trans (hb1.mono hb2'.out.size)).trans (hal.mono (Nat.le_trans hb2'.out.size hb1.size))
  have b43 := (b4'.out.late hb1).late hal
  have b53 := (b5'.out.late hb1).late hal
  have R3 : Row W3 gt 3 .i64 (List.replicate n 0) := Blk.late (T := 3) R1 hal
  subst e0 e1 e2 e3 e4 e5 e6 e7 e8 e9 e10
  have t0 : DwT K := ⟨hs'.out, hsh'.out, hby'.out, hn, by have := hA'.out; omega, by have := hA'.out; omega, by omega⟩
  have pr3 : Pr K A ⟨[], 0, 0⟩ (.slice none 0 0) (List.replicate K.n 0) 0 W3 := by
    refine ⟨⟨hbW3, by rw [e11]; exact b6, R3, by simp, fun k hk => ?_, own_nil _ _ _ _, (fun e => by cases e), (fun e => by cases e)⟩, b43, b53, fun k e => by cases e⟩
    rw [List.getD_eq_getElem?_getD, List.getElem?_replicate, if_pos hk]
    rfl
  have hgA : A + 2 ≤ K.g := by omega
  have hgtA : A + 2 ≤ K.gt := by omega
  have e11' := Lib.hid e11
  clear e11 hg hgt hW3 hal b6 R1 R3 b43 b53 hb1 Hown Hg1 hszW2 hsz2 b4' b5' hb2' hrow' hi hz0 hz1 hz2 hA hW2
  have t0' := Lib.hid t0
  have pr3' := Lib.hid pr3
  have hbW3' := Lib.hid hbW3
  clear t0 pr3 hbW3
  go_wp2_with fail
  refine (hSh'.out _ hbW3'.out).mono ?_
  rintro e W4 ⟨rfl, hb4⟩
  have pr4 := pr3'.out.later hb4
  clear hb4 pr3' hbW3' hSh'
  cases shb with
  | false =>
    obtain rfl : R = .error 1 := by rw [← hR'.out]; rfl
    have hyE : (1 : Int) ≠ 0 := by decide
    have p7 : W4.cell? ⟨K.g, 7, none⟩ = some (.int .i64 0) := pr4.ok.blk.cell rfl
    have y7 := pr4.ok.blk.frozen 7
    have prE := pr4.err t0'.out hgA 1
    clear pr4 hR'
    have prE' := Lib.hid prE
    clear prE
    go_upto_region 4 with fail
    clear p7 y7
    generalize W4.setCell ⟨K.g, 7, none⟩ (.int .i64 1) = wE at *
    -- DEV{Z
    obtain ⟨sE, svE, tkE, hprE⟩ : ∃ sE svE tkE, Hid (Pr (dord K (K.o)) A sE svE tkE (1) wE) := ⟨_, _, _, prE'⟩
    clear prE'
    obtain ⟨svb, svk, svd, rfl⟩ := hprE.out.ok.sv
    obtain ⟨Ty, ff, hne, hp, hsurj⟩ := prop_worlds (fun W => Blk W K.g 72 #[.slice K.a K.n K.c, .int .i64 (K.o), .slice K.sa K.sn K.sc, .slice (some ⟨K.gt, 0, none⟩) K.n K.n, (.slice svb svk svd), .int .i64 sE.no, .int .i64 sE.soiled, .int .i64 (1)]) wE hprE.out.ok.blk
    have q0 : ∀ s, (ff s).cell? ⟨K.g, 0, none⟩ = some (.slice K.a K.n K.c) := fun s => (hp s).cell rfl
    have q1 : ∀ s, (ff s).cell? ⟨K.g, 1, none⟩ = some (.int .i64 (K.o)) := fun s => (hp s).cell rfl
    have q2 : ∀ s, (ff s).cell? ⟨K.g, 2, none⟩ = some (.slice K.sa K.sn K.sc) := fun s => (hp s).cell rfl
    have q3 : ∀ s, (ff s).cell? ⟨K.g, 3, none⟩ = some (.slice (some ⟨K.gt, 0, none⟩) K.n K.n) := fun s => (hp s).cell rfl
    have q4 : ∀ s, (ff s).cell? ⟨K.g, 4, none⟩ = some (.slice svb svk svd) := fun s => (hp s).cell rfl
    have q5 : ∀ s, (ff s).cell? ⟨K.g, 5, none⟩ = some (.int .i64 sE.no) := fun s => (hp s).cell rfl
    have q6 : ∀ s, (ff s).cell? ⟨K.g, 6, none⟩ = some (.int .i64 sE.soiled) := fun s => (hp s).cell rfl
    have q7 : ∀ s, (ff s).cell? ⟨K.g, 7, none⟩ = some (.int .i64 (1)) := fun s => (hp s).cell rfl
    obtain ⟨Wd, hWd⟩ : ∃ Wd, (wE).drew = Wd := ⟨_, rfl⟩
    have b4d : Blk (wE).drew A 28 #[.int .i64 0, .slice none 0 0] := hprE.out.b4
    have b5d : Blk (wE).drew (A + 1) 72 wkZ := hprE.out.b5
    have hgE : Blk (wE).drew K.g 72 #[.slice K.a K.n K.c, .int .i64 (K.o), .slice K.sa K.sn K.sc, .slice (some ⟨K.gt, 0, none⟩) K.n K.n, (.slice svb svk svd), .int .i64 sE.no, .int .i64 sE.soiled, .int .i64 (1)] := hprE.out.ok.blk
    rw [hWd] at b4d b5d hgE
    have HS := Lib.hid (hsurj Wd hgE)
    have p0 : Wd.cell? ⟨A, 0, none⟩ = some (.int .i64 0) := b4d.cell rfl
    have p1 : Wd.cell? ⟨A, 1, none⟩ = some (.slice none 0 0) := b4d.cell rfl
    have y0 := b4d.frozen 0
    have y1 := b4d.frozen 1
    have r0 : Wd.cell? ⟨A + 1, 0, none⟩ = some (.slice none 0 0) := b5d.cell rfl
    have r1 : Wd.cell? ⟨A + 1, 1, none⟩ = some (.int .i64 0) := b5d.cell rfl
    have r2 : Wd.cell? ⟨A + 1, 2, none⟩ = some (.slice none 0 0) := b5d.cell rfl
    have r3 : Wd.cell? ⟨A + 1, 3, none⟩ = some (.slice none 0 0) := b5d.cell rfl
    have r4 : Wd.cell? ⟨A + 1, 4, none⟩ = some (.slice none 0 0) := b5d.cell rfl
    have r5 : Wd.cell? ⟨A + 1, 5, none⟩ = some (.int .i64 0) := b5d.cell rfl
    have r6 : Wd.cell? ⟨A + 1, 6, none⟩ = some (.int .i64 0) := b5d.cell rfl
    have r7 : Wd.cell? ⟨A + 1, 7, none⟩ = some (.int .i64 0) := b5d.cell rfl
    have z0 := b5d.frozen 0
    have z1 := b5d.frozen 1
    have z2 := b5d.frozen 2
    have z3 := b5d.frozen 3
    have z4 := b5d.frozen 4
    have z5 := b5d.frozen 5
    have z6 := b5d.frozen 6
    have z7 := b5d.frozen 7
    have hp' := Lib.hid hp
    have hsurj' := Lib.hid hsurj
    have b4d' := Lib.hid b4d
    have b5d' := Lib.hid b5d
    have hgE' := Lib.hid hgE
    clear hp hsurj b4d b5d hgE
    refine held_begin (S := fun W => ∃ s, W = ff s) (by kernel_rfl) 4 rfl ?_
    rw [hWd]
    have hWd' := Lib.hid hWd
    clear hWd
    refine held_take [0, 1] 2 (by kernel_rfl) (fun d _ _ _ _ h => by cases d <;> exact h) (by kernel_rfl) (by kernel_rfl) (by kernel_rfl) HS.out ?_
    simp only [pickL, List.map_cons, List.map_nil, List.getD_cons_succ, List.getD_cons_zero]
    iterate 2 (go_big_quiet_step (fail))
    refine wpQuiet_nil ?_
    refine held_one 2 1 (by kernel_rfl) (by kernel_rfl) ?_
    simp only [pickL, List.map_cons, List.map_nil, List.getD_cons_succ, List.getD_cons_zero]
    clear q0 q1 q2 q3 q4 q5 q6 q7
    go_wp2_with fail
    first | rw [Blk.set2_same b4d'.out] | skip
    refine Mid.mk ⟨HS.out, ?_⟩
    refine held_one 3 0 (by kernel_rfl) (by kernel_rfl) ?_
    simp only [pickL, List.map_cons, List.map_nil, List.getD_cons_succ, List.getD_cons_zero]
    go_wp2_with fail
    have hbt8 := But.set8 (w := Wd) (g := A + 1) (.slice K.a K.n K.c) (.int .i64 (K.o)) (.slice K.sa K.sn K.sc) (.slice (some ⟨K.gt, 0, none⟩) K.n K.n) (.slice svb svk svd) (.int .i64 sE.no) (.int .i64 sE.soiled) (.int .i64 (1))
    refine Mid.mk ⟨hsurj'.out _ (hgE'.out.but hbt8 (by omega)), ?_⟩
    refine held_last (by kernel_rfl) ?_
    clear p0 p1 y0 y1 r0 r1 r2 r3 r4 r5 r6 r7 z0 z1 z2 z3 z4 z5 z6 z7
    go_wp2_with fail
    refine bodyPost_ret (results_blk_blk rfl _ _ A (A + 1) 28 72 #[.int .i64 0, .slice none 0 0] #[.slice K.a K.n K.c, .int .i64 (K.o), .slice K.sa K.sn K.sc, .slice (some ⟨K.gt, 0, none⟩) K.n K.n, (.slice svb svk svd), .int .i64 sE.no, .int .i64 sE.soiled, .int .i64 (1)] _ _ rfl rfl (b4d'.out.but hbt8 (by omega)) (Blk.set8 b5d'.out _ _ _ _ _ _ _ _) Try.underlying28 rfl (by kernel_rfl) Try.underlying72 rfl (by kernel_rfl)) rfl ?_
    have hold0 : Below K.w0.heap.size K.w0 wE := hprE.out.ok.old
    have hold : Below K.w0.heap.size K.w0 Wd := by rw [← hWd'.out]; exact hold0.trans (((Below.refl _ _).drew).mono hold0.size)
    exact ⟨hyE, hold.trans (hbt8.below (by have := hA'.out; omega) hold.size), _, _, _, _, _, _, _, rfl⟩
    -- }DEV
  | true =>
    have hR1 := hR'.out
    rw [if_pos rfl] at hR1
    unfold headS at hR1
    rw [hzl'.out] at hR1
    clear hR'
    by_cases h8 : 8 ≤ K.n
    case neg =>
      obtain rfl : R = .error 3 := by rw [← hR1, if_neg h8]
      have hyE : (3 : Int) ≠ 0 := by decide
      have hn8 : (K.n : Int) < 8 := by omega
      have p7 : W4.cell? ⟨K.g, 7, none⟩ = some (.int .i64 0) := pr4.ok.blk.cell rfl
      have y7 := pr4.ok.blk.frozen 7
      have prE := pr4.err t0'.out hgA 3
      clear pr4 hR1 h8
      have prE' := Lib.hid prE
      clear prE
      go_upto_region 7 with fail
      clear p7 y7
      generalize W4.setCell ⟨K.g, 7, none⟩ (.int .i64 3) = wE at *
      -- DEV{Z
      obtain ⟨sE, svE, tkE, hprE⟩ : ∃ sE svE tkE, Hid (Pr (dord K (K.o)) A sE svE tkE (3) wE) := ⟨_, _, _, prE'⟩
      clear prE'
      obtain ⟨svb, svk, svd, rfl⟩ := hprE.out.ok.sv
      obtain ⟨Ty, ff, hne, hp, hsurj⟩ := prop_worlds (fun W => Blk W K.g 72 #[.slice K.a K.n K.c, .int .i64 (K.o), .slice K.sa K.sn K.sc, .slice (some ⟨K.gt, 0, none⟩) K.n K.n, (.slice svb svk svd), .int .i64 sE.no, .int .i64 sE.soiled, .int .i64 (3)]) wE hprE.out.ok.blk
      have q0 : ∀ s, (ff s).cell? ⟨K.g, 0, none⟩ = some (.slice K.a K.n K.c) := fun s => (hp s).cell rfl
      have q1 : ∀ s, (ff s).cell? ⟨K.g, 1, none⟩ = some (.int .i64 (K.o)) := fun s => (hp s).cell rfl
      have q2 : ∀ s, (ff s).cell? ⟨K.g, 2, none⟩ = some (.slice K.sa K.sn K.sc) := fun s => (hp s).cell rfl
      have q3 : ∀ s, (ff s).cell? ⟨K.g, 3, none⟩ = some (.slice (some ⟨K.gt, 0, none⟩) K.n K.n) := fun s => (hp s).cell rfl
      have q4 : ∀ s, (ff s).cell? ⟨K.g, 4, none⟩ = some (.slice svb svk svd) := fun s => (hp s).cell rfl
      have q5 : ∀ s, (ff s).cell? ⟨K.g, 5, none⟩ = some (.int .i64 sE.no) := fun s => (hp s).cell rfl
      have q6 : ∀ s, (ff s).cell? ⟨K.g, 6, none⟩ = some (.int .i64 sE.soiled) := fun s => (hp s).cell rfl
      have q7 : ∀ s, (ff s).cell? ⟨K.g, 7, none⟩ = some (.int .i64 (3)) := fun s => (hp s).cell rfl
      obtain ⟨Wd, hWd⟩ : ∃ Wd, (wE).drew = Wd := ⟨_, rfl⟩
      have b4d : Blk (wE).drew A 28 #[.int .i64 0, .slice none 0 0] := hprE.out.b4
      have b5d : Blk (wE).drew (A + 1) 72 wkZ := hprE.out.b5
      have hgE : Blk (wE).drew K.g 72 #[.slice K.a K.n K.c, .int .i64 (K.o), .slice K.sa K.sn K.sc, .slice (some ⟨K.gt, 0, none⟩) K.n K.n, (.slice svb svk svd), .int .i64 sE.no, .int .i64 sE.soiled, .int .i64 (3)] := hprE.out.ok.blk
      rw [hWd] at b4d b5d hgE
      have HS := Lib.hid (hsurj Wd hgE)
      have p0 : Wd.cell? ⟨A, 0, none⟩ = some (.int .i64 0) := b4d.cell rfl
      have p1 : Wd.cell? ⟨A, 1, none⟩ = some (.slice none 0 0) := b4d.cell rfl
      have y0 := b4d.frozen 0
      have y1 := b4d.frozen 1
      have r0 : Wd.cell? ⟨A + 1, 0, none⟩ = some (.slice none 0 0) := b5d.cell rfl
      have r1 : Wd.cell? ⟨A + 1, 1, none⟩ = some (.int .i64 0) := b5d.cell rfl
      have r2 : Wd.cell? ⟨A + 1, 2, none⟩ = some (.slice none 0 0) := b5d.cell rfl
      have r3 : Wd.cell? ⟨A + 1, 3, none⟩ = some (.slice none 0 0) := b5d.cell rfl
      have r4 : Wd.cell? ⟨A + 1, 4, none⟩ = some (.slice none 0 0) := b5d.cell rfl
      have r5 : Wd.cell? ⟨A + 1, 5, none⟩ = some (.int .i64 0) := b5d.cell rfl
      have r6 : Wd.cell? ⟨A + 1, 6, none⟩ = some (.int .i64 0) := b5d.cell rfl
      have r7 : Wd.cell? ⟨A + 1, 7, none⟩ = some (.int .i64 0) := b5d.cell rfl
      have z0 := b5d.frozen 0
      have z1 := b5d.frozen 1
      have z2 := b5d.frozen 2
      have z3 := b5d.frozen 3
      have z4 := b5d.frozen 4
      have z5 := b5d.frozen 5
      have z6 := b5d.frozen 6
      have z7 := b5d.frozen 7
      have hp' := Lib.hid hp
      have hsurj' := Lib.hid hsurj
      have b4d' := Lib.hid b4d
      have b5d' := Lib.hid b5d
      have hgE' := Lib.hid hgE
      clear hp hsurj b4d b5d hgE
      refine held_begin (S := fun W => ∃ s, W = ff s) (by kernel_rfl) 4 rfl ?_
      rw [hWd]
      have hWd' := Lib.hid hWd
      clear hWd
      refine held_take [0, 1] 2 (by kernel_rfl) (fun d _ _ _ _ h => by cases d <;> exact h) (by kernel_rfl) (by kernel_rfl) (by kernel_rfl) HS.out ?_
      simp only [pickL, List.map_cons, List.map_nil, List.getD_cons_succ, List.getD_cons_zero]
      iterate 2 (go_big_quiet_step (fail))
      refine wpQuiet_nil ?_
      refine held_one 2 1 (by kernel_rfl) (by kernel_rfl) ?_
      simp only [pickL, List.map_cons, List.map_nil, List.getD_cons_succ, List.getD_cons_zero]
      clear q0 q1 q2 q3 q4 q5 q6 q7
      go_wp2_with fail
      first | rw [Blk.set2_same b4d'.out] | skip
      refine Mid.mk ⟨HS.out, ?_⟩
      refine held_one 3 0 (by kernel_rfl) (by kernel_rfl) ?_
      simp only [pickL, List.map_cons, List.map_nil, List.getD_cons_succ, List.getD_cons_zero]
      go_wp2_with fail
      have hbt8 := But.set8 (w := Wd) (g := A + 1) (.slice K.a K.n K.c) (.int .i64 (K.o)) (.slice K.sa K.sn K.sc) (.slice (some ⟨K.gt, 0, none⟩) K.n K.n) (.slice svb svk svd) (.int .i64 sE.no) (.int .i64 sE.soiled) (.int .i64 (3))
      refine Mid.mk ⟨hsurj'.out _ (hgE'.out.but hbt8 (by omega)), ?_⟩
      refine held_last (by kernel_rfl) ?_
      clear p0 p1 y0 y1 r0 r1 r2 r3 r4 r5 r6 r7 z0 z1 z2 z3 z4 z5 z6 z7
      go_wp2_with fail
      refine bodyPost_ret (results_blk_blk rfl _ _ A (A + 1) 28 72 #[.int .i64 0, .slice none 0 0] #[.slice K.a K.n K.c, .int .i64 (K.o), .slice K.sa K.sn K.sc, .slice (some ⟨K.gt, 0, none⟩) K.n K.n, (.slice svb svk svd), .int .i64 sE.no, .int .i64 sE.soiled, .int .i64 (3)] _ _ rfl rfl (b4d'.out.but hbt8 (by omega)) (Blk.set8 b5d'.out _ _ _ _ _ _ _ _) Try.underlying28 rfl (by kernel_rfl) Try.underlying72 rfl (by kernel_rfl)) rfl ?_
      have hold0 : Below K.w0.heap.size K.w0 wE := hprE.out.ok.old
      have hold : Below K.w0.heap.size K.w0 Wd := by rw [← hWd'.out]; exact hold0.trans (((Below.refl _ _).drew).mono hold0.size)
      exact ⟨hyE, hold.trans (hbt8.below (by have := hA'.out; omega) hold.size), _, _, _, _, _, _, _, rfl⟩
      -- }DEV
    case pos =>
    have hn8 : ¬ (K.n : Int) < 8 := by omega
    have hn8b : decide ((K.n : Int) < 8) = false := by simp; omega
    rw [if_pos h8] at hR1
    obtain ⟨q0, hq0, hqb0, hqc0⟩ := byte_at (pr4.ok.byts t0'.out) 0 (by omega)
    obtain ⟨q1, hq1, hqb1, hqc1⟩ := byte_at (pr4.ok.byts t0'.out) 1 (by omega)
    simp only [Int.natCast_zero, Int.natCast_one] at hq0 hq1
    obtain ⟨o, hoo⟩ : ∃ o, orderS K.z = o := ⟨_, rfl⟩
    have hord : o = if (K.z.getD 1 0 == 77) && (K.z.getD 0 0 == 77) then 2 else if (K.z.getD 1 0 == 73) && (K.z.getD 0 0 == 73) then 1 else 0 := by
      rw [← hoo]
      unfold orderS
      by_cases h1 : K.z.getD 0 0 = 73 <;> by_cases h2 : K.z.getD 1 0 = 73 <;> by_cases h3 : K.z.getD 0 0 = 77 <;> by_cases h4 : K.z.getD 1 0 = 77 <;> simp [h1, h2, h3, h4] <;> omega
    obtain ⟨x0, hx0⟩ : ∃ x, K.z.getD 0 0 = x := ⟨_, rfl⟩
    obtain ⟨x1, hx1⟩ : ∃ x, K.z.getD 1 0 = x := ⟨_, rfl⟩
    rw [hx0, hx1] at hord
    rw [hx0] at hqc0
    rw [hx1] at hqc1
    obtain ⟨b1, hb1⟩ : ∃ b, (x0 == 73) = b := ⟨_, rfl⟩
    obtain ⟨b2, hb2⟩ : ∃ b, (x1 == 73) = b := ⟨_, rfl⟩
    obtain ⟨b3, hb3⟩ : ∃ b, (x0 == 77) = b := ⟨_, rfl⟩
    obtain ⟨b4, hb4⟩ : ∃ b, (x1 == 77) = b := ⟨_, rfl⟩
    rw [hb1, hb2, hb3, hb4] at hord
    have hK0 : dord K 0 = K := by rw [← e11'.out]; rfl
    rw [hoo] at hR1
    have pr4' := Lib.hid pr4
    have hx0' := Lib.hid hx0
    have hx1' := Lib.hid hx1
    have hR1' := Lib.hid hR1
    have hord' := Lib.hid hord
    have hK0' := Lib.hid hK0
    have hoo' := Lib.hid hoo
    clear pr4 hx0 hx1 hR1 hord hK0 hoo
    go_upto_region 8 with fail
    go_cut [39] from 30 (fun v wx => v = .bool (b2 && b1) ∧ W4 = wx)
    case first =>
      cases b1 <;> cases b2
      all_goals
        go_wp2_with fail
        go_meet
        exact ⟨rfl, rfl⟩
    case rest =>
    obtain ⟨rfl, rfl⟩ := hcut
    obtain ⟨c1, hc1⟩ : ∃ b, (b2 && b1) = b := ⟨_, rfl⟩
    rw [hc1]
    replace hord' := Lib.hid (by have h := hord'.out; rw [hc1] at h; exact h)
    go_upto_if 39 with fail
    clear hb1 hb2 hc1
    go_cut [] from 40 (fun wx => Hid (Pr (dord K (if c1 = true then 1 else 0)) A ⟨[], 0, 0⟩ (.slice none 0 0) (List.replicate K.n 0) 0 wx))
    case first =>
      cases c1
      · go_wp2_with fail
        go_meet
        exact Lib.hid (by rw [if_neg (by simp), hK0'.out]; exact pr4'.out)
      · have p1 : W4.cell? ⟨K.g, 1, none⟩ = some (.int .i64 K.o) := pr4'.out.ok.blk.cell rfl
        have y1 := pr4'.out.ok.blk.frozen 1
        go_wp2_with fail
        go_meet
        exact Lib.hid (pr4'.out.ord t0'.out hgA 1)
    case rest =>
    clear pr4'
    rename World => W5
    rename Hid (Pr _ _ _ _ _ _ W5) => pr5
    clear hq0 hq1 hqb0 hqb1 hqc0 hqc1 q0 q1
    have hbys : Sl W5 K.a K.n K.c 1 (ints .u8 K.z) := pr5.out.ok.byts (t0'.out.ord _)
    obtain ⟨q0, hq0, hqb0, hqc0⟩ := byte_at hbys 0 (by omega)
    obtain ⟨q1, hq1, hqb1, hqc1⟩ := byte_at hbys 1 (by omega)
    simp only [Int.natCast_zero, Int.natCast_one] at hq0 hq1
    rw [hx0'.out] at hqc0
    rw [hx1'.out] at hqc1
    clear hbys
    go_upto_region 10 with fail
    go_cut [50] from 41 (fun v wx => v = .bool (b4 && b3) ∧ W5 = wx)
    case first =>
      cases b3 <;> cases b4
      all_goals
        go_wp2_with fail
        go_meet
        exact ⟨rfl, rfl⟩
    case rest =>
    obtain ⟨rfl, rfl⟩ := hcut
    obtain ⟨c2, hc2⟩ : ∃ b, (b4 && b3) = b := ⟨_, rfl⟩
    rw [hc2]
    replace hord' := Lib.hid (by have h := hord'.out; rw [hc2] at h; exact h)
    go_upto_if 50 with fail
    clear hb3 hb4 hc2 hq0 hq1 hqb0 hqb1 hqc0 hqc1
    go_cut [] from 51 (fun wx => Hid (Pr (dord K o) A ⟨[], 0, 0⟩ (.slice none 0 0) (List.replicate K.n 0) 0 wx))
    case first =>
      cases c2
      · go_wp2_with fail
        go_meet
        exact Lib.hid (by rw [hord'.out, if_neg (by simp)]; exact pr5.out)
      · have p1 : W5.cell? ⟨K.g, 1, none⟩ = some (.int .i64 (if c1 = true then 1 else 0)) := pr5.out.ok.blk.cell rfl
        have y1 := pr5.out.ok.blk.frozen 1
        have y1 : W5.frozen? ⟨K.g, 1, none⟩ = false := y1
        have ho2 : o = 2 := by rw [hord'.out]; rfl
        cases c1
        all_goals
          go_wp2_with fail
          go_meet
          exact Lib.hid (by rw [ho2]; exact pr5.out.ord (t0'.out.ord _) hgA 2)
    case rest =>
    clear pr5
    rename World => W6
    rename Hid (Pr _ _ _ _ _ _ W6) => pr6
    have tO := t0'.out.ord o
    have p1 : W6.cell? ⟨K.g, 1, none⟩ = some (.int .i64 o) := pr6.out.ok.blk.cell rfl
    have HN := dnum_any (dord K o) tO ⟨[], 0, 0⟩ (.slice none 0 0) (List.replicate K.n 0) 0 2 2 W6 pr6.out.ok
    obtain ⟨v42, hv42⟩ : ∃ v, getV K.z 2 2 o = v := ⟨_, rfl⟩
    have HN : Calls Try.prog 34 #[.pointer (some ⟨K.g, 0, none⟩), .int .i64 2, .int .i64 2] W6 fun x w' => x = .returned (.int .i64 v42) ∧ Below W6.heap.size W6 w' := by rw [← hv42]; exact HN
    have hR2 := hR1'.out
    rw [hv42] at hR2
    have ho0 : o = 0 ∨ o = 1 ∨ o = 2 := by
      rw [← hoo'.out]
      unfold orderS
      split
      · exact .inr (.inl rfl)
      · split
        · exact .inr (.inr rfl)
        · exact .inl rfl
    clear hR1' hv42 hord'
    have tO' := Lib.hid tO
    have HN' := Lib.hid HN
    have hR2' := Lib.hid hR2
    clear tO HN hR2
    by_cases hgd : 0 < o ∧ v42 = 42
    case neg =>
      obtain rfl : R = .error 2 := by rw [← hR2'.out, if_neg hgd]
      have hyE : (2 : Int) ≠ 0 := by decide
      clear hR2'
      by_cases hoz : o = 0
      · have d0 : (o == 0) = true := by simp [hoz]
        have p7 : W6.cell? ⟨K.g, 7, none⟩ = some (.int .i64 0) := pr6.out.ok.blk.cell rfl
        have y7 : W6.frozen? ⟨K.g, 7, none⟩ = false := pr6.out.ok.blk.frozen 7
        have prE : Pr (dord K o) A ⟨[], 0, 0⟩ (.slice none 0 0) (List.replicate K.n 0) 2 (W6.setCell ⟨K.g, 7, none⟩ (.int .i64 2)) := pr6.out.err tO'.out hgA 2
        clear hgd hoz ho0
        have prE' := Lib.hid prE
        clear prE
        go_upto_region 14 with fail
        clear p7 y7 p1
        generalize W6.setCell ⟨K.g, 7, none⟩ (.int .i64 2) = wE at *
        -- DEV{Z
        obtain ⟨sE, svE, tkE, hprE⟩ : ∃ sE svE tkE, Hid (Pr (dord K (o)) A sE svE tkE (2) wE) := ⟨_, _, _, prE'⟩
        clear prE'
        obtain ⟨svb, svk, svd, rfl⟩ := hprE.out.ok.sv
        obtain ⟨Ty, ff, hne, hp, hsurj⟩ := prop_worlds (fun W => Blk W K.g 72 #[.slice K.a K.n K.c, .int .i64 (o), .slice K.sa K.sn K.sc, .slice (some ⟨K.gt, 0, none⟩) K.n K.n, (.slice svb svk svd), .int .i64 sE.no, .int .i64 sE.soiled, .int .i64 (2)]) wE hprE.out.ok.blk
        have q0 : ∀ s, (ff s).cell? ⟨K.g, 0, none⟩ = some (.slice K.a K.n K.c) := fun s => (hp s).cell rfl
        have q1 : ∀ s, (ff s).cell? ⟨K.g, 1, none⟩ = some (.int .i64 (o)) := fun s => (hp s).cell rfl
        have q2 : ∀ s, (ff s).cell? ⟨K.g, 2, none⟩ = some (.slice K.sa K.sn K.sc) := fun s => (hp s).cell rfl
        have q3 : ∀ s, (ff s).cell? ⟨K.g, 3, none⟩ = some (.slice (some ⟨K.gt, 0, none⟩) K.n K.n) := fun s => (hp s).cell rfl
        have q4 : ∀ s, (ff s).cell? ⟨K.g, 4, none⟩ = some (.slice svb svk svd) := fun s => (hp s).cell rfl
        have q5 : ∀ s, (ff s).cell? ⟨K.g, 5, none⟩ = some (.int .i64 sE.no) := fun s => (hp s).cell rfl
        have q6 : ∀ s, (ff s).cell? ⟨K.g, 6, none⟩ = some (.int .i64 sE.soiled) := fun s => (hp s).cell rfl
        have q7 : ∀ s, (ff s).cell? ⟨K.g, 7, none⟩ = some (.int .i64 (2)) := fun s => (hp s).cell rfl
        obtain ⟨Wd, hWd⟩ : ∃ Wd, (wE).drew = Wd := ⟨_, rfl⟩
        have b4d : Blk (wE).drew A 28 #[.int .i64 0, .slice none 0 0] := hprE.out.b4
        have b5d : Blk (wE).drew (A + 1) 72 wkZ := hprE.out.b5
        have hgE : Blk (wE).drew K.g 72 #[.slice K.a K.n K.c, .int .i64 (o), .slice K.sa K.sn K.sc, .slice (some ⟨K.gt, 0, none⟩) K.n K.n, (.slice svb svk svd), .int .i64 sE.no, .int .i64 sE.soiled, .int .i64 (2)] := hprE.out.ok.blk
        rw [hWd] at b4d b5d hgE
        have HS := Lib.hid (hsurj Wd hgE)
        have p0 : Wd.cell? ⟨A, 0, none⟩ = some (.int .i64 0) := b4d.cell rfl
        have p1 : Wd.cell? ⟨A, 1, none⟩ = some (.slice none 0 0) := b4d.cell rfl
        have y0 := b4d.frozen 0
        have y1 := b4d.frozen 1
        have r0 : Wd.cell? ⟨A + 1, 0, none⟩ = some (.slice none 0 0) := b5d.cell rfl
        have r1 : Wd.cell? ⟨A + 1, 1, none⟩ = some (.int .i64 0) := b5d.cell rfl
        have r2 : Wd.cell? ⟨A + 1, 2, none⟩ = some (.slice none 0 0) := b5d.cell rfl
        have r3 : Wd.cell? ⟨A + 1, 3, none⟩ = some (.slice none 0 0) := b5d.cell rfl
        have r4 : Wd.cell? ⟨A + 1, 4, none⟩ = some (.slice none 0 0) := b5d.cell rfl
        have r5 : Wd.cell? ⟨A + 1, 5, none⟩ = some (.int .i64 0) := b5d.cell rfl
        have r6 : Wd.cell? ⟨A + 1, 6, none⟩ = some (.int .i64 0) := b5d.cell rfl
        have r7 : Wd.cell? ⟨A + 1, 7, none⟩ = some (.int .i64 0) := b5d.cell rfl
        have z0 := b5d.frozen 0
        have z1 := b5d.frozen 1
        have z2 := b5d.frozen 2
        have z3 := b5d.frozen 3
        have z4 := b5d.frozen 4
        have z5 := b5d.frozen 5
        have z6 := b5d.frozen 6
        have z7 := b5d.frozen 7
        have hp' := Lib.hid hp
        have hsurj' := Lib.hid hsurj
        have b4d' := Lib.hid b4d
        have b5d' := Lib.hid b5d
        have hgE' := Lib.hid hgE
        clear hp hsurj b4d b5d hgE
        refine held_begin (S := fun W => ∃ s, W = ff s) (by kernel_rfl) 4 rfl ?_
        rw [hWd]
        have hWd' := Lib.hid hWd
        clear hWd
        refine held_take [0, 1] 2 (by kernel_rfl) (fun d _ _ _ _ h => by cases d <;> exact h) (by kernel_rfl) (by kernel_rfl) (by kernel_rfl) HS.out ?_
        simp only [pickL, List.map_cons, List.map_nil, List.getD_cons_succ, List.getD_cons_zero]
        iterate 2 (go_big_quiet_step (fail))
        refine wpQuiet_nil ?_
        refine held_one 2 1 (by kernel_rfl) (by kernel_rfl) ?_
        simp only [pickL, List.map_cons, List.map_nil, List.getD_cons_succ, List.getD_cons_zero]
        clear q0 q1 q2 q3 q4 q5 q6 q7
        go_wp2_with fail
        first | rw [Blk.set2_same b4d'.out] | skip
        refine Mid.mk ⟨HS.out, ?_⟩
        refine held_one 3 0 (by kernel_rfl) (by kernel_rfl) ?_
        simp only [pickL, List.map_cons, List.map_nil, List.getD_cons_succ, List.getD_cons_zero]
        go_wp2_with fail
        have hbt8 := But.set8 (w := Wd) (g := A + 1) (.slice K.a K.n K.c) (.int .i64 (o)) (.slice K.sa K.sn K.sc) (.slice (some ⟨K.gt, 0, none⟩) K.n K.n) (.slice svb svk svd) (.int .i64 sE.no) (.int .i64 sE.soiled) (.int .i64 (2))
        refine Mid.mk ⟨hsurj'.out _ (hgE'.out.but hbt8 (by omega)), ?_⟩
        refine held_last (by kernel_rfl) ?_
        clear p0 p1 y0 y1 r0 r1 r2 r3 r4 r5 r6 r7 z0 z1 z2 z3 z4 z5 z6 z7
        go_wp2_with fail
        refine bodyPost_ret (results_blk_blk rfl _ _ A (A + 1) 28 72 #[.int .i64 0, .slice none 0 0] #[.slice K.a K.n K.c, .int .i64 (o), .slice K.sa K.sn K.sc, .slice (some ⟨K.gt, 0, none⟩) K.n K.n, (.slice svb svk svd), .int .i64 sE.no, .int .i64 sE.soiled, .int .i64 (2)] _ _ rfl rfl (b4d'.out.but hbt8 (by omega)) (Blk.set8 b5d'.out _ _ _ _ _ _ _ _) Try.underlying28 rfl (by kernel_rfl) Try.underlying72 rfl (by kernel_rfl)) rfl ?_
        have hold0 : Below K.w0.heap.size K.w0 wE := hprE.out.ok.old
        have hold : Below K.w0.heap.size K.w0 Wd := by rw [← hWd'.out]; exact hold0.trans (((Below.refl _ _).drew).mono hold0.size)
        exact ⟨hyE, hold.trans (hbt8.below (by have := hA'.out; omega) hold.size), _, _, _, _, _, _, _, rfl⟩
        -- }DEV
      · have d0 : (o == 0) = false := by simp [hoz]
        have d42 : (v42 != 42) = true := by simp; omega
        clear hgd hoz ho0
        go_wp2_with fail
        refine HN'.out.mono ?_
        rintro e W7 ⟨rfl, hb7⟩
        have pr7 := pr6.out.later hb7
        have p7 : W7.cell? ⟨K.g, 7, none⟩ = some (.int .i64 0) := pr7.ok.blk.cell rfl
        have y7 : W7.frozen? ⟨K.g, 7, none⟩ = false := pr7.ok.blk.frozen 7
        have prE : Pr (dord K o) A ⟨[], 0, 0⟩ (.slice none 0 0) (List.replicate K.n 0) 2 (W7.setCell ⟨K.g, 7, none⟩ (.int .i64 2)) := pr7.err tO'.out hgA 2
        clear hb7 pr7 pr6 p1 HN'
        have prE' := Lib.hid prE
        clear prE
        go_upto_region 14 with fail
        clear p7 y7
        generalize W7.setCell ⟨K.g, 7, none⟩ (.int .i64 2) = wE at *
        -- DEV{Z
        obtain ⟨sE, svE, tkE, hprE⟩ : ∃ sE svE tkE, Hid (Pr (dord K (o)) A sE svE tkE (2) wE) := ⟨_, _, _, prE'⟩
        clear prE'
        obtain ⟨svb, svk, svd, rfl⟩ := hprE.out.ok.sv
        obtain ⟨Ty, ff, hne, hp, hsurj⟩ := prop_worlds (fun W => Blk W K.g 72 #[.slice K.a K.n K.c, .int .i64 (o), .slice K.sa K.sn K.sc, .slice (some ⟨K.gt, 0, none⟩) K.n K.n, (.slice svb svk svd), .int .i64 sE.no, .int .i64 sE.soiled, .int .i64 (2)]) wE hprE.out.ok.blk
        have q0 : ∀ s, (ff s).cell? ⟨K.g, 0, none⟩ = some (.slice K.a K.n K.c) := fun s => (hp s).cell rfl
        have q1 : ∀ s, (ff s).cell? ⟨K.g, 1, none⟩ = some (.int .i64 (o)) := fun s => (hp s).cell rfl
        have q2 : ∀ s, (ff s).cell? ⟨K.g, 2, none⟩ = some (.slice K.sa K.sn K.sc) := fun s => (hp s).cell rfl
        have q3 : ∀ s, (ff s).cell? ⟨K.g, 3, none⟩ = some (.slice (some ⟨K.gt, 0, none⟩) K.n K.n) := fun s => (hp s).cell rfl
        have q4 : ∀ s, (ff s).cell? ⟨K.g, 4, none⟩ = some (.slice svb svk svd) := fun s => (hp s).cell rfl
        have q5 : ∀ s, (ff s).cell? ⟨K.g, 5, none⟩ = some (.int .i64 sE.no) := fun s => (hp s).cell rfl
        have q6 : ∀ s, (ff s).cell? ⟨K.g, 6, none⟩ = some (.int .i64 sE.soiled) := fun s => (hp s).cell rfl
        have q7 : ∀ s, (ff s).cell? ⟨K.g, 7, none⟩ = some (.int .i64 (2)) := fun s => (hp s).cell rfl
        obtain ⟨Wd, hWd⟩ : ∃ Wd, (wE).drew = Wd := ⟨_, rfl⟩
        have b4d : Blk (wE).drew A 28 #[.int .i64 0, .slice none 0 0] := hprE.out.b4
        have b5d : Blk (wE).drew (A + 1) 72 wkZ := hprE.out.b5
        have hgE : Blk (wE).drew K.g 72 #[.slice K.a K.n K.c, .int .i64 (o), .slice K.sa K.sn K.sc, .slice (some ⟨K.gt, 0, none⟩) K.n K.n, (.slice svb svk svd), .int .i64 sE.no, .int .i64 sE.soiled, .int .i64 (2)] := hprE.out.ok.blk
        rw [hWd] at b4d b5d hgE
        have HS := Lib.hid (hsurj Wd hgE)
        have p0 : Wd.cell? ⟨A, 0, none⟩ = some (.int .i64 0) := b4d.cell rfl
        have p1 : Wd.cell? ⟨A, 1, none⟩ = some (.slice none 0 0) := b4d.cell rfl
        have y0 := b4d.frozen 0
        have y1 := b4d.frozen 1
        have r0 : Wd.cell? ⟨A + 1, 0, none⟩ = some (.slice none 0 0) := b5d.cell rfl
        have r1 : Wd.cell? ⟨A + 1, 1, none⟩ = some (.int .i64 0) := b5d.cell rfl
        have r2 : Wd.cell? ⟨A + 1, 2, none⟩ = some (.slice none 0 0) := b5d.cell rfl
        have r3 : Wd.cell? ⟨A + 1, 3, none⟩ = some (.slice none 0 0) := b5d.cell rfl
        have r4 : Wd.cell? ⟨A + 1, 4, none⟩ = some (.slice none 0 0) := b5d.cell rfl
        have r5 : Wd.cell? ⟨A + 1, 5, none⟩ = some (.int .i64 0) := b5d.cell rfl
        have r6 : Wd.cell? ⟨A + 1, 6, none⟩ = some (.int .i64 0) := b5d.cell rfl
        have r7 : Wd.cell? ⟨A + 1, 7, none⟩ = some (.int .i64 0) := b5d.cell rfl
        have z0 := b5d.frozen 0
        have z1 := b5d.frozen 1
        have z2 := b5d.frozen 2
        have z3 := b5d.frozen 3
        have z4 := b5d.frozen 4
        have z5 := b5d.frozen 5
        have z6 := b5d.frozen 6
        have z7 := b5d.frozen 7
        have hp' := Lib.hid hp
        have hsurj' := Lib.hid hsurj
        have b4d' := Lib.hid b4d
        have b5d' := Lib.hid b5d
        have hgE' := Lib.hid hgE
        clear hp hsurj b4d b5d hgE
        refine held_begin (S := fun W => ∃ s, W = ff s) (by kernel_rfl) 4 rfl ?_
        rw [hWd]
        have hWd' := Lib.hid hWd
        clear hWd
        refine held_take [0, 1] 2 (by kernel_rfl) (fun d _ _ _ _ h => by cases d <;> exact h) (by kernel_rfl) (by kernel_rfl) (by kernel_rfl) HS.out ?_
        simp only [pickL, List.map_cons, List.map_nil, List.getD_cons_succ, List.getD_cons_zero]
        iterate 2 (go_big_quiet_step (fail))
        refine wpQuiet_nil ?_
        refine held_one 2 1 (by kernel_rfl) (by kernel_rfl) ?_
        simp only [pickL, List.map_cons, List.map_nil, List.getD_cons_succ, List.getD_cons_zero]
        clear q0 q1 q2 q3 q4 q5 q6 q7
        go_wp2_with fail
        first | rw [Blk.set2_same b4d'.out] | skip
        refine Mid.mk ⟨HS.out, ?_⟩
        refine held_one 3 0 (by kernel_rfl) (by kernel_rfl) ?_
        simp only [pickL, List.map_cons, List.map_nil, List.getD_cons_succ, List.getD_cons_zero]
        go_wp2_with fail
        have hbt8 := But.set8 (w := Wd) (g := A + 1) (.slice K.a K.n K.c) (.int .i64 (o)) (.slice K.sa K.sn K.sc) (.slice (some ⟨K.gt, 0, none⟩) K.n K.n) (.slice svb svk svd) (.int .i64 sE.no) (.int .i64 sE.soiled) (.int .i64 (2))
        refine Mid.mk ⟨hsurj'.out _ (hgE'.out.but hbt8 (by omega)), ?_⟩
        refine held_last (by kernel_rfl) ?_
        clear p0 p1 y0 y1 r0 r1 r2 r3 r4 r5 r6 r7 z0 z1 z2 z3 z4 z5 z6 z7
        go_wp2_with fail
        refine bodyPost_ret (results_blk_blk rfl _ _ A (A + 1) 28 72 #[.int .i64 0, .slice none 0 0] #[.slice K.a K.n K.c, .int .i64 (o), .slice K.sa K.sn K.sc, .slice (some ⟨K.gt, 0, none⟩) K.n K.n, (.slice svb svk svd), .int .i64 sE.no, .int .i64 sE.soiled, .int .i64 (2)] _ _ rfl rfl (b4d'.out.but hbt8 (by omega)) (Blk.set8 b5d'.out _ _ _ _ _ _ _ _) Try.underlying28 rfl (by kernel_rfl) Try.underlying72 rfl (by kernel_rfl)) rfl ?_
        have hold0 : Below K.w0.heap.size K.w0 wE := hprE.out.ok.old
        have hold : Below K.w0.heap.size K.w0 Wd := by rw [← hWd'.out]; exact hold0.trans (((Below.refl _ _).drew).mono hold0.size)
        exact ⟨hyE, hold.trans (hbt8.below (by have := hA'.out; omega) hold.size), _, _, _, _, _, _, _, rfl⟩
        -- }DEV
    case pos =>
    obtain ⟨ho1, rfl⟩ := hgd
    have ho12 : o = 1 ∨ o = 2 := by omega
    have d0 : (o == 0) = false := by simp; omega
    have hR3 := hR2'.out
    rw [if_pos ⟨ho1, rfl⟩] at hR3
    clear hR2' ho0
    have hR3' := Lib.hid hR3
    clear hR3
    go_wp2_with fail
    refine HN'.out.mono ?_
    rintro e W7 ⟨rfl, hb7⟩
    have pr7 := pr6.out.later hb7
    have HT := dtake_any (dord K o) tO'.out ⟨[], 0, 0⟩ (.slice none 0 0) (List.replicate K.n 0) W7 (1, -1, 0, 0, 8) pr7.ok 0 8 rfl rfl (by omega) (by omega) (by simp)
    obtain ⟨T, hT⟩ : ∃ T, takeS K.n (1, -1, 0, 0, 8) ⟨[], 0, 0⟩ = T := ⟨_, rfl⟩
    have HT : Calls Try.prog 35 #[.pointer (some ⟨K.g, 0, none⟩), .agg #[.int .i64 1, .int .i64 (-1), .int .i64 0, .int .i64 0, .int .i64 8]] W7 (DPost (dord K o) (.slice none 0 0) W7 (unitR T) (fun e => e = .returned (.tuple #[])) fun _ _ e _ => e = .returned (.tuple #[])) := by rw [← hT]; exact HT
    have hR4 := hR3'.out
    rw [hT] at hR4
    clear hb7 pr6 p1 HN' hR3'
    have pr7' := Lib.hid pr7
    have HT' := Lib.hid HT
    have hR4' := Lib.hid hR4
    have hT' := Lib.hid hT
    clear pr7 HT hR4 hT
    go_wp2_with fail
    refine HT'.out.mono ?_
    rintro e W8 hpost
    obtain ⟨rfl, s8, sv8, tk8, E8, hok8, hmv8, hgd8, hbd8⟩ := hpost.unit
    have pr8 := pr7'.out.mv2 hgA hgtA hmv8 hok8
    have hgood8 : E8 = 0 → Inv K.n s8 ∧ chainS K.z o (shps K.zs) 18 [] (getV K.z 4 4 o) 0 s8 = R := fun h => by
      obtain ⟨v, e1, _⟩ := hgd8 h
      cases T with
      | error y => cases e1
      | ok s' =>
        simp only [unitR] at e1
        injection e1 with e1
        injection e1 with _ e1
        subst e1
        refine ⟨?_, by rw [← hR4'.out]⟩
        have h2 := takeS_inv hT'.out (by decide) (Nat.zero_le _)
        exact h2
    have hbad8 : E8 ≠ 0 → R = .error E8 := fun h => by
      have e1 := hbd8 h
      cases T with
      | error y =>
        simp only [unitR] at e1
        injection e1 with e1
        subst e1
        rw [← hR4'.out]
      | ok s' => simp only [unitR] at e1; cases e1
    have p1 : W8.cell? ⟨K.g, 1, none⟩ = some (.int .i64 o) := pr8.ok.blk.cell rfl
    have bT := Blk.new W8 28 #[.int .i64 o, .slice none 0 0]
    have hal := (Below.refl W8.heap.size W8).alloc (Nat.le_refl _) (.cells #[.int .i64 o, .slice none 0 0] 28)
    have pr9 := pr8.later hal
    have hgT : K.g < W8.heap.size := pr8.ok.blk.lt
    clear hmv8 hok8 hgd8 hbd8 hpost HT' hR4' hT' pr7' hal
    have pr8' := Lib.hid pr8
    have hgood8' := Lib.hid hgood8
    have hbad8' := Lib.hid hbad8
    have bT' := Lib.hid bT
    have pr9' := Lib.hid pr9
    clear pr8 hgood8 hbad8 bT pr9
    go_upto_region 17 with fail
    clear p1
    generalize W8.alloc (.cells #[.int .i64 o, .slice none 0 0] 28) = W9 at *
    generalize W8.heap.size = gT at *
    have hpp := getV_lt t0'.out.byt 4 4 o
    rw [show ((4 : Nat) : Int) = 4 from rfl, show (256 : Int) ^ 4 = 4294967296 by decide] at hpp
    obtain ⟨p0, hp0⟩ : ∃ p, getV K.z 4 4 o = p := ⟨_, rfl⟩
    have HN : Calls Try.prog 34 #[.pointer (some ⟨K.g, 0, none⟩), .int .i64 4, .int .i64 4] W9 fun x w' => x = .returned (.int .i64 p0) ∧ Below W9.heap.size W9 w' := by rw [← hp0]; exact dnum_any (dord K o) tO'.out s8 sv8 tk8 E8 4 4 W9 pr9'.out.ok
    have hg9 := hgood8'.out
    rw [hp0] at hpp hg9
    clear hp0 hgood8'
    have HN' := Lib.hid HN
    have hg9' := Lib.hid hg9
    clear HN hg9
    go_wp2_with fail
    refine HN'.out.mono ?_
    rintro e W10 ⟨rfl, hb10⟩
    have pr10 := pr9'.out.later hb10
    have bT10 := bT'.out.late hb10
    obtain ⟨i0, z0, hi0, hz, hz1, hz2, hz3⟩ := info_sz infoDi infoDiz
    have hnx : ∀ j, j < K.sn → ((shps K.zs).getD j shp0).2.2.2 = -1 ∨ ((j : Int) < ((shps K.zs).getD j shp0).2.2.2 ∧ ((shps K.zs).getD j shp0).2.2.2 < K.sn) := fun j hj => by
      have hv := hshb'.out
      unfold shapesB at hv
      simp only [Bool.and_eq_true, decide_eq_true_eq] at hv
      have h1 := List.all_eq_true.1 hv.2 j (List.mem_range.2 (by simp [shps]; rw [hsl'.out]; exact hj))
      unfold shapeB nextB lateB at h1
      simp only [Bool.and_eq_true, Bool.or_eq_true, decide_eq_true_eq] at h1
      have h2 := h1.1.2
      simp only [shps, List.length_map, hsl'.out] at h2
      exact h2
    have hsn16 : 1 ≤ K.sn ∧ K.sn ≤ 16 := by
      have hv := hshb'.out
      unfold shapesB at hv
      simp only [Bool.and_eq_true, decide_eq_true_eq, shps, List.length_map, hsl'.out] at hv
      exact hv.1
    clear hb10 pr9' bT' HN' pr8'
    have pr10' := Lib.hid pr10
    have bT10' := Lib.hid bT10
    have hnx' := Lib.hid hnx
    clear pr10 bT10 hnx
    go_wp2_with fail
    go_loopw [8, 9] (fun pv hv wr => ∃ (p shi : Int) (si : St) (svi : Value) (tki : List Int) (E : Int) (ad : Option Addr) (m cd : Nat), pv = .int .i64 p ∧ hv = .int .i64 shi ∧ m ≤ 18 ∧ Hid (Pr (dord K o) A si svi tki E wr) ∧ Hid (Blk wr gT 28 #[.int .i64 o, .slice ad m cd]) ∧ Hid (E = 0 → 0 ≤ p ∧ p ≤ 4294967295 ∧ ∃ (fu : Nat) (ds : List (DirT 16)), m = ds.length ∧ 1 ≤ fu ∧ ds.length + fu ≤ 18 ∧ (shi = -1 ∨ (0 ≤ shi ∧ shi < K.sn ∧ (K.sn : Int) - shi + 1 ≤ fu)) ∧ chainS K.z o (shps K.zs) fu ds p shi si = R ∧ Inv K.n si ∧ DirsAt (Xv svi) (gT + 1) wr (.slice ad m cd) ds) ∧ Hid (E ≠ 0 → R = .error E)) (fun pv hv wr => 18 - lenOf ((wr.cell? ⟨gT, 1, none⟩).getD undef))
    case atStart => exact ⟨p0, 0, s8, sv8, tk8, E8, none, 0, 0, rfl, rfl, by omega, pr10', bT10', Lib.hid (fun h => by
      obtain ⟨e1, e2⟩ := hg9'.out h
      exact ⟨hpp.1, by omega, 18, [], rfl, by omega, by simp, .inr ⟨by omega, by omega, by omega⟩, e2, e1, [], rfl, ⟨own_nil _ _ _ _, fun k e => by cases e⟩, fun i hi => by cases hi⟩), hbad8'⟩
    case round =>
      obtain ⟨p, shi, si, svi, tki, E, ad, m, cd, rfl, rfl, hm18, hpr, hbT, hgood, hbad⟩ := hrel
      clear hg9' hbad8' pr10' bT10'
      have k7 : wr.cell? ⟨K.g, 7, none⟩ = some (.int .i64 E) := hpr.out.ok.blk.cell rfl
      by_cases hE : E = 0
      case neg =>
        have hyE : E ≠ 0 := hE
        obtain rfl : R = .error E := hbad.out hE
        have dE : (E == 0) = false := by simp; exact hE
        have dE2 : (E != 0) = true := by simp; exact hE
        have prE' := hpr
        clear hgood hbad hE
        have hyE' := Lib.hid hyE
        clear hyE
        go_upto_region 26 with fail
        have hyE := hyE'.out
        clear hyE' k7
        -- DEV{Z
        obtain ⟨sE, svE, tkE, hprE⟩ : ∃ sE svE tkE, Hid (Pr (dord K (o)) A sE svE tkE (E) wr) := ⟨_, _, _, prE'⟩
        clear prE'
        obtain ⟨svb, svk, svd, rfl⟩ := hprE.out.ok.sv
        obtain ⟨Ty, ff, hne, hp, hsurj⟩ := prop_worlds (fun W => Blk W K.g 72 #[.slice K.a K.n K.c, .int .i64 (o), .slice K.sa K.sn K.sc, .slice (some ⟨K.gt, 0, none⟩) K.n K.n, (.slice svb svk svd), .int .i64 sE.no, .int .i64 sE.soiled, .int .i64 (E)]) wr hprE.out.ok.blk
        have q0 : ∀ s, (ff s).cell? ⟨K.g, 0, none⟩ = some (.slice K.a K.n K.c) := fun s => (hp s).cell rfl
        have q1 : ∀ s, (ff s).cell? ⟨K.g, 1, none⟩ = some (.int .i64 (o)) := fun s => (hp s).cell rfl
        have q2 : ∀ s, (ff s).cell? ⟨K.g, 2, none⟩ = some (.slice K.sa K.sn K.sc) := fun s => (hp s).cell rfl
        have q3 : ∀ s, (ff s).cell? ⟨K.g, 3, none⟩ = some (.slice (some ⟨K.gt, 0, none⟩) K.n K.n) := fun s => (hp s).cell rfl
        have q4 : ∀ s, (ff s).cell? ⟨K.g, 4, none⟩ = some (.slice svb svk svd) := fun s => (hp s).cell rfl
        have q5 : ∀ s, (ff s).cell? ⟨K.g, 5, none⟩ = some (.int .i64 sE.no) := fun s => (hp s).cell rfl
        have q6 : ∀ s, (ff s).cell? ⟨K.g, 6, none⟩ = some (.int .i64 sE.soiled) := fun s => (hp s).cell rfl
        have q7 : ∀ s, (ff s).cell? ⟨K.g, 7, none⟩ = some (.int .i64 (E)) := fun s => (hp s).cell rfl
        obtain ⟨Wd, hWd⟩ : ∃ Wd, (wr).drew = Wd := ⟨_, rfl⟩
        have b4d : Blk (wr).drew A 28 #[.int .i64 0, .slice none 0 0] := hprE.out.b4
        have b5d : Blk (wr).drew (A + 1) 72 wkZ := hprE.out.b5
        have hgE : Blk (wr).drew K.g 72 #[.slice K.a K.n K.c, .int .i64 (o), .slice K.sa K.sn K.sc, .slice (some ⟨K.gt, 0, none⟩) K.n K.n, (.slice svb svk svd), .int .i64 sE.no, .int .i64 sE.soiled, .int .i64 (E)] := hprE.out.ok.blk
        rw [hWd] at b4d b5d hgE
        have HS := Lib.hid (hsurj Wd hgE)
        have p0 : Wd.cell? ⟨A, 0, none⟩ = some (.int .i64 0) := b4d.cell rfl
        have p1 : Wd.cell? ⟨A, 1, none⟩ = some (.slice none 0 0) := b4d.cell rfl
        have y0 := b4d.frozen 0
        have y1 := b4d.frozen 1
        have r0 : Wd.cell? ⟨A + 1, 0, none⟩ = some (.slice none 0 0) := b5d.cell rfl
        have r1 : Wd.cell? ⟨A + 1, 1, none⟩ = some (.int .i64 0) := b5d.cell rfl
        have r2 : Wd.cell? ⟨A + 1, 2, none⟩ = some (.slice none 0 0) := b5d.cell rfl
        have r3 : Wd.cell? ⟨A + 1, 3, none⟩ = some (.slice none 0 0) := b5d.cell rfl
        have r4 : Wd.cell? ⟨A + 1, 4, none⟩ = some (.slice none 0 0) := b5d.cell rfl
        have r5 : Wd.cell? ⟨A + 1, 5, none⟩ = some (.int .i64 0) := b5d.cell rfl
        have r6 : Wd.cell? ⟨A + 1, 6, none⟩ = some (.int .i64 0) := b5d.cell rfl
        have r7 : Wd.cell? ⟨A + 1, 7, none⟩ = some (.int .i64 0) := b5d.cell rfl
        have z0 := b5d.frozen 0
        have z1 := b5d.frozen 1
        have z2 := b5d.frozen 2
        have z3 := b5d.frozen 3
        have z4 := b5d.frozen 4
        have z5 := b5d.frozen 5
        have z6 := b5d.frozen 6
        have z7 := b5d.frozen 7
        have hp' := Lib.hid hp
        have hsurj' := Lib.hid hsurj
        have b4d' := Lib.hid b4d
        have b5d' := Lib.hid b5d
        have hgE' := Lib.hid hgE
        clear hp hsurj b4d b5d hgE
        refine held_begin (S := fun W => ∃ s, W = ff s) (by kernel_rfl) 4 rfl ?_
        rw [hWd]
        have hWd' := Lib.hid hWd
        clear hWd
        refine held_take [0, 1] 2 (by kernel_rfl) (fun d _ _ _ _ h => by cases d <;> exact h) (by kernel_rfl) (by kernel_rfl) (by kernel_rfl) HS.out ?_
        simp only [pickL, List.map_cons, List.map_nil, List.getD_cons_succ, List.getD_cons_zero]
        iterate 2 (go_big_quiet_step (fail))
        refine wpQuiet_nil ?_
        refine held_one 2 1 (by kernel_rfl) (by kernel_rfl) ?_
        simp only [pickL, List.map_cons, List.map_nil, List.getD_cons_succ, List.getD_cons_zero]
        clear q0 q1 q2 q3 q4 q5 q6 q7
        go_wp2_with fail
        first | rw [Blk.set2_same b4d'.out] | skip
        refine Mid.mk ⟨HS.out, ?_⟩
        refine held_one 3 0 (by kernel_rfl) (by kernel_rfl) ?_
        simp only [pickL, List.map_cons, List.map_nil, List.getD_cons_succ, List.getD_cons_zero]
        go_wp2_with fail
        have hbt8 := But.set8 (w := Wd) (g := A + 1) (.slice K.a K.n K.c) (.int .i64 (o)) (.slice K.sa K.sn K.sc) (.slice (some ⟨K.gt, 0, none⟩) K.n K.n) (.slice svb svk svd) (.int .i64 sE.no) (.int .i64 sE.soiled) (.int .i64 (E))
        refine Mid.mk ⟨hsurj'.out _ (hgE'.out.but hbt8 (by omega)), ?_⟩
        refine held_last (by kernel_rfl) ?_
        clear p0 p1 y0 y1 r0 r1 r2 r3 r4 r5 r6 r7 z0 z1 z2 z3 z4 z5 z6 z7
        go_wp2_with fail
        refine bodyPost_ret (results_blk_blk rfl _ _ A (A + 1) 28 72 #[.int .i64 0, .slice none 0 0] #[.slice K.a K.n K.c, .int .i64 (o), .slice K.sa K.sn K.sc, .slice (some ⟨K.gt, 0, none⟩) K.n K.n, (.slice svb svk svd), .int .i64 sE.no, .int .i64 sE.soiled, .int .i64 (E)] _ _ rfl rfl (b4d'.out.but hbt8 (by omega)) (Blk.set8 b5d'.out _ _ _ _ _ _ _ _) Try.underlying28 rfl (by kernel_rfl) Try.underlying72 rfl (by kernel_rfl)) rfl ?_
        have hold0 : Below K.w0.heap.size K.w0 wr := hprE.out.ok.old
        have hold : Below K.w0.heap.size K.w0 Wd := by rw [← hWd'.out]; exact hold0.trans (((Below.refl _ _).drew).mono hold0.size)
        exact ⟨hyE, hold.trans (hbt8.below (by have := hA'.out; omega) hold.size), _, _, _, _, _, _, _, rfl⟩
        -- }DEV
      case pos =>
        subst hE
        obtain ⟨hp1, hp2, fu, ds, hmd, hfu1, hfu2, hshi, hch, hinvi, hds⟩ := hgood.out rfl
        obtain ⟨fu, rfl⟩ : ∃ f, fu = f + 1 := ⟨fu - 1, by omega⟩
        simp only [chainS] at hch
        have q1 : wr.cell? ⟨gT, 1, none⟩ = some (.slice ad m cd) := hbT.out.cell rfl
        have hqm' := Lib.hid q1
        clear hgood hbad
        by_cases hgo : 0 < p ∨ ds.length = 0
        case neg =>
          rw [if_neg hgo] at hch
          subst hch
          have dp : (p != 0) = false := by simp; omega
          have dm : ((m : Int) == 0) = false := by simp; omega
          have dm2 : (m == 0) = false := by simp; omega
          have hprE := hpr
          clear hgo
          have hds' := Lib.hid hds
          have hinvi' := Lib.hid hinvi
          have hmd' := Lib.hid hmd
          clear hds hinvi hmd
          go_upto_region 27 with fail
          clear k7 q1
          -- DEV{RETO
          obtain ⟨svb, svd, rfl⟩ := own_v' hpr.out.ok.spot
          obtain ⟨sE, rfl⟩ : ∃ s, s = si := ⟨si, rfl⟩
          obtain ⟨svk, hsvk⟩ : ∃ k, sE.spots.length = k := ⟨_, rfl⟩
          rw [hsvk] at hprE hpr hds'
          have hsvk' := Lib.hid hsvk
          clear hsvk hpr
          obtain ⟨Ty, ff, hne, hp, hsurj⟩ := prop_worlds (fun W => Blk W gT 28 #[.int .i64 (o), .slice ad m cd] ∧ Blk W K.g 72 #[.slice K.a K.n K.c, .int .i64 (o), .slice K.sa K.sn K.sc, .slice (some ⟨K.gt, 0, none⟩) K.n K.n, (.slice svb svk svd), .int .i64 sE.no, .int .i64 sE.soiled, .int .i64 (0)]) wr ⟨hbT.out, hprE.out.ok.blk⟩
          have q0 : ∀ s, (ff s).cell? ⟨K.g, 0, none⟩ = some (.slice K.a K.n K.c) := fun s => (hp s).2.cell rfl
          have q1 : ∀ s, (ff s).cell? ⟨K.g, 1, none⟩ = some (.int .i64 (o)) := fun s => (hp s).2.cell rfl
          have q2 : ∀ s, (ff s).cell? ⟨K.g, 2, none⟩ = some (.slice K.sa K.sn K.sc) := fun s => (hp s).2.cell rfl
          have q3 : ∀ s, (ff s).cell? ⟨K.g, 3, none⟩ = some (.slice (some ⟨K.gt, 0, none⟩) K.n K.n) := fun s => (hp s).2.cell rfl
          have q4 : ∀ s, (ff s).cell? ⟨K.g, 4, none⟩ = some (.slice svb svk svd) := fun s => (hp s).2.cell rfl
          have q5 : ∀ s, (ff s).cell? ⟨K.g, 5, none⟩ = some (.int .i64 sE.no) := fun s => (hp s).2.cell rfl
          have q6 : ∀ s, (ff s).cell? ⟨K.g, 6, none⟩ = some (.int .i64 sE.soiled) := fun s => (hp s).2.cell rfl
          have q7 : ∀ s, (ff s).cell? ⟨K.g, 7, none⟩ = some (.int .i64 (0)) := fun s => (hp s).2.cell rfl
          obtain ⟨Wd, hWd⟩ : ∃ Wd, (wr).drew = Wd := ⟨_, rfl⟩
          have b4d : Blk (wr).drew A 28 #[.int .i64 0, .slice none 0 0] := hprE.out.b4
          have b5d : Blk (wr).drew (A + 1) 72 wkZ := hprE.out.b5
          have hgE : Blk (wr).drew K.g 72 #[.slice K.a K.n K.c, .int .i64 (o), .slice K.sa K.sn K.sc, .slice (some ⟨K.gt, 0, none⟩) K.n K.n, (.slice svb svk svd), .int .i64 sE.no, .int .i64 sE.soiled, .int .i64 (0)] := hprE.out.ok.blk
          rw [hWd] at b4d b5d hgE
          have hTE : Blk (wr).drew gT 28 #[.int .i64 (o), .slice ad m cd] := hbT.out
          rw [hWd] at hTE
          have t0x : ∀ s, (ff s).cell? ⟨gT, 0, none⟩ = some (.int .i64 (o)) := fun s => (hp s).1.cell rfl
          have t1x : ∀ s, (ff s).cell? ⟨gT, 1, none⟩ = some (.slice ad m cd) := fun s => (hp s).1.cell rfl
          have HS := Lib.hid (hsurj Wd ⟨hTE, hgE⟩)
          have p0 : Wd.cell? ⟨A, 0, none⟩ = some (.int .i64 0) := b4d.cell rfl
          have p1 : Wd.cell? ⟨A, 1, none⟩ = some (.slice none 0 0) := b4d.cell rfl
          have y0 := b4d.frozen 0
          have y1 := b4d.frozen 1
          have r0 : Wd.cell? ⟨A + 1, 0, none⟩ = some (.slice none 0 0) := b5d.cell rfl
          have r1 : Wd.cell? ⟨A + 1, 1, none⟩ = some (.int .i64 0) := b5d.cell rfl
          have r2 : Wd.cell? ⟨A + 1, 2, none⟩ = some (.slice none 0 0) := b5d.cell rfl
          have r3 : Wd.cell? ⟨A + 1, 3, none⟩ = some (.slice none 0 0) := b5d.cell rfl
          have r4 : Wd.cell? ⟨A + 1, 4, none⟩ = some (.slice none 0 0) := b5d.cell rfl
          have r5 : Wd.cell? ⟨A + 1, 5, none⟩ = some (.int .i64 0) := b5d.cell rfl
          have r6 : Wd.cell? ⟨A + 1, 6, none⟩ = some (.int .i64 0) := b5d.cell rfl
          have r7 : Wd.cell? ⟨A + 1, 7, none⟩ = some (.int .i64 0) := b5d.cell rfl
          have z0 := b5d.frozen 0
          have z1 := b5d.frozen 1
          have z2 := b5d.frozen 2
          have z3 := b5d.frozen 3
          have z4 := b5d.frozen 4
          have z5 := b5d.frozen 5
          have z6 := b5d.frozen 6
          have z7 := b5d.frozen 7
          have hp' := Lib.hid hp
          have hsurj' := Lib.hid hsurj
          have b4d' := Lib.hid b4d
          have b5d' := Lib.hid b5d
          have hgE' := Lib.hid hgE
          have hTE' := Lib.hid hTE
          clear hp hsurj b4d b5d hgE hTE
          refine held_begin (S := fun W => ∃ s, W = ff s) (by kernel_rfl) 4 rfl ?_
          rw [hWd]
          have hWd' := Lib.hid hWd
          clear hWd
          refine held_take [0, 1] 2 (by kernel_rfl) (fun d _ _ _ _ h => by cases d <;> exact h) (by kernel_rfl) (by kernel_rfl) (by kernel_rfl) HS.out ?_
          simp only [pickL, List.map_cons, List.map_nil, List.getD_cons_succ, List.getD_cons_zero]
          iterate 2 (go_big_quiet_step (fail))
          refine wpQuiet_nil ?_
          refine held_one 2 1 (by kernel_rfl) (by kernel_rfl) ?_
          simp only [pickL, List.map_cons, List.map_nil, List.getD_cons_succ, List.getD_cons_zero]
          clear q0 q1 q2 q3 q4 q5 q6 q7 t0x t1x
          go_wp2_with fail
          have hbt2 := ((But.refl A Wd).set 0 (.int .i64 o)).set 1 (.slice ad m cd)
          have b4e : Blk ((Wd.setCell ⟨A, 0, none⟩ (.int .i64 o)).setCell ⟨A, 1, none⟩ (.slice ad m cd)) A 28 #[.int .i64 o, .slice ad m cd] := (b4d'.out.set 0 (.int .i64 o)).set 1 (.slice ad m cd)
          have b5e := b5d'.out.but hbt2 (show A + 1 ≠ A by omega)
          have hgE2 := hgE'.out.but hbt2 (show K.g ≠ A by omega)
          have hTE2 := hTE'.out.but hbt2 (show gT ≠ A by omega)
          have HS := Lib.hid (hsurj'.out _ ⟨hTE2, hgE2⟩)
          clear r0 r1 r2 r3 r4 r5 r6 r7 z0 z1 z2 z3 z4 z5 z6 z7 p0 p1 y0 y1
          have r0 := b5e.cell (i := 0) rfl
          have r1 := b5e.cell (i := 1) rfl
          have r2 := b5e.cell (i := 2) rfl
          have r3 := b5e.cell (i := 3) rfl
          have r4 := b5e.cell (i := 4) rfl
          have r5 := b5e.cell (i := 5) rfl
          have r6 := b5e.cell (i := 6) rfl
          have r7 := b5e.cell (i := 7) rfl
          have z0 := b5e.frozen 0
          have z1 := b5e.frozen 1
          have z2 := b5e.frozen 2
          have z3 := b5e.frozen 3
          have z4 := b5e.frozen 4
          have z5 := b5e.frozen 5
          have z6 := b5e.frozen 6
          have z7 := b5e.frozen 7
          generalize (Wd.setCell ⟨A, 0, none⟩ (.int .i64 o)).setCell ⟨A, 1, none⟩ (.slice ad m cd) = We at *
          have b4e' := Lib.hid b4e
          have b5e' := Lib.hid b5e
          have hgE2' := Lib.hid hgE2
          have hTE2' := Lib.hid hTE2
          have hbt2' := Lib.hid hbt2
          clear b4e b5e hgE2 hTE2 hbt2
          refine Mid.mk ⟨HS.out, ?_⟩
          refine held_one 3 0 (by kernel_rfl) (by kernel_rfl) ?_
          simp only [pickL, List.map_cons, List.map_nil, List.getD_cons_succ, List.getD_cons_zero]
          go_wp2_with fail
          have hbt8 := But.set8 (w := We) (g := A + 1) (.slice K.a K.n K.c) (.int .i64 o) (.slice K.sa K.sn K.sc) (.slice (some ⟨K.gt, 0, none⟩) K.n K.n) (.slice svb svk svd) (.int .i64 sE.no) (.int .i64 sE.soiled) (.int .i64 0)
          refine Mid.mk ⟨hsurj'.out _ ⟨hTE2'.out.but hbt8 (by omega), hgE2'.out.but hbt8 (by omega)⟩, ?_⟩
          refine held_last (by kernel_rfl) ?_
          clear r0 r1 r2 r3 r4 r5 r6 r7 z0 z1 z2 z3 z4 z5 z6 z7
          go_wp2_with fail
          refine bodyPost_ret (results_blk_blk rfl _ _ A (A + 1) 28 72 #[.int .i64 o, .slice ad m cd] #[.slice K.a K.n K.c, .int .i64 o, .slice K.sa K.sn K.sc, .slice (some ⟨K.gt, 0, none⟩) K.n K.n, .slice svb svk svd, .int .i64 sE.no, .int .i64 sE.soiled, .int .i64 0] _ _ rfl rfl (b4e'.out.but hbt8 (by omega)) (Blk.set8 b5e'.out _ _ _ _ _ _ _ _) Try.underlying28 rfl (by kernel_rfl) Try.underlying72 rfl (by kernel_rfl)) rfl ?_
          have hold0 : Below K.w0.heap.size K.w0 wr := hprE.out.ok.old
          have hold : Below K.w0.heap.size K.w0 Wd := by rw [← hWd'.out]; exact hold0.trans (((Below.refl _ _).drew).mono hold0.size)
          have hold2 := hold.trans (hbt2'.out.below (by have := hA'.out; omega) hold.size)
          have hkA : Kp (Xv (.slice svb svk svd)) (Xv (.slice svb svk svd)) (A + 2) wr Wd := by rw [← hWd'.out]; exact Kp.later ((Below.refl _ _).drew)
          have hkB := kp_trans hkA (kp_trans (kp_but hbt2'.out (show A < A + 2 by omega)) (kp_but hbt8 (show A + 1 < A + 2 by omega)))
          have hnbE := hprE.out.nb
          have hspot : Ck (Xv (.slice none 0 0)) K.w0.heap.size wr (.slice svb svk svd) 38 5 svk (fl spC sE.spots) := ⟨by have h := hprE.out.ok.spot; rw [hsvk'.out] at h; exact h, fun k e h => by cases h⟩
          have hkN : Kp (Xv (.slice none 0 0)) (Xv (.slice none 0 0)) (A + 2) wr _ := kp_trans (by rw [← hWd'.out]; exact Kp.later ((Below.refl wr.heap.size wr).drew)) (kp_trans (kp_but hbt2'.out (show A < A + 2 by omega)) (kp_but hbt8 (show A + 1 < A + 2 by omega)))
          have hspotA : Ck (Xv (.slice none 0 0)) (A + 2) wr (.slice svb svk svd) 38 5 svk (fl spC sE.spots) := ⟨⟨hspot.1.1, by
            rcases hspot.1.2 with h | ⟨gg, cap, cur, e, h1, h2, h3⟩
            · exact .inl h
            · exact .inr ⟨gg, cap, cur, e, hnbE gg (by rw [e]; rfl), h2, h3⟩⟩, hspot.2⟩
          have hspE := (hspotA.keep hkN).1
          have hrowE : Row wr K.gt 3 .i64 tki := hprE.out.ok.tak
          have hrowD : Row Wd K.gt 3 .i64 tki := by rw [← hWd'.out]; exact hrowE
          have hrowF := Blk.but (T := 3) (Blk.but (T := 3) hrowD hbt2'.out (show K.gt ≠ A by omega)) hbt8 (show K.gt ≠ A + 1 by omega)
          refine ⟨hold2.trans (hbt8.below (by have := hA'.out; omega) hold2.size), K.gt, svb, svk, svd, ad, m, cd, tki, by rw [hoo'.out], ?_, ?_, hrowF, hprE.out.ok.tkl, by have := hA'.out; omega, hprE.out.ok.bits⟩
          · obtain ⟨dzs, e1, e2, e3⟩ := hds'.out
            exact ⟨dzs, e1, (e2.keep (kp_mono hkB (by omega))).mono (by have := hA'.out; omega), fun i h h' => ((e3 i h h').keep (kp_mono hkB (by omega))).mono (by have := hA'.out; omega)⟩
          · rw [hsvk'.out]
            exact own_mono hspE (by have := hA'.out; omega)
          -- }DEV
        case pos =>
          rw [if_pos hgo] at hch
          have hds' := Lib.hid hds
          have hinvi' := Lib.hid hinvi
          have hch' := Lib.hid hch
          have hmd' := Lib.hid hmd
          clear hds hinvi hch hmd
          go_upto_region 18 with fail
          go_cut [80] from 68 to 101 (fun v wx => v = .bool true ∧ wr = wx)
          case first =>
            by_cases hp0 : 0 < p
            · have d1 : (p != 0) = true := by simp; omega
              clear hgo hp0
              go_wp2_with fail
              go_meet
              exact ⟨rfl, rfl⟩
            · have d1 : (p != 0) = false := by simp; omega
              obtain rfl : m = 0 := by rw [hmd'.out]; omega
              clear hgo hp0
              go_wp2_with fail
              go_meet
              exact ⟨rfl, rfl⟩
          case rest =>
          obtain ⟨rfl, rfl⟩ := hcut
          clear hgo k7
          rcases hshi with rfl | ⟨hs1, hs2, hs3⟩
          · have hch2 := hch'.out
            rw [if_neg (by omega)] at hch2
            subst hch2
            have hyE : (2 : Int) ≠ 0 := by decide
            clear q1
            go_wp2_with fail
            refine (fail_du tO'.out hpr.out.ok (by decide)).mono ?_
            rintro e w9 ⟨rfl, hok9, hmv9⟩
            replace hok9 : DwOk (dord K o) si svi tki 2 w9 := hok9
            have prE := hpr.out.mv2 hgA hgtA hmv9 hok9
            have k7 : w9.cell? ⟨K.g, 7, none⟩ = some (.int .i64 2) := prE.ok.blk.cell rfl
            clear hok9 hmv9
            have prE' := Lib.hid prE
            clear prE
            go_upto_region 26 with fail
            clear k7
            -- DEV{Z
            obtain ⟨sE, svE, tkE, hprE⟩ : ∃ sE svE tkE, Hid (Pr (dord K (o)) A sE svE tkE (2) w9) := ⟨_, _, _, prE'⟩
            clear prE'
            obtain ⟨svb, svk, svd, rfl⟩ := hprE.out.ok.sv
            obtain ⟨Ty, ff, hne, hp, hsurj⟩ := prop_worlds (fun W => Blk W K.g 72 #[.slice K.a K.n K.c, .int .i64 (o), .slice K.sa K.sn K.sc, .slice (some ⟨K.gt, 0, none⟩) K.n K.n, (.slice svb svk svd), .int .i64 sE.no, .int .i64 sE.soiled, .int .i64 (2)]) w9 hprE.out.ok.blk
            have q0 : ∀ s, (ff s).cell? ⟨K.g, 0, none⟩ = some (.slice K.a K.n K.c) := fun s => (hp s).cell rfl
            have q1 : ∀ s, (ff s).cell? ⟨K.g, 1, none⟩ = some (.int .i64 (o)) := fun s => (hp s).cell rfl
            have q2 : ∀ s, (ff s).cell? ⟨K.g, 2, none⟩ = some (.slice K.sa K.sn K.sc) := fun s => (hp s).cell rfl
            have q3 : ∀ s, (ff s).cell? ⟨K.g, 3, none⟩ = some (.slice (some ⟨K.gt, 0, none⟩) K.n K.n) := fun s => (hp s).cell rfl
            have q4 : ∀ s, (ff s).cell? ⟨K.g, 4, none⟩ = some (.slice svb svk svd) := fun s => (hp s).cell rfl
            have q5 : ∀ s, (ff s).cell? ⟨K.g, 5, none⟩ = some (.int .i64 sE.no) := fun s => (hp s).cell rfl
            have q6 : ∀ s, (ff s).cell? ⟨K.g, 6, none⟩ = some (.int .i64 sE.soiled) := fun s => (hp s).cell rfl
            have q7 : ∀ s, (ff s).cell? ⟨K.g, 7, none⟩ = some (.int .i64 (2)) := fun s => (hp s).cell rfl
            obtain ⟨Wd, hWd⟩ : ∃ Wd, (w9).drew = Wd := ⟨_, rfl⟩
            have b4d : Blk (w9).drew A 28 #[.int .i64 0, .slice none 0 0] := hprE.out.b4
            have b5d : Blk (w9).drew (A + 1) 72 wkZ := hprE.out.b5
            have hgE : Blk (w9).drew K.g 72 #[.slice K.a K.n K.c, .int .i64 (o), .slice K.sa K.sn K.sc, .slice (some ⟨K.gt, 0, none⟩) K.n K.n, (.slice svb svk svd), .int .i64 sE.no, .int .i64 sE.soiled, .int .i64 (2)] := hprE.out.ok.blk
            rw [hWd] at b4d b5d hgE
            have HS := Lib.hid (hsurj Wd hgE)
            have p0 : Wd.cell? ⟨A, 0, none⟩ = some (.int .i64 0) := b4d.cell rfl
            have p1 : Wd.cell? ⟨A, 1, none⟩ = some (.slice none 0 0) := b4d.cell rfl
            have y0 := b4d.frozen 0
            have y1 := b4d.frozen 1
            have r0 : Wd.cell? ⟨A + 1, 0, none⟩ = some (.slice none 0 0) := b5d.cell rfl
            have r1 : Wd.cell? ⟨A + 1, 1, none⟩ = some (.int .i64 0) := b5d.cell rfl
            have r2 : Wd.cell? ⟨A + 1, 2, none⟩ = some (.slice none 0 0) := b5d.cell rfl
            have r3 : Wd.cell? ⟨A + 1, 3, none⟩ = some (.slice none 0 0) := b5d.cell rfl
            have r4 : Wd.cell? ⟨A + 1, 4, none⟩ = some (.slice none 0 0) := b5d.cell rfl
            have r5 : Wd.cell? ⟨A + 1, 5, none⟩ = some (.int .i64 0) := b5d.cell rfl
            have r6 : Wd.cell? ⟨A + 1, 6, none⟩ = some (.int .i64 0) := b5d.cell rfl
            have r7 : Wd.cell? ⟨A + 1, 7, none⟩ = some (.int .i64 0) := b5d.cell rfl
            have z0 := b5d.frozen 0
            have z1 := b5d.frozen 1
            have z2 := b5d.frozen 2
            have z3 := b5d.frozen 3
            have z4 := b5d.frozen 4
            have z5 := b5d.frozen 5
            have z6 := b5d.frozen 6
            have z7 := b5d.frozen 7
            have hp' := Lib.hid hp
            have hsurj' := Lib.hid hsurj
            have b4d' := Lib.hid b4d
            have b5d' := Lib.hid b5d
            have hgE' := Lib.hid hgE
            clear hp hsurj b4d b5d hgE
            refine held_begin (S := fun W => ∃ s, W = ff s) (by kernel_rfl) 4 rfl ?_
            rw [hWd]
            have hWd' := Lib.hid hWd
            clear hWd
            refine held_take [0, 1] 2 (by kernel_rfl) (fun d _ _ _ _ h => by cases d <;> exact h) (by kernel_rfl) (by kernel_rfl) (by kernel_rfl) HS.out ?_
            simp only [pickL, List.map_cons, List.map_nil, List.getD_cons_succ, List.getD_cons_zero]
            iterate 2 (go_big_quiet_step (fail))
            refine wpQuiet_nil ?_
            refine held_one 2 1 (by kernel_rfl) (by kernel_rfl) ?_
            simp only [pickL, List.map_cons, List.map_nil, List.getD_cons_succ, List.getD_cons_zero]
            clear q0 q1 q2 q3 q4 q5 q6 q7
            go_wp2_with fail
            first | rw [Blk.set2_same b4d'.out] | skip
            refine Mid.mk ⟨HS.out, ?_⟩
            refine held_one 3 0 (by kernel_rfl) (by kernel_rfl) ?_
            simp only [pickL, List.map_cons, List.map_nil, List.getD_cons_succ, List.getD_cons_zero]
            go_wp2_with fail
            have hbt8 := But.set8 (w := Wd) (g := A + 1) (.slice K.a K.n K.c) (.int .i64 (o)) (.slice K.sa K.sn K.sc) (.slice (some ⟨K.gt, 0, none⟩) K.n K.n) (.slice svb svk svd) (.int .i64 sE.no) (.int .i64 sE.soiled) (.int .i64 (2))
            refine Mid.mk ⟨hsurj'.out _ (hgE'.out.but hbt8 (by omega)), ?_⟩
            refine held_last (by kernel_rfl) ?_
            clear p0 p1 y0 y1 r0 r1 r2 r3 r4 r5 r6 r7 z0 z1 z2 z3 z4 z5 z6 z7
            go_wp2_with fail
            refine bodyPost_ret (results_blk_blk rfl _ _ A (A + 1) 28 72 #[.int .i64 0, .slice none 0 0] #[.slice K.a K.n K.c, .int .i64 (o), .slice K.sa K.sn K.sc, .slice (some ⟨K.gt, 0, none⟩) K.n K.n, (.slice svb svk svd), .int .i64 sE.no, .int .i64 sE.soiled, .int .i64 (2)] _ _ rfl rfl (b4d'.out.but hbt8 (by omega)) (Blk.set8 b5d'.out _ _ _ _ _ _ _ _) Try.underlying28 rfl (by kernel_rfl) Try.underlying72 rfl (by kernel_rfl)) rfl ?_
            have hold0 : Below K.w0.heap.size K.w0 w9 := hprE.out.ok.old
            have hold : Below K.w0.heap.size K.w0 Wd := by rw [← hWd'.out]; exact hold0.trans (((Below.refl _ _).drew).mono hold0.size)
            exact ⟨hyE, hold.trans (hbt8.below (by have := hA'.out; omega) hold.size), _, _, _, _, _, _, _, rfl⟩
            -- }DEV
          · skip
            -- DEV{DIR
            have hch2 := hch'.out
            rw [if_pos hs1] at hch2
            obtain ⟨sh, rfl⟩ : ∃ sh : Nat, shi = sh := ⟨shi.toNat, by omega⟩
            have hshn : sh < K.sn := by omega
            obtain ⟨RD, hRD⟩ : ∃ RD, dirS K.z o (shps K.zs) 16 p (sh : Int) si = RD := ⟨_, rfl⟩
            have HDR : Calls Try.prog 37 #[.pointer (some ⟨K.g, 0, none⟩), .int .i64 p, .int .i64 sh] wr (DirU (dord K o) 16 svi wr RD) := by
              rw [← hRD]
              exact ddir_any (dord K o) tO'.out ho12 hshb'.out 16 p sh si svi tki wr hpr.out.ok hinvi'.out hp1 hp2 hshn (show K.sn ≤ sh + 16 by omega)
            rw [hRD] at hch2
            have d4 : decide ((sh : Int) < 0) = false := by simp
            have hinvD : ∀ r s', RD = .ok (r, s') → Inv K.n s' := fun r s' e => by
              have h := dirS_inv (hRD.trans e) (by rw [hzl'.out]; exact hinvi'.out)
              rw [hzl'.out] at h
              exact h
            have hnxt : ∀ d nx s', RD = .ok ((d, nx), s') → 0 ≤ nx ∧ nx ≤ 4294967295 := fun d nx s' e => dirS_next t0'.out.byt (hRD.trans e)
            have hn3 := hnx'.out sh hshn
            obtain ⟨snx, hsn⟩ : ∃ q, ((shps K.zs).getD sh shp0).2.2.2 = q := ⟨_, rfl⟩
            rw [Int.toNat_natCast, hsn] at hch2
            rw [hsn] at hn3
            have hshi3 : snx = -1 ∨ (0 ≤ snx ∧ snx < K.sn ∧ (K.sn : Int) - snx + 1 ≤ fu) := by
              rcases hn3 with h | h
              · exact .inl h
              · exact .inr ⟨by omega, h.2, by omega⟩
            have hfu3 : 1 ≤ fu := by omega
            have hsn' := Lib.hid hsn
            clear hRD hch' q1 hsn hn3
            have HDR' := Lib.hid HDR
            have hch2' := Lib.hid hch2
            have hinvD' := Lib.hid hinvD
            have hnxt' := Lib.hid hnxt
            clear HDR hch2 hinvD hnxt
            go_wp2_with fail
            refine HDR'.out.mono ?_
            rintro e w7 hpost
            obtain ⟨a1, a2, a3, n1, c1, n2, c2, n3, c3, nx, rfl, s7, sv7, tk7, E7, hok7, hmv7, hgd7, hbd7⟩ := hpost
            have hpr7 := hpr.out.mv2 hgA hgtA hmv7 hok7
            have hbT7 := hbT.out.mv hmv7 (show gT ≠ K.g by omega) (show gT ≠ K.gt by omega) (own_ne_blk hpr.out.ok.spot hbT.out (by decide))
            have hds7 := hds'.out.keep (Kp.mv hmv7 (show K.g < gT + 1 by omega) (show K.gt < gT + 1 by omega))
            have hTlt : gT + 1 ≤ wr.heap.size := hbT.out.lt
            have hgood7 : E7 = 0 → 0 ≤ nx ∧ nx ≤ 4294967295 ∧ Inv K.n s7 ∧ ∃ d, DirAt (Xv sv7) (gT + 1) w7 16 d (.slice a1 n1 c1, .slice a2 n2 c2, .slice a3 n3 c3) ∧ chainS K.z o (shps K.zs) fu (ds ++ [d]) nx snx s7 = R := fun h => by
              obtain ⟨⟨d, nx'⟩, e1, e2, e3⟩ := hgd7 h
              simp only at e2 e3
              subst e2
              have h1 := hnxt'.out d nx' s7 e1
              refine ⟨h1.1, h1.2, hinvD'.out _ _ e1, d, e3.mono hTlt, ?_⟩
              have h2 := hch2'.out
              rw [e1] at h2
              exact h2
            have hbad7 : E7 ≠ 0 → R = .error E7 := fun h => by
              have h2 := hch2'.out
              rw [hbd7 h] at h2
              exact h2.symm
            clear hmv7 hok7 hgd7 hbd7 HDR' hch2' hinvD' hnxt' hpr hbT hds' hinvi'
            have hpr7' := Lib.hid hpr7
            have hbT7' := Lib.hid hbT7
            have hds7' := Lib.hid hds7
            have hgood7' := Lib.hid hgood7
            have hbad7' := Lib.hid hbad7
            clear hpr7 hbT7 hds7 hgood7 hbad7
            go_upto_region 22 with fail
            have hal := (Below.refl w7.heap.size w7).alloc (Nat.le_refl _) (.cells #[.slice a1 n1 c1, .slice a2 n2 c2, .slice a3 n3 c3] 48)
            have b10 := Blk.new w7 48 #[.slice a1 n1 c1, .slice a2 n2 c2, .slice a3 n3 c3]
            have hpr8 := hpr7'.out.later hal
            have hbT8 := hbT7'.out.late hal
            have hds8 := hds7'.out.keep (Kp.later hal)
            have hgood8 : E7 = 0 → 0 ≤ nx ∧ nx ≤ 4294967295 ∧ Inv K.n s7 ∧ ∃ d, DirAt (Xv sv7) (gT + 1) (w7.alloc (.cells #[.slice a1 n1 c1, .slice a2 n2 c2, .slice a3 n3 c3] 48)) 16 d (.slice a1 n1 c1, .slice a2 n2 c2, .slice a3 n3 c3) ∧ chainS K.z o (shps K.zs) fu (ds ++ [d]) nx snx s7 = R := fun h => by
              obtain ⟨e1, e2, e3, d, e4, e5⟩ := hgood7'.out h
              exact ⟨e1, e2, e3, d, e4.keep (Kp.later hal), e5⟩
            clear hal hpr7' hbT7' hds7' hgood7'
            generalize w7.alloc (.cells #[.slice a1 n1 c1, .slice a2 n2 c2, .slice a3 n3 c3] 48) = w8 at *
            generalize w7.heap.size = g10 at *
            have q1 : w8.cell? ⟨gT, 1, none⟩ = some (.slice ad m cd) := hbT8.cell rfl
            have e0 : w8.cell? ⟨g10, 0, none⟩ = some (.slice a1 n1 c1) := b10.cell rfl
            have e1 : w8.cell? ⟨g10, 1, none⟩ = some (.slice a2 n2 c2) := b10.cell rfl
            have e2 : w8.cell? ⟨g10, 2, none⟩ = some (.slice a3 n3 c3) := b10.cell rfl
            have hal := (Below.refl w8.heap.size w8).alloc (Nat.le_refl _) (.cells #[.slice a1 n1 c1, .slice a2 n2 c2, .slice a3 n3 c3] 48)
            have hpr9 := hpr8.later hal
            have hbT9 := hbT8.late hal
            have hds9 := hds8.keep (Kp.later hal)
            have hgood9 : E7 = 0 → 0 ≤ nx ∧ nx ≤ 4294967295 ∧ Inv K.n s7 ∧ ∃ d, DirAt (Xv sv7) (gT + 1) (w8.alloc (.cells #[.slice a1 n1 c1, .slice a2 n2 c2, .slice a3 n3 c3] 48)) 16 d (.slice a1 n1 c1, .slice a2 n2 c2, .slice a3 n3 c3) ∧ chainS K.z o (shps K.zs) fu (ds ++ [d]) nx snx s7 = R := fun h => by
              obtain ⟨e1, e2, e3, d, e4, e5⟩ := hgood8 h
              exact ⟨e1, e2, e3, d, e4.keep (Kp.later hal), e5⟩
            obtain ⟨dzs, hz1', hz2', hz3'⟩ := hds9
            have hown9 : (w8.alloc (.cells #[.slice a1 n1 c1, .slice a2 n2 c2, .slice a3 n3 c3] 48)).ownsRow (gT + 1) 48 3 (.slice ad m cd) m (fl dvC dzs) := by have h := hz2'.1; rw [hz1', ← hmd'.out] at h; exact h
            have hX9 : ∀ k, (Value.slice ad m cd).ownBlock = some k → ¬ Xv sv7 k := hz2'.2
            have hds9 : ∃ dzs : List Dz, dzs.length = ds.length ∧ Ck (Xv sv7) (gT + 1) (w8.alloc (.cells #[.slice a1 n1 c1, .slice a2 n2 c2, .slice a3 n3 c3] 48)) (.slice ad m cd) 48 3 dzs.length (fl dvC dzs) ∧ ∀ i (h : i < dzs.length) (h' : i < ds.length), DirAt (Xv sv7) (gT + 1) (w8.alloc (.cells #[.slice a1 n1 c1, .slice a2 n2 c2, .slice a3 n3 c3] 48)) 16 ds[i] dzs[i] := ⟨dzs, hz1', hz2', hz3'⟩
            have hnT : (Value.slice ad m cd).ownBlock ≠ some gT := fun e => by have := (hown9.lt _ e).1; omega
            have hsz9 : gT + 1 ≤ (w8.alloc (.cells #[.slice a1 n1 c1, .slice a2 n2 c2, .slice a3 n3 c3] 48)).heap.size := hbT9.lt
            have hm17 : m + 1 ≤ 18 := by rw [hmd'.out]; omega
            clear hz1' hz2' hz3' hal hpr8 hbT8 hds8 hgood8
            have b10' := Lib.hid b10
            have hpr9' := Lib.hid hpr9
            have hbT9' := Lib.hid hbT9
            have hds9' := Lib.hid hds9
            have hgood9' := Lib.hid hgood9
            have hown9' := Lib.hid hown9
            have hX9' := Lib.hid hX9
            have hnT' := Lib.hid hnT
            clear b10 hpr9 hbT9 hds9 hgood9 hown9 hX9 hnT
            go_upto_region 23 with (at_builtin; refine wpList_app2 rfl _ _ 26 rfl (gT + 1) 48 i0 z0 3 72 Try.underlying26 hi0 hz hz1 hz2 hz3 (by decide) (.slice ad m cd) m _ rfl hown9'.out ⟨w8.heap.size, 0, none⟩ 1 1 (dvC (.slice a1 n1 c1, .slice a2 n2 c2, .slice a3 n3 c3)) rfl (Sl.new w8 48 3 1 #[.slice a1 n1 c1, .slice a2 n2 c2, .slice a3 n3 c3] (0, 0) (by omega) rfl) (dvC_sl2 _ _ _ _ _ _ _ _ _) (by omega) (by decide) hsz9 ?_; intro a9 c9 w9 ob hg9 ho9; have Ob := Lib.hid ob; have Hg9 := Lib.hid hg9; have Ho9 := Lib.hid ho9; have bTA := Lib.hid (hbT9'.out.grown hg9 hnT'.out); have p91 : w9.cell? ⟨gT, 1, none⟩ = some (.slice ad m cd) := bTA.out.cell rfl; have y91 := bTA.out.frozen 1; clear ob hg9 ho9)
            clear q1 e0 e1 e2
            have hbt := (But.refl gT w9).set 1 (.slice a9 (m + 1) c9)
            have hnT7 : sv7.ownBlock ≠ some gT := own_ne_blk hpr9'.out.ok.spot hbT9'.out (by decide)
            have hprA := (hpr9'.out.grown Hg9.out (fun r e => by
              have h1 := (hown9'.out.lt r e).1
              exact ⟨show r ≠ K.g by omega, show r ≠ K.gt by omega, fun h => hX9'.out r e h, by omega⟩) (Nat.le_of_eq hA'.out)).but hbt (show gT ≠ K.g by omega) (show gT ≠ K.gt by omega) hnT7 (by omega) (Nat.le_of_eq hA'.out)
            have hbTB := bTA.out.set 1 (.slice a9 (m + 1) c9)
            have hX9n : ∀ k, (Value.slice a9 (m + 1) c9).ownBlock = some k → ¬ Xv sv7 k := fun k e h => by
              rcases Ho9.out k e with h1 | h1
              · exact hX9'.out k h1 h
              · have := (hpr9'.out.ok.spot.lt k h).2; omega
            have hgoodB : E7 = 0 → 0 ≤ nx ∧ nx ≤ 4294967295 ∧ Inv K.n s7 ∧ ∃ d, DirsAt (Xv sv7) (gT + 1) (w9.setCell ⟨gT, 1, none⟩ (.slice a9 (m + 1) c9)) (.slice a9 (m + 1) c9) (ds ++ [d]) ∧ chainS K.z o (shps K.zs) fu (ds ++ [d]) nx snx s7 = R := fun h => by
              obtain ⟨e1, e2, e3, d, e4, e5⟩ := hgood9'.out h
              obtain ⟨dzsB, hB1, hB2, hB3⟩ := DirsAt.snoc (v' := .slice a9 (m + 1) c9) (dz := (.slice a1 n1 c1, .slice a2 n2 c2, .slice a3 n3 c3)) hds9'.out Hg9.out hX9n (fun zs2 h2 => by rw [← hmd'.out] at h2 ⊢; rw [own_inj h2 hown9'.out]; exact Ob.out) e4
              exact ⟨e1, e2, e3, d, ⟨dzsB, hB1, hB2.keep (kp_but hbt (by omega)), fun i h h' => (hB3 i h h').keep (kp_but hbt (by omega))⟩, e5⟩
            clear p91 y91 hbt hnT7 hX9n b10' hpr9' hbT9' hds9' hgood9' hown9' hX9' hnT'
            generalize w9.setCell ⟨gT, 1, none⟩ (.slice a9 (m + 1) c9) = wB at *
            have hshr : ShR wB K.sa K.sn K.sc K.zs := hprA.ok.shps tO'.out
            obtain ⟨bb, oo, hsa, hbb, fe⟩ := hshr.row.elem shc_len (by decide) shz0 hshn
            have f3 := fe 3 _ rfl
            have hsnx : (K.zs.getD sh shz0).2.2.2.2 = snx := by rw [← hsn'.out, shps_get (by rw [hsl'.out]; exact hshn)]
            rw [hsnx] at f3
            have hix : ∀ W, (Instr.indexAt 36 (.slice K.sa K.sn K.sc) (.int .i64 (sh : Int))).run Try.prog W = .ok (.pointer (some ⟨bb, oo + sh * 4, none⟩)) W := fun W => by
              have hsz : (sizeOf (Program.elem Try.prog 36)).run Try.prog W = .ok 4 W := by kernel_rfl
              rw [hsa, run_indexAt_slice (h := by kernel_rfl), if_pos (by omega), hsz]
              simp [Result.andThen, Addr.add]
            have hll : ∀ d, (ds ++ [d]).length = m + 1 := fun d => by simp [hmd'.out]
            clear fe hsnx hsa hshr hbb
            have hprA' := Lib.hid hprA
            have hbTB' := Lib.hid hbTB
            have hgoodB' := Lib.hid hgoodB
            have hll' := Lib.hid hll
            clear hprA hbTB hgoodB hll
            go_wp2_with fail
            go_roundw
            case rel => exact ⟨nx, snx, s7, sv7, tk7, E7, a9, m + 1, c9, rfl, rfl, hm17, hprA', hbTB', Lib.hid (fun h => by
              obtain ⟨e1, e2, e3, d, e4, e5⟩ := hgoodB'.out h
              exact ⟨e1, e2, fu, ds ++ [d], (hll'.out d).symm, hfu3, by rw [hll'.out d, hmd'.out]; omega, hshi3, e5, e3, e4⟩), hbad7'⟩
            case measure => exact len_down (hbTB'.out.cell rfl) hqm'.out (by show 18 - (m + 1) < 18 - m; omega)
            -- }DEV
end Go.Proofs.Ytheelhepelbgcaa

namespace Go.Proofs.Ytheelhepelbgcaa
open Go.RowKit Tt
set_option linter.unusedVariables false
set_option linter.unusedSimpArgs false

set_option maxRecDepth 20000 in
set_option maxHeartbeats 8000000 in
theorem rof22_any (a : Option Addr) (n c : Nat) (z : List Int) (sa : Option Addr) (sn sc : Nat) (zs : List Shz) (w : World) (hs : Sl w a n c 1 (ints .u8 z)) (hsh : ShR w sa sn sc zs) (hby : Byt z) (hn : n ≤ 1000000) :
    Calls Try.prog 11 #[.slice a n c, .slice sa sn sc] w (WofPost w (orderS z) (readS z (shps zs))) := by
  have bp := Blk.new w 28 #[.int .i64 0, .slice none 0 0]
  have hbW := (Below.refl w.heap.size w).alloc (Nat.le_refl _) (.cells #[.int .i64 0, .slice none 0 0] 28)
  obtain ⟨W, hW⟩ : ∃ W, w.alloc (.cells #[.int .i64 0, .slice none 0 0] 28) = W := ⟨_, rfl⟩
  rw [hW] at bp hbW
  have HB := rread22_any a n c z sa sn sc zs W (hs.mono hbW) (hsh.mono hbW) hby hn
  obtain ⟨R, hR⟩ : ∃ R, readS z (shps zs) = R := ⟨_, rfl⟩
  rw [hR] at HB
  rw [hR]
  have hlt := bp.lt
  obtain ⟨A, hA⟩ : ∃ A, w.heap.size = A := ⟨_, rfl⟩
  rw [hA] at bp hlt
  have hA' := Lib.hid hA
  have hs' := Lib.hid hs
  have hsh' := Lib.hid hsh
  have hby' := Lib.hid hby
  have bp' := Lib.hid bp
  have hbW' := Lib.hid hbW
  have HB' := Lib.hid HB
  have hR' := Lib.hid hR
  clear hs hsh hby bp hbW HB hR
  go_enter Try.func11, Try.ntmps11
  go_upto_region 1 with fail
  try rw [hW]
  try rw [hA]
  clear hW hA
  go_wp2_with fail
  refine HB'.out.mono ?_
  rintro e w1 hpost
  cases R with
  | error x =>
    obtain ⟨hx0, hb1, o', gt, b, k, d, no, so, rfl⟩ := hpost
    have hbw := hbW'.out.trans (hb1.mono hbW'.out.size)
    have bp1 := bp'.out.late hb1
    have d1 : (x != 0) = true := by simp; exact hx0
    clear hb1 hx0 bp' hbW' HB'
    have hbw' := Lib.hid hbw
    have bp1' := Lib.hid bp1
    clear hbw bp1
    go_upto_region 3 with fail
    obtain ⟨W2, hW2⟩ : ∃ W2, (w1.alloc (.cells #[.int .i64 0, .slice none 0 0] 28)).alloc (.cells #[.slice a n c, .int .i64 o', .slice sa sn sc, .slice (some ⟨gt, 0, none⟩) n n, .slice b k d, .int .i64 no, .int .i64 so, .int .i64 x] 72) = W2 := ⟨_, rfl⟩
    have bt : Blk W2 w1.heap.size 28 #[.int .i64 0, .slice none 0 0] := by rw [← hW2]; exact (Blk.new w1 _ _).alloc _
    have bk : Blk W2 (w1.heap.size + 1) 72 #[.slice a n c, .int .i64 o', .slice sa sn sc, .slice (some ⟨gt, 0, none⟩) n n, .slice b k d, .int .i64 no, .int .i64 so, .int .i64 x] := by rw [← hW2]; exact heap_new' _ _ (by simp)
    have hb2 : Below w1.heap.size w1 W2 := by rw [← hW2]; exact ((Below.refl w1.heap.size w1).alloc (Nat.le_refl _) _).alloc (by simp) _
    rw [hW2]
    have hbw2 := hbw'.out.trans (hb2.mono hbw'.out.size)
    have bp2 := bp1'.out.late hb2
    obtain ⟨Wd, hWd⟩ : ∃ Wd, W2.drew = Wd := ⟨_, rfl⟩
    have btd : Blk W2.drew w1.heap.size 28 _ := bt
    have bkd : Blk W2.drew (w1.heap.size + 1) 72 _ := bk
    have bpd : Blk W2.drew A 28 #[.int .i64 0, .slice none 0 0] := bp2
    have hbwd : Below w.heap.size w W2.drew := hbw2.trans (((Below.refl _ _).drew).mono hbw2.size)
    have hkd : Below w1.heap.size w1 W2.drew := hb2.trans (((Below.refl _ _).drew).mono hb2.size)
    rw [hWd] at btd bkd bpd hbwd hkd
    have hlt1 := bp1'.out.lt
    obtain ⟨Ty, ff, hne, hp, hsurj⟩ := prop_worlds (fun W => Blk W (w1.heap.size + 1) 72 #[.slice a n c, .int .i64 o', .slice sa sn sc, .slice (some ⟨gt, 0, none⟩) n n, .slice b k d, .int .i64 no, .int .i64 so, .int .i64 x]) W2 bk
    have q7 : ∀ s, (ff s).cell? ⟨w1.heap.size + 1, 7, none⟩ = some (.int .i64 x) := fun s => (hp s).cell rfl
    have HS := Lib.hid (hsurj Wd bkd)
    have p0 : Wd.cell? ⟨A, 0, none⟩ = some (.int .i64 0) := bpd.cell rfl
    have p1 : Wd.cell? ⟨A, 1, none⟩ = some (.slice none 0 0) := bpd.cell rfl
    have y0 := bpd.frozen 0
    have y1 := bpd.frozen 1
    clear hW2 bt bk hb2 hbw2 bp2
    have hp' := Lib.hid hp
    have hsurj' := Lib.hid hsurj
    have btd' := Lib.hid btd
    have bkd' := Lib.hid bkd
    have bpd' := Lib.hid bpd
    have hbwd' := Lib.hid hbwd
    have hkd' := Lib.hid hkd
    clear hp hsurj btd bkd bpd hbwd hkd
    refine held_begin (S := fun W => ∃ s, W = ff s) (by kernel_rfl) 6 rfl ?_
    rw [hWd]
    clear hWd
    refine held_take [0, 1, 2] 3 (by kernel_rfl) (fun d _ _ _ _ h => by cases d <;> exact h) (by kernel_rfl) (by kernel_rfl) (by kernel_rfl) HS.out ?_
    simp only [pickL, List.map_cons, List.map_nil, List.getD_cons_succ, List.getD_cons_zero]
    iterate 3 (go_big_quiet_step (fail))
    refine wpQuiet_nil ?_
    refine held_one 3 2 (by kernel_rfl) (by kernel_rfl) ?_
    simp only [pickL, List.map_cons, List.map_nil, List.getD_cons_succ, List.getD_cons_zero]
    clear q7
    go_wp2_with fail
    first | rw [Blk.set2_same bpd'.out] | skip
    refine Mid.mk ⟨HS.out, ?_⟩
    refine held_take [4, 5] 0 (by kernel_rfl) (fun d _ _ _ _ h => by cases d <;> exact h) (by kernel_rfl) (by kernel_rfl) (by kernel_rfl) HS.out ?_
    simp only [pickL, List.map_cons, List.map_nil, List.getD_cons_succ, List.getD_cons_zero]
    iterate 2 (go_big_quiet_step (fail))
    refine wpQuiet_nil ?_
    refine held_last (by kernel_rfl) ?_
    clear p0 p1 y0 y1
    go_wp2_with fail
    refine bodyPost_ret (results_blk_tmp2 rfl _ _ A 28 #[.int .i64 0, .slice none 0 0] _ rfl bpd'.out Try.underlying28 rfl (by kernel_rfl)) rfl ?_
    exact ⟨rfl, hbwd'.out⟩
  | ok r =>
    obtain ⟨ds, s⟩ := r
    obtain ⟨hb1, gt, b, k, d, ad, m, cd, tk, rfl, hds, hsp, hrow, htl, hgt, hbits⟩ := hpost
    clear hrow htl hbits
    have hbw := hbW'.out.trans (hb1.mono hbW'.out.size)
    have bp1 := bp'.out.late hb1
    clear hb1 bp' hbW' HB'
    obtain ⟨oo, hoo⟩ : ∃ o, orderS z = o := ⟨_, rfl⟩
    rw [hoo]
    have hbw' := Lib.hid hbw
    have bp1' := Lib.hid bp1
    have hds' := Lib.hid hds
    have hsp' := Lib.hid hsp
    clear hbw bp1 hds hsp
    go_upto_region 4 with fail
    obtain ⟨W2, hW2⟩ : ∃ W2, (w1.alloc (.cells #[.int .i64 oo, .slice ad m cd] 28)).alloc (.cells #[.slice a n c, .int .i64 oo, .slice sa sn sc, .slice (some ⟨gt, 0, none⟩) n n, .slice b k d, .int .i64 s.no, .int .i64 s.soiled, .int .i64 0] 72) = W2 := ⟨_, rfl⟩
    have bt : Blk W2 w1.heap.size 28 #[.int .i64 oo, .slice ad m cd] := by rw [← hW2]; exact (Blk.new w1 _ _).alloc _
    have bk : Blk W2 (w1.heap.size + 1) 72 #[.slice a n c, .int .i64 oo, .slice sa sn sc, .slice (some ⟨gt, 0, none⟩) n n, .slice b k d, .int .i64 s.no, .int .i64 s.soiled, .int .i64 0] := by rw [← hW2]; exact heap_new' _ _ (by simp)
    have hb2 : Below w1.heap.size w1 W2 := by rw [← hW2]; exact ((Below.refl w1.heap.size w1).alloc (Nat.le_refl _) _).alloc (by simp) _
    rw [hW2]
    have hbw2 := hbw'.out.trans (hb2.mono hbw'.out.size)
    have bp2 := bp1'.out.late hb2
    obtain ⟨Wd, hWd⟩ : ∃ Wd, W2.drew = Wd := ⟨_, rfl⟩
    have btd : Blk W2.drew w1.heap.size 28 _ := bt
    have bkd : Blk W2.drew (w1.heap.size + 1) 72 _ := bk
    have bpd : Blk W2.drew A 28 #[.int .i64 0, .slice none 0 0] := bp2
    have hbwd : Below w.heap.size w W2.drew := hbw2.trans (((Below.refl _ _).drew).mono hbw2.size)
    have hkd : Below w1.heap.size w1 W2.drew := hb2.trans (((Below.refl _ _).drew).mono hb2.size)
    rw [hWd] at btd bkd bpd hbwd hkd
    have hlt1 := bp1'.out.lt
    obtain ⟨Ty, ff, hne, hp, hsurj⟩ := prop_worlds (fun W => Blk W w1.heap.size 28 #[.int .i64 oo, .slice ad m cd] ∧ Blk W (w1.heap.size + 1) 72 #[.slice a n c, .int .i64 oo, .slice sa sn sc, .slice (some ⟨gt, 0, none⟩) n n, .slice b k d, .int .i64 s.no, .int .i64 s.soiled, .int .i64 0]) W2 ⟨bt, bk⟩
    have q4 : ∀ s', (ff s').cell? ⟨w1.heap.size + 1, 4, none⟩ = some (.slice b k d) := fun s => (hp s).2.cell rfl
    have t0 : ∀ s, (ff s).cell? ⟨w1.heap.size, 0, none⟩ = some (.int .i64 oo) := fun s => (hp s).1.cell rfl
    have t1 : ∀ s, (ff s).cell? ⟨w1.heap.size, 1, none⟩ = some (.slice ad m cd) := fun s => (hp s).1.cell rfl
    have HS := Lib.hid (hsurj Wd ⟨btd, bkd⟩)
    have p0 : Wd.cell? ⟨A, 0, none⟩ = some (.int .i64 0) := bpd.cell rfl
    have p1 : Wd.cell? ⟨A, 1, none⟩ = some (.slice none 0 0) := bpd.cell rfl
    have y0 := bpd.frozen 0
    have y1 := bpd.frozen 1
    clear hW2 bt bk hb2 hbw2 bp2
    have hoo' := Lib.hid hoo
    clear hoo
    have hp' := Lib.hid hp
    have hsurj' := Lib.hid hsurj
    have btd' := Lib.hid btd
    have bkd' := Lib.hid bkd
    have bpd' := Lib.hid bpd
    have hbwd' := Lib.hid hbwd
    have hkd' := Lib.hid hkd
    clear hp hsurj btd bkd bpd hbwd hkd
    refine held_begin (S := fun W => ∃ s, W = ff s) (by kernel_rfl) 6 rfl ?_
    rw [hWd]
    clear hWd
    refine held_take [0, 1, 2] 3 (by kernel_rfl) (fun d _ _ _ _ h => by cases d <;> exact h) (by kernel_rfl) (by kernel_rfl) (by kernel_rfl) HS.out ?_
    simp only [pickL, List.map_cons, List.map_nil, List.getD_cons_succ, List.getD_cons_zero]
    iterate 3 (go_big_quiet_step (fail))
    refine wpQuiet_nil ?_
    refine held_one 3 2 (by kernel_rfl) (by kernel_rfl) ?_
    simp only [pickL, List.map_cons, List.map_nil, List.getD_cons_succ, List.getD_cons_zero]
    clear q4 t0 t1
    go_wp2_with fail
    have hbt := ((But.refl A Wd).set 0 (.int .i64 oo)).set 1 (.slice ad m cd)
    have bpe : Blk ((Wd.setCell ⟨A, 0, none⟩ (.int .i64 oo)).setCell ⟨A, 1, none⟩ (.slice ad m cd)) A 28 #[.int .i64 oo, .slice ad m cd] := (bpd'.out.set 0 (.int .i64 oo)).set 1 (.slice ad m cd)
    have HS := Lib.hid (hsurj'.out _ ⟨btd'.out.but hbt (by omega), bkd'.out.but hbt (by omega)⟩)
    refine Mid.mk ⟨HS.out, ?_⟩
    refine held_take [4, 5] 0 (by kernel_rfl) (fun d _ _ _ _ h => by cases d <;> exact h) (by kernel_rfl) (by kernel_rfl) (by kernel_rfl) HS.out ?_
    simp only [pickL, List.map_cons, List.map_nil, List.getD_cons_succ, List.getD_cons_zero]
    iterate 2 (go_big_quiet_step (fail))
    refine wpQuiet_nil ?_
    refine held_last (by kernel_rfl) ?_
    clear p0 p1 y0 y1
    go_wp2_with fail
    refine bodyPost_ret (results_blk_tmp2 rfl _ _ A 28 #[.int .i64 oo, .slice ad m cd] _ rfl bpe Try.underlying28 rfl (by kernel_rfl)) rfl ?_
    have hWA : w.heap.size ≤ W.heap.size := by have := hA'.out; omega
    refine ⟨ad, m, cd, b, k, d, by first | rfl | (rw [hoo'.out]; rfl) | (simp; exact hoo'.out.symm), hbwd'.out.trans (hbt.below (by have := hA'.out; omega) hbwd'.out.size), ?_, ?_⟩
    · obtain ⟨dzs, e1, e2, e3⟩ := hds'.out
      exact ⟨dzs, e1, ((e2.keep (Kp.later hkd'.out)).keep (kp_but hbt hlt)).mono hWA, fun i h h' => (((e3 i h h').keep (Kp.later hkd'.out)).keep (kp_but hbt hlt)).mono hWA⟩
    · have h1 := own_later hsp'.out hkd'.out
      exact own_mono (own_but h1 hbt (fun e => by have := (hsp'.out.lt _ e).1; omega)) hWA
theorem cleanS_no {z : List Int} {L : List Shp} {e : Int} (h : readS z L = .error e) : cleanS z L = false := by unfold cleanS; rw [h]
theorem cleanS_soiled {z : List Int} {L : List Shp} {ds : List (DirT 16)} {s : St} (h : readS z L = .ok (ds, s)) (hs : 0 < s.soiled) : cleanS z L = false := by
  unfold cleanS
  rw [h]
  simp
  intro h2
  omega
theorem cleanS_at {z : List Int} {L : List Shp} {ds : List (DirT 16)} {s : St} (h : readS z L = .ok (ds, s)) {k : Nat} (hk : k < z.length) (h0 : z.getD k 0 ≠ 0) (ht : takenB s k = false) : cleanS z L = false := by
  unfold cleanS
  rw [h]
  simp only [Bool.and_eq_false_iff]
  refine .inr (List.all_eq_false.2 ⟨k, List.mem_range.2 hk, ?_⟩)
  rw [ht]
  simp
  simpa [List.getD_eq_getElem?_getD] using h0
theorem cleanS_yes {z : List Int} {L : List Shp} {ds : List (DirT 16)} {s : St} (h : readS z L = .ok (ds, s)) (hs : s.soiled ≤ 0) (ha : ∀ k : Nat, k < z.length → z.getD k 0 = 0 ∨ takenB s k = true) : cleanS z L = true := by
  unfold cleanS
  rw [h]
  simp only [Bool.and_eq_true, decide_eq_true_eq]
  refine ⟨by omega, List.all_eq_true.2 (fun k hk => ?_)⟩
  rcases ha k (List.mem_range.1 hk) with h1 | h1
  · simp only [decide_eq_true h1, Bool.true_or]
  · rw [h1, Bool.or_true]
set_option maxRecDepth 20000 in
set_option maxHeartbeats 8000000 in
theorem rclean22_any (a : Option Addr) (n c : Nat) (z : List Int) (sa : Option Addr) (sn sc : Nat) (zs : List Shz) (w : World) (hs : Sl w a n c 1 (ints .u8 z)) (hsh : ShR w sa sn sc zs) (hby : Byt z) (hn : n ≤ 1000000) :
    Calls Try.prog 15 #[.slice a n c, .slice sa sn sc] w fun e w' => e = .returned (.bool (cleanS z (shps zs))) ∧ Below w.heap.size w w' := by
  have hzl := hs.ilen
  have HB := rread22_any a n c z sa sn sc zs w hs hsh hby hn
  obtain ⟨R, hR⟩ : ∃ R, readS z (shps zs) = R := ⟨_, rfl⟩
  rw [hR] at HB
  obtain ⟨q, hq⟩ : ∃ b, cleanS z (shps zs) = b := ⟨_, rfl⟩
  rw [hq]
  have hs' := Lib.hid hs
  have hsh' := Lib.hid hsh
  have hby' := Lib.hid hby
  have HB' := Lib.hid HB
  have hR' := Lib.hid hR
  have hzl' := Lib.hid hzl
  have hq' := Lib.hid hq
  clear hs hsh hby HB hR hzl hq
  go_enter Try.func15, Try.ntmps15
  go_wp2_with fail
  refine HB'.out.mono ?_
  rintro e w1 hpost
  cases R with
  | error x =>
    obtain ⟨hx0, hb1, o', gt, b, k, d, no, so, rfl⟩ := hpost
    have d1 : (x != 0) = true := by simp; exact hx0
    obtain rfl : q = false := by rw [← hq'.out, cleanS_no hR'.out]
    clear hx0 HB'
    have hb1' := Lib.hid hb1
    clear hb1
    go_wp2_with fail
    go_ret
    exact ⟨rfl, hb1'.out.trans (((Below.refl w1.heap.size w1).alloc (Nat.le_refl _) _).alloc (by simp) _ |>.mono hb1'.out.size)⟩
  | ok r =>
    obtain ⟨ds, s⟩ := r
    obtain ⟨hb1, gt, b, k, d, ad, m, cd, tk, rfl, hds, hsp, hrow, htl, hgt, hbits⟩ := hpost
    clear hds hsp HB'
    obtain ⟨so, hso⟩ : ∃ v, s.soiled = v := ⟨_, rfl⟩
    rw [hso]
    by_cases hs0 : 0 < so
    · have d1 : decide (0 < so) = true := by simp; exact hs0
      obtain rfl : q = false := by rw [← hq'.out, cleanS_soiled hR'.out (by rw [hso]; exact hs0)]
      clear hso hs0 hrow htl hbits
      have hb1' := Lib.hid hb1
      clear hb1
      go_wp2_with fail
      go_ret
      exact ⟨rfl, hb1'.out.trans (((Below.refl w1.heap.size w1).alloc (Nat.le_refl _) _).alloc (by simp) _ |>.mono hb1'.out.size)⟩
    · have d1 : decide (0 < so) = false := by simp; omega
      have hs0' := Lib.hid (show ¬ 0 < s.soiled by rw [hso]; exact hs0)
      clear hso hs0
      obtain ⟨oo, hoo⟩ : ∃ o, orderS z = o := ⟨_, rfl⟩
      rw [hoo]
      clear hoo
      have hb1' := Lib.hid hb1
      have hrow' := Lib.hid hrow
      have htl' := Lib.hid htl
      have hbits' := Lib.hid hbits
      clear hb1 hrow htl hbits
      go_upto_region 4 with fail
      obtain ⟨W2, hW2⟩ : ∃ W2, (w1.alloc (.cells #[.int .i64 oo, .slice ad m cd] 28)).alloc (.cells #[.slice a n c, .int .i64 oo, .slice sa sn sc, .slice (some ⟨gt, 0, none⟩) n n, .slice b k d, .int .i64 s.no, .int .i64 so, .int .i64 0] 72) = W2 := ⟨_, rfl⟩
      have bk : Blk W2 (w1.heap.size + 1) 72 #[.slice a n c, .int .i64 oo, .slice sa sn sc, .slice (some ⟨gt, 0, none⟩) n n, .slice b k d, .int .i64 s.no, .int .i64 so, .int .i64 0] := by rw [← hW2]; exact heap_new' _ _ (by simp)
      have hb2 : Below w1.heap.size w1 W2 := by rw [← hW2]; exact ((Below.refl w1.heap.size w1).alloc (Nat.le_refl _) _).alloc (by simp) _
      rw [hW2]
      have hbw2 := hb1'.out.trans (hb2.mono hb1'.out.size)
      have row2 : Row W2 gt 3 .i64 tk := Blk.late (T := 3) hrow'.out hb2
      obtain ⟨g6, hg6⟩ : ∃ g, w1.heap.size + 1 = g := ⟨_, rfl⟩
      rw [hg6] at bk
      rw [hg6]
      clear hW2 hb2 hb1' hrow' hg6
      have bk' := Lib.hid bk
      have hbw2' := Lib.hid hbw2
      have row2' := Lib.hid row2
      clear bk hbw2 row2
      go_wp2_with fail
      go_loopw [7] (fun iv wr => ∃ (i : Nat), i ≤ n ∧ iv = .int .i64 i ∧ W2 = wr ∧ Hid (∀ k : Nat, k < i → z.getD k 0 = 0 ∨ takenB s k = true)) (fun iv _ => n - (intOf iv).toNat)
      case atStart => exact ⟨0, by omega, rfl, rfl, Lib.hid (fun k hk => by omega)⟩
      case round =>
        obtain ⟨i, hi, rfl, rfl, hall⟩ := hrel
        by_cases hlt : i < n
        · have hin : (i : Int) < n := by omega
          have k3 : W2.cell? ⟨g6, 3, none⟩ = some (.slice (some ⟨gt, 0, none⟩) n n) := bk'.out.cell rfl
          have f0 := row2'.out.cell (i := i) (by rw [htl'.out]; exact hlt)
          rw [hbits'.out i hlt] at f0
          obtain ⟨bt, hbt⟩ : ∃ b, takenB s i = b := ⟨_, rfl⟩
          rw [hbt] at f0
          obtain ⟨qp, hqi, _, hqc⟩ := byte_at (hs'.out.mono hbw2'.out) i hlt
          obtain ⟨xv, hxv⟩ : ∃ v, z.getD i 0 = v := ⟨_, rfl⟩
          rw [hxv] at hqc
          cases bt with
          | true =>
            rw [if_pos rfl] at f0
            have hbt' := Lib.hid hbt
            have hxv' := Lib.hid hxv
            clear hbt hxv
            go_wp2_with fail
            go_roundw
            case rel => exact ⟨i + 1, by omega, by go_num, by first | rfl | trivial, Lib.hid (fun k hk => by
              by_cases hki : k = i
              · subst hki; exact .inr hbt'.out
              · exact hall.out k (by omega))⟩
            case measure => simp [intOf]; omega
          | false =>
            rw [if_neg (by decide)] at f0
            by_cases hx0 : xv = 0
            · have d0 : (xv != 0) = false := by simp [hx0]
              have hbt' := Lib.hid hbt
              have hxv' := Lib.hid hxv
              have hx0' := Lib.hid hx0
              clear hbt hxv hx0
              go_wp2_with fail
              go_roundw
              case rel => exact ⟨i + 1, by omega, by go_num, by first | rfl | trivial, Lib.hid (fun k hk => by
                by_cases hki : k = i
                · subst hki; exact .inl (hxv'.out.trans hx0'.out)
                · exact hall.out k (by omega))⟩
              case measure => simp [intOf]; omega
            · have d0 : (xv != 0) = true := by simp; exact hx0
              obtain rfl : q = false := by rw [← hq'.out, cleanS_at hR'.out (k := i) (by rw [hzl'.out]; exact hlt) (by rw [hxv]; exact hx0) hbt]
              clear hx0 hxv hbt
              go_wp2_with fail
              go_ret
              exact ⟨rfl, hbw2'.out⟩
        · obtain rfl : q = true := by rw [← hq'.out, cleanS_yes hR'.out (by have := hs0'.out; omega) (fun k hk => hall.out k (by rw [hzl'.out] at hk; omega))]
          obtain rfl : i = n := by omega
          go_wp2_with fail
          go_ret
          exact ⟨rfl, hbw2'.out⟩
set_option maxRecDepth 20000 in
set_option maxHeartbeats 8000000 in
theorem wclean_any (hD : DirOk) (a : Option Addr) (n c : Nat) (z : List Int) (sa : Option Addr) (sn sc : Nat) (zs : List Shz) (w : World) (hs : Sl w a n c 1 (ints .u8 z)) (hsh : ShR w sa sn sc zs) (hby : Byt z) (hn : n ≤ 1000000) :
    Calls Try.prog 14 #[.slice a n c, .slice sa sn sc] w fun e w' => e = .returned (.bool (cleanS z (shps zs))) ∧ Below w.heap.size w w' := by
  have hzl := hs.ilen
  have HB := begin_any a n c z sa sn sc zs w hs hsh hby (by omega)
  obtain ⟨R, hR⟩ : ∃ R, readS z (shps zs) = R := ⟨_, rfl⟩
  have hx : ∀ x, R = .error x → x ≠ 0 := fun x e => readS_ne (hR.trans e)
  obtain ⟨q, hq⟩ : ∃ b, cleanS z (shps zs) = b := ⟨_, rfl⟩
  rw [hq]
  have hs' := Lib.hid hs
  have hsh' := Lib.hid hsh
  have hby' := Lib.hid hby
  have HB' := Lib.hid HB
  have hR' := Lib.hid hR
  have hzl' := Lib.hid hzl
  have hq' := Lib.hid hq
  have hx' := Lib.hid hx
  clear hs hsh hby HB hR hzl hq hx
  go_enter Try.func14, Try.ntmps14
  go_wp2_with fail
  refine HB'.out.mono ?_
  rintro e w1 ⟨g, gt, rfl, ht, hok, hb1⟩
  have hrd := read_any hD _ ht rfl _ _ w1 hok
  simp only at hrd
  rw [hR'.out] at hrd
  have hg0 : w.heap.size ≤ g := ht.gB
  have hgt0 : w.heap.size ≤ gt := ht.gtB
  have hg1 : g < w1.heap.size := hok.blk.lt
  clear HB'
  have hrd' := Lib.hid hrd
  have hb1' := Lib.hid hb1
  have ht' := Lib.hid ht
  have hok' := Lib.hid hok
  clear hrd hb1 ht hok
  go_wp2_with fail
  refine hrd'.out.mono ?_
  rintro e w2 hpost
  cases R with
  | error x =>
    obtain ⟨rfl, sv', hmv⟩ := hpost
    have hx0 := hx'.out x rfl
    have hb2 := mv_new hb1'.out hmv hg0 hgt0 (fun k e => by cases e) (Nat.le_refl _)
    have d1 : (x != 0) = true := by simp; exact hx0
    obtain rfl : q = false := by rw [← hq'.out, cleanS_no hR'.out]
    clear hmv hx0
    have hb2' := Lib.hid hb2
    clear hb2
    go_wp2_with fail
    go_ret
    exact ⟨rfl, hb2'.out.alloc hb2'.out.size _⟩
  | ok r =>
    obtain ⟨ds, s⟩ := r
    obtain ⟨sv', tk', a2, m2, c2, rfl, hok2, hmv, hds⟩ := hpost
    have hb2 := mv_new hb1'.out hmv hg0 hgt0 (fun k e => by cases e) (Nat.le_refl _)
    have hal := (Below.refl w2.heap.size w2).alloc (Nat.le_refl _) (.cells #[.int .i64 (orderS z), .slice a2 m2 c2] 28)
    have hok3 := hok2.later hal
    have hb3 := hb2.alloc hb2.size (.cells #[.int .i64 (orderS z), .slice a2 m2 c2] 28)
    obtain ⟨w3, hw3⟩ : ∃ W, w2.alloc (.cells #[.int .i64 (orderS z), .slice a2 m2 c2] 28) = W := ⟨_, rfl⟩
    rw [hw3] at hok3 hb3
    obtain ⟨so, hso⟩ : ∃ v, s.soiled = v := ⟨_, rfl⟩
    have c6 : w2.cell? ⟨g, 6, none⟩ = some (.int .i64 so) := by rw [← hso]; exact hok2.blk.cell rfl
    have e6 : w3.cell? ⟨g, 6, none⟩ = some (.int .i64 so) := by rw [← hso]; exact hok3.blk.cell rfl
    have hg2 : g < w2.heap.size := hok2.blk.lt
    by_cases hs0 : 0 < so
    · have d1 : decide (0 < so) = true := by simp; exact hs0
      obtain rfl : q = false := by rw [← hq'.out, cleanS_soiled hR'.out (by rw [hso]; exact hs0)]
      clear hso hs0 hmv hok2 hds hb2 hal
      have hok3' := Lib.hid hok3
      have hb3' := Lib.hid hb3
      clear hok3 hb3
      go_wp2_with fail
      try rw [hw3]
      go_ret
      first | exact ⟨rfl, hb3'.out⟩ | (rw [hw3]; exact ⟨rfl, hb3'.out⟩)
    · have d1 : decide (0 < so) = false := by simp; omega
      have hs0' := Lib.hid (show s.soiled ≤ 0 by omega)
      clear hso hs0 hmv hok2 hds hb2 hal
      have hok3' := Lib.hid hok3
      have hb3' := Lib.hid hb3
      clear hok3 hb3
      go_upto_region 5 with fail
      try rw [hw3]
      clear hw3 c6 e6
      go_wp2_with fail
      go_loopw [29] (fun iv wr => ∃ (i : Nat), i ≤ n ∧ iv = .int .i64 i ∧ w3 = wr ∧ Hid (∀ k : Nat, k < i → z.getD k 0 = 0 ∨ takenB s k = true)) (fun iv _ => n - (intOf iv).toNat)
      case atStart => exact ⟨0, by omega, rfl, rfl, Lib.hid (fun k hk => by omega)⟩
      case round =>
        obtain ⟨i, hi, rfl, rfl, hall⟩ := hrel
        by_cases hlt : i < n
        · have hin : (i : Int) < n := by omega
          obtain ⟨bt, hbt⟩ : ∃ b, takenB s i = b := ⟨_, rfl⟩
          have hbits : bitB tk' i = bt := by rw [← hbt]; exact hok3'.out.bits i hlt
          have HI := is_any g gt (n / 64 + 1) _ _ tk' i w3 hok3'.out.blk rfl hok3'.out.tak hok3'.out.tkl hok3'.out.tkb (by omega) (by omega)
          rw [hbits] at HI
          obtain ⟨qp, hqi, _, hqc⟩ := byte_at (hs'.out.mono hb3'.out) i hlt
          obtain ⟨xv, hxv⟩ : ∃ v, z.getD i 0 = v := ⟨_, rfl⟩
          rw [hxv] at hqc
          clear hbits
          by_cases hx0 : xv = 0
          · have d0 : (xv != 0) = false := by simp [hx0]
            clear HI
            have hbt' := Lib.hid hbt
            have hxv' := Lib.hid hxv
            have hx0' := Lib.hid hx0
            clear hbt hxv hx0
            go_wp2_with fail
            go_roundw
            case rel => exact ⟨i + 1, by omega, by go_num, by first | rfl | trivial, Lib.hid (fun k hk => by
              by_cases hki : k = i
              · subst hki; exact .inl (hxv'.out.trans hx0'.out)
              · exact hall.out k (by omega))⟩
            case measure => simp [intOf]; omega
          · have d0 : (xv != 0) = true := by simp; exact hx0
            have hx0' := Lib.hid hx0
            clear hx0
            have HI' := Lib.hid HI
            clear HI
            cases bt with
            | true =>
              have hbt' := Lib.hid hbt
              have hxv' := Lib.hid hxv
              clear hbt hxv
              go_wp2_with fail
              refine HI'.out.mono ?_
              rintro e w4 ⟨rfl, rfl⟩
              go_wp2_with fail
              go_roundw
              case rel => exact ⟨i + 1, by omega, by go_num, by first | rfl | trivial, Lib.hid (fun k hk => by
                by_cases hki : k = i
                · subst hki; exact .inr hbt'.out
                · exact hall.out k (by omega))⟩
              case measure => simp [intOf]; omega
            | false =>
              obtain rfl : q = false := by rw [← hq'.out, cleanS_at hR'.out (k := i) (by rw [hzl'.out]; exact hlt) (by rw [hxv]; exact hx0'.out) hbt]
              clear hxv hbt
              go_wp2_with fail
              refine HI'.out.mono ?_
              rintro e w4 ⟨rfl, rfl⟩
              go_wp2_with fail
              go_ret
              exact ⟨rfl, hb3'.out⟩
        · obtain rfl : q = true := by rw [← hq'.out, cleanS_yes hR'.out hs0'.out (fun k hk => hall.out k (by rw [hzl'.out] at hk; omega))]
          obtain rfl : i = n := by omega
          go_wp2_with fail
          go_ret
          exact ⟨rfl, hb3'.out⟩
end Go.Proofs.Ytheelhepelbgcaa

namespace Go.Proofs.Ytheelhepelbgcaa
open Go.RowKit Tt
set_option linter.unusedVariables false
set_option linter.unusedSimpArgs false

theorem many_any (sa : Option Addr) (sn sc : Nat) (zs : List Shz) (w : World) (h : ShR w sa sn sc zs) :
    Calls Try.prog 9 #[.slice sa sn sc] w fun e w' => ∃ b, e = .returned (.bool b) ∧ w = w' := by
  have hmx : sn ≤ 9223372036854775807 := Nat.le_trans h.row.le h.row.max
  have h' := Lib.hid h
  clear h
  go_enter Try.func9, Try.ntmps9
  go_wp2_with fail
  go_loopw [3] (fun iv wr => ∃ (i : Nat), i ≤ sn ∧ iv = .int .i64 i ∧ w = wr) (fun iv _ => sn - (intOf iv).toNat)
  case atStart => exact ⟨0, by omega, rfl, rfl⟩
  case round =>
    obtain ⟨i, hi, rfl, rfl⟩ := hrel
    by_cases hlt : i < sn
    · have hin : (i : Int) < sn := by omega
      have hww : IntKind.i64.wrap ((i : Int) + 1) = i + 1 := by rw [IntKind.wrap_i64]; omega
      obtain ⟨bb, oo, rfl, hbb, fe⟩ := h'.out.row.elem shc_len (by decide) shz0 hlt
      obtain ⟨⟨⟨la, ln, lc⟩, x⟩, hx⟩ : ∃ z, zs.getD i shz0 = z := ⟨_, rfl⟩
      rw [hx] at fe
      have f0 := fe 0 _ rfl
      simp only [Nat.add_zero] at f0
      clear fe
      have hx' := Lib.hid hx
      clear hx
      by_cases h20 : 20 < ln
      · have d1 : (20 : Int) < (ln : Int) := by omega
        go_wp2_with fail
        go_ret
        exact ⟨_, rfl, rfl⟩
      · have d1 : ¬ (20 : Int) < (ln : Int) := by omega
        have d2 : decide ((20 : Int) < (ln : Int)) = false := by simp; omega
        go_wp2_with fail
        go_roundw
        case rel => exact ⟨i + 1, by omega, by go_num, by first | rfl | trivial⟩
        case measure => simp [intOf]; omega
    · obtain rfl : i = sn := by omega
      go_wp2_with fail
      go_ret
      exact ⟨_, rfl, rfl⟩
def outR (oo : Int) (R : Except Int (List (DirT 16) × St)) : Int × List (DirT 16) × List Spt × Int := match R with
  | .error x => (0, [], [], x)
  | .ok (ds, s) => (oo, ds, s.spots, 0)
theorem WofPost.uni {w w' : World} {oo : Int} {R : Except Int (List (DirT 16) × St)} {e : Ending} (h : WofPost w oo R e w') : ∃ (o : Int) (ad : Option Addr) (m cd : Nat) (b : Option Addr) (k d : Nat) (ds : List (DirT 16)) (sp : List Spt) (x : Int),
    e = .returned (.tuple #[.agg #[.int .i64 o, .slice ad m cd], .slice b k d, .int .i64 x]) ∧ Below w.heap.size w w' ∧ (∃ dzs : List Dz, dzs.length = ds.length ∧ w'.ownsRow w.heap.size 48 3 (.slice ad m cd) m (fl dvC dzs) ∧ ∀ i (h : i < dzs.length) (h' : i < ds.length), DirAt (Xv (.slice b k d)) w.heap.size w' 16 ds[i] dzs[i]) ∧ w'.ownsRow w.heap.size 38 5 (.slice b k d) k (fl spC sp) ∧ outR oo R = (o, ds, sp, x) := by
  cases R with
  | error x =>
    obtain ⟨rfl, hb⟩ := h
    exact ⟨0, none, 0, 0, none, 0, 0, [], [], x, rfl, hb, ⟨[], rfl, own_nil _ _ _ _, fun i hi => by cases hi⟩, own_nil _ _ _ _, rfl⟩
  | ok r =>
    obtain ⟨ds, s⟩ := r
    obtain ⟨a, m, c, b, k, d, rfl, hb, ⟨dzs, e1, e2, e3⟩, h2⟩ := h
    have hm : m = dzs.length := by have h := (Ck.sl e2).flen dvC_len (by decide); exact h.symm
    have hk : k = s.spots.length := by have h := (Sl.of_own h2).1.flen spC_len (by decide); exact h.symm
    refine ⟨oo, a, m, c, b, k, d, ds, s.spots, 0, rfl, hb, ⟨dzs, e1, ?_, e3⟩, ?_, rfl⟩
    · have h := e2.1
      rw [hm]
      rw [hm] at h
      exact h
    · rw [hk] at h2 ⊢
      exact h2
/-- the program's directories, their blobs whatever they hold -/
def DirsC (B : Nat) (w : World) (ad : Option Addr) (m cd : Nat) (dzs : List Dz) : Prop :=
  w.ownsRow B 48 3 (.slice ad m cd) m (fl dvC dzs) ∧ ∀ i, i < dzs.length → ∃ ba bn bc, (dzs.getD i dzz).2.2 = .slice ba bn bc ∧ Wk B w (.slice ba bn bc) bn
theorem DirsC.later {B : Nat} {w w' : World} {ad : Option Addr} {m cd : Nat} {dzs : List Dz} (h : DirsC B w ad m cd dzs) (hb : Below w.heap.size w w') : DirsC B w' ad m cd dzs :=
  ⟨own_later h.1 hb, fun i hi => by obtain ⟨ba, bn, bc, e, k⟩ := h.2 i hi; exact ⟨ba, bn, bc, e, k.later hb⟩⟩
theorem DirsC.cl {B B' : Nat} {w w' : World} {ad : Option Addr} {m cd : Nat} {dzs : List Dz} (h : DirsC B w ad m cd dzs) (hc : Cl B' w w') : DirsC B w' ad m cd dzs :=
  ⟨hc.row h.1 (by decide), fun i hi => by obtain ⟨ba, bn, bc, e, k⟩ := h.2 i hi; exact ⟨ba, bn, bc, e, k.cl hc⟩⟩
theorem DirsC.of {X : Nat → Prop} {B : Nat} {w : World} {ad : Option Addr} {m cd : Nat} {ds : List (DirT 16)} {dzs : List Dz} (hl : dzs.length = ds.length) (h : w.ownsRow B 48 3 (.slice ad m cd) m (fl dvC dzs)) (h2 : ∀ i (h : i < dzs.length) (h' : i < ds.length), DirAt X B w 16 ds[i] dzs[i]) : DirsC B w ad m cd dzs := by
  refine ⟨h, fun i hi => ?_⟩
  have hd := h2 i hi (by omega)
  rw [getD_el hi]
  obtain ⟨_, _, _, hb⟩ := hd
  obtain ⟨ba, bc, e⟩ := own_v' hb.1
  have hb1 := hb.1
  rw [e] at hb1
  exact ⟨ba, _, bc, e, _, hb1⟩
theorem DirsR.of {X : Nat → Prop} {B : Nat} {w : World} {ad : Option Addr} {m cd : Nat} {ds : List (DirT 16)} {dzs : List Dz} (hl : dzs.length = ds.length) (h : w.ownsRow B 48 3 (.slice ad m cd) m (fl dvC dzs)) (h2 : ∀ i (h : i < dzs.length) (h' : i < ds.length), DirAt X B w 16 ds[i] dzs[i]) : DirsR 16 w ad m cd ds :=
  ⟨dzs, hl, (Sl.of_own h).1, fun i hi hi' => (h2 i hi hi').rd⟩
set_option maxRecDepth 30000 in
set_option maxHeartbeats 8000000 in
theorem reads_law (hD : DirOk) (a : Option Addr) (n c : Nat) (z : List Int) (sa : Option Addr) (sn sc : Nat) (zs : List Shz) (w : World) (hs : Sl w a n c 1 (ints .u8 z)) (hsh : ShR w sa sn sc zs) (hby : Byt z) :
    Calls Try.prog 4 #[.slice a n c, .slice sa sn sc] w fun e w' => e = .returned (.bool true) ∧ Below w.heap.size w w' := by
  have HM := many_any sa sn sc zs w hsh
  by_cases hn : 2000 < n
  · have hni : (2000 : Int) < (n : Int) := by omega
    have hs' := Lib.hid hs
    have hsh' := Lib.hid hsh
    have hby' := Lib.hid hby
    have hD' := Lib.hid hD
    have HM' := Lib.hid HM
    clear hs hsh hby hD HM
    go_enter Try.func4, Try.ntmps4
    go_wp2_with fail
    refine (awake_any hD'.out w).mono ?_
    rintro e w9 ⟨rfl, hb9⟩
    have hb9' := Lib.hid hb9
    clear hb9
    go_wp2_with fail
    go_ret
    exact ⟨rfl, hb9'.out⟩
  have hni : ¬ (2000 : Int) < (n : Int) := by omega
  have hnb : decide ((2000 : Int) < (n : Int)) = false := by simp; omega
  have hn2 : n ≤ 2000 := by omega
  have hx : ∀ x, readS z (shps zs) = .error x → x ≠ 0 := fun x e => readS_ne e
  have HO := own01_any a n c z w hs (by omega)
  have hs' := Lib.hid hs
  have hsh' := Lib.hid hsh
  have hby' := Lib.hid hby
  have hD' := Lib.hid hD
  have HM' := Lib.hid HM
  have hx' := Lib.hid hx
  have HO' := Lib.hid HO
  clear hs hsh hby hD HM hx HO
  go_enter Try.func4, Try.ntmps4
  go_wp2_with fail
  refine HM'.out.mono ?_
  rintro e w1 ⟨b, rfl, rfl⟩
  cases b with
  | true =>
    go_wp2_with fail
    refine (awake_any hD'.out w).mono ?_
    rintro e w9 ⟨rfl, hb9⟩
    have hb9' := Lib.hid hb9
    clear hb9
    go_wp2_with fail
    go_ret
    exact ⟨rfl, hb9'.out⟩
  | false =>
  go_wp2_with fail
  refine HO'.out.mono ?_
  rintro e w2 ⟨a2, c2, rfl, hown, hb2⟩
  have hs2 := (Sl.of_own hown).1
  have HP := wof_any hD'.out a2 n c2 z sa sn sc zs w2 hs2 (hsh'.out.mono hb2) hby'.out (by omega) hx'.out
  clear HM' HO'
  have hown' := Lib.hid hown
  have hb2' := Lib.hid hb2
  have hs2' := Lib.hid hs2
  have HP' := Lib.hid HP
  clear hown hb2 hs2 HP
  go_wp2_with fail
  refine HP'.out.mono ?_
  rintro e w3 hpost
  obtain ⟨o, ad, m, cd, sb, sk, sd, ds, sp, x, rfl, hb3, ⟨dzs, hl3, hr3, hd3⟩, hsp3, hout⟩ := hpost.uni
  have h6 := Blk.new w3 28 #[.int .i64 o, .slice ad m cd]
  have hal := (Below.refl w3.heap.size w3).alloc (Nat.le_refl _) (.cells #[.int .i64 o, .slice ad m cd] 28)
  have hdc3 := (DirsC.of hl3 hr3 hd3).later hal
  have hdr3 := (DirsR.of hl3 hr3 hd3).mono hal
  have hss3 := ((Sl.of_own hsp3).1).mono hal
  have hb3a := hb3.alloc hb3.size (.cells #[.int .i64 o, .slice ad m cd] 28)
  have hwa := hb2'.out.trans (hb3a.mono hb2'.out.size)
  have HQ := rof22_any a n c z sa sn sc zs _ (hs'.out.mono hwa) (hsh'.out.mono hwa) hby'.out (by omega)
  have hw2s : w2.heap.size ≤ w3.heap.size := hb3.size
  have hm3 : dzs.length = m := (Sl.of_own hr3).1.flen dvC_len (by decide)
  clear hpost HP' hb3 hr3 hd3 hsp3 hal
  have h6' := Lib.hid h6
  have hdc3' := Lib.hid hdc3
  have hdr3' := Lib.hid hdr3
  have hss3' := Lib.hid hss3
  have hb3a' := Lib.hid hb3a
  have hwa' := Lib.hid hwa
  have HQ' := Lib.hid HQ
  have hout' := Lib.hid hout
  have hl3' := Lib.hid hl3
  have hm3' := Lib.hid hm3
  clear h6 hdc3 hdr3 hss3 hb3a hwa HQ hout hl3 hm3
  go_upto_region 5 with fail
  obtain ⟨w4, hw4⟩ : ∃ W, w3.alloc (.cells #[.int .i64 o, .slice ad m cd] 28) = W := ⟨_, rfl⟩
  rw [hw4] at h6' hdc3' hdr3' hss3' hb3a' hwa' HQ'
  rw [hw4]
  clear hw4
  obtain ⟨g6, hg6⟩ : ∃ g, w3.heap.size = g := ⟨_, rfl⟩
  rw [hg6] at h6' hw2s
  rw [hg6]
  clear hg6
  go_wp2_with fail
  refine HQ'.out.mono ?_
  rintro e w5 hpost
  obtain ⟨o2, ad2, m2, cd2, sb2, sk2, sd2, ds2, sp2, x2, rfl, hb5, ⟨dzs2, hl5, hr5, hd5⟩, hsp5, hout2⟩ := hpost.uni
  have heq := hout'.out.symm.trans hout2
  injection heq with e1 heq
  injection heq with e2 heq
  injection heq with e3 e4
  subst e1 e2 e3 e4
  have h9 := Blk.new w5 28 #[.int .i64 o, .slice ad2 m2 cd2]
  have hal := (Below.refl w5.heap.size w5).alloc (Nat.le_refl _) (.cells #[.int .i64 o, .slice ad2 m2 cd2] 28)
  have hb5a := hb5.alloc hb5.size (.cells #[.int .i64 o, .slice ad2 m2 cd2] 28)
  have hdr5 := (DirsR.of hl5 hr5 hd5).mono hal
  have hss5 := ((Sl.of_own hsp5).1).mono hal
  have h65 := h6'.out.late hb5a
  have hdc5 := hdc3'.out.later hb5a
  have hdr35 := hdr3'.out.mono hb5a
  have hss35 := hss3'.out.mono hb5a
  have hb25 : Below w2.heap.size w2 _ := hb3a'.out.trans (hb5a.mono hb3a'.out.size)
  clear hpost HQ' hb5 hr5 hd5 hsp5 hal hb5a hout' hout2 h6' hdc3' hdr3' hss3' hb3a' hwa'
  have h9' := Lib.hid h9
  have hdr5' := Lib.hid hdr5
  have hss5' := Lib.hid hss5
  have h65' := Lib.hid h65
  have hdc5' := Lib.hid hdc5
  have hdr35' := Lib.hid hdr35
  have hss35' := Lib.hid hss35
  have hb25' := Lib.hid hb25
  clear h9 hdr5 hss5 h65 hdc5 hdr35 hss35 hb25
  go_upto_region 6 with fail
  obtain ⟨w6, hw6⟩ : ∃ W, w5.alloc (.cells #[.int .i64 o, .slice ad2 m2 cd2] 28) = W := ⟨_, rfl⟩
  rw [hw6] at h9' hdr5' hss5' h65' hdc5' hdr35' hss35' hb25'
  rw [hw6]
  clear hw6
  obtain ⟨g9, hg9⟩ : ∃ g, w5.heap.size = g := ⟨_, rfl⟩
  rw [hg9] at h9'
  rw [hg9]
  clear hg9
  have p0 : w6.cell? ⟨g6, 0, none⟩ = some (.int .i64 o) := h65'.out.cell rfl
  have p1 : w6.cell? ⟨g6, 1, none⟩ = some (.slice ad m cd) := h65'.out.cell rfl
  have q0 : w6.cell? ⟨g9, 0, none⟩ = some (.int .i64 o) := h9'.out.cell rfl
  have q1 : w6.cell? ⟨g9, 1, none⟩ = some (.slice ad2 m2 cd2) := h9'.out.cell rfl
  have HT := tree_same 16 o o ad m cd ad2 m2 cd2 ds ds w6 hdr35'.out hdr5'.out true (by simp)
  have HT' := Lib.hid HT
  clear HT
  go_wp2_with fail
  refine HT'.out.mono ?_
  rintro e w7 ⟨rfl, hb7⟩
  have HS := spots_any sb sb2 sk sk2 sd sd2 sp sp w7 (hss35'.out.mono hb7) (hss5'.out.mono hb7)
  have hxx : (sp == sp) = true := by simp
  rw [hxx] at HS
  have hb27 := hb25'.out.trans (hb7.mono hb25'.out.size)
  have h67 := h65'.out.late hb7
  have hdc7 := hdc5'.out.later hb7
  clear p0 p1 q0 q1 hb7 hxx HT' hb25' h65' hdc5' h9' hdr5' hss5' hdr35' hss35'
  have HS' := Lib.hid HS
  have hb27' := Lib.hid hb27
  have h67' := Lib.hid h67
  have hdc7' := Lib.hid hdc7
  clear HS hb27 h67 hdc7
  go_wp2_with fail
  refine HS'.out.mono ?_
  rintro e w8 ⟨rfl, hq8⟩
  have hb8 : Below w7.heap.size w7 w8 := hq8.below _
  have hb28 := hb27'.out.trans (hb8.mono hb27'.out.size)
  have h68 := h67'.out.late hb8
  have hdc8 := hdc7'.out.later hb8
  have hw28 := hb2'.out.trans (hb28.mono hb2'.out.size)
  have HC := wclean_any hD'.out a2 n c2 z sa sn sc zs w8 (hs2'.out.mono hb28) (hsh'.out.mono hw28) hby'.out (by omega)
  obtain ⟨cb, hcb⟩ : ∃ b, cleanS z (shps zs) = b := ⟨_, rfl⟩
  rw [hcb] at HC
  have hcb' := Lib.hid hcb
  clear hq8 hb8 HS' hb27' h67' hdc7' hcb
  have HC' := Lib.hid HC
  have hb28' := Lib.hid hb28
  have h68' := Lib.hid h68
  have hdc8' := Lib.hid hdc8
  have hw28' := Lib.hid hw28
  clear HC hb28 h68 hdc8 hw28
  go_wp2_with fail
  refine HC'.out.mono ?_
  rintro e w9 ⟨rfl, hb9⟩
  have hb29 := hb28'.out.trans (hb9.mono hb28'.out.size)
  have h69 := h68'.out.late hb9
  have hdc9 := hdc8'.out.later hb9
  have hw29 := hw28'.out.trans (hb9.mono hw28'.out.size)
  have HC2 := rclean22_any a n c z sa sn sc zs w9 (hs'.out.mono hw29) (hsh'.out.mono hw29) hby'.out (by omega)
  rw [hcb'.out] at HC2
  clear hb9 HC' hb28' h68' hdc8' hw28'
  have HC2' := Lib.hid HC2
  have hb29' := Lib.hid hb29
  have h69' := Lib.hid h69
  have hdc9' := Lib.hid hdc9
  clear HC2 hb29 h69 hdc9
  go_wp2_with fail
  refine HC2'.out.mono ?_
  rintro e w10 ⟨rfl, hb10⟩
  have hb20 := hb29'.out.trans (hb10.mono hb29'.out.size)
  have h60 := h69'.out.late hb10
  have hdc0 := hdc9'.out.later hb10
  clear hb10 HC2' hb29' h69' hdc9' hw29
  have hb20' := Lib.hid hb20
  have h60' := Lib.hid h60
  have hdc0' := Lib.hid hdc0
  clear hb20 h60 hdc0
  go_upto_region 8 with fail
  have hown0 := own_later hown'.out (Below.refl w2.heap.size w2)
  have hwB : Below w2.heap.size w2 w10 := hb20'.out
  clear hown0 hwB
  go_wp2_with fail
  go_loopw [12] (fun iv wr => ∃ (i : Nat), i ≤ m ∧ iv = .int .i64 i ∧ Hid (Blk wr g6 28 #[.int .i64 o, .slice ad m cd]) ∧ Hid (DirsC w2.heap.size wr ad m cd dzs) ∧ Hid (Below w2.heap.size w2 wr)) (fun iv _ => m - (intOf iv).toNat)
  case atStart => exact ⟨0, by omega, rfl, h60', hdc0', hb20'⟩
  case round =>
    clear h60' hdc0' hb20'
    obtain ⟨i, hi, rfl, h6r, hdc, hbr⟩ := hrel
    have p1 : wr.cell? ⟨g6, 1, none⟩ = some (.slice ad m cd) := h6r.out.cell rfl
    have hmx : m ≤ 9223372036854775807 := by have h := (Sl.of_own hdc.out.1).1; exact Nat.le_trans h.le h.max
    by_cases hlt : i < m
    · have hin : (i : Int) < m := by omega
      have hww : IntKind.i64.wrap ((i : Int) + 1) = i + 1 := by rw [IntKind.wrap_i64]; omega
      obtain ⟨ba, bn, bc, hbe, xs, hox⟩ := hdc.out.2 i (by rw [hm3'.out]; exact hlt)
      obtain ⟨bb, oo, rfl, hbb, fe⟩ := (Sl.of_own hdc.out.1).1.elem dvC_len (by decide) dzz hlt
      have f2 : wr.cell? ⟨bb, oo + i * 3 + 2, none⟩ = some (.slice ba bn bc) := by rw [← hbe]; exact fe 2 _ rfl
      clear fe hbe
      have hox' := Lib.hid hox
      clear hox
      go_wp2_with (refine wpList_clear rfl (.tmp 73) 24 rfl rfl 5 (.int .u8 0) Try.underlying24 zeroB rfl rfl ba bn bc w2.heap.size xs rfl hox'.out ?_; intro w11 hw11)
      have hC := Cl.mk hox'.out hw11
      have h6n := hC.blk h6r.out (by decide)
      have hdcn := hdc.out.cl hC
      have hbn := hbr.out.trans hC.below
      clear hC hw11 f2 p1
      have h6n' := Lib.hid h6n
      have hdcn' := Lib.hid hdcn
      have hbn' := Lib.hid hbn
      clear h6n hdcn hbn
      go_roundw
      case rel => exact ⟨i + 1, by omega, by go_num, h6n', hdcn', hbn'⟩
      case measure => simp [intOf]; omega
    · obtain rfl : i = m := by omega
      have hsr : Sl wr a2 n c2 1 (ints .u8 z) := hs2'.out.mono hbr.out
      have hwr := hb2'.out.trans (hbr.out.mono hb2'.out.size)
      have HZ := same01 a2 a n n c2 c z z wr hsr (hs'.out.mono hwr)
      have hzz : (z == z) = true := by simp
      rw [hzz] at HZ
      clear hzz hsr
      have HZ' := Lib.hid HZ
      have hwr' := Lib.hid hwr
      clear HZ hwr
      go_wp2_with fail
      refine HZ'.out.mono ?_
      rintro e w12 ⟨rfl, hq12⟩
      have hw12 := hwr'.out.trans ((hq12.below _).mono hwr'.out.size)
      clear hq12
      have hw12' := Lib.hid hw12
      clear hw12
      go_wp2_with fail
      refine (awake_any hD'.out w12).mono ?_
      rintro e w13 ⟨rfl, hb13⟩
      have hw13 := hw12'.out.trans (hb13.mono hw12'.out.size)
      have hw13' := Lib.hid hw13
      clear hw13
      go_wp2_with fail
      go_ret
      exact ⟨rfl, hw13'.out⟩
end Go.Proofs.Ytheelhepelbgcaa
