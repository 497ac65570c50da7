/- Chapter 1 of the document: bytes in memory of their own. | Rows of bytes that are owned, cleared one behind another. | Chapter 22, the document's walk: Link, Own, fail, number. | Chapter 22, the document's walk: it takes bytes. | Chapter 22, the document's walk: the value of an entry. | Chapter 22, the document's walk: the plain law of a shape's own pair; a directory of entries. -/
import Derived.Test.YtheelhepelbgcaaRev
import Derived.Test.YtheelhepelbgcaaRef01
import Derived.Test.YtheelhepelbgcaaL3
import Derived.Test.YtheelhepelbgcaaWk5
import Derived.Test.YtheelhepelbgcaaOc5
import Derived.Test.YtheelhepelbgcaaWk6
import Derived.Test.YtheelhepelbgcaaEn3
import Derived.Test.YtheelhepelbgcaaWk9
namespace Go.Proofs.Ytheelhepelbgcaa
open Go.RowKit Tt
set_option linter.unusedVariables false
set_option linter.unusedSimpArgs false
theorem infoB : (Try.prog.info? 5).map (fun i => (i.zero, i.size, i.bytes)) = some (some (.int .u8 0), 1, 1) := by kernel_rfl
set_option maxHeartbeats 400000 in
theorem own01_any (a : Option Addr) (n c : Nat) (x : List Int) (w : World) (hx : Sl w a n c 1 (ints .u8 x)) (hn : n ≤ 140737488355328) :
    Calls Try.prog 10 #[.slice a n c] w fun e w' => ∃ a' c', e = .returned (.slice a' n c') ∧ w'.ownsRow w.heap.size 5 1 (.slice a' n c') n (ints .u8 x) ∧ Below w.heap.size w w' := by
  obtain ⟨i0, hi, hz0, hz1, hz2⟩ := info_parts infoB
  go_enter Try.func10, Try.ntmps10
  go_wp2_with (at_builtin; refine wpList_app rfl _ _ 24 rfl w.heap.size 5 i0 _ 1 1 Try.underlying24 hi hz0 hz1 hz2 rfl (by decide) _ 0 [] rfl (own_new w w.heap.size 5 1 0 #[] (Nat.le_refl _) (by unfold maxLen; omega) rfl) a n c _ rfl (sl_alloc hx _) ints_one (by omega) (by decide) (by simp) ?_; intro a' c' w1 hown hbel hgrow)
  rw [Nat.zero_add, List.nil_append] at hown
  clear hgrow
  go_wp2
  go_ret
  exact ⟨a', c', ret_eq rfl, hown, ((Below.refl _ _).alloc (Nat.le_refl _) _).trans hbel⟩
end Go.Proofs.Ytheelhepelbgcaa

namespace Go.Proofs.Ytheelhepelbgcaa
open Go.RowKit Tt
set_option linter.unusedVariables false
set_option linter.unusedSimpArgs false

/-- one row of bytes that the call owns is cleared, or nothing is -/
def Cl (B : Nat) (W W' : World) : Prop := W' = W ∨ ∃ (g : Nat) (vs : List Value) (v : Value) (n : Nat) (xs : List Value), v.ownBlock = some g ∧ W.ownsRow B 5 1 v n xs ∧ B ≤ g ∧ W' = W.setCells g 0 vs
/-- a row of bytes that the call owns, whatever it holds -/
def Wk (B : Nat) (W : World) (v : Value) (n : Nat) : Prop := ∃ xs, W.ownsRow B 5 1 v n xs
theorem Wk.cl {B B' : Nat} {W W' : World} {v : Value} {n : Nat} (h : Wk B W v n) (hc : Cl B' W W') : Wk B W' v n := by
  obtain ⟨xs, h⟩ := h
  rcases hc with rfl | ⟨g, vs, v', n', xs', hg, _, _, rfl⟩
  · exact ⟨xs, h⟩
  · exact own_cleared h g 0 vs
theorem Wk.later {B : Nat} {W W' : World} {v : Value} {n : Nat} (h : Wk B W v n) (hb : Below W.heap.size W W') : Wk B W' v n := by
  obtain ⟨xs, h⟩ := h
  exact ⟨xs, own_later h hb⟩
theorem Cl.below {B : Nat} {W W' : World} (hc : Cl B W W') : Below B W W' := by
  rcases hc with rfl | ⟨g, vs, v', n', xs', hg, _, hB, rfl⟩
  · exact Below.refl _ _
  · exact below_cells g hB vs 0 (Below.refl _ _)
theorem Cl.row {B B' : Nat} {W W' : World} {E : TypeId} {sz : Nat} {v : Value} {n : Nat} {xs : List Value} (hc : Cl B' W W') (h : W.ownsRow B E sz v n xs) (hE : E ≠ 5) : W'.ownsRow B E sz v n xs := by
  rcases hc with rfl | ⟨g, vs, v', n', xs', hg, ho, _, rfl⟩
  · exact h
  · exact own_kept h ho hE hg 0 vs
theorem own_at_block {W : World} {B : Nat} {E : TypeId} {sz : Nat} {v : Value} {n : Nat} {xs : List Value} (h : W.ownsRow B E sz v n xs) {g : Nat} (hg : v.ownBlock = some g) : ∃ cur, Blk W g E cur := by
  rcases h.2 with ⟨rfl, _⟩ | ⟨g', cap, cur, rfl, _, hb, _⟩
  · cases hg
  · injection hg with hg
    subst hg
    exact ⟨cur, hb⟩
theorem Cl.blk {B : Nat} {W W' : World} {E : TypeId} {g : Nat} {cs : Array Value} (hc : Cl B W W') (h : Blk W g E cs) (hE : E ≠ 5) : Blk W' g E cs := by
  rcases hc with rfl | ⟨g', vs, v', n', xs', hg, ho, _, rfl⟩
  · exact h
  · obtain ⟨cur, hb⟩ := own_at_block ho hg
    refine (setCells_other g' vs 0 W g ?_).trans h
    rintro rfl
    have := h.symm.trans hb
    injection this with this
    injection this with h1 h2 h3
    exact hE h2
theorem Cl.mk {B : Nat} {W W' : World} {ad : Option Addr} {n c : Nat} {xs : List Value} (ho : W.ownsRow B 5 1 (.slice ad n c) n xs) (h : W' = W ∨ ∃ g vs, (Value.slice ad n c).ownBlock = some g ∧ B ≤ g ∧ W' = W.setCells g 0 vs) : Cl B W W' := by
  rcases h with rfl | ⟨g, vs, hg, hB, rfl⟩
  · exact .inl rfl
  · exact .inr ⟨g, vs, _, n, xs, hg, ho, hB, rfl⟩
theorem zeroB : ∀ w, (Go.zeroValue 5).run Try.prog w = .ok (.int .u8 0) w := fun w => by kernel_rfl
end Go.Proofs.Ytheelhepelbgcaa

namespace Go.Proofs.Ytheelhepelbgcaa
open Go.RowKit Tt
set_option linter.unusedVariables false
set_option linter.unusedSimpArgs false

/-- what stays while the document reads a block -/
structure DwS where
  w0 : World
  a : Option Addr
  n : Nat
  c : Nat
  z : List Int
  o : Int
  sa : Option Addr
  sn : Nat
  sc : Nat
  zs : List Shz
  g : Nat
  gt : Nat
structure DwT (K : DwS) : Prop where
  hs : Sl K.w0 K.a K.n K.c 1 (ints .u8 K.z)
  hsh : ShR K.w0 K.sa K.sn K.sc K.zs
  byt : Byt K.z
  n1 : K.n ≤ 1000000
  gB : K.w0.heap.size ≤ K.g
  gtB : K.w0.heap.size ≤ K.gt
  ne : K.g ≠ K.gt
/-- the document's walk, in the state s, its error E -/
structure DwOk (K : DwS) (s : St) (sv : Value) (tk : List Int) (E : Int) (w : World) : Prop where
  old : Below K.w0.heap.size K.w0 w
  blk : Blk w K.g 72 #[.slice K.a K.n K.c, .int .i64 K.o, .slice K.sa K.sn K.sc, .slice (some ⟨K.gt, 0, none⟩) K.n K.n, sv, .int .i64 s.no, .int .i64 s.soiled, .int .i64 E]
  tak : Row w K.gt 3 .i64 tk
  tkl : tk.length = K.n
  bits : ∀ k : Nat, k < K.n → tk.getD k 0 = if takenB s k = true then 1 else 0
  spot : w.ownsRow K.w0.heap.size 38 5 sv s.spots.length (fl spC s.spots)
  sg : sv.ownBlock ≠ some K.g
  sgt : sv.ownBlock ≠ some K.gt
theorem DwOk.later {K : DwS} {s : St} {sv : Value} {tk : List Int} {E : Int} {w w' : World} (h : DwOk K s sv tk E w) (hb : Below w.heap.size w w') : DwOk K s sv tk E w' :=
  ⟨h.old.trans (hb.mono h.old.size), h.blk.late hb, Blk.late (T := 3) h.tak hb, h.tkl, h.bits, own_later h.spot hb, h.sg, h.sgt⟩
theorem DwOk.byts {K : DwS} {s : St} {sv : Value} {tk : List Int} {E : Int} {w : World} (h : DwOk K s sv tk E w) (t : DwT K) : Sl w K.a K.n K.c 1 (ints .u8 K.z) := t.hs.mono h.old
theorem DwOk.shps {K : DwS} {s : St} {sv : Value} {tk : List Int} {E : Int} {w : World} (h : DwOk K s sv tk E w) (t : DwT K) : ShR w K.sa K.sn K.sc K.zs := t.hsh.mono h.old
/-- a field of the walk's own turns -/
theorem DwOk.err {K : DwS} {s : St} {sv : Value} {tk : List Int} {E : Int} {w : World} (h : DwOk K s sv tk E w) (t : DwT K) (e : Int) : DwOk K s sv tk e (w.setCell ⟨K.g, 7, none⟩ (.int .i64 e)) :=
  ⟨h.old.setCell (p := ⟨K.g, 7, none⟩) t.gB _, h.blk.set 7 _, (Below.heap_setCell _ ⟨K.g, 7, none⟩ _ K.gt (Ne.symm t.ne)).trans h.tak, h.tkl, h.bits, own_but h.spot ((But.refl K.g w).set 7 _) h.sg, h.sg, h.sgt⟩
def firstE (E e : Int) : Int := if E = 0 then e else E
theorem fail_any (K : DwS) (t : DwT K) (s : St) (sv : Value) (tk : List Int) (E e : Int) (w : World) (hok : DwOk K s sv tk E w) :
    Calls Try.prog 36 #[.pointer (some ⟨K.g, 0, none⟩), .int .i64 e] w fun x w' => x = .returned (.tuple #[]) ∧ DwOk K s sv tk (firstE E e) w' ∧ But K.g w w' := by
  have c7 : w.cell? ⟨K.g, 7, none⟩ = some (.int .i64 E) := hok.blk.cell rfl
  have y7 := hok.blk.frozen 7
  have hok2 := hok.err t e
  unfold firstE
  by_cases h : E = 0
  · have d : (E == 0) = true := by simp [h]
    rw [if_pos h]
    clear h
    have hok' := Lib.hid hok
    have hok2' := Lib.hid hok2
    have t' := Lib.hid t
    clear hok hok2 t
    go_enter Try.func36, Try.ntmps36
    go_wp2_with fail
    refine bodyPost_end (results_none rfl _ _ _) rfl ?_
    exact ⟨rfl, hok2'.out, (But.refl _ _).set 7 _⟩
  · have d : (E == 0) = false := by simp [h]
    rw [if_neg h]
    clear h
    have hok' := Lib.hid hok
    have hok2' := Lib.hid hok2
    have t' := Lib.hid t
    clear hok hok2 t
    go_enter Try.func36, Try.ntmps36
    go_wp2_with fail
    refine bodyPost_end (results_none rfl _ _ _) rfl ?_
    exact ⟨rfl, hok'.out, But.refl _ _⟩
set_option maxHeartbeats 2000000 in
theorem dnum_any (K : DwS) (t : DwT K) (s : St) (sv : Value) (tk : List Int) (E at_ size : Int) (w : World) (hok : DwOk K s sv tk E w) :
    Calls Try.prog 34 #[.pointer (some ⟨K.g, 0, none⟩), .int .i64 at_, .int .i64 size] w fun x w' => x = .returned (.int .i64 (getV K.z at_ size K.o)) ∧ Below w.heap.size w w' := by
  have hG := fun W (h : Below w.heap.size w W) => rget_any K.a K.n K.c K.z at_ size K.o W ((hok.byts t).mono h) t.byt
  generalize getV K.z at_ size K.o = v at *
  generalize getB K.n at_ size K.o = b at *
  obtain ⟨Ty, f, hne, hbel, hsurj⟩ := later_worlds w
  have q0 : ∀ s, (f s).cell? ⟨K.g, 0, none⟩ = some (.slice K.a K.n K.c) := fun s => (Blk.late hok.blk (hbel s)).cell rfl
  have q1 : ∀ s, (f s).cell? ⟨K.g, 1, none⟩ = some (.int .i64 K.o) := fun s => (Blk.late hok.blk (hbel s)).cell rfl
  have HS := Lib.hid (hsurj _ ((Below.refl _ _).drew))
  have HG := Lib.hid (fun s => hG _ (hbel s))
  clear hG
  have hok' := Lib.hid hok
  have t' := Lib.hid t
  have hbel' := Lib.hid hbel
  have hsurj' := Lib.hid hsurj
  clear hok t hbel hsurj
  go_enter Try.func34, Try.ntmps34
  go_wp2_with fail
  refine wp_quiet_in f (by kernel_rfl) (by kernel_rfl) HS.out ?_
  iterate 16 (go_big_quiet_step ((go_at_call 55; refine (HG.out _).mono ?_; rintro e w3 ⟨rfl, hb3⟩; exact ⟨rfl, hsurj'.out _ ((hbel'.out _).trans (hb3.mono (hbel'.out _).size))⟩)))
  refine wpQuiet_nil ?_
  intro s
  have hbs := hbel'.out s
  clear q0 q1
  have hbs' := Lib.hid hbs
  clear hbs
  go_wp2_with fail
  go_ret
  exact ⟨rfl, hbs'.out⟩
set_option maxHeartbeats 2000000 in
theorem link_any (la : Option Addr) (ln lc : Nat) (lks : List Lk) (sat slong snx tag : Int) (w : World) (hl : Sl w la ln lc 2 (fl lkc lks)) :
    Calls Try.prog 74 #[.agg #[.slice la ln lc, .int .i64 sat, .int .i64 slong, .int .i64 snx], .int .i64 tag] w fun e w' => e = .returned (.int .i64 (fst (fun y => y.1 == tag) lks)) ∧ Below w.heap.size w w' := by
  have hlen := hl.flen lkc_len (by decide)
  have hmx := hl.max
  have hle := hl.le
  have hb0 := (Below.refl w.heap.size w).alloc (Nat.le_refl _) (.cells #[.slice la ln lc, .int .i64 sat, .int .i64 slong, .int .i64 snx] 35)
  have b0 := Blk.new w 35 #[.slice la ln lc, .int .i64 sat, .int .i64 slong, .int .i64 snx]
  obtain ⟨w1, hw1⟩ : ∃ W, w.alloc (.cells #[.slice la ln lc, .int .i64 sat, .int .i64 slong, .int .i64 snx] 35) = W := ⟨_, rfl⟩
  rw [hw1] at hb0 b0
  obtain ⟨gs, hgs⟩ : ∃ g, w.heap.size = g := ⟨_, rfl⟩
  rw [hgs] at b0
  have hl1 := hl.mono hb0
  have hl' := Lib.hid hl
  have hb0' := Lib.hid hb0
  have hl1' := Lib.hid hl1
  have b0' := Lib.hid b0
  have hlen' := Lib.hid hlen
  clear hl hb0 hl1 b0 hlen
  go_enter Try.func74, Try.ntmps74
  go_upto_region 1 with fail
  try rw [hw1]
  try rw [hgs]
  clear hw1
  go_wp2_with fail
  go_loopw [5] (fun i wr => ∃ (k : Nat), k ≤ ln ∧ i = .int .i64 k ∧ Hid (∀ j, j < k → ((lks.getD j (0, 0)).1 == tag) = false) ∧ Hid (Below w1.heap.size w1 wr)) (fun i _ => ln - (intOf i).toNat)
  case atStart => exact ⟨0, by omega, rfl, Lib.hid (fun j hj => by omega), Lib.hid (Below.refl _ _)⟩
  case round =>
    obtain ⟨k, hk, rfl, hno, hb⟩ := hrel
    have br := b0'.out.late hb.out
    have c0 : wr.cell? ⟨gs, 0, none⟩ = some (.slice la ln lc) := br.cell rfl
    by_cases hlt : k < ln
    · have hlti : (k : Int) < ln := by omega
      obtain ⟨bb, oo, rfl, hbb, fe⟩ := (hl1'.out.mono hb.out).elem lkc_len (by decide) (0, 0) hlt
      have f0 := fe 0 _ rfl
      rw [Nat.add_zero] at f0
      obtain ⟨x, hx⟩ : ∃ x, lks.getD k (0, 0) = x := ⟨_, rfl⟩
      rw [hx] at f0
      clear fe
      have br' := Lib.hid br
      have hx' := Lib.hid hx
      clear br hx
      cases hxt : (x.1 == tag) with
      | true =>
        have hf : fst (fun y => y.1 == tag) lks = k := fst_at (by rw [hlen'.out]; exact hlt) (by rw [← getD_el (d := (0, 0)) (by rw [hlen'.out]; exact hlt), hx'.out]; exact hxt) (fun i hi => by rw [← getD_el (d := (0, 0)) (by rw [hlen'.out]; omega)]; exact hno.out i hi)
        have hf' := Lib.hid hf
        clear hf
        go_wp2_with fail
        go_ret
        exact ⟨by rw [hf'.out]; rfl, hb0'.out.trans (hb.out.mono hb0'.out.size)⟩
      | false =>
        go_wp2_with fail
        go_roundw
        case rel => exact ⟨k + 1, by omega, by go_num, Lib.hid (fun j hj => by
          by_cases hjk : j = k
          · subst hjk; rw [hx'.out]; exact hxt
          · exact hno.out j (by omega)), hb⟩
        case measure => simp [intOf]; omega
    · obtain rfl : k = ln := by omega
      have hf : fst (fun y => y.1 == tag) lks = -1 := fst_no (fun j hj => by rw [← getD_el (d := (0, 0)) hj]; exact hno.out j (by rw [hlen'.out] at hj; exact hj))
      have hf' := Lib.hid hf
      have br' := Lib.hid br
      clear hf br
      go_wp2_with fail
      go_ret
      exact ⟨by rw [hf'.out]; rfl, hb0'.out.trans (hb.out.mono hb0'.out.size)⟩
def ownD (lks : List Lk) (sat slong tag : Int) : Bool := decide (0 ≤ fst (fun y => y.1 == tag) lks) || (sat != 0 && (tag == sat || tag == slong))
set_option maxHeartbeats 2000000 in
theorem own_any (la : Option Addr) (ln lc : Nat) (lks : List Lk) (sat slong snx tag : Int) (w : World) (hl : Sl w la ln lc 2 (fl lkc lks)) :
    Calls Try.prog 72 #[.agg #[.slice la ln lc, .int .i64 sat, .int .i64 slong, .int .i64 snx], .int .i64 tag] w fun e w' => e = .returned (.bool (ownD lks sat slong tag)) ∧ Below w.heap.size w w' := by
  have hb0 := (Below.refl w.heap.size w).alloc (Nat.le_refl _) (.cells #[.slice la ln lc, .int .i64 sat, .int .i64 slong, .int .i64 snx] 35)
  have b0 := Blk.new w 35 #[.slice la ln lc, .int .i64 sat, .int .i64 slong, .int .i64 snx]
  obtain ⟨w1, hw1⟩ : ∃ W, w.alloc (.cells #[.slice la ln lc, .int .i64 sat, .int .i64 slong, .int .i64 snx] 35) = W := ⟨_, rfl⟩
  rw [hw1] at hb0 b0
  obtain ⟨gs, hgs⟩ : ∃ g, w.heap.size = g := ⟨_, rfl⟩
  rw [hgs] at b0
  have HL := link_any la ln lc lks sat slong snx tag w1 (hl.mono hb0)
  unfold ownD
  generalize fst (fun (y : Lk) => y.1 == tag) lks = k at *
  obtain ⟨p, hp⟩ : ∃ p, decide (0 ≤ k) = p := ⟨_, rfl⟩
  obtain ⟨q, hq⟩ : ∃ q, (sat != 0) = q := ⟨_, rfl⟩
  obtain ⟨r, hr⟩ : ∃ r, (tag == sat) = r := ⟨_, rfl⟩
  obtain ⟨u, hu⟩ : ∃ u, (tag == slong) = u := ⟨_, rfl⟩
  rw [hp, hq, hr, hu]
  have c0 : w1.cell? ⟨gs, 0, none⟩ = some (.slice la ln lc) := b0.cell rfl
  have c1 : w1.cell? ⟨gs, 1, none⟩ = some (.int .i64 sat) := b0.cell rfl
  have c2 : w1.cell? ⟨gs, 2, none⟩ = some (.int .i64 slong) := b0.cell rfl
  have c3 : w1.cell? ⟨gs, 3, none⟩ = some (.int .i64 snx) := b0.cell rfl
  have hl' := Lib.hid hl
  have hb0' := Lib.hid hb0
  have HL' := Lib.hid HL
  have b0' := Lib.hid b0
  clear hl hb0 HL b0
  go_enter Try.func72, Try.ntmps72
  go_upto_region 1 with fail
  try rw [hw1]
  try rw [hgs]
  clear hw1
  go_wp2_with fail
  refine HL'.out.mono ?_
  rintro e w2 ⟨rfl, hb2⟩
  have b2 := b0'.out.late hb2
  have d1 : w2.cell? ⟨gs, 1, none⟩ = some (.int .i64 sat) := b2.cell rfl
  have d2 : w2.cell? ⟨gs, 2, none⟩ = some (.int .i64 slong) := b2.cell rfl
  clear c0 c1 c2 c3 b0'
  have b2' := Lib.hid b2
  have hb2' := Lib.hid hb2
  clear b2 hb2
  cases p <;> cases q <;> cases r <;> cases u
  all_goals
    go_wp2_with fail
    go_ret
    exact ⟨rfl, hb0'.out.trans (hb2'.out.mono hb0'.out.size)⟩
end Go.Proofs.Ytheelhepelbgcaa

namespace Go.Proofs.Ytheelhepelbgcaa
open Go.RowKit Tt
set_option linter.unusedVariables false
set_option linter.unusedSimpArgs false

/-- how a method of the document's walk ends -/
def DPost {α : Type} (K : DwS) (sv : Value) (w : World) (R : Except Int (α × St)) (bad : Ending → Prop) (good : α → Value → Ending → World → Prop) (e : Ending) (w' : World) : Prop := match R with
  | .error y => y ≠ 0 ∧ ∃ s' sv' tk', DwOk K s' sv' tk' y w' ∧ Mv K.g K.gt sv sv' w w' ∧ bad e
  | .ok (v, s') => ∃ sv' tk', DwOk K s' sv' tk' 0 w' ∧ Mv K.g K.gt sv sv' w w' ∧ good v sv' e w'
theorem ints_getD {l : List Int} {i : Nat} (h : i < l.length) (v : Int) (j : Nat) : (l.set i v).getD j 0 = if j = i then v else l.getD j 0 := by
  by_cases hj : j = i
  · subst hj
    rw [if_pos rfl, List.getD_eq_getElem?_getD, List.getElem?_set_self h]; rfl
  · rw [if_neg hj, List.getD_eq_getElem?_getD, List.getElem?_set_ne (Ne.symm hj), ← List.getD_eq_getElem?_getD]
set_option maxRecDepth 20000 in
set_option maxHeartbeats 8000000 in
theorem dtake_any (K : DwS) (t : DwT K) (s : St) (sv : Value) (tk : List Int) (w : World) (x : Spt) (hok : DwOk K s sv tk 0 w) (A L : Nat) (hA : x.2.2.2.1 = A) (hL : x.2.2.2.2 = L) (hA2 : A ≤ 4294967295) (hL2 : L ≤ 4294967295) (hsm : s.spots.length ≤ 4294967295) :
    Calls Try.prog 35 #[.pointer (some ⟨K.g, 0, none⟩), .agg #[.int .i64 x.1, .int .i64 x.2.1, .int .i64 x.2.2.1, .int .i64 x.2.2.2.1, .int .i64 x.2.2.2.2]] w (DPost K sv w (unitR (takeS K.n x s)) (fun e => e = .returned (.tuple #[])) fun _ _ e _ => e = .returned (.tuple #[])) := by
  obtain ⟨x0, x1, x2, A', L'⟩ := x
  simp only at hA hL
  subst hA hL
  simp only
  have hn := t.n1
  obtain ⟨R, hR⟩ : ∃ R, takeS K.n (x0, x1, x2, (A : Int), (L : Int)) s = R := ⟨_, rfl⟩
  rw [hR]
  unfold takeS fitB at hR
  simp only [Int.toNat_natCast] at hR
  have hRm := fun W => rroom_any A L K.n W (by omega) (by omega)
  have htm : Int.tmod (A : Int) 2 = (A : Int) % 2 := Int.tmod_eq_emod_of_nonneg (by omega)
  have hok' := Lib.hid hok
  have t' := Lib.hid t
  have hRm' := Lib.hid hRm
  clear hok t hRm
  by_cases hev : (A : Int) % 2 = 0
  case neg =>
    have d1 : ((A : Int) % 2 != 0) = true := by simp [hev]
    obtain rfl : R = .error 4 := by rw [← hR, decide_eq_false hev]; simp
    clear hR hev
    go_enter Try.func35, Try.ntmps35
    go_upto_region 1 with fail
    have b3 := Blk.new w 38 #[.int .i64 x0, .int .i64 x1, .int .i64 x2, .int .i64 A, .int .i64 L]
    have hb1 := (Below.refl w.heap.size w).alloc (Nat.le_refl _) (.cells #[.int .i64 x0, .int .i64 x1, .int .i64 x2, .int .i64 A, .int .i64 L] 38)
    have hok1 := hok'.out.later hb1
    obtain ⟨w1, hw1⟩ : ∃ w1, w.alloc (.cells #[.int .i64 x0, .int .i64 x1, .int .i64 x2, .int .i64 A, .int .i64 L] 38) = w1 := ⟨_, rfl⟩
    rw [hw1] at b3 hb1 hok1
    try rw [hw1]
    clear hw1
    obtain ⟨gs, hgs⟩ : ∃ gs, w.heap.size = gs := ⟨_, rfl⟩
    rw [hgs] at b3
    try rw [hgs]
    have hgK : K.g < gs := by rw [← hgs]; exact hok'.out.blk.lt
    have hgtK : K.gt < gs := by rw [← hgs]; exact Blk.lt (T := 3) hok'.out.tak
    obtain ⟨Ty, f, hne, hbel, hsurj⟩ := later_worlds w1
    have q3 : ∀ s, (f s).cell? ⟨gs, 3, none⟩ = some (.int .i64 A) := fun s => (Blk.late b3 (hbel s)).cell rfl
    have q4 : ∀ s, (f s).cell? ⟨gs, 4, none⟩ = some (.int .i64 L) := fun s => (Blk.late b3 (hbel s)).cell rfl
    have q0 : ∀ s, (f s).cell? ⟨K.g, 0, none⟩ = some (.slice K.a K.n K.c) := fun s => (Blk.late hok1.blk (hbel s)).cell rfl
    have HS := Lib.hid (hsurj _ ((Below.refl _ _).drew))
    have b3' := Lib.hid b3
    have hb1' := Lib.hid hb1
    have hok1' := Lib.hid hok1
    have hbel' := Lib.hid hbel
    have hsurj' := Lib.hid hsurj
    have hgs' := Lib.hid hgs
    clear b3 hb1 hok1 hbel hsurj hgs
    refine wp_quiet_in f (by kernel_rfl) (by kernel_rfl) HS.out ?_
    iterate 17 (go_big_quiet_step ((go_at_call 56; refine (hRm'.out _).mono ?_; rintro e w3 ⟨rfl, rfl⟩; exact ⟨rfl, hsurj'.out _ (hbel'.out _)⟩)))
    refine wpQuiet_nil ?_
    intro sW
    have hbW := hb1'.out.trans ((hbel'.out sW).mono hb1'.out.size)
    have hokW := hok1'.out.later (hbel'.out sW)
    have b3W := b3'.out.late (hbel'.out sW)
    generalize f sW = W at *
    clear q0 q3 q4 HS hbel' hsurj' hok1' b3' hb1'
    have hbW' := Lib.hid hbW
    have hokW' := Lib.hid hokW
    have b3W' := Lib.hid b3W
    clear hbW hokW b3W
    go_wp2_with fail
    refine (fail_any K t'.out s sv tk 0 4 W hokW'.out).mono ?_
    rintro e w2 ⟨rfl, hok2, hb2⟩
    have hok2' := Lib.hid hok2
    have hb2' := Lib.hid hb2
    clear hok2 hb2
    go_wp2_with fail
    refine bodyPost_end (results_none rfl _ _ _) rfl ?_
    exact ⟨by decide, s, sv, tk, hok2'.out, (Mv.of_below hbW'.out).trans (Mv.of_but hb2'.out (.inl rfl)), rfl⟩
  case pos =>
    have d1 : ((A : Int) % 2 != 0) = false := by simp [hev]
    rw [decide_eq_true hev, Bool.true_and] at hR
    obtain ⟨r, hr⟩ : ∃ r, roomB A L K.n = r := ⟨_, rfl⟩
    rw [hr] at hR hRm'
    cases r
    case false =>
      obtain rfl : R = .error 4 := by rw [← hR]; simp
      clear hR hev hr
      go_enter Try.func35, Try.ntmps35
      go_upto_region 1 with fail
      have b3 := Blk.new w 38 #[.int .i64 x0, .int .i64 x1, .int .i64 x2, .int .i64 A, .int .i64 L]
      have hb1 := (Below.refl w.heap.size w).alloc (Nat.le_refl _) (.cells #[.int .i64 x0, .int .i64 x1, .int .i64 x2, .int .i64 A, .int .i64 L] 38)
      have hok1 := hok'.out.later hb1
      obtain ⟨w1, hw1⟩ : ∃ w1, w.alloc (.cells #[.int .i64 x0, .int .i64 x1, .int .i64 x2, .int .i64 A, .int .i64 L] 38) = w1 := ⟨_, rfl⟩
      rw [hw1] at b3 hb1 hok1
      try rw [hw1]
      clear hw1
      obtain ⟨gs, hgs⟩ : ∃ gs, w.heap.size = gs := ⟨_, rfl⟩
      rw [hgs] at b3
      try rw [hgs]
      have hgK : K.g < gs := by rw [← hgs]; exact hok'.out.blk.lt
      have hgtK : K.gt < gs := by rw [← hgs]; exact Blk.lt (T := 3) hok'.out.tak
      obtain ⟨Ty, f, hne, hbel, hsurj⟩ := later_worlds w1
      have q3 : ∀ s, (f s).cell? ⟨gs, 3, none⟩ = some (.int .i64 A) := fun s => (Blk.late b3 (hbel s)).cell rfl
      have q4 : ∀ s, (f s).cell? ⟨gs, 4, none⟩ = some (.int .i64 L) := fun s => (Blk.late b3 (hbel s)).cell rfl
      have q0 : ∀ s, (f s).cell? ⟨K.g, 0, none⟩ = some (.slice K.a K.n K.c) := fun s => (Blk.late hok1.blk (hbel s)).cell rfl
      have HS := Lib.hid (hsurj _ ((Below.refl _ _).drew))
      have b3' := Lib.hid b3
      have hb1' := Lib.hid hb1
      have hok1' := Lib.hid hok1
      have hbel' := Lib.hid hbel
      have hsurj' := Lib.hid hsurj
      have hgs' := Lib.hid hgs
      clear b3 hb1 hok1 hbel hsurj hgs
      refine wp_quiet_in f (by kernel_rfl) (by kernel_rfl) HS.out ?_
      iterate 17 (go_big_quiet_step ((go_at_call 56; refine (hRm'.out _).mono ?_; rintro e w3 ⟨rfl, rfl⟩; exact ⟨rfl, hsurj'.out _ (hbel'.out _)⟩)))
      refine wpQuiet_nil ?_
      intro sW
      have hbW := hb1'.out.trans ((hbel'.out sW).mono hb1'.out.size)
      have hokW := hok1'.out.later (hbel'.out sW)
      have b3W := b3'.out.late (hbel'.out sW)
      generalize f sW = W at *
      clear q0 q3 q4 HS hbel' hsurj' hok1' b3' hb1'
      have hbW' := Lib.hid hbW
      have hokW' := Lib.hid hokW
      have b3W' := Lib.hid b3W
      clear hbW hokW b3W
      go_wp2_with fail
      refine (fail_any K t'.out s sv tk 0 4 W hokW'.out).mono ?_
      rintro e w2 ⟨rfl, hok2, hb2⟩
      have hok2' := Lib.hid hok2
      have hb2' := Lib.hid hb2
      clear hok2 hb2
      go_wp2_with fail
      refine bodyPost_end (results_none rfl _ _ _) rfl ?_
      exact ⟨by decide, s, sv, tk, hok2'.out, (Mv.of_below hbW'.out).trans (Mv.of_but hb2'.out (.inl rfl)), rfl⟩
    case true =>
      have hAL : A + L ≤ K.n := by unfold roomB at hr; simp at hr; omega
      rw [if_pos rfl] at hR
      clear hev hr
      have hR' := Lib.hid hR
      clear hR
      go_enter Try.func35, Try.ntmps35
      go_upto_region 1 with fail
      have b3 := Blk.new w 38 #[.int .i64 x0, .int .i64 x1, .int .i64 x2, .int .i64 A, .int .i64 L]
      have hb1 := (Below.refl w.heap.size w).alloc (Nat.le_refl _) (.cells #[.int .i64 x0, .int .i64 x1, .int .i64 x2, .int .i64 A, .int .i64 L] 38)
      have hok1 := hok'.out.later hb1
      obtain ⟨w1, hw1⟩ : ∃ w1, w.alloc (.cells #[.int .i64 x0, .int .i64 x1, .int .i64 x2, .int .i64 A, .int .i64 L] 38) = w1 := ⟨_, rfl⟩
      rw [hw1] at b3 hb1 hok1
      try rw [hw1]
      clear hw1
      obtain ⟨gs, hgs⟩ : ∃ gs, w.heap.size = gs := ⟨_, rfl⟩
      rw [hgs] at b3
      try rw [hgs]
      have hgK : K.g < gs := by rw [← hgs]; exact hok'.out.blk.lt
      have hgtK : K.gt < gs := by rw [← hgs]; exact Blk.lt (T := 3) hok'.out.tak
      obtain ⟨Ty, f, hne, hbel, hsurj⟩ := later_worlds w1
      have q3 : ∀ s, (f s).cell? ⟨gs, 3, none⟩ = some (.int .i64 A) := fun s => (Blk.late b3 (hbel s)).cell rfl
      have q4 : ∀ s, (f s).cell? ⟨gs, 4, none⟩ = some (.int .i64 L) := fun s => (Blk.late b3 (hbel s)).cell rfl
      have q0 : ∀ s, (f s).cell? ⟨K.g, 0, none⟩ = some (.slice K.a K.n K.c) := fun s => (Blk.late hok1.blk (hbel s)).cell rfl
      have HS := Lib.hid (hsurj _ ((Below.refl _ _).drew))
      have b3' := Lib.hid b3
      have hb1' := Lib.hid hb1
      have hok1' := Lib.hid hok1
      have hbel' := Lib.hid hbel
      have hsurj' := Lib.hid hsurj
      have hgs' := Lib.hid hgs
      clear b3 hb1 hok1 hbel hsurj hgs
      refine wp_quiet_in f (by kernel_rfl) (by kernel_rfl) HS.out ?_
      iterate 17 (go_big_quiet_step ((go_at_call 56; refine (hRm'.out _).mono ?_; rintro e w3 ⟨rfl, rfl⟩; exact ⟨rfl, hsurj'.out _ (hbel'.out _)⟩)))
      refine wpQuiet_nil ?_
      intro sW
      have hbW := hb1'.out.trans ((hbel'.out sW).mono hb1'.out.size)
      have hokW := hok1'.out.later (hbel'.out sW)
      have b3W := b3'.out.late (hbel'.out sW)
      generalize f sW = W at *
      clear q0 q3 q4 HS hbel' hsurj' hok1' b3' hb1'
      have hbW' := Lib.hid hbW
      have hokW' := Lib.hid hokW
      have b3W' := Lib.hid b3W
      clear hbW hokW b3W
      have hgs0' := hgs'
      go_wp2_with fail
      clear hgs'
      have hgsne0 : sv.ownBlock ≠ some gs := fun e => by have := (hok'.out.spot.lt _ e).2; have := hgs0'.out; omega
      clear hgs0'
      go_loopw [4] (fun iv wr => ∃ (m : Nat), m ≤ L ∧ iv = .int .i64 m ∧ Hid (∀ i : Nat, i < m → takenB s (A + i) = false) ∧ Hid (Below W.heap.size W wr)) (fun iv _ => L - (intOf iv).toNat)
      case atStart => exact ⟨0, by omega, rfl, Lib.hid (fun i h => by omega), Lib.hid (Below.refl _ _)⟩
      case round =>
        obtain ⟨m, hm, rfl, hfree, hbr⟩ := hrel
        have b3r := b3W'.out.late hbr.out
        have hokr := hokW'.out.later hbr.out
        have hbwr := hbW'.out.trans (hbr.out.mono hbW'.out.size)
        have c4 : wr.cell? ⟨gs, 4, none⟩ = some (.int .i64 L) := b3r.cell rfl
        have c3 : wr.cell? ⟨gs, 3, none⟩ = some (.int .i64 A) := b3r.cell rfl
        have k3 : wr.cell? ⟨K.g, 3, none⟩ = some (.slice (some ⟨K.gt, 0, none⟩) K.n K.n) := hokr.blk.cell rfl
        by_cases hlt : m < L
        · have hmi : (m : Int) < L := by omega
          obtain ⟨q, hq⟩ : ∃ q, A + m = q := ⟨_, rfl⟩
          have hw0 : IntKind.i64.wrap ((A : Int) + m) = q := by rw [IntKind.wrap_i64]; omega
          have hqn2 : q < K.n := by omega
          have hqn : (q : Int) < K.n := by omega
          have f0 := hokr.tak.cell (i := q) (by rw [hokr.tkl]; exact hqn2)
          rw [hokr.bits q hqn2] at f0
          obtain ⟨bt, hbt⟩ : ∃ bt, takenB s q = bt := ⟨_, rfl⟩
          rw [hbt] at f0
          have b3r' := Lib.hid b3r
          have hokr' := Lib.hid hokr
          have hbwr' := Lib.hid hbwr
          have hbt' := Lib.hid hbt
          have hq' := Lib.hid hq
          clear b3r hokr hbwr hbt hq
          cases bt
          · rw [if_neg (by decide)] at f0
            go_wp2_with fail
            go_quiet (fail)
            go_wp2_with fail
            go_roundw
            case rel => exact ⟨m + 1, by omega, by go_num, Lib.hid (fun i hi => by
              by_cases him : i = m
              · subst him
                have h1 := hbt'.out
                rw [← hq'.out] at h1
                exact_mod_cast h1
              · exact hfree.out i (by omega)), Lib.hid (below_drewN hbr.out _)⟩
            case measure => simp [intOf]; omega
          · rw [if_pos rfl] at f0
            have hRe : R = .error 5 := by
              have h5 := freeB_no (s := s) (A := A) (L := L) (k := m) hlt (by have h1 := hbt'.out; rw [← hq'.out] at h1; exact_mod_cast h1)
              have h6 := hR'.out
              simp only [h5] at h6
              simpa using h6.symm
            subst hRe
            clear hR'
            go_wp2_with fail
            go_quiet (fail)
            go_wp2_with fail
            refine (fail_any K t'.out s sv tk 0 5 _ (hokr'.out.later (below_drewN (Below.refl _ _) _))).mono ?_
            rintro e w2 ⟨rfl, hok2, hb2⟩
            have hok2' := Lib.hid hok2
            have hb2' := Lib.hid hb2
            clear hok2 hb2
            go_wp2_with fail
            refine bodyPost_end (results_none rfl _ _ _) rfl ?_
            exact ⟨by decide, s, sv, tk, hok2'.out, (Mv.of_below (below_drewN hbwr'.out _)).trans (Mv.of_but hb2'.out (.inl rfl)), rfl⟩
        · obtain rfl : m = L := by omega
          have hfr := freeB_yes (s := s) (A := A) (L := m) (fun k hk => hfree.out k hk)
          have hRok : R = .ok { s with spots := s.spots ++ [(x0, x1, x2, (A : Int), (m : Int))] } := by
            have h6 := hR'.out
            simp only [hfr] at h6
            simpa using h6.symm
          subst hRok
          clear hR'
          have b3r' := Lib.hid b3r
          have hokr' := Lib.hid hokr
          have hbwr' := Lib.hid hbwr
          clear b3r hokr hbwr
          go_wp2_with fail
          clear c3 c4 k3 hbr hbW' hokW' b3W' hfree hfr
          generalize wr = W at *
          go_loopw [5] (fun iv wr => ∃ (j : Nat) (tk2 : List Int), j ≤ m ∧ iv = .int .i64 j ∧ Hid (Row wr K.gt 3 .i64 tk2) ∧ Hid (tk2.length = K.n) ∧ Hid (∀ k : Nat, k < K.n → tk2.getD k 0 = if (takenB s k || (decide (A ≤ k) && decide (k < A + j))) = true then 1 else 0) ∧ Hid (But K.gt W wr)) (fun iv _ => m - (intOf iv).toNat)
          case atStart => exact ⟨0, tk, by omega, rfl, Lib.hid hokr'.out.tak, Lib.hid hokr'.out.tkl, Lib.hid (fun k hk => by rw [hokr'.out.bits k hk, show (decide (A ≤ k) && decide (k < A + 0)) = false by simp, Bool.or_false]), Lib.hid (But.refl _ _)⟩
          case round =>
            obtain ⟨j, tk2, hj, rfl, hrow, hl2, hbit, hbut⟩ := hrel
            have b3r := b3r'.out.but hbut.out (by omega)
            have hblk := hokr'.out.blk.but hbut.out t'.out.ne
            have c3 : wr.cell? ⟨gs, 3, none⟩ = some (.int .i64 A) := b3r.cell rfl
            have c4 : wr.cell? ⟨gs, 4, none⟩ = some (.int .i64 m) := b3r.cell rfl
            by_cases hlt : j < m
            · have hmi : (j : Int) < m := by omega
              obtain ⟨q, hq⟩ : ∃ q, A + j = q := ⟨_, rfl⟩
              have hw0 : IntKind.i64.wrap ((A : Int) + j) = q := by rw [IntKind.wrap_i64]; omega
              have hqn2 : q < K.n := by omega
              have hqn : (q : Int) < K.n := by omega
              obtain ⟨Ty2, f2, hne2, hp2, hsurj2⟩ := prop_worlds (fun W2 => Blk W2 K.g 72 #[.slice K.a K.n K.c, .int .i64 K.o, .slice K.sa K.sn K.sc, .slice (some ⟨K.gt, 0, none⟩) K.n K.n, sv, .int .i64 s.no, .int .i64 s.soiled, .int .i64 0] ∧ Blk W2 gs 38 #[.int .i64 x0, .int .i64 x1, .int .i64 x2, .int .i64 A, .int .i64 m]) wr ⟨hblk, b3r⟩
              have k3 : ∀ s, (f2 s).cell? ⟨K.g, 3, none⟩ = some (.slice (some ⟨K.gt, 0, none⟩) K.n K.n) := fun s => (hp2 s).1.cell rfl
              have r3 : ∀ s, (f2 s).cell? ⟨gs, 3, none⟩ = some (.int .i64 A) := fun s => (hp2 s).2.cell rfl
              have HS := Lib.hid (hsurj2 wr.drew ⟨hblk, b3r⟩)
              have rowd : Row wr.drew K.gt 3 .i64 tk2 := hrow.out
              have p0 := rowd.cell (i := q) (by rw [hl2.out]; exact hqn2)
              have y0 := rowd.frozen q
              have hbutd : But K.gt W wr.drew := hbut.out.trans (But.of_below ((Below.refl wr.heap.size wr).drew))
              have HSe := Lib.hid (hsurj2 (wr.drew.setCell ⟨K.gt, q, none⟩ (.int .i64 1)) ⟨hblk.set_other t'.out.ne q _, b3r.set_other (by omega) q _⟩)
              have hp2' := Lib.hid hp2
              have hsurj2' := Lib.hid hsurj2
              have hblk' := Lib.hid hblk
              have b3r' := Lib.hid b3r
              have hq' := Lib.hid hq
              have rowd' := Lib.hid rowd
              have hbutd' := Lib.hid hbutd
              clear hp2 hsurj2 hblk b3r hq rowd hbutd
              go_wp2_with fail
              clear c3 c4
              refine held_begin (S := fun W => ∃ s, W = f2 s) (by kernel_rfl) 10 rfl ?_
              refine held_take [0, 1, 2, 3, 4, 5, 6, 7, 8] 1 (by kernel_rfl) (fun d _ _ _ _ h => by cases d <;> exact h) (by kernel_rfl) (by kernel_rfl) (by kernel_rfl) HS.out ?_
              simp only [pickL, List.map_cons, List.map_nil, List.getD_cons_succ, List.getD_cons_zero]
              iterate 9 (go_big_quiet_step (fail))
              refine wpQuiet_nil ?_
              refine held_one 9 0 (by kernel_rfl) (by kernel_rfl) ?_
              simp only [pickL, List.map_cons, List.map_nil, List.getD_cons_succ, List.getD_cons_zero]
              clear k3 r3
              go_wp2_with fail
              refine Mid.mk ⟨HSe.out, ?_⟩
              refine held_last (by kernel_rfl) ?_
              clear p0 y0
              go_wp2_with fail
              go_roundw
              case rel =>
                refine ⟨j + 1, tk2.set q 1, by omega, by go_num, Lib.hid (rowd'.out.set q 1), Lib.hid (by rw [List.length_set]; exact hl2.out), Lib.hid (fun k hk => ?_), Lib.hid (hbutd'.out.set q _)⟩
                rw [ints_getD (by rw [hl2.out]; exact hqn2), hbit.out k hk]
                have hqq := hq'.out
                by_cases hkq : k = q
                · rw [if_pos hkq, if_pos]
                  simp
                  omega
                · rw [if_neg hkq]
                  have e : (decide (A ≤ k) && decide (k < A + j)) = (decide (A ≤ k) && decide (k < A + (j + 1))) := by
                    rw [Bool.eq_iff_iff]; simp; omega
                  rw [e]
              case measure => simp [intOf]; omega
            · obtain rfl : j = m := by omega
              have b3r' := Lib.hid b3r
              have hblk' := Lib.hid hblk
              clear b3r hblk
              go_wp2_with fail
              clear c3 c4
              have htak : Row wr K.gt 3 .i64 tk2 := hrow.out
              have hspot := own_but hokr'.out.spot hbut.out hokr'.out.sgt
              have b3r := b3r'.out
              have hblk := hblk'.out
              have hold : Below K.w0.heap.size K.w0 wr := hokr'.out.old.trans (hbut.out.below t'.out.gtB hokr'.out.old.size)
              have hmv : Mv K.g K.gt sv sv w wr := (Mv.of_below hbwr'.out).trans (Mv.of_but hbut.out (.inr rfl))
              clear b3r' hblk'
              obtain ⟨Ty2, f2, hne2, hp2, hsurj2⟩ := prop_worlds (fun W2 => Blk W2 K.g 72 #[.slice K.a K.n K.c, .int .i64 K.o, .slice K.sa K.sn K.sc, .slice (some ⟨K.gt, 0, none⟩) K.n K.n, sv, .int .i64 s.no, .int .i64 s.soiled, .int .i64 0] ∧ Blk W2 gs 38 #[.int .i64 x0, .int .i64 x1, .int .i64 x2, .int .i64 A, .int .i64 j]) wr ⟨hblk, b3r⟩
              have q4 : ∀ s, (f2 s).cell? ⟨K.g, 4, none⟩ = some sv := fun s => (hp2 s).1.cell rfl
              have r0 : ∀ s, (f2 s).cell? ⟨gs, 0, none⟩ = some (.int .i64 x0) := fun s => (hp2 s).2.cell rfl
              have r1 : ∀ s, (f2 s).cell? ⟨gs, 1, none⟩ = some (.int .i64 x1) := fun s => (hp2 s).2.cell rfl
              have r2 : ∀ s, (f2 s).cell? ⟨gs, 2, none⟩ = some (.int .i64 x2) := fun s => (hp2 s).2.cell rfl
              have r3 : ∀ s, (f2 s).cell? ⟨gs, 3, none⟩ = some (.int .i64 A) := fun s => (hp2 s).2.cell rfl
              have r4 : ∀ s, (f2 s).cell? ⟨gs, 4, none⟩ = some (.int .i64 j) := fun s => (hp2 s).2.cell rfl
              have HS := Lib.hid (hsurj2 wr.drew ⟨hblk, b3r⟩)
              obtain ⟨i0, z0, hi0, hz, hz1, hz2, hz3⟩ := info_sz infoSp infoSpz
              have htak' := Lib.hid htak
              have hspot' := Lib.hid hspot
              have b3r' := Lib.hid b3r
              have hold' := Lib.hid hold
              have hmv' := Lib.hid hmv
              have hp2' := Lib.hid hp2
              have hsurj2' := Lib.hid hsurj2
              have hblk' := Lib.hid hblk
              clear htak hspot b3r hold hmv hp2 hsurj2 hblk
              refine till_begin (t := 10) (C := fun W => ∃ s, W = f2 s) (by kernel_rfl) 11 rfl ?_
              refine till_free [0, 1, 2, 3] 7 (by kernel_rfl) (fun d _ _ _ _ h => by cases d <;> exact h) (by kernel_rfl) (by kernel_rfl) (by kernel_rfl) HS.out ?_
              simp only [pickL, List.map_cons, List.map_nil, List.getD_cons_succ, List.getD_cons_zero]
              iterate 4 (go_big_quiet_step (fail))
              refine wpQuiet_nil ?_
              refine till_take [4, 5] 5 (by kernel_rfl) (fun d _ _ _ _ h => by cases d <;> exact h) (by kernel_rfl) (by kernel_rfl) (by kernel_rfl) HS.out ?_
              simp only [pickL, List.map_cons, List.map_nil, List.getD_cons_succ, List.getD_cons_zero]
              iterate 2 (go_big_quiet_step (fail))
              refine wpQuiet_nil ?_
              clear q4 r0 r1 r2 r3 r4
              refine till_one 6 4 (by kernel_rfl) (by kernel_rfl) ?_
              simp only [pickL, List.map_cons, List.map_nil, List.getD_cons_succ, List.getD_cons_zero]
              go_wp2_with fail
              have hal := ((Below.refl wr.heap.size wr).alloc (Nat.le_refl _) (.cells #[.int .i64 x0, .int .i64 x1, .int .i64 x2, .int .i64 A, .int .i64 j] 38)).drew
              have hnew : Sl (wr.alloc (.cells #[.int .i64 x0, .int .i64 x1, .int .i64 x2, .int .i64 A, .int .i64 j] 38)).drew (some ⟨wr.heap.size, 0, none⟩) 1 1 5 (spC (x0, x1, x2, (A : Int), (j : Int))) := (Sl.new wr 38 5 1 #[.int .i64 x0, .int .i64 x1, .int .i64 x2, .int .i64 A, .int .i64 j] (0, 0) (by omega) rfl).mono ((Below.refl _ _).drew)
              have hblk7 := hblk'.out.late hal
              have b37 := b3r'.out.late hal
              have hspot7 := own_later hspot'.out hal
              have htak7 : Row _ K.gt 3 .i64 tk2 := Blk.late (T := 3) htak'.out hal
              have hold7 := hold'.out.trans (hal.mono hold'.out.size)
              have hmv7 := hmv'.out.later hal
              have hsize7 := hal.size
              obtain ⟨w7, hw7⟩ : ∃ w7, (wr.alloc (.cells #[.int .i64 x0, .int .i64 x1, .int .i64 x2, .int .i64 A, .int .i64 j] 38)).drew = w7 := ⟨_, rfl⟩
              rw [hw7] at hblk7 b37 hspot7 htak7 hold7 hmv7 hnew hsize7
              rw [hw7]
              obtain ⟨gn, hgn⟩ : ∃ gn, wr.heap.size = gn := ⟨_, rfl⟩
              rw [hgn] at hnew
              rw [hgn]
              clear hw7 hal HS hgn
              have HS := Lib.hid (hsurj2'.out w7 ⟨hblk7, b37⟩)
              have hgne : sv.ownBlock ≠ some K.g := hokr'.out.sg
              have hgtne : sv.ownBlock ≠ some K.gt := hokr'.out.sgt
              have hgsne : sv.ownBlock ≠ some gs := hgsne0
              have hblk7' := Lib.hid hblk7
              have b37' := Lib.hid b37
              have hspot7' := Lib.hid hspot7
              have htak7' := Lib.hid htak7
              have hold7' := Lib.hid hold7
              have hmv7' := Lib.hid hmv7
              have hnew' := Lib.hid hnew
              have hgne' := Lib.hid hgne
              have hgtne' := Lib.hid hgtne
              have hgsne' := Lib.hid hgsne
              clear hblk7 b37 hspot7 htak7 hold7 hmv7 hnew hgne hgtne hgsne
              first | refine Mid.mk ⟨fun _ => HS.out, ?_⟩ | refine Mid.mk ?_
              refine till_one 7 3 (by kernel_rfl) (by kernel_rfl) ?_
              simp only [pickL, List.map_cons, List.map_nil, List.getD_cons_succ, List.getD_cons_zero]
              go_wp2_with (at_builtin; refine wpList_app2 rfl _ _ 29 rfl K.w0.heap.size 38 i0 z0 5 40 Try.underlying29 hi0 hz hz1 hz2 hz3 (by decide) sv s.spots.length _ rfl hspot7'.out ⟨gn, 0, none⟩ 1 1 (spC (x0, x1, x2, (A : Int), (j : Int))) rfl hnew'.out (spC_one _) (by omega) (by decide) hold7'.out.size ?_; intro a8 c8 w8 ob hg8 hown8; have Ob := Lib.hid ob; have Hg8 := Lib.hid hg8; have Ho8 := Lib.hid hown8; clear ob hg8 hown8)
              have hblk8 := hblk7'.out.grown Hg8.out hgne'.out
              have b38 := b37'.out.grown Hg8.out hgsne'.out
              have htak8 : Row w8 K.gt 3 .i64 tk2 := Blk.grown (T := 3) htak7'.out Hg8.out hgtne'.out
              have hmv8 := hmv7'.out.trans (Mv.of_grown Hg8.out Ho8.out)
              have hold8 := below_grown hold7'.out Hg8.out hold7'.out.size hspot7'.out
              have hlt7 := hblk7'.out.lt
              have hltt7 := Blk.lt (T := 3) htak7'.out
              have hg2 : (Value.slice a8 (s.spots.length + 1) c8).ownBlock ≠ some K.g := fun e => by rcases Ho8.out _ e with h | h <;> first | exact hgne'.out h | omega
              have hgt2 : (Value.slice a8 (s.spots.length + 1) c8).ownBlock ≠ some K.gt := fun e => by rcases Ho8.out _ e with h | h <;> first | exact hgtne'.out h | omega
              have HS := Lib.hid (hsurj2'.out w8 ⟨hblk8, b38⟩)
              have p4 : w8.cell? ⟨K.g, 4, none⟩ = some sv := hblk8.cell rfl
              have y4 := hblk8.frozen 4
              clear b38
              have hblk8' := Lib.hid hblk8
              have htak8' := Lib.hid htak8
              have hmv8' := Lib.hid hmv8
              have hold8' := Lib.hid hold8
              have hg2' := Lib.hid hg2
              have hgt2' := Lib.hid hgt2
              clear hblk8 htak8 hmv8 hold8 hg2 hgt2
              first | refine Mid.mk ⟨fun _ => HS.out, ?_⟩ | refine Mid.mk ?_
              refine till_free [8, 9] 1 (by kernel_rfl) (fun d _ _ _ _ h => by cases d <;> exact h) (by kernel_rfl) (by kernel_rfl) (by kernel_rfl) HS.out ?_
              simp only [pickL, List.map_cons, List.map_nil, List.getD_cons_succ, List.getD_cons_zero]
              iterate 2 (go_big_quiet_step (fail))
              refine wpQuiet_nil ?_
              refine till_one 10 0 (by kernel_rfl) (by kernel_rfl) ?_
              simp only [pickL, List.map_cons, List.map_nil, List.getD_cons_succ, List.getD_cons_zero]
              go_wp2_with fail
              first | refine Mid.mk ⟨fun h => (by simp [segL] at h), ?_⟩ | refine Mid.mk ?_
              refine till_last (by kernel_rfl) ?_
              clear p4 y4
              go_wp2_with fail
              refine bodyPost_end (results_none rfl _ _ _) rfl ?_
              refine ⟨.slice a8 (s.spots.length + 1) c8, tk2, ⟨hold8'.out.trans (((But.refl K.g w8).set 4 _).below t'.out.gB hold8'.out.size), hblk8'.out.set 4 _, Blk.set_other (T := 3) htak8'.out (Ne.symm t'.out.ne) 4 _, hl2.out, fun kk hkk => ?_, ?_, hg2'.out, hgt2'.out⟩, hmv8'.out.trans (Mv.of_but ((But.refl K.g w8).set 4 _) (.inl rfl)), rfl⟩
              · rw [hbit.out kk hkk, takenB_snoc]
                have e : (takenB s kk || (decide (A ≤ kk) && decide (kk < A + j))) = (takenB s kk || inSpot kk (x0, x1, x2, (A : Int), (j : Int))) := by
                  congr 1
                  unfold inSpot
                  rw [Bool.eq_iff_iff]
                  simp
                  omega
                rw [e]
              · have h := own_but Ob.out ((But.refl K.g w8).set 4 (.slice a8 (s.spots.length + 1) c8)) hg2'.out
                rw [List.length_append, fl_snoc]
                exact h
end Go.Proofs.Ytheelhepelbgcaa

namespace Go.Proofs.Ytheelhepelbgcaa
open Go.RowKit Tt
set_option linter.unusedVariables false
set_option linter.unusedSimpArgs false

theorem DwOk.but {K : DwS} {s : St} {sv : Value} {tk : List Int} {E : Int} {w w' : World} {h : Nat} (ok : DwOk K s sv tk E w) (b : But h w w') (h1 : h ≠ K.g) (h2 : h ≠ K.gt) (h3 : sv.ownBlock ≠ some h) (h4 : K.w0.heap.size ≤ h) : DwOk K s sv tk E w' :=
  ⟨ok.old.trans (b.below h4 ok.old.size), ok.blk.but b (Ne.symm h1), Blk.but (T := 3) ok.tak b (Ne.symm h2), ok.tkl, ok.bits, own_but ok.spot b h3, ok.sg, ok.sgt⟩
theorem DwOk.soil {K : DwS} {s : St} {sv : Value} {tk : List Int} {E : Int} {w : World} (h : DwOk K s sv tk E w) (t : DwT K) (so : Int) : DwOk K { s with soiled := so } sv tk E (w.setCell ⟨K.g, 6, none⟩ (.int .i64 so)) :=
  ⟨h.old.setCell (p := ⟨K.g, 6, none⟩) t.gB _, h.blk.set 6 _, (Below.heap_setCell _ ⟨K.g, 6, none⟩ _ K.gt (Ne.symm t.ne)).trans h.tak, h.tkl, h.bits, own_but h.spot ((But.refl K.g w).set 6 _) h.sg, h.sg, h.sgt⟩
def BadTag (e : Ending) : Prop := ∃ (a b c : Int) (x : Option Addr) (m k : Nat), e = .returned (.agg #[.int .i64 a, .int .i64 b, .int .i64 c, .slice x m k])
set_option maxRecDepth 20000 in
set_option maxHeartbeats 8000000 in
theorem dvalue_any (K : DwS) (t : DwT K) (ho : K.o = 1 ∨ K.o = 2) (s : St) (sv : Value) (tk : List Int) (w : World) (x : Ent) (no : Int) (hok : DwOk K s sv tk 0 w) (h0 : 0 ≤ x.2.2.2) (h1 : x.2.2.2 ≤ 4294967295) (hsm : s.spots.length ≤ 4294967295) :
    Calls Try.prog 73 #[.pointer (some ⟨K.g, 0, none⟩), entV x, .int .i64 no] w (DPost K sv w (valueS K.z K.o x no s) BadTag (TagIs w)) := by
  obtain ⟨tg, ty, cnt, sl⟩ := x
  simp only at h0 h1
  obtain ⟨S, rfl⟩ : ∃ S : Nat, sl = S := ⟨sl.toNat, by omega⟩
  have hn := t.n1
  have hzl := t.hs.ilen
  obtain ⟨R, hR⟩ : ∃ R, valueS K.z K.o (tg, ty, cnt, (S : Int)) no s = R := ⟨_, rfl⟩
  rw [hR]
  unfold valueS at hR
  simp only at hR
  rw [hzl, Int.toNat_natCast] at hR
  have hSz := fun W => rsize_any ty W
  have hIn := fun W => rinl_any ty cnt W
  have hOu := fun W => rout_any ty cnt W
  have hou : 0 ≤ outS ty cnt ∧ outS ty cnt ≤ 524288 := by unfold outS; have := longS_le ty cnt; split <;> omega
  have hinl : 0 < (kindS ty).1 → 1 ≤ cnt → cnt ≤ 65536 → inlB ty cnt = !decide (0 < outS ty cnt) := fun h1 h2 h3 => by
    have hp : 0 < cnt * (kindS ty).1 := Int.mul_pos (by omega) h1
    unfold inlB outS longS
    rw [if_neg (by omega)]
    by_cases h4 : 4 < cnt * (kindS ty).1
    · rw [if_pos h4, decide_eq_true hp, decide_eq_false (by omega)]
      rfl
    · rw [if_neg h4, decide_eq_true hp, decide_eq_true (by omega)]
      rfl
  obtain ⟨sz, hsz⟩ : ∃ v, (kindS ty).1 = v := ⟨_, rfl⟩
  have hsz0 : 0 ≤ sz := by rw [← hsz]; exact (kindS_size ty).1
  obtain ⟨L, hL⟩ : ∃ L : Nat, outS ty cnt = L := ⟨(outS ty cnt).toNat, by omega⟩
  obtain ⟨il, hil⟩ : ∃ il, inlB ty cnt = il := ⟨_, rfl⟩
  rw [hsz] at hR hSz hinl
  rw [hL] at hR hOu hou hinl
  rw [hil] at hIn hinl
  have hL5 : L ≤ 524288 := by omega
  unfold entV
  simp only
  obtain ⟨W, hW⟩ : ∃ W, (w.alloc (.cells #[.int .i64 tg, .int .i64 ty, .int .i64 cnt, .int .i64 S] 105)).alloc (.cells #[.int .i64 0, .int .i64 0, .int .i64 0, .slice none 0 0] 59) = W := ⟨_, rfl⟩
  have bx : Blk W w.heap.size 105 #[.int .i64 tg, .int .i64 ty, .int .i64 cnt, .int .i64 S] := by rw [← hW]; exact (Blk.new w _ _).alloc _
  have b0 : Blk W (w.heap.size + 1) 59 #[.int .i64 0, .int .i64 0, .int .i64 0, .slice none 0 0] := by rw [← hW]; exact heap_new' _ _ (by simp)
  have hbW : Below w.heap.size w W := by rw [← hW]; exact (((Below.refl w.heap.size w).alloc (Nat.le_refl _) _).alloc (by simp) _)
  have hltW := b0.lt
  have k1 : W.cell? ⟨w.heap.size, 1, none⟩ = some (.int .i64 ty) := bx.cell rfl
  have hgw : K.g < w.heap.size := hok.blk.lt
  have hgtw : K.gt < w.heap.size := Blk.lt (T := 3) hok.tak
  have hsvw : ∀ k, sv.ownBlock = some k → k < w.heap.size := fun k e => (hok.spot.lt k e).2
  clear hsz hL hil
  have hok' := Lib.hid hok
  have t' := Lib.hid t
  have hSz' := Lib.hid hSz
  have hOu' := Lib.hid hOu
  have hIn' := Lib.hid hIn
  have bx' := Lib.hid bx
  have b0' := Lib.hid b0
  have hbW' := Lib.hid hbW
  have hR' := Lib.hid hR
  have hzl' := Lib.hid hzl
  have hsvw' := Lib.hid hsvw
  have hinl' := Lib.hid hinl
  clear hok t hSz hOu hIn bx b0 hbW hR hzl hsvw hinl
  go_enter Try.func73, Try.ntmps73
  go_upto_region 1 with fail
  try rw [hW]
  clear hW
  go_wp2_with fail
  refine (hSz'.out _).mono ?_
  rintro e w1 ⟨rfl, hb1q⟩
  have hb1 : Below W.heap.size W w1 := by first | exact hb1q | (rw [← hb1q]; exact Below.refl _ _)
  have bx1 := bx'.out.late hb1
  have b01 := b0'.out.late hb1
  have hbw1 := hbW'.out.trans (hb1.mono hbW'.out.size)
  have hlt1 := b01.lt
  clear k1
  have k1 : w1.cell? ⟨w.heap.size, 1, none⟩ = some (.int .i64 ty) := bx1.cell rfl
  have k2 : w1.cell? ⟨w.heap.size, 2, none⟩ = some (.int .i64 cnt) := bx1.cell rfl
  clear hb1 hb1q bx' b0' hbW' hltW
  have bx1' := Lib.hid bx1
  have b01' := Lib.hid b01
  have hbw1' := Lib.hid hbw1
  clear bx1 b01 hbw1
  by_cases hc : 0 < sz ∧ 1 ≤ cnt ∧ cnt ≤ 65536
  case neg =>
    obtain rfl : R = .error 6 := by rw [← hR'.out, if_neg hc]
    by_cases hc1 : 0 < sz
    · have d1 : (sz == 0) = false := by simp; omega
      by_cases hc2 : 1 ≤ cnt
      · have d2 : decide (cnt < 1) = false := by simp; omega
        have d3 : decide (65536 < cnt) = true := by simp; omega
        clear hc hc1 hc2
        go_wp2_with fail
        refine (fail_any K t'.out s sv tk 0 6 w1 (hok'.out.later hbw1'.out)).mono ?_
        rintro e w9 ⟨rfl, hokF, hbf⟩
        have b0F := b01'.out.but hbf (by omega)
        have hmvF := (Mv.of_below (g := K.g) (gt := K.gt) (sv := sv) hbw1'.out).trans (Mv.of_but hbf (.inl rfl))
        have b0F' := Lib.hid b0F
        have hokF' := Lib.hid hokF
        have hmvF' := Lib.hid hmvF
        have hbf' := Lib.hid hbf
        clear b0F hokF hmvF hbf
        have p0 : w9.cell? ⟨w.heap.size + 1, 0, none⟩ = some (.int .i64 0) := b0F'.out.cell rfl
        have p1 : w9.cell? ⟨w.heap.size + 1, 1, none⟩ = some (.int .i64 0) := b0F'.out.cell rfl
        have p2 : w9.cell? ⟨w.heap.size + 1, 2, none⟩ = some (.int .i64 0) := b0F'.out.cell rfl
        have p3 : w9.cell? ⟨w.heap.size + 1, 3, none⟩ = some (.slice none 0 0) := b0F'.out.cell rfl
        have y0 := b0F'.out.frozen 0
        have y1 := b0F'.out.frozen 1
        have y2 := b0F'.out.frozen 2
        have y3 := b0F'.out.frozen 3
        go_wp2_with fail
        first | rw [b0F'.out.set_same rfl, b0F'.out.set_same rfl, b0F'.out.set_same rfl, b0F'.out.set_same rfl] | skip
        refine bodyPost_ret (results_cell_row rfl _ _ (w.heap.size + 1) 59 #[.int .i64 0, .int .i64 0, .int .i64 0, .slice none 0 0] (0, 0) _ rfl b0F'.out Try.underlying59 rfl (by kernel_rfl)) rfl ?_
        exact ⟨by decide, s, sv, tk, hokF'.out, hmvF'.out, 0, 0, 0, none, 0, 0, rfl⟩
      · have d2 : decide (cnt < 1) = true := by simp; omega
        clear hc hc1 hc2
        go_wp2_with fail
        refine (fail_any K t'.out s sv tk 0 6 w1 (hok'.out.later hbw1'.out)).mono ?_
        rintro e w9 ⟨rfl, hokF, hbf⟩
        have b0F := b01'.out.but hbf (by omega)
        have hmvF := (Mv.of_below (g := K.g) (gt := K.gt) (sv := sv) hbw1'.out).trans (Mv.of_but hbf (.inl rfl))
        have b0F' := Lib.hid b0F
        have hokF' := Lib.hid hokF
        have hmvF' := Lib.hid hmvF
        have hbf' := Lib.hid hbf
        clear b0F hokF hmvF hbf
        have p0 : w9.cell? ⟨w.heap.size + 1, 0, none⟩ = some (.int .i64 0) := b0F'.out.cell rfl
        have p1 : w9.cell? ⟨w.heap.size + 1, 1, none⟩ = some (.int .i64 0) := b0F'.out.cell rfl
        have p2 : w9.cell? ⟨w.heap.size + 1, 2, none⟩ = some (.int .i64 0) := b0F'.out.cell rfl
        have p3 : w9.cell? ⟨w.heap.size + 1, 3, none⟩ = some (.slice none 0 0) := b0F'.out.cell rfl
        have y0 := b0F'.out.frozen 0
        have y1 := b0F'.out.frozen 1
        have y2 := b0F'.out.frozen 2
        have y3 := b0F'.out.frozen 3
        go_wp2_with fail
        first | rw [b0F'.out.set_same rfl, b0F'.out.set_same rfl, b0F'.out.set_same rfl, b0F'.out.set_same rfl] | skip
        refine bodyPost_ret (results_cell_row rfl _ _ (w.heap.size + 1) 59 #[.int .i64 0, .int .i64 0, .int .i64 0, .slice none 0 0] (0, 0) _ rfl b0F'.out Try.underlying59 rfl (by kernel_rfl)) rfl ?_
        exact ⟨by decide, s, sv, tk, hokF'.out, hmvF'.out, 0, 0, 0, none, 0, 0, rfl⟩
    · have d1 : (sz == 0) = true := by simp; omega
      clear hc hc1
      go_wp2_with fail
      refine (fail_any K t'.out s sv tk 0 6 w1 (hok'.out.later hbw1'.out)).mono ?_
      rintro e w9 ⟨rfl, hokF, hbf⟩
      have b0F := b01'.out.but hbf (by omega)
      have hmvF := (Mv.of_below (g := K.g) (gt := K.gt) (sv := sv) hbw1'.out).trans (Mv.of_but hbf (.inl rfl))
      have b0F' := Lib.hid b0F
      have hokF' := Lib.hid hokF
      have hmvF' := Lib.hid hmvF
      have hbf' := Lib.hid hbf
      clear b0F hokF hmvF hbf
      have p0 : w9.cell? ⟨w.heap.size + 1, 0, none⟩ = some (.int .i64 0) := b0F'.out.cell rfl
      have p1 : w9.cell? ⟨w.heap.size + 1, 1, none⟩ = some (.int .i64 0) := b0F'.out.cell rfl
      have p2 : w9.cell? ⟨w.heap.size + 1, 2, none⟩ = some (.int .i64 0) := b0F'.out.cell rfl
      have p3 : w9.cell? ⟨w.heap.size + 1, 3, none⟩ = some (.slice none 0 0) := b0F'.out.cell rfl
      have y0 := b0F'.out.frozen 0
      have y1 := b0F'.out.frozen 1
      have y2 := b0F'.out.frozen 2
      have y3 := b0F'.out.frozen 3
      go_wp2_with fail
      first | rw [b0F'.out.set_same rfl, b0F'.out.set_same rfl, b0F'.out.set_same rfl, b0F'.out.set_same rfl] | skip
      refine bodyPost_ret (results_cell_row rfl _ _ (w.heap.size + 1) 59 #[.int .i64 0, .int .i64 0, .int .i64 0, .slice none 0 0] (0, 0) _ rfl b0F'.out Try.underlying59 rfl (by kernel_rfl)) rfl ?_
      exact ⟨by decide, s, sv, tk, hokF'.out, hmvF'.out, 0, 0, 0, none, 0, 0, rfl⟩
  case pos =>
    have d1 : (sz == 0) = false := by simp; omega
    have d2 : decide (cnt < 1) = false := by simp; omega
    have d3 : decide (65536 < cnt) = false := by simp; omega
    replace hR' := Lib.hid (by have h := hR'.out; rw [if_pos hc] at h; exact h)
    have hile := hinl'.out hc.1 hc.2.1 hc.2.2
    clear hc hinl'
    have hile' := Lib.hid hile
    clear hile
    go_wp2_with fail
    refine (hIn'.out _).mono ?_
    rintro e w2 ⟨rfl, hb2⟩
    have bx2 := bx1'.out.late hb2
    have b02 := b01'.out.late hb2
    have hbw2 := hbw1'.out.trans (hb2.mono hbw1'.out.size)
    have hlt2 := b02.lt
    have hok2 := hok'.out.later hbw2
    clear k1 k2 hb2 bx1' b01' hbw1' hlt1
    have bx2' := Lib.hid bx2
    have b02' := Lib.hid b02
    have hbw2' := Lib.hid hbw2
    have hok2' := Lib.hid hok2
    clear bx2 b02 hbw2 hok2
    by_cases hL0 : 0 < (L : Int)
    case pos =>
      obtain rfl : il = false := by rw [hile'.out]; simp; omega
      replace hR' := Lib.hid (by have h := hR'.out; rw [if_pos hL0] at h; exact h)
      obtain ⟨T, hT⟩ : ∃ T, takeS K.n (3, no, tg, (S : Int), (L : Int)) s = T := ⟨_, rfl⟩
      have hR3 := hR'.out
      rw [hT] at hR3
      clear hR'
      obtain ⟨Ty, f, hne, hbel, hsurj⟩ := prop_worlds (fun W => Blk W w.heap.size 105 #[.int .i64 tg, .int .i64 ty, .int .i64 cnt, .int .i64 S]) w2 bx2'.out
      have r0 : ∀ s, (f s).cell? ⟨w.heap.size, 0, none⟩ = some (.int .i64 tg) := fun s => (hbel s).cell rfl
      have r1 : ∀ s, (f s).cell? ⟨w.heap.size, 1, none⟩ = some (.int .i64 ty) := fun s => (hbel s).cell rfl
      have r2 : ∀ s, (f s).cell? ⟨w.heap.size, 2, none⟩ = some (.int .i64 cnt) := fun s => (hbel s).cell rfl
      have r3 : ∀ s, (f s).cell? ⟨w.heap.size, 3, none⟩ = some (.int .i64 S) := fun s => (hbel s).cell rfl
      have HS := Lib.hid (hsurj w2.drew bx2'.out)
      have HD := Lib.hid ((Below.refl w2.heap.size w2).drew)
      have hR3' := Lib.hid hR3
      have hT' := Lib.hid hT
      have hbel' := Lib.hid hbel
      have hsurj' := Lib.hid hsurj
      clear hR3 hT hbel hsurj
      go_wp2_with fail
      refine held_begin (S := fun W => ∃ s, W = f s) (by kernel_rfl) 13 rfl ?_
      refine held_take [0, 1, 2, 3, 4, 5, 6, 7, 8, 9] 3 (by kernel_rfl) (fun d _ _ _ _ h => by cases d <;> exact h) (by kernel_rfl) (by kernel_rfl) (by kernel_rfl) HS.out ?_
      simp only [pickL, List.map_cons, List.map_nil, List.getD_cons_succ, List.getD_cons_zero]
      iterate 10 (go_big_quiet_step (fail))
      refine wpQuiet_nil ?_
      refine held_one 10 2 (by kernel_rfl) (by kernel_rfl) ?_
      simp only [pickL, List.map_cons, List.map_nil, List.getD_cons_succ, List.getD_cons_zero]
      go_wp2_with fail
      refine (hOu'.out _).mono ?_
      rintro e w3 ⟨rfl, hb3⟩
      have hb3 := HD.out.trans (hb3.mono HD.out.size)
      have hok3 := hok2'.out.later hb3
      have bx3 := bx2'.out.late hb3
      have HS := Lib.hid (hsurj'.out _ bx3)
      have b03 := b02'.out.late hb3
      have hbw3 := hbw2'.out.trans (hb3.mono hbw2'.out.size)
      have hgw3 := hb3.size
      have HT := dtake_any K t'.out s sv tk w3 (3, no, tg, (S : Int), (L : Int)) hok3 S L rfl rfl (by omega) (by omega) hsm
      rw [hT'.out] at HT
      clear r0 r1 r2 r3
      have hb3' := Lib.hid hb3
      have hok3' := Lib.hid hok3
      have bx3' := Lib.hid bx3
      have b03' := Lib.hid b03
      have hbw3' := Lib.hid hbw3
      have HT' := Lib.hid HT
      clear hb3 hok3 bx3 b03 hbw3 HT
      go_wp2_with fail
      first | refine Mid.mk ⟨HS.out, ?_⟩ | refine Mid.mk ?_
      refine held_take [11] 1 (by kernel_rfl) (fun d _ _ _ _ h => by cases d <;> exact h) (by kernel_rfl) (by kernel_rfl) (by kernel_rfl) HS.out ?_
      simp only [pickL, List.map_cons, List.map_nil, List.getD_cons_succ, List.getD_cons_zero]
      iterate 1 (go_big_quiet_step (fail))
      refine wpQuiet_nil ?_
      refine held_one 12 0 (by kernel_rfl) (by kernel_rfl) ?_
      simp only [pickL, List.map_cons, List.map_nil, List.getD_cons_succ, List.getD_cons_zero]
      go_wp2_with fail
      refine HT'.out.mono ?_
      rintro e w5 hpost
      clear HT' HS
      cases T with
      | error y =>
        obtain rfl : R = .error y := by rw [← hR3'.out]
        obtain ⟨hy0, s5, sv5, tk5, hok5, hmv5, rfl⟩ := hpost
        have b0F := b03'.out.mv hmv5 (by omega) (by omega) (fun e => by have := hsvw'.out _ e; omega)
        have bx5 := bx3'.out.mv hmv5 (by omega) (by omega) (fun e => by have := hsvw'.out _ e; omega)
        have hmvw := (Mv.of_below hbw3'.out).trans hmv5
        have d7 : (y != 0) = true := by simp; exact hy0
        have k7 : w5.cell? ⟨K.g, 7, none⟩ = some (.int .i64 y) := hok5.blk.cell rfl
        clear hmv5 hT' hR3'
        have hok5' := Lib.hid hok5
        have hmvw' := Lib.hid hmvw
        have b0F' := Lib.hid b0F
        have hy0' := Lib.hid hy0
        have bx5' := Lib.hid bx5
        clear hok5 hmvw b0F hy0 bx5
        go_wp2_with fail
        first | refine Mid.mk ⟨hsurj'.out _ bx5'.out, ?_⟩ | skip
        refine held_last (by kernel_rfl) ?_
        have p0 : w5.cell? ⟨w.heap.size + 1, 0, none⟩ = some (.int .i64 0) := b0F'.out.cell rfl
        have p1 : w5.cell? ⟨w.heap.size + 1, 1, none⟩ = some (.int .i64 0) := b0F'.out.cell rfl
        have p2 : w5.cell? ⟨w.heap.size + 1, 2, none⟩ = some (.int .i64 0) := b0F'.out.cell rfl
        have p3 : w5.cell? ⟨w.heap.size + 1, 3, none⟩ = some (.slice none 0 0) := b0F'.out.cell rfl
        have y0 := b0F'.out.frozen 0
        have y1 := b0F'.out.frozen 1
        have y2 := b0F'.out.frozen 2
        have y3 := b0F'.out.frozen 3
        go_wp2_with fail
        first | rw [b0F'.out.set_same rfl, b0F'.out.set_same rfl, b0F'.out.set_same rfl, b0F'.out.set_same rfl] | skip
        refine bodyPost_ret (results_cell_row rfl _ _ (w.heap.size + 1) 59 #[.int .i64 0, .int .i64 0, .int .i64 0, .slice none 0 0] (0, 0) _ rfl b0F'.out Try.underlying59 rfl (by kernel_rfl)) rfl ?_
        exact ⟨hy0'.out, s5, sv5, tk5, hok5'.out, hmvw'.out, 0, 0, 0, none, 0, 0, rfl⟩
      | ok s1 =>
        obtain ⟨sv1, tk1, hok1, hmv1, rfl⟩ := hpost
        have hfit : S + L ≤ K.n := by
          have := takeS_fit hT'.out
          unfold fitB roomB at this
          simp at this
          omega
        have hR4 := hR3'.out
        simp only at hR4
        have bx5 := bx3'.out.mv hmv1 (by omega) (by omega) (fun e => by have := hsvw'.out _ e; omega)
        have b05 := b03'.out.mv hmv1 (by omega) (by omega) (fun e => by have := hsvw'.out _ e; omega)
        have hmvw := (Mv.of_below hbw3'.out).trans hmv1
        have hsv1 : sv1.ownBlock ≠ some (w.heap.size + 1) := fun e => by rcases hmv1.own _ e with h | h <;> first | (have := hsvw'.out _ h; omega) | omega
        have hb5 := hok1.byts t'.out
        have k7 : w5.cell? ⟨K.g, 7, none⟩ = some (.int .i64 0) := hok1.blk.cell rfl
        clear hR3' hT' hmv1 bx3' b03' hbw3' hok3' hb3'
        have hok1' := Lib.hid hok1
        have bx5' := Lib.hid bx5
        have b05' := Lib.hid b05
        have hmvw' := Lib.hid hmvw
        have hb5' := Lib.hid hb5
        have hR4' := Lib.hid hR4
        have hsv1' := Lib.hid hsv1
        clear hok1 bx5 b05 hmvw hb5 hR4 hsv1
        go_wp2_with fail
        first | refine Mid.mk ⟨hsurj'.out _ bx5'.out, ?_⟩ | skip
        refine held_last (by kernel_rfl) ?_
        clear hsurj' hbel' hne
        have hle := hb5'.out.le
        obtain ⟨a7, hsl, hs7, hin7⟩ := sub_l (P := Try.prog) (T := 24) (E := 5) (sz := 1) Try.underlying24 (fun W => by kernel_rfl) hb5'.out (S : Int) (by omega) (by omega) (K.n - S) (K.c - S) (by omega) (by omega)
        rw [Nat.mul_one, Int.toNat_natCast, show (ints .u8 K.z).drop S = ints .u8 (K.z.drop S) by simp [ints]] at hs7
        obtain ⟨Ty, f, hne, hbel, hsurj⟩ := later_worlds w5
        have q0 : ∀ s, (f s).cell? ⟨K.g, 0, none⟩ = some (.slice K.a K.n K.c) := fun s => (Blk.late hok1'.out.blk (hbel s)).cell rfl
        have q1 : ∀ s, (f s).cell? ⟨K.g, 1, none⟩ = some (.int .i64 K.o) := fun s => (Blk.late hok1'.out.blk (hbel s)).cell rfl
        have r1 : ∀ s, (f s).cell? ⟨w.heap.size, 1, none⟩ = some (.int .i64 ty) := fun s => (Blk.late bx5'.out (hbel s)).cell rfl
        have r2 : ∀ s, (f s).cell? ⟨w.heap.size, 2, none⟩ = some (.int .i64 cnt) := fun s => (Blk.late bx5'.out (hbel s)).cell rfl
        have r3 : ∀ s, (f s).cell? ⟨w.heap.size, 3, none⟩ = some (.int .i64 S) := fun s => (Blk.late bx5'.out (hbel s)).cell rfl
        have HS := Lib.hid (hsurj _ ((Below.refl _ _).drew))
        have HD := Lib.hid ((Below.refl w5.heap.size w5).drew)
        have HO := fun W (h : Below w5.heap.size w5 W) => rof_any ty cnt a7 (K.n - S) (K.c - S) (K.z.drop S) K.o W (hs7.mono h) (t'.out.byt.drop _)
        have hw5 : w.heap.size + 1 < w5.heap.size := b05'.out.lt
        have hsv1 := hsv1'.out
        obtain ⟨V, hV⟩ : ∃ V, ofS ty cnt (K.z.drop S) K.o = V := ⟨_, rfl⟩
        have hR4 := hR4'.out
        rw [hV] at HO hR4
        clear hV hR4'
        have hbel' := Lib.hid hbel
        have hsurj' := Lib.hid hsurj
        have hs7' := Lib.hid hs7
        have hin7' := Lib.hid hin7
        have HO' := Lib.hid HO
        have hR4' := Lib.hid hR4
        clear hbel hsurj hs7 hin7 HO hR4
        go_wp2_with fail
        refine held_begin (S := fun W => ∃ s, W = f s) (by kernel_rfl) 22 rfl ?_
        refine held_take [0, 1, 2, 3, 4, 5, 6, 7, 8, 9, 10, 11, 12, 13, 14] 7 (by kernel_rfl) (fun d _ _ _ _ h => by cases d <;> exact h) (by kernel_rfl) (by kernel_rfl) (by kernel_rfl) HS.out ?_
        simp only [pickL, List.map_cons, List.map_nil, List.getD_cons_succ, List.getD_cons_zero]
        iterate 15 (go_big_quiet_step (fail))
        refine wpQuiet_nil ?_
        refine held_two 15 19 6 (by kernel_rfl) (by kernel_rfl) ?_ ?_
        all_goals simp only [pickL, List.map_cons, List.map_nil, List.getD_cons_succ, List.getD_cons_zero]
        case refine_1 =>
          go_wp2_with fail
          refine (HO'.out _ HD.out).mono ?_
          rintro e w6 ⟨ty', cnt', a3, m3, c3, rfl, hb6, hd6⟩
          have hb6 := HD.out.trans (hb6.mono HD.out.size)
          have HS := Lib.hid (hsurj'.out _ hb6)
          have hb6' := Lib.hid hb6
          have hd6' := Lib.hid hd6
          clear hb6 hd6
          go_wp2_with fail
          first | refine Mid.mk ⟨HS.out, ?_⟩ | refine Mid.mk ?_
          refine held_take [16, 17, 18] 3 (by kernel_rfl) (fun d _ _ _ _ h => by cases d <;> exact h) (by kernel_rfl) (by kernel_rfl) (by kernel_rfl) HS.out ?_
          simp only [pickL, List.map_cons, List.map_nil, List.getD_cons_succ, List.getD_cons_zero]
          iterate 3 (go_big_quiet_step (fail))
          refine wpQuiet_nil ?_
          refine held_one 19 2 (by kernel_rfl) (by kernel_rfl) ?_
          simp only [pickL, List.map_cons, List.map_nil, List.getD_cons_succ, List.getD_cons_zero]
          go_wp2_with fail
          have hal := (Below.refl w6.heap.size w6).alloc (Nat.le_refl _) (.cells #[.int .i64 0, .int .i64 0, .slice none 0 0] 54)
          have b7 := Blk.new w6 54 #[.int .i64 0, .int .i64 0, .slice none 0 0]
          have hb7 := hb6'.out.trans (hal.mono hb6'.out.size)
          have hg7 : w5.heap.size ≤ w6.heap.size := hb6'.out.size
          have hd7 := fun d h => (⟨(hd6'.out d h).1, (hd6'.out d h).2.1, own_later (hd6'.out d h).2.2 hal, fun e => by have := ((hd6'.out d h).2.2.lt _ e).2; omega⟩ : ty' = ty ∧ cnt' = cnt ∧ World.ownsRow _ _ _ _ _ _ _ ∧ (Value.slice a3 m3 c3).ownBlock ≠ some w6.heap.size)
          clear hal
          generalize w6.alloc (.cells #[.int .i64 0, .int .i64 0, .slice none 0 0] 54) = w7 at *
          generalize w6.heap.size = g7 at *
          have HS := Lib.hid (hsurj'.out _ hb7)
          clear hb6' hd6'
          have b7' := Lib.hid b7
          have hb7' := Lib.hid hb7
          have hd7' := Lib.hid hd7
          clear b7 hb7 hd7
          first | refine Mid.mk ⟨HS.out, ?_⟩ | refine Mid.mk ?_
          refine held_one 20 1 (by kernel_rfl) (by kernel_rfl) ?_
          simp only [pickL, List.map_cons, List.map_nil, List.getD_cons_succ, List.getD_cons_zero]
          have p0 : w7.cell? ⟨g7, 0, none⟩ = some (.int .i64 0) := b7'.out.cell rfl
          have p1 : w7.cell? ⟨g7, 1, none⟩ = some (.int .i64 0) := b7'.out.cell rfl
          have p2 : w7.cell? ⟨g7, 2, none⟩ = some (.slice none 0 0) := b7'.out.cell rfl
          have y0 := b7'.out.frozen 0
          have y1 := b7'.out.frozen 1
          have y2 := b7'.out.frozen 2
          go_wp2_with fail
          have b8 := b7'.out.set3 (.int .i64 ty') (.int .i64 cnt') (.slice a3 m3 c3)
          have hb8 := below_set3 hb7'.out hg7 (.int .i64 ty') (.int .i64 cnt') (.slice a3 m3 c3)
          have HS := Lib.hid (hsurj'.out _ hb8)
          have hd8 := fun d h => (⟨(hd7'.out d h).1, (hd7'.out d h).2.1, own_but (hd7'.out d h).2.2.1 ((((But.refl g7 w7).set 0 (.int .i64 ty')).set 1 (.int .i64 cnt')).set 2 (.slice a3 m3 c3)) (hd7'.out d h).2.2.2⟩ : ty' = ty ∧ cnt' = cnt ∧ World.ownsRow _ _ _ _ _ _ _)
          refine Mid.mk ⟨HS.out, ?_⟩
          refine held_take [21] 0 (by kernel_rfl) (fun d _ _ _ _ h => by cases d <;> exact h) (by kernel_rfl) (by kernel_rfl) (by kernel_rfl) HS.out ?_
          simp only [pickL, List.map_cons, List.map_nil, List.getD_cons_succ, List.getD_cons_zero]
          iterate 1 (go_big_quiet_step (fail))
          refine wpQuiet_nil ?_
          refine held_last (by kernel_rfl) ?_
          clear p0 p1 p2 y0 y1 y2 b7' hb7' hd7' q0 q1 r1 r2 r3 HS
          generalize (((w7.setCell ⟨g7, 0, none⟩ (.int .i64 ty')).setCell ⟨g7, 1, none⟩ (.int .i64 cnt')).setCell ⟨g7, 2, none⟩ (.slice a3 m3 c3)) = w8 at *
          have bxF := bx5'.out.late hb8
          have b0F := b05'.out.late hb8
          have b8F := b8
          have hokF := hok1'.out.later hb8
          have hmvF := hmvw'.out.later hb8
          have hw8 := hb8.size
          have hggF : ∀ c, sv1.ownBlock = some c → c < w5.heap.size := fun c h => (hok1'.out.spot.lt c h).2
          have hsvF := hsv1
          have hdr5 : w5.drew.heap.size = w5.heap.size := rfl
          clear b8
          cases V with
          | none =>
            obtain rfl : R = .error 6 := by rw [← hR4'.out]
            simp only [Option.isSome_none] at *
            clear hd8
            have hb8' := Lib.hid hb8
            have bxF' := Lib.hid bxF
            have b0F' := Lib.hid b0F
            have b8F' := Lib.hid b8F
            have hokF' := Lib.hid hokF
            have hmvF' := Lib.hid hmvF
            have hggF' := Lib.hid hggF
            clear hb8 bxF b0F b8F hokF hmvF hggF
            go_wp2_with fail
            refine (fail_any K t'.out s1 sv1 tk1 0 6 w8 hokF'.out).mono ?_
            rintro e w9 ⟨rfl, hokF, hbf⟩
            have bxF := bxF'.out.but hbf (by omega)
            have b0F := b0F'.out.but hbf (by omega)
            have b8F := b8F'.out.but hbf (by omega)
            have hmvF := hmvF'.out.trans (Mv.of_but hbf (.inl rfl))
            clear bxF' b0F' b8F' hmvF' hokF' hbf
            have bxF' := Lib.hid bxF
            have b0F' := Lib.hid b0F
            have b8F' := Lib.hid b8F
            have hmvF' := Lib.hid hmvF
            have hokF' := Lib.hid hokF
            clear bxF b0F b8F hmvF hokF
            have t0 : w9.cell? ⟨w.heap.size, 0, none⟩ = some (.int .i64 tg) := bxF'.out.cell rfl
            have v0 : w9.cell? ⟨g7, 0, none⟩ = some (.int .i64 ty') := b8F'.out.cell rfl
            have v1 : w9.cell? ⟨g7, 1, none⟩ = some (.int .i64 cnt') := b8F'.out.cell rfl
            have v2 : w9.cell? ⟨g7, 2, none⟩ = some (.slice a3 m3 c3) := b8F'.out.cell rfl
            have p0 : w9.cell? ⟨w.heap.size + 1, 0, none⟩ = some (.int .i64 0) := b0F'.out.cell rfl
            have p1 : w9.cell? ⟨w.heap.size + 1, 1, none⟩ = some (.int .i64 0) := b0F'.out.cell rfl
            have p2 : w9.cell? ⟨w.heap.size + 1, 2, none⟩ = some (.int .i64 0) := b0F'.out.cell rfl
            have p3 : w9.cell? ⟨w.heap.size + 1, 3, none⟩ = some (.slice none 0 0) := b0F'.out.cell rfl
            have y0 := b0F'.out.frozen 0
            have y1 := b0F'.out.frozen 1
            have y2 := b0F'.out.frozen 2
            have y3 := b0F'.out.frozen 3
            go_wp2_with fail
            refine bodyPost_ret (results_cell_row rfl _ _ (w.heap.size + 1) 59 #[.int .i64 tg, .int .i64 ty', .int .i64 cnt', .slice a3 m3 c3] (0, 0) _ rfl (b0F'.out.set4 _ _ _ _) Try.underlying59 rfl (by kernel_rfl)) rfl ?_
            have hbt := (((((But.refl (w.heap.size + 1) w9).set 0 (.int .i64 tg)).set 1 (.int .i64 ty')).set 2 (.int .i64 cnt')).set 3 (.slice a3 m3 c3))
            exact ⟨by decide, s1, sv1, tk1, hokF'.out.but hbt (by omega) (by omega) hsvF (Nat.le_trans hok'.out.old.size (Nat.le_succ _)), hmvF'.out.new_set (Nat.le_succ _) hbt, tg, ty', cnt', a3, m3, c3, rfl⟩
          | some d =>
            obtain ⟨rfl, rfl, hodF⟩ := hd8 d rfl
            obtain rfl : R = .ok ((tg, ty', cnt', d), s1) := by rw [← hR4'.out]
            have hm3 := (Sl.of_own hodF).1.ilen
            simp only [Option.isSome_some] at *
            clear hd8
            have hb8' := Lib.hid hb8
            have bxF' := Lib.hid bxF
            have b0F' := Lib.hid b0F
            have b8F' := Lib.hid b8F
            have hokF' := Lib.hid hokF
            have hmvF' := Lib.hid hmvF
            have hggF' := Lib.hid hggF
            have hodF' := Lib.hid hodF
            have hm3' := Lib.hid hm3
            clear hb8 bxF b0F b8F hokF hmvF hggF hodF hm3
            have t0 : w8.cell? ⟨w.heap.size, 0, none⟩ = some (.int .i64 tg) := bxF'.out.cell rfl
            have v0 : w8.cell? ⟨g7, 0, none⟩ = some (.int .i64 ty') := b8F'.out.cell rfl
            have v1 : w8.cell? ⟨g7, 1, none⟩ = some (.int .i64 cnt') := b8F'.out.cell rfl
            have v2 : w8.cell? ⟨g7, 2, none⟩ = some (.slice a3 m3 c3) := b8F'.out.cell rfl
            have p0 : w8.cell? ⟨w.heap.size + 1, 0, none⟩ = some (.int .i64 0) := b0F'.out.cell rfl
            have p1 : w8.cell? ⟨w.heap.size + 1, 1, none⟩ = some (.int .i64 0) := b0F'.out.cell rfl
            have p2 : w8.cell? ⟨w.heap.size + 1, 2, none⟩ = some (.int .i64 0) := b0F'.out.cell rfl
            have p3 : w8.cell? ⟨w.heap.size + 1, 3, none⟩ = some (.slice none 0 0) := b0F'.out.cell rfl
            have y0 := b0F'.out.frozen 0
            have y1 := b0F'.out.frozen 1
            have y2 := b0F'.out.frozen 2
            have y3 := b0F'.out.frozen 3
            go_wp2_with fail
            refine bodyPost_ret (results_cell_row rfl _ _ (w.heap.size + 1) 59 #[.int .i64 tg, .int .i64 ty', .int .i64 cnt', .slice a3 m3 c3] (0, 0) _ rfl (b0F'.out.set4 _ _ _ _) Try.underlying59 rfl (by kernel_rfl)) rfl ?_
            have hbt := (((((But.refl (w.heap.size + 1) w8).set 0 (.int .i64 tg)).set 1 (.int .i64 ty')).set 2 (.int .i64 cnt')).set 3 (.slice a3 m3 c3))
            refine ⟨sv1, tk1, hokF'.out.but hbt (by omega) (by omega) hsvF (Nat.le_trans hok'.out.old.size (Nat.le_succ _)), hmvF'.out.new_set (Nat.le_succ _) hbt, a3, m3, c3, rfl, ?_, fun kk e h => ?_⟩
            · have h := own_but hodF'.out hbt (fun e => by have := (hodF'.out.lt _ e).1; omega)
              rw [hm3'.out]
              exact own_mono h (by omega)
            · have h1 := (hodF'.out.lt kk e).1
              have h2 := hggF'.out kk h
              omega
        case refine_2 =>
          go_wp2_with fail
          have hb7 := ((Below.refl w5.heap.size w5).alloc (Nat.le_refl _) (.cells #[.int .i64 0, .int .i64 0, .slice none 0 0] 54)).drew
          have b7 : Blk (w5.alloc (.cells #[.int .i64 0, .int .i64 0, .slice none 0 0] 54)).drew w5.heap.size 54 #[.int .i64 0, .int .i64 0, .slice none 0 0] := Blk.new w5 _ _
          have HS := Lib.hid (hsurj'.out _ hb7)
          have hsz3 : (w5.alloc (.cells #[.int .i64 0, .int .i64 0, .slice none 0 0] 54)).drew.heap.size = w5.heap.size + 1 := by show (w5.alloc _).heap.size = _; simp
          obtain ⟨w3, hw3⟩ : ∃ w3, (w5.alloc (.cells #[.int .i64 0, .int .i64 0, .slice none 0 0] 54)).drew = w3 := ⟨_, rfl⟩
          rw [hw3] at hb7 b7 HS hsz3
          rw [hw3]
          clear hw3
          have b7' := Lib.hid b7
          have hb7' := Lib.hid hb7
          clear b7 hb7
          first | refine Mid.mk ⟨HS.out, ?_⟩ | refine Mid.mk ?_
          refine held_one 15 5 (by kernel_rfl) (by kernel_rfl) ?_
          simp only [pickL, List.map_cons, List.map_nil, List.getD_cons_succ, List.getD_cons_zero]
          go_wp2_with fail
          refine (HO'.out _ hb7'.out).mono ?_
          rintro e w7 ⟨ty', cnt', a3, m3, c3, rfl, hb6, hd6⟩
          have hb6x := hb7'.out.trans (hb6.mono hb7'.out.size)
          have b7 := b7'.out.late hb6
          have HS := Lib.hid (hsurj'.out _ hb6x)
          have hd7 := fun d h => (⟨(hd6 d h).1, (hd6 d h).2.1, own_mono (hd6 d h).2.2 hb7'.out.size, fun e => by have := ((hd6 d h).2.2.lt _ e).1; omega⟩ : ty' = ty ∧ cnt' = cnt ∧ World.ownsRow w7 w5.heap.size _ _ _ _ _ ∧ (Value.slice a3 m3 c3).ownBlock ≠ some w5.heap.size)
          have hb7 := hb6x
          obtain ⟨g7, hg7e⟩ : ∃ g, w5.heap.size = g := ⟨_, rfl⟩
          have hg7 : w5.heap.size ≤ g7 := Nat.le_of_eq hg7e
          clear b7' hb7' hb6 hb6x hd6 hsz3
          rw [hg7e] at b7
          rw [hg7e]
          replace hd7 := fun d h => (⟨(hd7 d h).1, (hd7 d h).2.1, (hd7 d h).2.2.1, hg7e ▸ (hd7 d h).2.2.2⟩ : ty' = ty ∧ cnt' = cnt ∧ World.ownsRow w7 w5.heap.size _ _ _ _ _ ∧ (Value.slice a3 m3 c3).ownBlock ≠ some g7)
          clear hg7e
          have b7' := Lib.hid b7
          have hb7' := Lib.hid hb7
          have hd7' := Lib.hid hd7
          clear b7 hb7 hd7
          go_wp2_with fail
          first | refine Mid.mk ⟨HS.out, ?_⟩ | refine Mid.mk ?_
          refine held_take [16, 17, 18] 2 (by kernel_rfl) (fun d _ _ _ _ h => by cases d <;> exact h) (by kernel_rfl) (by kernel_rfl) (by kernel_rfl) HS.out ?_
          simp only [pickL, List.map_cons, List.map_nil, List.getD_cons_succ, List.getD_cons_zero]
          iterate 3 (go_big_quiet_step (fail))
          refine wpQuiet_nil ?_
          refine held_one 20 1 (by kernel_rfl) (by kernel_rfl) ?_
          simp only [pickL, List.map_cons, List.map_nil, List.getD_cons_succ, List.getD_cons_zero]
          have p0 : w7.cell? ⟨g7, 0, none⟩ = some (.int .i64 0) := b7'.out.cell rfl
          have p1 : w7.cell? ⟨g7, 1, none⟩ = some (.int .i64 0) := b7'.out.cell rfl
          have p2 : w7.cell? ⟨g7, 2, none⟩ = some (.slice none 0 0) := b7'.out.cell rfl
          have y0 := b7'.out.frozen 0
          have y1 := b7'.out.frozen 1
          have y2 := b7'.out.frozen 2
          go_wp2_with fail
          have b8 := b7'.out.set3 (.int .i64 ty') (.int .i64 cnt') (.slice a3 m3 c3)
          have hb8 := below_set3 hb7'.out hg7 (.int .i64 ty') (.int .i64 cnt') (.slice a3 m3 c3)
          have HS := Lib.hid (hsurj'.out _ hb8)
          have hd8 := fun d h => (⟨(hd7'.out d h).1, (hd7'.out d h).2.1, own_but (hd7'.out d h).2.2.1 ((((But.refl g7 w7).set 0 (.int .i64 ty')).set 1 (.int .i64 cnt')).set 2 (.slice a3 m3 c3)) (hd7'.out d h).2.2.2⟩ : ty' = ty ∧ cnt' = cnt ∧ World.ownsRow _ _ _ _ _ _ _)
          refine Mid.mk ⟨HS.out, ?_⟩
          refine held_take [21] 0 (by kernel_rfl) (fun d _ _ _ _ h => by cases d <;> exact h) (by kernel_rfl) (by kernel_rfl) (by kernel_rfl) HS.out ?_
          simp only [pickL, List.map_cons, List.map_nil, List.getD_cons_succ, List.getD_cons_zero]
          iterate 1 (go_big_quiet_step (fail))
          refine wpQuiet_nil ?_
          refine held_last (by kernel_rfl) ?_
          clear p0 p1 p2 y0 y1 y2 b7' hb7' hd7' q0 q1 r1 r2 r3 HS
          generalize (((w7.setCell ⟨g7, 0, none⟩ (.int .i64 ty')).setCell ⟨g7, 1, none⟩ (.int .i64 cnt')).setCell ⟨g7, 2, none⟩ (.slice a3 m3 c3)) = w8 at *
          have bxF := bx5'.out.late hb8
          have b0F := b05'.out.late hb8
          have b8F := b8
          have hokF := hok1'.out.later hb8
          have hmvF := hmvw'.out.later hb8
          have hw8 := hb8.size
          have hggF : ∀ c, sv1.ownBlock = some c → c < w5.heap.size := fun c h => (hok1'.out.spot.lt c h).2
          have hsvF := hsv1
          have hdr5 : w5.drew.heap.size = w5.heap.size := rfl
          clear b8
          cases V with
          | none =>
            obtain rfl : R = .error 6 := by rw [← hR4'.out]
            simp only [Option.isSome_none] at *
            clear hd8
            have hb8' := Lib.hid hb8
            have bxF' := Lib.hid bxF
            have b0F' := Lib.hid b0F
            have b8F' := Lib.hid b8F
            have hokF' := Lib.hid hokF
            have hmvF' := Lib.hid hmvF
            have hggF' := Lib.hid hggF
            clear hb8 bxF b0F b8F hokF hmvF hggF
            go_wp2_with fail
            refine (fail_any K t'.out s1 sv1 tk1 0 6 w8 hokF'.out).mono ?_
            rintro e w9 ⟨rfl, hokF, hbf⟩
            have bxF := bxF'.out.but hbf (by omega)
            have b0F := b0F'.out.but hbf (by omega)
            have b8F := b8F'.out.but hbf (by omega)
            have hmvF := hmvF'.out.trans (Mv.of_but hbf (.inl rfl))
            clear bxF' b0F' b8F' hmvF' hokF' hbf
            have bxF' := Lib.hid bxF
            have b0F' := Lib.hid b0F
            have b8F' := Lib.hid b8F
            have hmvF' := Lib.hid hmvF
            have hokF' := Lib.hid hokF
            clear bxF b0F b8F hmvF hokF
            have t0 : w9.cell? ⟨w.heap.size, 0, none⟩ = some (.int .i64 tg) := bxF'.out.cell rfl
            have v0 : w9.cell? ⟨g7, 0, none⟩ = some (.int .i64 ty') := b8F'.out.cell rfl
            have v1 : w9.cell? ⟨g7, 1, none⟩ = some (.int .i64 cnt') := b8F'.out.cell rfl
            have v2 : w9.cell? ⟨g7, 2, none⟩ = some (.slice a3 m3 c3) := b8F'.out.cell rfl
            have p0 : w9.cell? ⟨w.heap.size + 1, 0, none⟩ = some (.int .i64 0) := b0F'.out.cell rfl
            have p1 : w9.cell? ⟨w.heap.size + 1, 1, none⟩ = some (.int .i64 0) := b0F'.out.cell rfl
            have p2 : w9.cell? ⟨w.heap.size + 1, 2, none⟩ = some (.int .i64 0) := b0F'.out.cell rfl
            have p3 : w9.cell? ⟨w.heap.size + 1, 3, none⟩ = some (.slice none 0 0) := b0F'.out.cell rfl
            have y0 := b0F'.out.frozen 0
            have y1 := b0F'.out.frozen 1
            have y2 := b0F'.out.frozen 2
            have y3 := b0F'.out.frozen 3
            go_wp2_with fail
            refine bodyPost_ret (results_cell_row rfl _ _ (w.heap.size + 1) 59 #[.int .i64 tg, .int .i64 ty', .int .i64 cnt', .slice a3 m3 c3] (0, 0) _ rfl (b0F'.out.set4 _ _ _ _) Try.underlying59 rfl (by kernel_rfl)) rfl ?_
            have hbt := (((((But.refl (w.heap.size + 1) w9).set 0 (.int .i64 tg)).set 1 (.int .i64 ty')).set 2 (.int .i64 cnt')).set 3 (.slice a3 m3 c3))
            exact ⟨by decide, s1, sv1, tk1, hokF'.out.but hbt (by omega) (by omega) hsvF (Nat.le_trans hok'.out.old.size (Nat.le_succ _)), hmvF'.out.new_set (Nat.le_succ _) hbt, tg, ty', cnt', a3, m3, c3, rfl⟩
          | some d =>
            obtain ⟨rfl, rfl, hodF⟩ := hd8 d rfl
            obtain rfl : R = .ok ((tg, ty', cnt', d), s1) := by rw [← hR4'.out]
            have hm3 := (Sl.of_own hodF).1.ilen
            simp only [Option.isSome_some] at *
            clear hd8
            have hb8' := Lib.hid hb8
            have bxF' := Lib.hid bxF
            have b0F' := Lib.hid b0F
            have b8F' := Lib.hid b8F
            have hokF' := Lib.hid hokF
            have hmvF' := Lib.hid hmvF
            have hggF' := Lib.hid hggF
            have hodF' := Lib.hid hodF
            have hm3' := Lib.hid hm3
            clear hb8 bxF b0F b8F hokF hmvF hggF hodF hm3
            have t0 : w8.cell? ⟨w.heap.size, 0, none⟩ = some (.int .i64 tg) := bxF'.out.cell rfl
            have v0 : w8.cell? ⟨g7, 0, none⟩ = some (.int .i64 ty') := b8F'.out.cell rfl
            have v1 : w8.cell? ⟨g7, 1, none⟩ = some (.int .i64 cnt') := b8F'.out.cell rfl
            have v2 : w8.cell? ⟨g7, 2, none⟩ = some (.slice a3 m3 c3) := b8F'.out.cell rfl
            have p0 : w8.cell? ⟨w.heap.size + 1, 0, none⟩ = some (.int .i64 0) := b0F'.out.cell rfl
            have p1 : w8.cell? ⟨w.heap.size + 1, 1, none⟩ = some (.int .i64 0) := b0F'.out.cell rfl
            have p2 : w8.cell? ⟨w.heap.size + 1, 2, none⟩ = some (.int .i64 0) := b0F'.out.cell rfl
            have p3 : w8.cell? ⟨w.heap.size + 1, 3, none⟩ = some (.slice none 0 0) := b0F'.out.cell rfl
            have y0 := b0F'.out.frozen 0
            have y1 := b0F'.out.frozen 1
            have y2 := b0F'.out.frozen 2
            have y3 := b0F'.out.frozen 3
            go_wp2_with fail
            refine bodyPost_ret (results_cell_row rfl _ _ (w.heap.size + 1) 59 #[.int .i64 tg, .int .i64 ty', .int .i64 cnt', .slice a3 m3 c3] (0, 0) _ rfl (b0F'.out.set4 _ _ _ _) Try.underlying59 rfl (by kernel_rfl)) rfl ?_
            have hbt := (((((But.refl (w.heap.size + 1) w8).set 0 (.int .i64 tg)).set 1 (.int .i64 ty')).set 2 (.int .i64 cnt')).set 3 (.slice a3 m3 c3))
            refine ⟨sv1, tk1, hokF'.out.but hbt (by omega) (by omega) hsvF (Nat.le_trans hok'.out.old.size (Nat.le_succ _)), hmvF'.out.new_set (Nat.le_succ _) hbt, a3, m3, c3, rfl, ?_, fun kk e h => ?_⟩
            · have h := own_but hodF'.out hbt (fun e => by have := (hodF'.out.lt _ e).1; omega)
              rw [hm3'.out]
              exact own_mono h (by omega)
            · have h1 := (hodF'.out.lt kk e).1
              have h2 := hggF'.out kk h
              omega
    case neg =>
      obtain rfl : il = true := by rw [hile'.out]; simp; omega
      have hR4 := hR'.out
      rw [if_neg hL0] at hR4
      obtain ⟨Ty, f, hne, hbel, hsurj⟩ := later_worlds w2
      have q1 : ∀ s, (f s).cell? ⟨K.g, 1, none⟩ = some (.int .i64 K.o) := fun s => (Blk.late hok2'.out.blk (hbel s)).cell rfl
      have r0 : ∀ s, (f s).cell? ⟨w.heap.size, 0, none⟩ = some (.int .i64 tg) := fun s => (Blk.late bx2'.out (hbel s)).cell rfl
      have r1 : ∀ s, (f s).cell? ⟨w.heap.size, 1, none⟩ = some (.int .i64 ty) := fun s => (Blk.late bx2'.out (hbel s)).cell rfl
      have r2 : ∀ s, (f s).cell? ⟨w.heap.size, 2, none⟩ = some (.int .i64 cnt) := fun s => (Blk.late bx2'.out (hbel s)).cell rfl
      have r3 : ∀ s, (f s).cell? ⟨w.heap.size, 3, none⟩ = some (.int .i64 S) := fun s => (Blk.late bx2'.out (hbel s)).cell rfl
      have HS := Lib.hid (hsurj _ ((Below.refl _ _).drew))
      have HD := Lib.hid ((Below.refl w2.heap.size w2).drew)
      have HO := fun W => rvalue_any (tg, ty, cnt, (S : Int)) K.o W
      unfold entV at HO
      simp only at HO
      obtain ⟨V, hV⟩ : ∃ V, inS (tg, ty, cnt, (S : Int)) K.o = V := ⟨_, rfl⟩
      rw [hV] at HO hR4
      clear hV hR'
      have hbel' := Lib.hid hbel
      have hsurj' := Lib.hid hsurj
      have HO' := Lib.hid HO
      have hR4' := Lib.hid hR4
      clear hbel hsurj HO hR4
      go_wp2_with fail
      refine held_begin (S := fun W => ∃ s, W = f s) (by kernel_rfl) 14 rfl ?_
      refine held_take [0, 1, 2, 3, 4] 9 (by kernel_rfl) (fun d _ _ _ _ h => by cases d <;> exact h) (by kernel_rfl) (by kernel_rfl) (by kernel_rfl) HS.out ?_
      simp only [pickL, List.map_cons, List.map_nil, List.getD_cons_succ, List.getD_cons_zero]
      iterate 5 (go_big_quiet_step (fail))
      refine wpQuiet_nil ?_
      refine held_two 5 10 8 (by kernel_rfl) (by kernel_rfl) ?_ ?_
      all_goals simp only [pickL, List.map_cons, List.map_nil, List.getD_cons_succ, List.getD_cons_zero]
      case refine_1 =>
        go_wp2_with fail
        refine (HO'.out _).mono ?_
        rintro e w6 ⟨ty', cnt', a3, m3, c3, cl, rfl, hb6, hd6⟩
        have hb6 := HD.out.trans (hb6.mono HD.out.size)
        have HS := Lib.hid (hsurj'.out _ hb6)
        have hb6' := Lib.hid hb6
        have hd6' := Lib.hid hd6
        clear hb6 hd6
        go_wp2_with fail
        first | refine Mid.mk ⟨HS.out, ?_⟩ | refine Mid.mk ?_
        refine held_take [6, 7, 8, 9] 4 (by kernel_rfl) (fun d _ _ _ _ h => by cases d <;> exact h) (by kernel_rfl) (by kernel_rfl) (by kernel_rfl) HS.out ?_
        simp only [pickL, List.map_cons, List.map_nil, List.getD_cons_succ, List.getD_cons_zero]
        iterate 4 (go_big_quiet_step (fail))
        refine wpQuiet_nil ?_
        refine held_one 10 3 (by kernel_rfl) (by kernel_rfl) ?_
        simp only [pickL, List.map_cons, List.map_nil, List.getD_cons_succ, List.getD_cons_zero]
        go_wp2_with fail
        have hal := (Below.refl w6.heap.size w6).alloc (Nat.le_refl _) (.cells #[.int .i64 0, .int .i64 0, .slice none 0 0] 54)
        have b7 := Blk.new w6 54 #[.int .i64 0, .int .i64 0, .slice none 0 0]
        have hb7 := hb6'.out.trans (hal.mono hb6'.out.size)
        have hg7 : w2.heap.size ≤ w6.heap.size := hb6'.out.size
        have hd7 := fun d h => (⟨(hd6'.out d h).1, (hd6'.out d h).2.1, (hd6'.out d h).2.2.1, own_later (hd6'.out d h).2.2.2 hal, fun e => by have := ((hd6'.out d h).2.2.2.lt _ e).2; omega⟩ : ty' = ty ∧ cnt' = cnt ∧ cl = d.2 ∧ World.ownsRow _ _ _ _ _ _ _ ∧ (Value.slice a3 m3 c3).ownBlock ≠ some w6.heap.size)
        clear hal
        generalize w6.alloc (.cells #[.int .i64 0, .int .i64 0, .slice none 0 0] 54) = w7 at *
        generalize w6.heap.size = g7 at *
        have HS := Lib.hid (hsurj'.out _ hb7)
        clear hb6' hd6'
        have b7' := Lib.hid b7
        have hb7' := Lib.hid hb7
        have hd7' := Lib.hid hd7
        clear b7 hb7 hd7
        first | refine Mid.mk ⟨HS.out, ?_⟩ | refine Mid.mk ?_
        refine held_one 11 2 (by kernel_rfl) (by kernel_rfl) ?_
        simp only [pickL, List.map_cons, List.map_nil, List.getD_cons_succ, List.getD_cons_zero]
        have p0 : w7.cell? ⟨g7, 0, none⟩ = some (.int .i64 0) := b7'.out.cell rfl
        have p1 : w7.cell? ⟨g7, 1, none⟩ = some (.int .i64 0) := b7'.out.cell rfl
        have p2 : w7.cell? ⟨g7, 2, none⟩ = some (.slice none 0 0) := b7'.out.cell rfl
        have y0 := b7'.out.frozen 0
        have y1 := b7'.out.frozen 1
        have y2 := b7'.out.frozen 2
        go_wp2_with fail
        have b8 := b7'.out.set3 (.int .i64 ty') (.int .i64 cnt') (.slice a3 m3 c3)
        have hb8 := below_set3 hb7'.out hg7 (.int .i64 ty') (.int .i64 cnt') (.slice a3 m3 c3)
        have HS := Lib.hid (hsurj'.out _ hb8)
        have hd8 := fun d h => (⟨(hd7'.out d h).1, (hd7'.out d h).2.1, (hd7'.out d h).2.2.1, own_but (hd7'.out d h).2.2.2.1 ((((But.refl g7 w7).set 0 (.int .i64 ty')).set 1 (.int .i64 cnt')).set 2 (.slice a3 m3 c3)) (hd7'.out d h).2.2.2.2⟩ : ty' = ty ∧ cnt' = cnt ∧ cl = d.2 ∧ World.ownsRow _ _ _ _ _ _ _)
        refine Mid.mk ⟨HS.out, ?_⟩
        refine held_take [12, 13] 0 (by kernel_rfl) (fun d _ _ _ _ h => by cases d <;> exact h) (by kernel_rfl) (by kernel_rfl) (by kernel_rfl) HS.out ?_
        simp only [pickL, List.map_cons, List.map_nil, List.getD_cons_succ, List.getD_cons_zero]
        iterate 2 (go_big_quiet_step (fail))
        refine wpQuiet_nil ?_
        refine held_last (by kernel_rfl) ?_
        clear p0 p1 p2 y0 y1 y2 b7' hb7' hd7' q1 r0 r1 r2 r3 HS
        generalize (((w7.setCell ⟨g7, 0, none⟩ (.int .i64 ty')).setCell ⟨g7, 1, none⟩ (.int .i64 cnt')).setCell ⟨g7, 2, none⟩ (.slice a3 m3 c3)) = w8 at *
        have bxF := bx2'.out.late hb8
        have b0F := b02'.out.late hb8
        have b8F := b8
        have hokF := hok2'.out.later hb8
        have hmvF : Mv K.g K.gt sv sv w w8 := Mv.of_below (hbw2'.out.trans (hb8.mono hbw2'.out.size))
        have hw8 := hb8.size
        have hggF : ∀ c, sv.ownBlock = some c → c < w.heap.size := hsvw'.out
        have hsvF : sv.ownBlock ≠ some (w.heap.size + 1) := fun e => by have := hggF _ e; omega
        have hdr2 : w2.drew.heap.size = w2.heap.size := rfl
        clear b8
        cases V with
        | none =>
          obtain rfl : R = .error 6 := by rw [← hR4'.out]
          simp only [Option.isSome_none] at *
          clear hd8
          have hb8' := Lib.hid hb8
          have bxF' := Lib.hid bxF
          have b0F' := Lib.hid b0F
          have b8F' := Lib.hid b8F
          have hokF' := Lib.hid hokF
          have hmvF' := Lib.hid hmvF
          have hggF' := Lib.hid hggF
          clear hb8 bxF b0F b8F hokF hmvF hggF
          go_wp2_with fail
          refine (fail_any K t'.out s sv tk 0 6 w8 hokF'.out).mono ?_
          rintro e w9 ⟨rfl, hokF, hbf⟩
          have bxF := bxF'.out.but hbf (by omega)
          have b0F := b0F'.out.but hbf (by omega)
          have b8F := b8F'.out.but hbf (by omega)
          have hmvF := hmvF'.out.trans (Mv.of_but hbf (.inl rfl))
          clear bxF' b0F' b8F' hmvF' hokF' hbf
          have bxF' := Lib.hid bxF
          have b0F' := Lib.hid b0F
          have b8F' := Lib.hid b8F
          have hmvF' := Lib.hid hmvF
          have hokF' := Lib.hid hokF
          clear bxF b0F b8F hmvF hokF
          cases cl with
          | true =>
            have t0 : w9.cell? ⟨w.heap.size, 0, none⟩ = some (.int .i64 tg) := bxF'.out.cell rfl
            have v0 : w9.cell? ⟨g7, 0, none⟩ = some (.int .i64 ty') := b8F'.out.cell rfl
            have v1 : w9.cell? ⟨g7, 1, none⟩ = some (.int .i64 cnt') := b8F'.out.cell rfl
            have v2 : w9.cell? ⟨g7, 2, none⟩ = some (.slice a3 m3 c3) := b8F'.out.cell rfl
            have p0 : w9.cell? ⟨w.heap.size + 1, 0, none⟩ = some (.int .i64 0) := b0F'.out.cell rfl
            have p1 : w9.cell? ⟨w.heap.size + 1, 1, none⟩ = some (.int .i64 0) := b0F'.out.cell rfl
            have p2 : w9.cell? ⟨w.heap.size + 1, 2, none⟩ = some (.int .i64 0) := b0F'.out.cell rfl
            have p3 : w9.cell? ⟨w.heap.size + 1, 3, none⟩ = some (.slice none 0 0) := b0F'.out.cell rfl
            have y0 := b0F'.out.frozen 0
            have y1 := b0F'.out.frozen 1
            have y2 := b0F'.out.frozen 2
            have y3 := b0F'.out.frozen 3
            go_wp2_with fail
            refine bodyPost_ret (results_cell_row rfl _ _ (w.heap.size + 1) 59 #[.int .i64 tg, .int .i64 ty', .int .i64 cnt', .slice a3 m3 c3] (0, 0) _ rfl (b0F'.out.set4 _ _ _ _) Try.underlying59 rfl (by kernel_rfl)) rfl ?_
            have hbt := (((((But.refl (w.heap.size + 1) w9).set 0 (.int .i64 tg)).set 1 (.int .i64 ty')).set 2 (.int .i64 cnt')).set 3 (.slice a3 m3 c3))
            exact ⟨by decide, s, sv, tk, hokF'.out.but hbt (by omega) (by omega) hsvF (Nat.le_trans hok'.out.old.size (Nat.le_succ _)), hmvF'.out.new_set (Nat.le_succ _) hbt, tg, ty', cnt', a3, m3, c3, rfl⟩
          | false =>
            obtain ⟨so, hws⟩ : ∃ so, IntKind.i64.wrap (s.soiled + 1) = so := ⟨_, rfl⟩
            have g5 : w9.cell? ⟨K.g, 6, none⟩ = some (.int .i64 s.soiled) := hokF'.out.blk.cell rfl
            have g6 := hokF'.out.blk.frozen 6
            have hbtg := (But.refl K.g w9).set 6 (.int .i64 so)
            have b8F := b8F'.out.but hbtg (by omega)
            have bxF := bxF'.out.but hbtg (by omega)
            have b0F := b0F'.out.but hbtg (by omega)
            have hmvF := hmvF'.out.trans (Mv.of_but hbtg (.inl rfl))
            have hokF := hokF'.out.soil t'.out so
            clear bxF' b0F' b8F' hmvF' hokF'
            have bxF' := Lib.hid bxF
            have b0F' := Lib.hid b0F
            have b8F' := Lib.hid b8F
            have hmvF' := Lib.hid hmvF
            have hokF' := Lib.hid hokF
            clear bxF b0F b8F hmvF hokF
            go_upto_region 10 with fail
            try rw [hws]
            clear g5 g6
            generalize w9.setCell ⟨K.g, 6, none⟩ (.int .i64 so) = w10 at *
            have t0 : w10.cell? ⟨w.heap.size, 0, none⟩ = some (.int .i64 tg) := bxF'.out.cell rfl
            have v0 : w10.cell? ⟨g7, 0, none⟩ = some (.int .i64 ty') := b8F'.out.cell rfl
            have v1 : w10.cell? ⟨g7, 1, none⟩ = some (.int .i64 cnt') := b8F'.out.cell rfl
            have v2 : w10.cell? ⟨g7, 2, none⟩ = some (.slice a3 m3 c3) := b8F'.out.cell rfl
            have p0 : w10.cell? ⟨w.heap.size + 1, 0, none⟩ = some (.int .i64 0) := b0F'.out.cell rfl
            have p1 : w10.cell? ⟨w.heap.size + 1, 1, none⟩ = some (.int .i64 0) := b0F'.out.cell rfl
            have p2 : w10.cell? ⟨w.heap.size + 1, 2, none⟩ = some (.int .i64 0) := b0F'.out.cell rfl
            have p3 : w10.cell? ⟨w.heap.size + 1, 3, none⟩ = some (.slice none 0 0) := b0F'.out.cell rfl
            have y0 := b0F'.out.frozen 0
            have y1 := b0F'.out.frozen 1
            have y2 := b0F'.out.frozen 2
            have y3 := b0F'.out.frozen 3
            go_wp2_with fail
            refine bodyPost_ret (results_cell_row rfl _ _ (w.heap.size + 1) 59 #[.int .i64 tg, .int .i64 ty', .int .i64 cnt', .slice a3 m3 c3] (0, 0) _ rfl (b0F'.out.set4 _ _ _ _) Try.underlying59 rfl (by kernel_rfl)) rfl ?_
            have hbt := (((((But.refl (w.heap.size + 1) w10).set 0 (.int .i64 tg)).set 1 (.int .i64 ty')).set 2 (.int .i64 cnt')).set 3 (.slice a3 m3 c3))
            exact ⟨by decide, _, sv, tk, hokF'.out.but hbt (by omega) (by omega) hsvF (Nat.le_trans hok'.out.old.size (Nat.le_succ _)), hmvF'.out.new_set (Nat.le_succ _) hbt, tg, ty', cnt', a3, m3, c3, rfl⟩
        | some d =>
          obtain ⟨rfl, rfl, rfl, hodF⟩ := hd8 d rfl
          have hm3 := (Sl.of_own hodF).1.ilen
          simp only [Option.isSome_some] at *
          clear hd8
          obtain ⟨d, cl⟩ := d
          cases cl with
          | true =>
            obtain rfl : R = .ok ((tg, ty', cnt', d), s) := by rw [← hR4'.out]; simp
            have hb8' := Lib.hid hb8
            have bxF' := Lib.hid bxF
            have b0F' := Lib.hid b0F
            have b8F' := Lib.hid b8F
            have hokF' := Lib.hid hokF
            have hmvF' := Lib.hid hmvF
            have hggF' := Lib.hid hggF
            have hodF' := Lib.hid hodF
            have hm3' := Lib.hid hm3
            clear hb8 bxF b0F b8F hokF hmvF hggF hodF hm3
            have t0 : w8.cell? ⟨w.heap.size, 0, none⟩ = some (.int .i64 tg) := bxF'.out.cell rfl
            have v0 : w8.cell? ⟨g7, 0, none⟩ = some (.int .i64 ty') := b8F'.out.cell rfl
            have v1 : w8.cell? ⟨g7, 1, none⟩ = some (.int .i64 cnt') := b8F'.out.cell rfl
            have v2 : w8.cell? ⟨g7, 2, none⟩ = some (.slice a3 m3 c3) := b8F'.out.cell rfl
            have p0 : w8.cell? ⟨w.heap.size + 1, 0, none⟩ = some (.int .i64 0) := b0F'.out.cell rfl
            have p1 : w8.cell? ⟨w.heap.size + 1, 1, none⟩ = some (.int .i64 0) := b0F'.out.cell rfl
            have p2 : w8.cell? ⟨w.heap.size + 1, 2, none⟩ = some (.int .i64 0) := b0F'.out.cell rfl
            have p3 : w8.cell? ⟨w.heap.size + 1, 3, none⟩ = some (.slice none 0 0) := b0F'.out.cell rfl
            have y0 := b0F'.out.frozen 0
            have y1 := b0F'.out.frozen 1
            have y2 := b0F'.out.frozen 2
            have y3 := b0F'.out.frozen 3
            go_wp2_with fail
            refine bodyPost_ret (results_cell_row rfl _ _ (w.heap.size + 1) 59 #[.int .i64 tg, .int .i64 ty', .int .i64 cnt', .slice a3 m3 c3] (0, 0) _ rfl (b0F'.out.set4 _ _ _ _) Try.underlying59 rfl (by kernel_rfl)) rfl ?_
            have hbt := (((((But.refl (w.heap.size + 1) w8).set 0 (.int .i64 tg)).set 1 (.int .i64 ty')).set 2 (.int .i64 cnt')).set 3 (.slice a3 m3 c3))
            refine ⟨sv, tk, hokF'.out.but hbt (by omega) (by omega) hsvF (Nat.le_trans hok'.out.old.size (Nat.le_succ _)), hmvF'.out.new_set (Nat.le_succ _) hbt, a3, m3, c3, rfl, ?_, fun kk e h => ?_⟩
            · have h := own_but hodF'.out hbt (fun e => by have := (hodF'.out.lt _ e).1; omega)
              rw [hm3'.out]
              exact own_mono h (by omega)
            · have h1 := (hodF'.out.lt kk e).1
              have h2 := hggF'.out kk h
              omega
          | false =>
            have hR5 := hR4'.out
            have hb8' := Lib.hid hb8
            have bxF' := Lib.hid bxF
            have b0F' := Lib.hid b0F
            have b8F' := Lib.hid b8F
            have hokF' := Lib.hid hokF
            have hmvF' := Lib.hid hmvF
            have hggF' := Lib.hid hggF
            have hodF' := Lib.hid hodF
            have hm3' := Lib.hid hm3
            have hR5' := Lib.hid hR5
            clear hb8 bxF b0F b8F hokF hmvF hggF hodF hm3 hR5
            obtain ⟨so, hws⟩ : ∃ so, IntKind.i64.wrap (s.soiled + 1) = so := ⟨_, rfl⟩
            have g5 : w8.cell? ⟨K.g, 6, none⟩ = some (.int .i64 s.soiled) := hokF'.out.blk.cell rfl
            have g6 := hokF'.out.blk.frozen 6
            have hbtg := (But.refl K.g w8).set 6 (.int .i64 so)
            have b8F := b8F'.out.but hbtg (by omega)
            have bxF := bxF'.out.but hbtg (by omega)
            have b0F := b0F'.out.but hbtg (by omega)
            have hmvF := hmvF'.out.trans (Mv.of_but hbtg (.inl rfl))
            have hokF := hokF'.out.soil t'.out so
            clear bxF' b0F' b8F' hmvF' hokF'
            have bxF' := Lib.hid bxF
            have b0F' := Lib.hid b0F
            have b8F' := Lib.hid b8F
            have hmvF' := Lib.hid hmvF
            have hokF' := Lib.hid hokF
            clear bxF b0F b8F hmvF hokF
            obtain rfl : R = .ok ((tg, ty', cnt', d), { s with soiled := so }) := by rw [← hR5'.out, ← hws]; simp
            have hodF := own_but hodF'.out hbtg (fun e => by have := (hodF'.out.lt _ e).1; omega)
            clear hodF' hR5' hR4'
            have hodF' := Lib.hid hodF
            clear hodF
            go_upto_region 10 with fail
            try rw [hws]
            clear g5 g6
            generalize w8.setCell ⟨K.g, 6, none⟩ (.int .i64 so) = w10 at *
            have t0 : w10.cell? ⟨w.heap.size, 0, none⟩ = some (.int .i64 tg) := bxF'.out.cell rfl
            have v0 : w10.cell? ⟨g7, 0, none⟩ = some (.int .i64 ty') := b8F'.out.cell rfl
            have v1 : w10.cell? ⟨g7, 1, none⟩ = some (.int .i64 cnt') := b8F'.out.cell rfl
            have v2 : w10.cell? ⟨g7, 2, none⟩ = some (.slice a3 m3 c3) := b8F'.out.cell rfl
            have p0 : w10.cell? ⟨w.heap.size + 1, 0, none⟩ = some (.int .i64 0) := b0F'.out.cell rfl
            have p1 : w10.cell? ⟨w.heap.size + 1, 1, none⟩ = some (.int .i64 0) := b0F'.out.cell rfl
            have p2 : w10.cell? ⟨w.heap.size + 1, 2, none⟩ = some (.int .i64 0) := b0F'.out.cell rfl
            have p3 : w10.cell? ⟨w.heap.size + 1, 3, none⟩ = some (.slice none 0 0) := b0F'.out.cell rfl
            have y0 := b0F'.out.frozen 0
            have y1 := b0F'.out.frozen 1
            have y2 := b0F'.out.frozen 2
            have y3 := b0F'.out.frozen 3
            go_wp2_with fail
            refine bodyPost_ret (results_cell_row rfl _ _ (w.heap.size + 1) 59 #[.int .i64 tg, .int .i64 ty', .int .i64 cnt', .slice a3 m3 c3] (0, 0) _ rfl (b0F'.out.set4 _ _ _ _) Try.underlying59 rfl (by kernel_rfl)) rfl ?_
            have hbt := (((((But.refl (w.heap.size + 1) w10).set 0 (.int .i64 tg)).set 1 (.int .i64 ty')).set 2 (.int .i64 cnt')).set 3 (.slice a3 m3 c3))
            refine ⟨sv, tk, hokF'.out.but hbt (by omega) (by omega) hsvF (Nat.le_trans hok'.out.old.size (Nat.le_succ _)), hmvF'.out.new_set (Nat.le_succ _) hbt, a3, m3, c3, rfl, ?_, fun kk e h => ?_⟩
            · have h := own_but hodF'.out hbt (fun e => by have := (hodF'.out.lt _ e).1; omega)
              rw [hm3'.out]
              exact own_mono h (by omega)
            · have h1 := (hodF'.out.lt kk e).1
              have h2 := hggF'.out kk h
              omega
      case refine_2 =>
        go_wp2_with fail
        have hb7 := ((Below.refl w2.heap.size w2).alloc (Nat.le_refl _) (.cells #[.int .i64 0, .int .i64 0, .slice none 0 0] 54)).drew
        have b7 : Blk (w2.alloc (.cells #[.int .i64 0, .int .i64 0, .slice none 0 0] 54)).drew w2.heap.size 54 #[.int .i64 0, .int .i64 0, .slice none 0 0] := Blk.new w2 _ _
        have HS := Lib.hid (hsurj'.out _ hb7)
        have hsz3 : (w2.alloc (.cells #[.int .i64 0, .int .i64 0, .slice none 0 0] 54)).drew.heap.size = w2.heap.size + 1 := by show (w2.alloc _).heap.size = _; simp
        obtain ⟨w3, hw3⟩ : ∃ w3, (w2.alloc (.cells #[.int .i64 0, .int .i64 0, .slice none 0 0] 54)).drew = w3 := ⟨_, rfl⟩
        rw [hw3] at hb7 b7 HS hsz3
        rw [hw3]
        clear hw3
        have b7' := Lib.hid b7
        have hb7' := Lib.hid hb7
        clear b7 hb7
        first | refine Mid.mk ⟨HS.out, ?_⟩ | refine Mid.mk ?_
        refine held_one 5 7 (by kernel_rfl) (by kernel_rfl) ?_
        simp only [pickL, List.map_cons, List.map_nil, List.getD_cons_succ, List.getD_cons_zero]
        go_wp2_with fail
        refine (HO'.out _).mono ?_
        rintro e w7 ⟨ty', cnt', a3, m3, c3, cl, rfl, hb6, hd6⟩
        have hb6x := hb7'.out.trans (hb6.mono hb7'.out.size)
        have b7 := b7'.out.late hb6
        have HS := Lib.hid (hsurj'.out _ hb6x)
        have hd7 := fun d h => (⟨(hd6 d h).1, (hd6 d h).2.1, (hd6 d h).2.2.1, own_mono (hd6 d h).2.2.2 hb7'.out.size, fun e => by have := ((hd6 d h).2.2.2.lt _ e).1; omega⟩ : ty' = ty ∧ cnt' = cnt ∧ cl = d.2 ∧ World.ownsRow w7 w2.heap.size _ _ _ _ _ ∧ (Value.slice a3 m3 c3).ownBlock ≠ some w2.heap.size)
        have hb7 := hb6x
        obtain ⟨g7, hg7e⟩ : ∃ g, w2.heap.size = g := ⟨_, rfl⟩
        have hg7 : w2.heap.size ≤ g7 := Nat.le_of_eq hg7e
        clear b7' hb7' hb6 hb6x hd6 hsz3
        rw [hg7e] at b7
        rw [hg7e]
        replace hd7 := fun d h => (⟨(hd7 d h).1, (hd7 d h).2.1, (hd7 d h).2.2.1, (hd7 d h).2.2.2.1, hg7e ▸ (hd7 d h).2.2.2.2⟩ : ty' = ty ∧ cnt' = cnt ∧ cl = d.2 ∧ World.ownsRow w7 w2.heap.size _ _ _ _ _ ∧ (Value.slice a3 m3 c3).ownBlock ≠ some g7)
        clear hg7e
        have b7' := Lib.hid b7
        have hb7' := Lib.hid hb7
        have hd7' := Lib.hid hd7
        clear b7 hb7 hd7
        go_wp2_with fail
        first | refine Mid.mk ⟨HS.out, ?_⟩ | refine Mid.mk ?_
        refine held_take [6, 7, 8, 9] 3 (by kernel_rfl) (fun d _ _ _ _ h => by cases d <;> exact h) (by kernel_rfl) (by kernel_rfl) (by kernel_rfl) HS.out ?_
        simp only [pickL, List.map_cons, List.map_nil, List.getD_cons_succ, List.getD_cons_zero]
        iterate 4 (go_big_quiet_step (fail))
        refine wpQuiet_nil ?_
        refine held_one 11 2 (by kernel_rfl) (by kernel_rfl) ?_
        simp only [pickL, List.map_cons, List.map_nil, List.getD_cons_succ, List.getD_cons_zero]
        have p0 : w7.cell? ⟨g7, 0, none⟩ = some (.int .i64 0) := b7'.out.cell rfl
        have p1 : w7.cell? ⟨g7, 1, none⟩ = some (.int .i64 0) := b7'.out.cell rfl
        have p2 : w7.cell? ⟨g7, 2, none⟩ = some (.slice none 0 0) := b7'.out.cell rfl
        have y0 := b7'.out.frozen 0
        have y1 := b7'.out.frozen 1
        have y2 := b7'.out.frozen 2
        go_wp2_with fail
        have b8 := b7'.out.set3 (.int .i64 ty') (.int .i64 cnt') (.slice a3 m3 c3)
        have hb8 := below_set3 hb7'.out hg7 (.int .i64 ty') (.int .i64 cnt') (.slice a3 m3 c3)
        have HS := Lib.hid (hsurj'.out _ hb8)
        have hd8 := fun d h => (⟨(hd7'.out d h).1, (hd7'.out d h).2.1, (hd7'.out d h).2.2.1, own_but (hd7'.out d h).2.2.2.1 ((((But.refl g7 w7).set 0 (.int .i64 ty')).set 1 (.int .i64 cnt')).set 2 (.slice a3 m3 c3)) (hd7'.out d h).2.2.2.2⟩ : ty' = ty ∧ cnt' = cnt ∧ cl = d.2 ∧ World.ownsRow _ _ _ _ _ _ _)
        refine Mid.mk ⟨HS.out, ?_⟩
        refine held_take [12, 13] 0 (by kernel_rfl) (fun d _ _ _ _ h => by cases d <;> exact h) (by kernel_rfl) (by kernel_rfl) (by kernel_rfl) HS.out ?_
        simp only [pickL, List.map_cons, List.map_nil, List.getD_cons_succ, List.getD_cons_zero]
        iterate 2 (go_big_quiet_step (fail))
        refine wpQuiet_nil ?_
        refine held_last (by kernel_rfl) ?_
        clear p0 p1 p2 y0 y1 y2 b7' hb7' hd7' q1 r0 r1 r2 r3 HS
        generalize (((w7.setCell ⟨g7, 0, none⟩ (.int .i64 ty')).setCell ⟨g7, 1, none⟩ (.int .i64 cnt')).setCell ⟨g7, 2, none⟩ (.slice a3 m3 c3)) = w8 at *
        have bxF := bx2'.out.late hb8
        have b0F := b02'.out.late hb8
        have b8F := b8
        have hokF := hok2'.out.later hb8
        have hmvF : Mv K.g K.gt sv sv w w8 := Mv.of_below (hbw2'.out.trans (hb8.mono hbw2'.out.size))
        have hw8 := hb8.size
        have hggF : ∀ c, sv.ownBlock = some c → c < w.heap.size := hsvw'.out
        have hsvF : sv.ownBlock ≠ some (w.heap.size + 1) := fun e => by have := hggF _ e; omega
        have hdr2 : w2.drew.heap.size = w2.heap.size := rfl
        clear b8
        cases V with
        | none =>
          obtain rfl : R = .error 6 := by rw [← hR4'.out]
          simp only [Option.isSome_none] at *
          clear hd8
          have hb8' := Lib.hid hb8
          have bxF' := Lib.hid bxF
          have b0F' := Lib.hid b0F
          have b8F' := Lib.hid b8F
          have hokF' := Lib.hid hokF
          have hmvF' := Lib.hid hmvF
          have hggF' := Lib.hid hggF
          clear hb8 bxF b0F b8F hokF hmvF hggF
          go_wp2_with fail
          refine (fail_any K t'.out s sv tk 0 6 w8 hokF'.out).mono ?_
          rintro e w9 ⟨rfl, hokF, hbf⟩
          have bxF := bxF'.out.but hbf (by omega)
          have b0F := b0F'.out.but hbf (by omega)
          have b8F := b8F'.out.but hbf (by omega)
          have hmvF := hmvF'.out.trans (Mv.of_but hbf (.inl rfl))
          clear bxF' b0F' b8F' hmvF' hokF' hbf
          have bxF' := Lib.hid bxF
          have b0F' := Lib.hid b0F
          have b8F' := Lib.hid b8F
          have hmvF' := Lib.hid hmvF
          have hokF' := Lib.hid hokF
          clear bxF b0F b8F hmvF hokF
          cases cl with
          | true =>
            have t0 : w9.cell? ⟨w.heap.size, 0, none⟩ = some (.int .i64 tg) := bxF'.out.cell rfl
            have v0 : w9.cell? ⟨g7, 0, none⟩ = some (.int .i64 ty') := b8F'.out.cell rfl
            have v1 : w9.cell? ⟨g7, 1, none⟩ = some (.int .i64 cnt') := b8F'.out.cell rfl
            have v2 : w9.cell? ⟨g7, 2, none⟩ = some (.slice a3 m3 c3) := b8F'.out.cell rfl
            have p0 : w9.cell? ⟨w.heap.size + 1, 0, none⟩ = some (.int .i64 0) := b0F'.out.cell rfl
            have p1 : w9.cell? ⟨w.heap.size + 1, 1, none⟩ = some (.int .i64 0) := b0F'.out.cell rfl
            have p2 : w9.cell? ⟨w.heap.size + 1, 2, none⟩ = some (.int .i64 0) := b0F'.out.cell rfl
            have p3 : w9.cell? ⟨w.heap.size + 1, 3, none⟩ = some (.slice none 0 0) := b0F'.out.cell rfl
            have y0 := b0F'.out.frozen 0
            have y1 := b0F'.out.frozen 1
            have y2 := b0F'.out.frozen 2
            have y3 := b0F'.out.frozen 3
            go_wp2_with fail
            refine bodyPost_ret (results_cell_row rfl _ _ (w.heap.size + 1) 59 #[.int .i64 tg, .int .i64 ty', .int .i64 cnt', .slice a3 m3 c3] (0, 0) _ rfl (b0F'.out.set4 _ _ _ _) Try.underlying59 rfl (by kernel_rfl)) rfl ?_
            have hbt := (((((But.refl (w.heap.size + 1) w9).set 0 (.int .i64 tg)).set 1 (.int .i64 ty')).set 2 (.int .i64 cnt')).set 3 (.slice a3 m3 c3))
            exact ⟨by decide, s, sv, tk, hokF'.out.but hbt (by omega) (by omega) hsvF (Nat.le_trans hok'.out.old.size (Nat.le_succ _)), hmvF'.out.new_set (Nat.le_succ _) hbt, tg, ty', cnt', a3, m3, c3, rfl⟩
          | false =>
            obtain ⟨so, hws⟩ : ∃ so, IntKind.i64.wrap (s.soiled + 1) = so := ⟨_, rfl⟩
            have g5 : w9.cell? ⟨K.g, 6, none⟩ = some (.int .i64 s.soiled) := hokF'.out.blk.cell rfl
            have g6 := hokF'.out.blk.frozen 6
            have hbtg := (But.refl K.g w9).set 6 (.int .i64 so)
            have b8F := b8F'.out.but hbtg (by omega)
            have bxF := bxF'.out.but hbtg (by omega)
            have b0F := b0F'.out.but hbtg (by omega)
            have hmvF := hmvF'.out.trans (Mv.of_but hbtg (.inl rfl))
            have hokF := hokF'.out.soil t'.out so
            clear bxF' b0F' b8F' hmvF' hokF'
            have bxF' := Lib.hid bxF
            have b0F' := Lib.hid b0F
            have b8F' := Lib.hid b8F
            have hmvF' := Lib.hid hmvF
            have hokF' := Lib.hid hokF
            clear bxF b0F b8F hmvF hokF
            go_upto_region 10 with fail
            try rw [hws]
            clear g5 g6
            generalize w9.setCell ⟨K.g, 6, none⟩ (.int .i64 so) = w10 at *
            have t0 : w10.cell? ⟨w.heap.size, 0, none⟩ = some (.int .i64 tg) := bxF'.out.cell rfl
            have v0 : w10.cell? ⟨g7, 0, none⟩ = some (.int .i64 ty') := b8F'.out.cell rfl
            have v1 : w10.cell? ⟨g7, 1, none⟩ = some (.int .i64 cnt') := b8F'.out.cell rfl
            have v2 : w10.cell? ⟨g7, 2, none⟩ = some (.slice a3 m3 c3) := b8F'.out.cell rfl
            have p0 : w10.cell? ⟨w.heap.size + 1, 0, none⟩ = some (.int .i64 0) := b0F'.out.cell rfl
            have p1 : w10.cell? ⟨w.heap.size + 1, 1, none⟩ = some (.int .i64 0) := b0F'.out.cell rfl
            have p2 : w10.cell? ⟨w.heap.size + 1, 2, none⟩ = some (.int .i64 0) := b0F'.out.cell rfl
            have p3 : w10.cell? ⟨w.heap.size + 1, 3, none⟩ = some (.slice none 0 0) := b0F'.out.cell rfl
            have y0 := b0F'.out.frozen 0
            have y1 := b0F'.out.frozen 1
            have y2 := b0F'.out.frozen 2
            have y3 := b0F'.out.frozen 3
            go_wp2_with fail
            refine bodyPost_ret (results_cell_row rfl _ _ (w.heap.size + 1) 59 #[.int .i64 tg, .int .i64 ty', .int .i64 cnt', .slice a3 m3 c3] (0, 0) _ rfl (b0F'.out.set4 _ _ _ _) Try.underlying59 rfl (by kernel_rfl)) rfl ?_
            have hbt := (((((But.refl (w.heap.size + 1) w10).set 0 (.int .i64 tg)).set 1 (.int .i64 ty')).set 2 (.int .i64 cnt')).set 3 (.slice a3 m3 c3))
            exact ⟨by decide, _, sv, tk, hokF'.out.but hbt (by omega) (by omega) hsvF (Nat.le_trans hok'.out.old.size (Nat.le_succ _)), hmvF'.out.new_set (Nat.le_succ _) hbt, tg, ty', cnt', a3, m3, c3, rfl⟩
        | some d =>
          obtain ⟨rfl, rfl, rfl, hodF⟩ := hd8 d rfl
          have hm3 := (Sl.of_own hodF).1.ilen
          simp only [Option.isSome_some] at *
          clear hd8
          obtain ⟨d, cl⟩ := d
          cases cl with
          | true =>
            obtain rfl : R = .ok ((tg, ty', cnt', d), s) := by rw [← hR4'.out]; simp
            have hb8' := Lib.hid hb8
            have bxF' := Lib.hid bxF
            have b0F' := Lib.hid b0F
            have b8F' := Lib.hid b8F
            have hokF' := Lib.hid hokF
            have hmvF' := Lib.hid hmvF
            have hggF' := Lib.hid hggF
            have hodF' := Lib.hid hodF
            have hm3' := Lib.hid hm3
            clear hb8 bxF b0F b8F hokF hmvF hggF hodF hm3
            have t0 : w8.cell? ⟨w.heap.size, 0, none⟩ = some (.int .i64 tg) := bxF'.out.cell rfl
            have v0 : w8.cell? ⟨g7, 0, none⟩ = some (.int .i64 ty') := b8F'.out.cell rfl
            have v1 : w8.cell? ⟨g7, 1, none⟩ = some (.int .i64 cnt') := b8F'.out.cell rfl
            have v2 : w8.cell? ⟨g7, 2, none⟩ = some (.slice a3 m3 c3) := b8F'.out.cell rfl
            have p0 : w8.cell? ⟨w.heap.size + 1, 0, none⟩ = some (.int .i64 0) := b0F'.out.cell rfl
            have p1 : w8.cell? ⟨w.heap.size + 1, 1, none⟩ = some (.int .i64 0) := b0F'.out.cell rfl
            have p2 : w8.cell? ⟨w.heap.size + 1, 2, none⟩ = some (.int .i64 0) := b0F'.out.cell rfl
            have p3 : w8.cell? ⟨w.heap.size + 1, 3, none⟩ = some (.slice none 0 0) := b0F'.out.cell rfl
            have y0 := b0F'.out.frozen 0
            have y1 := b0F'.out.frozen 1
            have y2 := b0F'.out.frozen 2
            have y3 := b0F'.out.frozen 3
            go_wp2_with fail
            refine bodyPost_ret (results_cell_row rfl _ _ (w.heap.size + 1) 59 #[.int .i64 tg, .int .i64 ty', .int .i64 cnt', .slice a3 m3 c3] (0, 0) _ rfl (b0F'.out.set4 _ _ _ _) Try.underlying59 rfl (by kernel_rfl)) rfl ?_
            have hbt := (((((But.refl (w.heap.size + 1) w8).set 0 (.int .i64 tg)).set 1 (.int .i64 ty')).set 2 (.int .i64 cnt')).set 3 (.slice a3 m3 c3))
            refine ⟨sv, tk, hokF'.out.but hbt (by omega) (by omega) hsvF (Nat.le_trans hok'.out.old.size (Nat.le_succ _)), hmvF'.out.new_set (Nat.le_succ _) hbt, a3, m3, c3, rfl, ?_, fun kk e h => ?_⟩
            · have h := own_but hodF'.out hbt (fun e => by have := (hodF'.out.lt _ e).1; omega)
              rw [hm3'.out]
              exact own_mono h (by omega)
            · have h1 := (hodF'.out.lt kk e).1
              have h2 := hggF'.out kk h
              omega
          | false =>
            have hR5 := hR4'.out
            have hb8' := Lib.hid hb8
            have bxF' := Lib.hid bxF
            have b0F' := Lib.hid b0F
            have b8F' := Lib.hid b8F
            have hokF' := Lib.hid hokF
            have hmvF' := Lib.hid hmvF
            have hggF' := Lib.hid hggF
            have hodF' := Lib.hid hodF
            have hm3' := Lib.hid hm3
            have hR5' := Lib.hid hR5
            clear hb8 bxF b0F b8F hokF hmvF hggF hodF hm3 hR5
            obtain ⟨so, hws⟩ : ∃ so, IntKind.i64.wrap (s.soiled + 1) = so := ⟨_, rfl⟩
            have g5 : w8.cell? ⟨K.g, 6, none⟩ = some (.int .i64 s.soiled) := hokF'.out.blk.cell rfl
            have g6 := hokF'.out.blk.frozen 6
            have hbtg := (But.refl K.g w8).set 6 (.int .i64 so)
            have b8F := b8F'.out.but hbtg (by omega)
            have bxF := bxF'.out.but hbtg (by omega)
            have b0F := b0F'.out.but hbtg (by omega)
            have hmvF := hmvF'.out.trans (Mv.of_but hbtg (.inl rfl))
            have hokF := hokF'.out.soil t'.out so
            clear bxF' b0F' b8F' hmvF' hokF'
            have bxF' := Lib.hid bxF
            have b0F' := Lib.hid b0F
            have b8F' := Lib.hid b8F
            have hmvF' := Lib.hid hmvF
            have hokF' := Lib.hid hokF
            clear bxF b0F b8F hmvF hokF
            obtain rfl : R = .ok ((tg, ty', cnt', d), { s with soiled := so }) := by rw [← hR5'.out, ← hws]; simp
            have hodF := own_but hodF'.out hbtg (fun e => by have := (hodF'.out.lt _ e).1; omega)
            clear hodF' hR5' hR4'
            have hodF' := Lib.hid hodF
            clear hodF
            go_upto_region 10 with fail
            try rw [hws]
            clear g5 g6
            generalize w8.setCell ⟨K.g, 6, none⟩ (.int .i64 so) = w10 at *
            have t0 : w10.cell? ⟨w.heap.size, 0, none⟩ = some (.int .i64 tg) := bxF'.out.cell rfl
            have v0 : w10.cell? ⟨g7, 0, none⟩ = some (.int .i64 ty') := b8F'.out.cell rfl
            have v1 : w10.cell? ⟨g7, 1, none⟩ = some (.int .i64 cnt') := b8F'.out.cell rfl
            have v2 : w10.cell? ⟨g7, 2, none⟩ = some (.slice a3 m3 c3) := b8F'.out.cell rfl
            have p0 : w10.cell? ⟨w.heap.size + 1, 0, none⟩ = some (.int .i64 0) := b0F'.out.cell rfl
            have p1 : w10.cell? ⟨w.heap.size + 1, 1, none⟩ = some (.int .i64 0) := b0F'.out.cell rfl
            have p2 : w10.cell? ⟨w.heap.size + 1, 2, none⟩ = some (.int .i64 0) := b0F'.out.cell rfl
            have p3 : w10.cell? ⟨w.heap.size + 1, 3, none⟩ = some (.slice none 0 0) := b0F'.out.cell rfl
            have y0 := b0F'.out.frozen 0
            have y1 := b0F'.out.frozen 1
            have y2 := b0F'.out.frozen 2
            have y3 := b0F'.out.frozen 3
            go_wp2_with fail
            refine bodyPost_ret (results_cell_row rfl _ _ (w.heap.size + 1) 59 #[.int .i64 tg, .int .i64 ty', .int .i64 cnt', .slice a3 m3 c3] (0, 0) _ rfl (b0F'.out.set4 _ _ _ _) Try.underlying59 rfl (by kernel_rfl)) rfl ?_
            have hbt := (((((But.refl (w.heap.size + 1) w10).set 0 (.int .i64 tg)).set 1 (.int .i64 ty')).set 2 (.int .i64 cnt')).set 3 (.slice a3 m3 c3))
            refine ⟨sv, tk, hokF'.out.but hbt (by omega) (by omega) hsvF (Nat.le_trans hok'.out.old.size (Nat.le_succ _)), hmvF'.out.new_set (Nat.le_succ _) hbt, a3, m3, c3, rfl, ?_, fun kk e h => ?_⟩
            · have h := own_but hodF'.out hbt (fun e => by have := (hodF'.out.lt _ e).1; omega)
              rw [hm3'.out]
              exact own_mono h (by omega)
            · have h1 := (hodF'.out.lt kk e).1
              have h2 := hggF'.out kk h
              omega
end Go.Proofs.Ytheelhepelbgcaa

namespace Go.Proofs.Ytheelhepelbgcaa
open Go.RowKit Tt
set_option linter.unusedVariables false
set_option linter.unusedSimpArgs false

theorem ownD_eq {n i : Nat} {s : Shp} (h : shapeB n i s = true) (t : Int) : ownD s.1 s.2.1 s.2.2.1 t = ownP s t := by
  unfold shapeB at h
  simp only [Bool.and_eq_true] at h
  have h2 := h.2
  unfold blobB at h2
  simp only [Bool.or_eq_true, Bool.and_eq_true, decide_eq_true_eq] at h2
  unfold ownD ownP linkP pairP
  rw [fst_any]
  congr 1
  rw [Bool.eq_iff_iff]
  simp
  omega
def frS (a v : Int) (l : List Ent) : Int := l.foldl (fun v x => if x.1 = a then x.2.2.2 else v) v
def frD (s : Shp) (a : Int) (l : List Ent) : Int := if s.2.1 = 0 then -1 else frS a (-1) l
theorem frD_nil (s : Shp) (a : Int) : frD s a [] = -1 := by unfold frD frS; split <;> rfl
theorem frD_snoc (s : Shp) (a : Int) (l : List Ent) (x : Ent) : frD s a (l ++ [x]) = if s.2.1 ≠ 0 ∧ x.1 = a then x.2.2.2 else frD s a l := by
  unfold frD frS
  by_cases h : s.2.1 = 0
  · simp [h]
  · simp [h, List.foldl_append]
theorem frS_zero (a : Int) : ∀ {l : List Ent} {v : Int}, (∀ x ∈ l, x.1 ≠ a) → frS a v l = v
  | [], v, h => rfl
  | x :: r, v, h => by
    unfold frS
    rw [List.foldl_cons, if_neg (h x (by simp))]
    exact frS_zero a (fun y hy => h y (by simp [hy]))
theorem rises_all : ∀ {r : List Ent} {x : Ent}, risesE (x :: r) = true → ∀ y ∈ r, x.1 < y.1
  | [], x, h, y, hy => by cases hy
  | z :: r, x, h, y, hy => by
    simp only [risesE, Bool.and_eq_true, decide_eq_true_eq] at h
    rcases List.mem_cons.1 hy with rfl | hy
    · exact h.1
    · have := rises_all h.2 y hy
      omega
theorem rises_tl {r : List Ent} {x : Ent} (h : risesE (x :: r) = true) : risesE r = true := by
  cases r with
  | nil => rfl
  | cons y r => simp only [risesE, Bool.and_eq_true] at h; exact h.2
theorem one_law (a : Int) : ∀ {l : List Ent} {v : Int}, risesE l = true → (l.filter (fun x => decide (x.1 = a)) = [] ∧ frS a v l = v) ∨ ∃ x ∈ l, l.filter (fun x => decide (x.1 = a)) = [x] ∧ frS a v l = x.2.2.2
  | [], v, h => .inl ⟨rfl, rfl⟩
  | x :: r, v, h => by
    have ha := rises_all h
    unfold frS
    rw [List.foldl_cons]
    by_cases hx : x.1 = a
    · refine .inr ⟨x, by simp, ?_, ?_⟩
      · rw [List.filter_cons, if_pos (by simp [hx])]
        rw [List.filter_eq_nil_iff.2 (fun y hy => by have := ha y hy; simp; omega)]
      · rw [if_pos hx]
        exact frS_zero a (fun y hy => by have := ha y hy; omega)
    · rw [if_neg hx, List.filter_cons, if_neg (by simp [hx])]
      rcases one_law a (v := v) (rises_tl h) with h1 | ⟨y, hy, h1⟩
      · exact .inl h1
      · exact .inr ⟨y, by simp [hy], h1⟩
theorem two_filter {a b : Int} (hab : a < b) : ∀ {l : List Ent}, risesE l = true → l.filter (fun x => decide (x.1 = a) || decide (x.1 = b)) = l.filter (fun x => decide (x.1 = a)) ++ l.filter (fun x => decide (x.1 = b))
  | [], h => rfl
  | x :: r, h => by
    have ha := rises_all h
    have ih := two_filter hab (rises_tl h)
    rw [List.filter_cons, List.filter_cons, List.filter_cons, ih]
    by_cases h1 : x.1 = a
    · have h2 : ¬ x.1 = b := by omega
      simp [h1, show ¬ a = b by omega]
    · by_cases h2 : x.1 = b
      · have e : r.filter (fun x => decide (x.1 = a)) = [] := List.filter_eq_nil_iff.2 (fun y hy => by have := ha y hy; simp; omega)
        simp [h2, show ¬ b = a by omega, e]
      · simp [h1, h2]
theorem pair_law {n i : Nat} {s : Shp} (h : shapeB n i s = true) {l : List Ent} (hr : risesE l = true) (hs : ∀ x ∈ l, 0 ≤ x.2.2.2) :
    (pairE s l = [] ∧ frD s s.2.1 l = -1 ∧ frD s s.2.2.1 l = -1) ∨ ((pairE s l).length = 1 ∧ (frD s s.2.1 l < 0 ↔ ¬ frD s s.2.2.1 l < 0)) ∨ (∃ x ∈ l, ∃ y ∈ l, pairE s l = [x, y] ∧ frD s s.2.1 l = x.2.2.2 ∧ frD s s.2.2.1 l = y.2.2.2) := by
  unfold shapeB at h
  simp only [Bool.and_eq_true] at h
  obtain ⟨⟨hl, _⟩, hb⟩ := h
  unfold blobB at hb
  simp only [Bool.or_eq_true, Bool.and_eq_true, decide_eq_true_eq] at hb
  by_cases h0 : s.2.1 = 0
  · refine .inl ⟨?_, by unfold frD; rw [if_pos h0], by unfold frD; rw [if_pos h0]⟩
    unfold pairE
    refine List.filter_eq_nil_iff.2 (fun x hx => ?_)
    unfold pairP
    simp [h0]
  · have h1 : 1 ≤ s.2.1 ∧ s.2.1 < s.2.2.1 := by omega
    have hlk : ∀ t, (t = s.2.1 ∨ t = s.2.2.1) → linkP s t = false := fun t ht => by
      unfold linkP
      refine List.any_eq_false.2 (fun y hy => ?_)
      obtain ⟨k, hk, rfl⟩ := List.getElem_of_mem hy
      have h2 := List.all_eq_true.1 hl k (List.mem_range.2 hk)
      unfold linkB at h2
      simp only [Bool.and_eq_true, Bool.not_eq_true', getD_el (d := ((0 : Int), (0 : Int))) hk] at h2
      have h3 := h2.2
      simp at h3 ⊢
      have h4 := h3 (by omega)
      omega
    have hp : pairE s l = l.filter (fun x => decide (x.1 = s.2.1) || decide (x.1 = s.2.2.1)) := by
      unfold pairE
      refine List.filter_congr (fun x _ => ?_)
      unfold pairP
      by_cases ht : x.1 = s.2.1 ∨ x.1 = s.2.2.1
      · rw [hlk _ ht]
        simp [show 0 < s.2.1 by omega]
      · rw [show (decide (x.1 = s.2.1) || decide (x.1 = s.2.2.1)) = false by simp; omega]
        simp
    rw [hp, two_filter h1.2 hr]
    unfold frD
    rw [if_neg h0, if_neg h0]
    rcases one_law s.2.1 (v := -1) hr with ⟨e1, e2⟩ | ⟨x, hx, e1, e2⟩ <;> rcases one_law s.2.2.1 (v := -1) hr with ⟨f1, f2⟩ | ⟨y, hy, f1, f2⟩ <;> rw [e1, e2, f1, f2]
    · exact .inl ⟨rfl, rfl, rfl⟩
    · have := hs y hy
      exact .inr (.inl ⟨rfl, by omega⟩)
    · have := hs x hx
      exact .inr (.inl ⟨rfl, by omega⟩)
    · exact .inr (.inr ⟨x, hx, y, hy, rfl, rfl, rfl⟩)
/-- all within a directory, of its entries -/
def whS (z : List Int) (o : Int) (L : List Shp) (f : Nat) (shp : Shp) (no : Int) (l : List Ent) (s1 : St) : Except Int (DirT (f + 1) × St) :=
  match loopS (stepT z o shp no) l ([], s1) with
  | .error e => .error e
  | .ok (tags, s2) =>
    if (l.filter (fun x => !linkP shp x.1 && pairP shp x.1)).length = 1 then .error 6 else
    match loopS (stepD (dirS z o L f) shp) l ([], s2) with
    | .error e => .error e
    | .ok (subs, s3) =>
      match blobS z shp l no s3 with
      | .error e => .error e
      | .ok (blob, s4) => .ok ((tags, subs, blob), s4)
theorem dirS_wh (z : List Int) (o : Int) (L : List Shp) (f : Nat) (p sh : Int) (s : St) : dirS z o L (f + 1) p sh s =
    match entriesS z o p s.no { s with no := IntKind.i64.wrap (s.no + 1) } with
    | .error e => .error e
    | .ok (l, s1) => match whS z o L f (L.getD sh.toNat shp0) s.no l s1 with
      | .error e => .error e
      | .ok (d, s4) => .ok ((d, getV z (p + 2 + 12 * l.length) 4 o), s4) := by
  simp only [dirS, whS]
  cases entriesS z o p s.no { s with no := IntKind.i64.wrap (s.no + 1) } with
  | error e => rfl
  | ok r =>
    obtain ⟨l, s1⟩ := r
    simp only
    cases loopS (stepT z o (L.getD sh.toNat shp0) s.no) l ([], s1) with
    | error e => rfl
    | ok r =>
      obtain ⟨tags, s2⟩ := r
      simp only
      by_cases hp : (l.filter (fun x => !linkP (L.getD sh.toNat shp0) x.1 && pairP (L.getD sh.toNat shp0) x.1)).length = 1
      · rw [if_pos hp, if_pos hp]
      · rw [if_neg hp, if_neg hp]
        cases loopS (stepD (dirS z o L f) (L.getD sh.toNat shp0)) l ([], s2) with
        | error e => rfl
        | ok r =>
          obtain ⟨subs, s3⟩ := r
          simp only
          cases blobS z (L.getD sh.toNat shp0) l s.no s3 with
          | error e => rfl
          | ok r => rfl
end Go.Proofs.Ytheelhepelbgcaa
