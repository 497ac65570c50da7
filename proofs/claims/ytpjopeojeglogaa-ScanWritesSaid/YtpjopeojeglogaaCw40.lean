/- Chapter 12, the document's side: what Write keeps in memory. -/
import Derived.Test.YtpjopeojeglogaaCw34
import Derived.Test.YtpjopeojeglogaaCw36
import Derived.Test.YtpjopeojeglogaaCw39
import Derived.Test.YtpjopeojeglogaaCw08
namespace Go.Proofs.Ytpjopeojeglogaa
open Go.RowKit Tt
set_option linter.unusedVariables false
set_option linter.unusedSimpArgs false

theorem own_neR {w : World} {B B' : Nat} {E E' : TypeId} {sz sz' : Nat} {v v' : Value} {n n' : Nat} {xs xs' : List Value} (h : w.ownsRow B E sz v n xs) (k : w.ownsRow B' E' sz' v' n' xs') (hE : E ≠ E') : ∀ j, v.ownBlock = some j → ¬ v'.ownBlock = some j := fun j hj hj' => by
  rcases k.2 with ⟨rfl, _⟩ | ⟨g, cap, cur, rfl, _, hg, _⟩
  · cases hj'
  · injection hj' with e
    obtain rfl : g = j := e; exact own_neB h (show Blk w g E' cur from hg) hE hj
theorem wcod_elem {w : World} {B : Nat} {a : Option Addr} {n c : Nat} {l : List Cod} (h : w.ownsRow B 133 4 (.slice a n c) n (codC l)) {j : Nat} {x : Cod} (hx : l[j]? = some x) :
    ∃ b o, a = some ⟨b, o, none⟩ ∧ b < w.heap.size ∧ w.cell? ⟨b, o + j * 4, none⟩ = some (.int .i64 x.1) ∧ w.cell? ⟨b, o + j * 4 + 1, none⟩ = some (.int .i64 x.2.1) ∧ w.cell? ⟨b, o + j * 4 + 2, none⟩ = some (.int .i64 x.2.2.1) ∧ w.cell? ⟨b, o + j * 4 + 2 + 1, none⟩ = some (.int .i64 x.2.2.2) := by
  have hs := (Sl.of_own h).1
  have hl : l.length = n := by
    have h1 := hs.len; rw [codC_len] at h1; omega
  have hj : j < n := by rw [← hl]; exact (List.getElem?_eq_some_iff.1 hx).1
  obtain ⟨b, o, e, hb, _, hc⟩ := hs.elem hj; have hc2 := flat_elem (fun x : Cod => ints .i64 (cdL x)) 4 l (fun q hq => rfl) j x hx; unfold codC at hc; rw [hc2] at hc; exact ⟨b, o, e, hb, hc 0 _ rfl, hc 1 _ rfl, hc 2 _ rfl, hc 3 _ rfl⟩
theorem infoBt2 (o : Option (Int × Nat)) : (Try.prog.info? 102).map (·.size) = some (cdP o).size := by
  rw [show (cdP o).size = 2 from rfl]
  kernel_rfl
theorem cdP_one (o : Option (Int × Nat)) : (cdP o).all (·.oneCell') = true := by
  unfold cdP
  simp [Value.oneCell']
theorem rcodeH {w : World} {h : HufM} (k : HufOk w h) (hm : mayH h = true) (H : Array Value) (hH : (hufC h).toArray = H) (x : Int) (W : World) (hb : Below w.heap.size w W) :
    Calls Try.prog 75 #[.agg H, .int .i64 x] W (Cd04 (codeS h.1.1 h.1.2 x) W) := by
  have := rcode04_any h.1.1 h.1.2 x h.2.1 h.2.2.1 h.2.2.2 W k.len hm (k.sl.mono hb) (by have := k.few; omega); unfold hV at this; rw [← hH]; exact this
/-- the bytes and the bits that the document has written -/
structure WrM (w0 w : World) (oa : Option Addr) (on oc : Nat) (ra : Option Addr) (rn rc : Nat) (t : WrT) : Prop where
  out : w.ownsRow w0.heap.size 5 1 (.slice oa on oc) on (ints .u8 t.1)
  row : w.ownsRow w0.heap.size 3 1 (.slice ra rn rc) rn (ints .i64 t.2)
  bel : Below w0.heap.size w0 w
  bit : BitL t.2
section
variable {w0 w w' : World} {oa : Option Addr} {on oc : Nat} {ra : Option Addr} {rn rc : Nat} {t : WrT}
theorem WrM.late (h : WrM w0 w oa on oc ra rn rc t) (hb : Below w.heap.size w w') : WrM w0 w' oa on oc ra rn rc t := ⟨own_later h.out hb, own_later h.row hb, h.bel.trans (hb.mono h.bel.size), h.bit⟩
theorem WrM.rowl (h : WrM w0 w oa on oc ra rn rc t) : t.2.length = rn := (Sl.of_own h.row).1.ilen
/-- bits behind the bits -/
theorem WrM.app (h : WrM w0 w oa on oc ra rn rc t) {a2 : Option Addr} {c2 m : Nat} {B : List Int} (hB : BitL B) (ho : w'.ownsRow w0.heap.size 3 1 (.slice a2 (rn + m) c2) (rn + m) (ints .i64 t.2 ++ ints .i64 B)) (hb : Below w0.heap.size w w') (hg : w.grownBy w' (Value.slice ra rn rc).ownBlock) : WrM w0 w' oa on oc a2 (rn + m) c2 (t.1, t.2 ++ B) :=
  ⟨own_mo h.out (Mo.of_grown (S := fun j => (Value.slice ra rn rc).ownBlock = some j) hg fun j hj => hj) (own_neR h.out h.row (by decide)), by rw [show ints .i64 (t.2 ++ B) = ints .i64 t.2 ++ ints .i64 B by unfold ints; rw [List.map_append]]; exact ho, h.bel.trans hb, h.bit.app hB⟩
end
theorem lowS_bit (v : Int) (n : Nat) : BitL (lowS v n) := fun x hx => by
  unfold lowS at hx; obtain ⟨j, _, rfl⟩ := List.mem_map.1 hx; have h1 := Int.emod_nonneg (v / 2 ^ (n - 1 - j)) (by decide : (2 : Int) ≠ 0); have h2 := Int.emod_lt_of_pos (v / 2 ^ (n - 1 - j)) (by decide : (0 : Int) < 2)
  omega
def WrP (s : ScT) (bs : List (List (List Int))) (w : World) (e : Ending) (w' : World) : Prop :=
  ((∃ out a n c, writeS s bs = .ok out ∧ e = .returned (.tuple #[.slice a n c, .int .i64 0]) ∧ Sl w' a n c 1 (ints .u8 out)) ∨ ∃ er, writeS s bs = .error er ∧ e = .returned (.tuple #[.slice none 0 0, .int .i64 er])) ∧ Below w.heap.size w w'
theorem WrP.err {s : ScT} {bs : List (List (List Int))} {w w' : World} {e : Ending} {er : Int} (hr : writeS s bs = .error er) (he : e = .returned (.tuple #[.slice none 0 0, .int .i64 er])) (hb : Below w.heap.size w w') : WrP s bs w e w' := ⟨.inr ⟨er, hr, he⟩, hb⟩
theorem WrP.ok {s : ScT} {bs : List (List (List Int))} {w w' : World} {e : Ending} {out : List Int} {a : Option Addr} {n c : Nat} (hr : writeS s bs = .ok out) (he : e = .returned (.tuple #[.slice a n c, .int .i64 0])) (hs : Sl w' a n c 1 (ints .u8 out)) (hb : Below w.heap.size w w') : WrP s bs w e w' := ⟨.inl ⟨out, a, n, c, hr, he, hs⟩, hb⟩
theorem putL_snoc {ps : List PtM} {part : Nat} {t : WrT} {l : List Cod} {i : Nat} {x : Cod} (hx : l[i]? = some x) : putL (putW ps) part t (l.take (i + 1)) = (putL (putW ps) part t (l.take i)).bind fun t2 => putW ps t2 part x := by
  unfold putL; exact ex_snoc hx t
theorem putL_err {ps : List PtM} {part : Nat} {t : WrT} {l : List Cod} {i : Nat} {e : Int} (h : putL (putW ps) part t (l.take i) = .error e) : putL (putW ps) part t l = .error e := by
  unfold putL at h ⊢; exact ex_err h
end Go.Proofs.Ytpjopeojeglogaa
