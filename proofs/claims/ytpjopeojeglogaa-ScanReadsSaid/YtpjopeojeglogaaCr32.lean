/- Chapter 12, the document's side: Pieces. -/
import Derived.Test.YtpjopeojeglogaaCr31
namespace Go.Proofs.Ytpjopeojeglogaa
open Go.RowKit Tt
set_option linter.unusedVariables false
set_option linter.unusedSimpArgs false

theorem own_at_blk {W : World} {B : Nat} {E : TypeId} {sz : Nat} {v : Value} {n : Nat} {xs : List Value} (h : W.ownsRow B E sz v n xs) {g : Nat} (hg : v.ownBlock = some g) : ∃ cur, Blk W g E cur := by
  rcases h.2 with ⟨rfl, _⟩ | ⟨g', cap, cur, rfl, _, hb, _⟩
  · cases hg
  · injection hg with hg
    subst hg; exact ⟨cur, hb⟩
theorem mo_from {g : Nat} {w w' : World} (h : Below g w w') : Mo (fun k => g ≤ k) w w' := ⟨h.os, h.tape, h.output, h.size, fun k hk hn => h.block k (Nat.lt_of_not_le hn)⟩
/-- the pieces so far: those gone through, the one under way -/
structure PcG (w0 w : World) (g : Nat) (ao : Option Addr) (co : Nat) (D : List PcM) (cu : PcM) : Prop where
  out : w.ownsRow w0.heap.size 159 2 (.slice ao (D.length + 1) co) (D.length + 1) (pcsC (D ++ [cu]))
  lt : ∀ k, (Value.slice ao (D.length + 1) co).ownBlock = some k → k < g
  old : PcOk w g D
  cur : w.ownsRow g 5 1 (.slice cu.2.1 cu.2.2.1 cu.2.2.2) cu.2.2.1 (ints .u8 cu.1.1)
  bas : w0.heap.size ≤ g
  bel : Below w0.heap.size w0 w
theorem PcG.late {w0 w w' : World} {g : Nat} {ao : Option Addr} {co : Nat} {D : List PcM} {cu : PcM} (h : PcG w0 w g ao co D cu) (hb : Below w.heap.size w w') : PcG w0 w' g ao co D cu :=
  ⟨own_later h.out hb, h.lt, h.old.late hb, own_later h.cur hb, h.bas, h.bel.trans (hb.mono h.bel.size)⟩
/-- a byte put to the piece under way -/
theorem PcG.put {w0 w w7 : World} {g go : Nat} {co : Nat} {D : List PcM} {cu : PcM} (h : PcG w0 w g (some ⟨go, 0, none⟩) co D cu) (hb : Below g w w7) {a7 : Option Addr} {m7 c7 : Nat} {z7 : List Int} (ho : w7.ownsRow g 5 1 (.slice a7 m7 c7) m7 (ints .u8 z7)) :
    PcG w0 (w7.setCell ⟨go, D.length * 2, none⟩ (.slice a7 m7 c7)) g (some ⟨go, 0, none⟩) co D ((z7, cu.1.2), a7, m7, c7) := by
  have hlt := h.lt go rfl; have m := mo_from hb; have hout := own_mo h.out m (fun k hk hg => by have := h.lt k hk; omega); have hold := h.old.mo m (fun k hk => .inl hk); obtain ⟨cur, hblk⟩ := own_at_blk hout rfl; have hbut : But go w7 (w7.setCell ⟨go, D.length * 2, none⟩ (.slice a7 m7 c7)) := (But.refl go w7).set _ _; refine ⟨?_, h.lt, hold.mo (S := fun k => k = go) (Mo.of_but hbut rfl) (fun k hk => .inr ⟨_, _, hk ▸ hblk, by decide⟩), own_but ho hbut (own_neB ho hblk (by decide)), h.bas, ?_⟩
  · have := own_put hout (D.length * 2) (.slice a7 m7 c7)
    rw [pcsC_set D cu ((z7, cu.1.2), a7, m7, c7) rfl] at this; exact this
  · have hB : w0.heap.size ≤ go := by
      rcases h.out.2 with ⟨hv, _⟩ | ⟨g', cap, cur, hv, hB, _⟩
      · cases hv
      · injection hv with hv _ _
        injection hv with hv; injection hv with hv _ _; rw [hv]; exact hB
    exact (h.bel.trans (hb.mono h.bas)).trans (hbut.below hB ((h.bel.trans (hb.mono h.bas)).size))
/-- a new piece -/
theorem PcG.snoc {w0 w w7 : World} {g : Nat} {ao : Option Addr} {co : Nat} {D : List PcM} {cu : PcM} (h : PcG w0 w g ao co D cu) {a7 : Option Addr} {c7 : Nat} {m : Int}
    (ho : w7.ownsRow w0.heap.size 159 2 (.slice a7 (D.length + 1 + 1) c7) (D.length + 1 + 1) (pcsC (D ++ [cu]) ++ [.slice none 0 0, .int .i64 m])) (hb : Below w0.heap.size w w7) (hg : w.grownBy w7 (Value.slice ao (D.length + 1) co).ownBlock) :
    PcG w0 w7 w7.heap.size a7 c7 (D ++ [cu]) (([], m), none, 0, 0) := by
  have mm := Mo.of_grown (S := fun k => (Value.slice ao (D.length + 1) co).ownBlock = some k) hg (fun k hk => hk)
  have hT : ∀ k, (Value.slice ao (D.length + 1) co).ownBlock = some k → ∃ cs T, Blk w k T cs ∧ T ≠ 5 := fun k hk => by
    obtain ⟨cur, hblk⟩ := own_at_blk h.out hk; exact ⟨_, _, hblk, by decide⟩
  have hcur := own_mo h.cur mm (fun k hk hs => by
    obtain ⟨cs, T, hb, hT⟩ := hT k hs; exact own_neB h.cur hb (Ne.symm hT) hk)
  have hold := h.old.mo mm (fun k hk => .inr (hT k hk)); have hsz := mm.size; have hle : w.heap.size ≤ w7.heap.size := hsz; have hl : (D ++ [cu]).length = D.length + 1 := by simp
  refine ⟨?_, fun k hk => ?_, ?_, own_nil _ _ _ _, ?_, h.bel.trans hb⟩
  · rw [hl, pcsC_snoc]
    exact ho
  · rw [hl] at hk
    exact (ho.lt k hk).2
  · refine PcOk.snoc (g := w7.heap.size) (fun p hp => ⟨(hold p hp).1, fun k hk => ((hold p hp).1.lt k hk).2⟩) (Nat.le_refl _) (own_mono hcur (Nat.zero_le _)) (fun k hk => (hcur.lt k hk).2)
  · exact Nat.le_trans h.bel.size hle
end Go.Proofs.Ytpjopeojeglogaa
