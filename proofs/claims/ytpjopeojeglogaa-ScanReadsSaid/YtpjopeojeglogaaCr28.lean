/- Chapter 12: what stands in memory while blocks are read. -/
import Derived.Test.YtpjopeojeglogaaCr26
namespace Go.Proofs.Ytpjopeojeglogaa
open Go.RowKit Tt
set_option linter.unusedVariables false
set_option linter.unusedSimpArgs false

def scanA (s : ScT) (pa : Option Addr) (pn pc : Nat) : Array Value := #[.int .i64 s.ax, .int .i64 s.dn, .slice pa pn pc, .int .i64 s.iv]
/-- what stays while blocks are read -/
structure RdK (w0 w : World) (s : ScT) (pa : Option Addr) (pn pc : Nat) (ta : Option Addr) (tc : Nat) (tl : List (Nat × Nat)) (a3 : Option Addr) (c3 : Nat) (L : List (Nat × List (List Int))) : Prop where
  out : OutM w0.heap.size w a3 pn c3 L
  tw : w.ownsRow 0 134 2 (.slice ta pn tc) pn (tabsC tl)
  tb : TbsA w s.ps tl
  sc : Blk w w0.heap.size 24 (scanA s pa pn pc)
  bel : Below w0.heap.size w0 w
def Apart (w0 w : World) (S : Nat → Prop) : Prop := ∀ k, S k → w0.heap.size ≤ k ∧ ∃ cs T, Blk w k T cs ∧ T ≠ 199 ∧ T ≠ 134 ∧ T ≠ 126 ∧ T ≠ 129 ∧ T ≠ 24
section
variable {w0 w w' : World} {s : ScT} {pa : Option Addr} {pn pc : Nat} {ta : Option Addr} {tc : Nat} {tl : List (Nat × Nat)} {a3 : Option Addr} {c3 : Nat} {L : List (Nat × List (List Int))}
theorem RdK.late (h : RdK w0 w s pa pn pc ta tc tl a3 c3 L) (hb : Below w.heap.size w w') : RdK w0 w' s pa pn pc ta tc tl a3 c3 L :=
  ⟨h.out.late hb, own_later h.tw hb, h.tb.late hb, h.sc.late hb, h.bel.trans (hb.mono h.bel.size)⟩
theorem RdK.mo {S : Nat → Prop} (h : RdK w0 w s pa pn pc ta tc tl a3 c3 L) (m : Mo S w w') (hS : Apart w0 w S) : RdK w0 w' s pa pn pc ta tc tl a3 c3 L := by
  refine ⟨h.out.mo m (fun k hk hn => ?_) (fun i x hx hn => ?_), own_mo h.tw m (fun k hk hn => ?_), h.tb.keep m fun k hk => ?_, h.sc.mo m fun hn => ?_, h.bel.trans (Mo.below m h.bel.size fun k hk hn => by have := (hS k hn).1; omega)⟩
  · obtain ⟨_, cs, T, hb, e1, e2, e3, e4, e5⟩ := hS k hn
    exact own_neB h.out.own hb (Ne.symm e3) hk
  · obtain ⟨_, cs, T, hb, e1, e2, e3, e4, e5⟩ := hS _ hn
    exact blk_neT (h.out.blk i x hx).2.1 hb (Ne.symm e4) rfl
  · obtain ⟨_, cs, T, hb, e1, e2, e3, e4, e5⟩ := hS k hn
    exact own_neB h.tw hb (Ne.symm e2) hk
  · obtain ⟨_, cs, T, hb, e1, e2, e3, e4, e5⟩ := hS k hk
    exact ⟨cs, T, hb, e1⟩
  · obtain ⟨_, cs, T, hb, e1, e2, e3, e4, e5⟩ := hS _ hn
    exact blk_neT h.sc hb (Ne.symm e5) rfl
theorem RdK.put (h : RdK w0 w s pa pn pc ta tc tl a3 c3 L) {i k : Nat} {x : Nat × List (List Int)} (hx : L[i]? = some x) (hk : k < x.2.length) {b : List Int} (hb : b.length = 64) (hw : ∀ y ∈ b, (Lit.int .i64 y).wf = true) :
    RdK w0 (w.setCells x.1 (k * 64) (ints .i64 b)) s pa pn pc ta tc tl a3 c3 (L.set i (x.1, x.2.set k b)) := by
  have hbl := (h.out.blk i x hx).2.1; have hB := (h.out.blk i x hx).1; have hbt : But x.1 w (w.setCells x.1 (k * 64) (ints .i64 b)) := but_cells; refine ⟨h.out.put hx hk hb hw, own_but h.tw hbt (own_neB h.tw hbl (by decide)), h.tb.keep (S := fun k => k = x.1) (Mo.of_but hbt rfl) (fun k hk => ⟨_, _, hk ▸ hbl, by decide⟩), h.sc.but hbt (blk_neT h.sc hbl (by decide)), h.bel.trans (hbt.below hB h.bel.size)⟩
end
/-- a reader on its way -/
def RdG (w0 : World) (wc : Nat) (w : World) (rr gl : Nat) (s : ScT) (pa : Option Addr) (pn pc : Nat) (ta : Option Addr) (tc : Nat) (ba : Option Addr) (bn : Nat) (st : RdT) : Prop :=
  ∃ rb a n c D i ra rn rc, st.B = (bitsS D).drop i ∧ RdB w rr gl rb s pa pn pc ta tc ra rn rc st.last a n c D i ∧ Sl w ra rn rc 1 (ints .u8 st.rest) ∧ Byt st.rest ∧ rn ≤ bn ∧ In ra ba ∧ w0.heap.size ≤ rb ∧ ∀ x, a = some x → wc ≤ x.block
section
variable {w0 w w' : World} {wc rr gl : Nat} {s : ScT} {pa : Option Addr} {pn pc : Nat} {ta : Option Addr} {tc : Nat} {ba : Option Addr} {bn : Nat} {st : RdT}
theorem RdG.late (h : RdG w0 wc w rr gl s pa pn pc ta tc ba bn st) (hb : Below w.heap.size w w') : RdG w0 wc w' rr gl s pa pn pc ta tc ba bn st := by
  obtain ⟨rb, a, n, c, D, i, ra, rn, rc, h1, h2, h3, h4, h5, h6, h7, h8⟩ := h; exact ⟨rb, a, n, c, D, i, ra, rn, rc, h1, h2.late hb, h3.mono hb, h4, h5, h6, h7, h8⟩
theorem RdG.but {g : Nat} {cs : Array Value} (h : RdG w0 wc w rr gl s pa pn pc ta tc ba bn st) (hb : But g w w') (hg : Blk w g 129 cs) (hgc : g < wc) (hgw : w0.heap.size ≤ g) (hba : ∀ x, ba = some x → x.block < w0.heap.size) : RdG w0 wc w' rr gl s pa pn pc ta tc ba bn st := by
  obtain ⟨rb, a, n, c, D, i, ra, rn, rc, h1, h2, h3, h4, h5, h6, h7, h8⟩ := h; refine ⟨rb, a, n, c, D, i, ra, rn, rc, h1, h2.mo (S := fun k => k = g) (Mo.of_but hb rfl) (fun e => blk_neT h2.rd hg (by decide) e) (fun e => blk_neT h2.lr hg (by decide) e) (fun e => blk_neT h2.bt.blk hg (by decide) e) (fun x hx e => ?_), h3.but hb (fun x hx e => ?_), h4, h5, h6, h7, h8⟩
  · have := h8 x hx; omega
  · obtain ⟨y, hy, e2⟩ := h6 x hx
    have := hba y hy
    omega
end
theorem rd_step {s : ScT} {st0 st : RdT} {n : Nat} (h : (List.range n).foldlM (rdU s) st0 = .ok st) : (List.range (n + 1)).foldlM (rdU s) st0 = rdU s st n := by
  rw [List.range_succ, List.foldlM_append, h]
  show ([n].foldlM (rdU s) st) = _
  rw [List.foldlM_cons]
  cases rdU s st n <;> rfl
theorem rdU_none {s : ScT} {st : RdT} {n : Nat} (h : startR s st n = none) : rdU s st n = .error n := by unfold rdU; rw [h]
theorem rdU_some {s : ScT} {st st2 : RdT} {n : Nat} (h : startR s st n = some st2) : rdU s st n = (unitS s.ax.toNat s.ps n).foldlM (rdE s.ps n) st2 := by unfold rdU; rw [h]
def rd0 (s : ScT) (bb : List Int) : RdT := ⟨zeroB s, [], bb, List.replicate s.ps.length 0⟩
theorem readS_err {s : ScT} {bb : List Int} {st : RdT} {n N : Nat} (hN : (s.ax * s.dn).toNat = N) (h : (List.range n).foldlM (rdU s) (rd0 s bb) = .ok st) (hn : n < N) (he : rdU s st n = .error n) : readS s bb = .error n := by
  have h1 := rd_step h; rw [he] at h1
  have h2 : readU s bb = .error n := by
    unfold readU; refine exN_err (j := n + 1) ?_; rw [List.take_range, Nat.min_eq_left (by omega)]; exact h1
  unfold readS; rw [h2]
theorem readS_end {s : ScT} {bb : List Int} {st : RdT} {N : Nat} (hN : (s.ax * s.dn).toNat = N) (h : (List.range N).foldlM (rdU s) (rd0 s bb) = .ok st) : readS s bb = if fillS st.B = true ∧ st.rest = [] then .ok st.bl else .error N := by
  have h2 : readU s bb = .ok st := by unfold readU; rw [hN]; exact h
  unfold readS; rw [h2, hN]
theorem startR_zero {s : ScT} {st : RdT} : startR s st 0 = (beginS st.rest).map fun q => ⟨st.bl, q.1, q.2, List.replicate s.ps.length 0⟩ := by unfold startR; rw [if_pos rfl]
theorem startR_res {s : ScT} {st : RdT} {n : Nat} (hn : n ≠ 0) (h : resS s.iv n = true) : startR s st n = (againR s.iv n st.B st.rest).map fun q => ⟨st.bl, q.1, q.2, List.replicate s.ps.length 0⟩ := by unfold startR; rw [if_neg hn, if_pos h]
theorem startR_no {s : ScT} {st : RdT} {n : Nat} (hn : n ≠ 0) (h : resS s.iv n = false) : startR s st n = some st := by unfold startR; rw [if_neg hn, h]; rfl
end Go.Proofs.Ytpjopeojeglogaa
