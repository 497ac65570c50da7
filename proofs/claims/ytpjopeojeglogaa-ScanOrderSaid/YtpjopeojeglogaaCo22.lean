/- Frames: scans and blocks that came in (chapter 12). | Chapter 12: is a scan more than is gone through here: the law's large. -/
import Derived.Test.YtpjopeojeglogaaCo06
import Derived.Test.YtpjopeojeglogaaCo21
namespace Go.Proofs.Ytpjopeojeglogaa
open Go.ChangeShapes Go.WideShapes Go.ChangeAt Go.RowKit Go.Deep Tt
set_option linter.unusedVariables false
set_option linter.unusedSimpArgs false

/-- a table of codes that came in: its row may be long -/
structure HufB (w : World) (h : HufM) : Prop where
  len : h.1.1.length = 16
  sl : Sl w h.2.1 h.2.2.1 h.2.2.2 1 (ints .i64 h.1.2)
  wf : ∀ x ∈ h.1.2, (Lit.int .i64 x).wf = true
structure PtB (w : World) (p : PtM) : Prop where
  dc : HufB w p.2.2.1
  ac : HufB w p.2.2.2
  wfh : Wf p.1
  wfv : Wf p.2.1
structure PtsB (w : World) (a : Option Addr) (n c : Nat) (ps : List PtM) : Prop where
  sl : Sl w a n c 36 ((ps.map pC).flatten)
  ok : ∀ p ∈ ps, PtB w p
theorem HufB.mono {w w' : World} {h : HufM} (k : HufB w h) (hb : Below w.heap.size w w') : HufB w' h := ⟨k.len, k.sl.mono hb, k.wf⟩
theorem PtB.mono {w w' : World} {p : PtM} (h : PtB w p) (hb : Below w.heap.size w w') : PtB w' p := ⟨h.dc.mono hb, h.ac.mono hb, h.wfh, h.wfv⟩
theorem PtsB.mono {w w' : World} {a : Option Addr} {n c : Nat} {ps : List PtM} (h : PtsB w a n c ps) (hb : Below w.heap.size w w') : PtsB w' a n c ps := ⟨h.sl.mono hb, fun p hp => (h.ok p hp).mono hb⟩
theorem PtB.pl {w : World} {p : PtM} (h : PtB w p) : (pC p).length = 36 := by simp [pC, hufC_len h.dc.len, hufC_len h.ac.len]
theorem PtsB.ilen {w : World} {a : Option Addr} {n c : Nat} {ps : List PtM} (h : PtsB w a n c ps) : ps.length = n := by
  have h1 := h.sl.len; rw [flat_len pC 36 ps (fun p hp => (h.ok p hp).pl)] at h1
  omega
theorem PtsB.elem {w : World} {a : Option Addr} {n c : Nat} {ps : List PtM} (h : PtsB w a n c ps) {k : Nat} {p : PtM} (hp : ps[k]? = some p) :
    ∃ b o, a = some ⟨b, o, none⟩ ∧ b < w.heap.size ∧ ∀ j v, (pC p)[j]? = some v → w.cell? ⟨b, o + k * 36 + j, none⟩ = some v := by
  have hk : k < n := by rw [← h.ilen]; exact (List.getElem?_eq_some_iff.1 hp).1
  obtain ⟨b, o, e, hb, _, hc⟩ := h.sl.elem hk; rw [flat_elem pC 36 ps (fun p hp => (h.ok p hp).pl) k p hp] at hc; exact ⟨b, o, e, hb, hc⟩
/-- short tables -/
theorem PtsB.few {w : World} {a : Option Addr} {n c : Nat} {ps : List PtM} (h : PtsB w a n c ps) (hf : ∀ p ∈ ps, p.2.2.1.2.2.1 ≤ 150 ∧ p.2.2.2.2.2.1 ≤ 150) : PtsR w a n c ps :=
  ⟨h.sl, fun p hp => ⟨⟨(h.ok p hp).dc.len, (h.ok p hp).dc.sl, by have := hf p hp; omega, (h.ok p hp).dc.wf⟩, ⟨(h.ok p hp).ac.len, (h.ok p hp).ac.sl, by have := hf p hp; omega, (h.ok p hp).ac.wf⟩⟩⟩
section
variable {H : Type} {enc : TypeId × Value → H} {W : World} {base : Nat} {held : Bool}
theorem huf_cells {fuel : Nat} {cs : List Value} {x : DataW H × List MemPlace} (h2 : DataW.trod enc Try.prog W base (fun _ => true) held fuel 45 cs = some x) : ∃ h : HufM, cs = hufC h ∧ HufB W h := by
  have hhl := struct_len Try.underlying45 h2; rw [show Program.cellsOf Try.prog 45 = 17 by kernel_rfl] at hhl; obtain ⟨n3, y3, h3⟩ := field_of Try.underlying45 h2 0 43 0 16 rfl (by kernel_rfl); obtain ⟨n4, y4, h4⟩ := field_of Try.underlying45 h2 1 35 16 1 rfl (by kernel_rfl); obtain ⟨cnt, hc16, e3, _⟩ := array_nums (n := 16) Try.underlying43 Try.underlying3 cint (by kernel_rfl) h3; obtain ⟨a, l, p, e4⟩ := Go.Joins.slice_form Try.underlying35 h4; rw [e4] at h4; obtain ⟨ss, hsl, hw⟩ := open_nums Try.underlying35 Try.underlying3 cint (show DataW.trod enc Try.prog W base (fun _ => true) held n4 35 (Value.slice a l p).cells.toList = some y4 from h4) rfl; refine ⟨((cnt, ss), a, l, p), ?_, ⟨hc16, hsl, hw⟩⟩; have f3 := cutk e3; have f4 := cut1 e4; rw [List.drop_zero] at f3; rw [f3, f4, List.drop_of_length_le (show cs.length ≤ _ by omega)]
  rfl
theorem part_cells {fuel : Nat} {cs : List Value} {x : DataW H × List MemPlace} (h : DataW.trod enc Try.prog W base (fun _ => true) held fuel 47 cs = some x) : ∃ p : PtM, cs = pC p ∧ PtB W p := by
  have hl := struct_len Try.underlying47 h; rw [show Program.cellsOf Try.prog 47 = 36 by kernel_rfl] at hl; obtain ⟨n0, y0, h0⟩ := field_of Try.underlying47 h 0 3 0 1 rfl cint; obtain ⟨n1, y1, h1⟩ := field_of Try.underlying47 h 1 3 1 1 rfl cint; obtain ⟨n2, y2, h2⟩ := field_of Try.underlying47 h 2 45 2 17 rfl (by kernel_rfl); obtain ⟨n3, y3, h3⟩ := field_of Try.underlying47 h 3 45 19 17 rfl (by kernel_rfl); obtain ⟨ph, e0, _, w0⟩ := DataW.trod_int Try.underlying3 h0; obtain ⟨pv, e1, _, w1⟩ := DataW.trod_int Try.underlying3 h1; obtain ⟨dc, e2, o2⟩ := huf_cells h2; obtain ⟨ac, e3, o3⟩ := huf_cells h3; refine ⟨(ph, pv, dc, ac), ?_, ⟨o2, o3, wf_Wf w0, wf_Wf w1⟩⟩; have f0 := cut1 e0; have f1 := cut1 e1; have f2 := cutk e2; have f3 := cutk e3; rw [List.drop_zero] at f0; rw [f0, f1, f2, f3, List.drop_of_length_le (show cs.length ≤ _ by omega), List.append_nil]
  rfl
set_option maxRecDepth 100000 in
theorem open_scan {r : Reach} {v : Value} {d : DataW H} {p : List MemPlace} {b0 : Nat} (hv : Value.okWide Try.prog W r b0 24 v) (h : DataW.Trod enc Try.prog W base (fun _ => true) held 24 v d p) :
    ∃ (s : ScT) (pa : Option Addr) (pn pc : Nat), v = .agg #[.int .i64 s.ax, .int .i64 s.dn, .slice pa pn pc, .int .i64 s.iv] ∧ PtsB W pa pn pc s.ps ∧ Wf s.ax ∧ Wf s.dn ∧ Wf s.iv := by
  obtain ⟨cs, rfl, hsz⟩ := okWide_struct Try.underlying24 hv; obtain ⟨fuel, hf⟩ := h; rw [show (Value.agg cs).cells.toList = cs.toList from rfl] at hf; have hl := struct_len Try.underlying24 hf; rw [show Program.cellsOf Try.prog 24 = 4 by kernel_rfl] at hl; obtain ⟨n0, y0, h0⟩ := field_of Try.underlying24 hf 0 3 0 1 rfl cint; obtain ⟨n1, y1, h1⟩ := field_of Try.underlying24 hf 1 3 1 1 rfl cint; obtain ⟨n2, y2, h2⟩ := field_of Try.underlying24 hf 2 22 2 1 rfl (by kernel_rfl); obtain ⟨n3, y3, h3⟩ := field_of Try.underlying24 hf 3 3 3 1 rfl cint; obtain ⟨ax, e0, _, w0⟩ := DataW.trod_int Try.underlying3 h0; obtain ⟨dn, e1, _, w1⟩ := DataW.trod_int Try.underlying3 h1; obtain ⟨iv, e3, _, w3⟩ := DataW.trod_int Try.underlying3 h3; obtain ⟨pa, pn, pc, e2⟩ := Go.Joins.slice_form Try.underlying22 h2; rw [e2] at h2; obtain ⟨ps, sq, rq⟩ := open_rowv ((0, 0, (([], []), none, 0, 0), (([], []), none, 0, 0)) : PtM) 36 (by decide) pC (PtB W) (fun q hq => hq.pl) Try.underlying22 (by kernel_rfl) (show DataW.trod enc Try.prog W base (fun _ => true) held n2 22 (Value.slice pa pn pc).cells.toList = some y2 from h2) (fun m cs y hy => part_cells hy); refine ⟨⟨ax, dn, iv, ps⟩, pa, pn, pc, ?_, ⟨sq, rq⟩, wf_Wf w0, wf_Wf w1, wf_Wf w3⟩; have f0 := cut1 e0; have f1 := cut1 e1; have f2 := cut1 e2; have f3 := cut1 e3; rw [List.drop_zero] at f0
  congr 1
  apply Array.toList_inj.1
  rw [f0, f1, f2, f3, List.drop_of_length_le (show cs.toList.length ≤ _ by omega)]
end
end Go.Proofs.Ytpjopeojeglogaa

namespace Go.Proofs.Ytpjopeojeglogaa
open Go.RowKit Tt
set_option linter.unusedVariables false
set_option linter.unusedSimpArgs false

theorem pC_syms {p : PtM} (h1 : p.2.2.1.1.1.length = 16) (h2 : p.2.2.2.1.1.length = 16) : (pC p)[18]? = some (.slice p.2.2.1.2.1 p.2.2.1.2.2.1 p.2.2.1.2.2.2) ∧ (pC p)[35]? = some (.slice p.2.2.2.2.1 p.2.2.2.2.2.1 p.2.2.2.2.2.2) := by
  have e1 := hufC_len h1; have e2 := hufC_len h2
  have k1 : (hufC p.2.2.1)[16]? = some (.slice p.2.2.1.2.1 p.2.2.1.2.2.1 p.2.2.1.2.2.2) := by
    unfold hufC; rw [List.getElem?_append_right (by rw [ints_len, h1]; exact Nat.le_refl _), ints_len, h1]
    rfl
  have k2 : (hufC p.2.2.2)[16]? = some (.slice p.2.2.2.2.1 p.2.2.2.2.2.1 p.2.2.2.2.2.2) := by
    unfold hufC; rw [List.getElem?_append_right (by rw [ints_len, h2]; exact Nat.le_refl _), ints_len, h2]
    rfl
  unfold pC
  constructor
  · rw [List.getElem?_cons_succ, List.getElem?_cons_succ, List.getElem?_append_left (by omega)]; exact k1
  · rw [List.getElem?_cons_succ, List.getElem?_cons_succ, List.getElem?_append_right (by omega), e1]; exact k2
def Short (ps : List PtM) : Prop := ∀ p ∈ ps, p.2.2.1.2.2.1 ≤ 150 ∧ p.2.2.2.2.2.1 ≤ 150
def SmallSc (s : ScT) : Prop := Short s.ps ∧ ¬ (12 < s.ax ∧ s.ax ≤ 512) ∧ ¬ (12 < s.dn ∧ s.dn ≤ 512) ∧ ¬ (24 < IntKind.i64.wrap (s.ax * s.dn) ∧ s.ax ≤ 12) ∧ s.ps.length ≤ 5
def Lrg12 (s : ScT) (w : World) (e : Ending) (w' : World) : Prop := ∃ b, e = .returned (.bool b) ∧ (b = false → SmallSc s) ∧ Below w.heap.size w w'
theorem Lrg12.yes {s : ScT} {w w' : World} {e : Ending} (he : e = .returned (.bool true)) (hb : Below w.heap.size w w') : Lrg12 s w e w' := ⟨true, he, (fun h => by cases h), hb⟩
theorem Lrg12.no {s : ScT} {w w' : World} {e : Ending} (he : e = .returned (.bool false)) (hs : SmallSc s) (hb : Below w.heap.size w w') : Lrg12 s w e w' := ⟨false, he, (fun _ => hs), hb⟩
set_option maxRecDepth 100000 in
set_option maxHeartbeats 4000000 in
theorem large12_any (s : ScT) (pa : Option Addr) (pn pc : Nat) (w : World) (hs : PtsB w pa pn pc s.ps) (hw1 : Wf s.ax) (hw2 : Wf s.dn) :
    Calls Try.prog 16 #[.agg #[.int .i64 s.ax, .int .i64 s.dn, .slice pa pn pc, .int .i64 s.iv]] w (Lrg12 s w) := by
  have hl := hs.ilen; have hle := hs.sl.le; have hmx := hs.sl.max; obtain ⟨ax, dn, iv, ps⟩ := s; simp only at hs hl hw1 hw2 ⊢; have b1 := Blk.new w 24 #[.int .i64 ax, .int .i64 dn, .slice pa pn pc, .int .i64 iv]; have hb1 := (Below.refl w.heap.size w).alloc (Nat.le_refl _) (.cells #[.int .i64 ax, .int .i64 dn, .slice pa pn pc, .int .i64 iv] 24); obtain ⟨W1, hW1⟩ : ∃ W1, w.alloc (.cells #[.int .i64 ax, .int .i64 dn, .slice pa pn pc, .int .i64 iv] 24) = W1 := ⟨_, rfl⟩; rw [hW1] at b1 hb1; have hcs : ∀ W, Blk W w.heap.size 24 #[.int .i64 ax, .int .i64 dn, .slice pa pn pc, .int .i64 iv] → W.cell? ⟨w.heap.size, 0, none⟩ = some (.int .i64 ax) ∧ W.cell? ⟨w.heap.size, 1, none⟩ = some (.int .i64 dn) ∧ W.cell? ⟨w.heap.size, 2, none⟩ = some (.slice pa pn pc) := fun W b => ⟨b.cell rfl, b.cell rfl, b.cell rfl⟩; obtain ⟨k0, k1, k2⟩ := hcs W1 b1; clear k0 k1; have hs' := Lib.hid hs; have hl' := Lib.hid hl; have b1' := Lib.hid b1; have hb1' := Lib.hid hb1; have hW1' := Lib.hid hW1; have hcs' := Lib.hid hcs; clear hs hl b1 hb1 hW1 hcs
  go_enter Try.func16, Try.ntmps16
  go_upto_region 1 with fail
  rw [hW1'.out]
  go_wp2
  clear k2
  go_loopw [3] (fun xv wr => ∃ k : Nat, k ≤ pn ∧ xv = .int .i64 k ∧ Hid (∀ (j : Nat) p, j < k → ps[j]? = some p → p.2.2.1.2.2.1 ≤ 150 ∧ p.2.2.2.2.2.1 ≤ 150) ∧ Hid (Blk wr w.heap.size 24 #[.int .i64 ax, .int .i64 dn, .slice pa pn pc, .int .i64 iv]) ∧ Hid (Below w.heap.size w wr)) (fun xv _ => pn - (intOf xv).toNat)
  case atStart => exact ⟨0, by omega, rfl, Lib.hid (fun j p h => by omega), b1', hb1'⟩
  case round =>
    obtain ⟨k, hk, rfl, hall, hbk, hbel⟩ := hrel; obtain ⟨k0, k1, k2⟩ := hcs'.out wr hbk.out
    by_cases hlt : k < pn
    · obtain ⟨p, hp⟩ : ∃ p, ps[k]? = some p := ⟨_, List.getElem?_eq_getElem (by rw [hl'.out]; exact hlt)⟩
      have hpk := hs'.out.ok p (List.mem_of_getElem? hp); obtain ⟨pb, o, rfl, hpb, f⟩ := (hs'.out.mono hbel.out).elem hp; obtain ⟨g1, g2⟩ := pC_syms hpk.dc.len hpk.ac.len; have f1 := f 18 _ g1; have f2 := f 35 _ g2; obtain ⟨x, y, ⟨dl, da, dn2, dc⟩, ⟨al, aa, an, ac⟩⟩ := p; simp only at f1 f2; clear f g1 g2 hpk k0 k1
      by_cases c1 : (150 : Int) < dn2
      · have hp' := Lib.hid hp
        clear hp
        go_wp2
        go_ret
        exact Lrg12.yes rfl hbel.out
      · by_cases c2 : (150 : Int) < an
        · have hp' := Lib.hid hp
          clear hp
          go_wp2
          go_ret
          exact Lrg12.yes rfl hbel.out
        · have hall2 : ∀ (j : Nat) p, j < k + 1 → ps[j]? = some p → p.2.2.1.2.2.1 ≤ 150 ∧ p.2.2.2.2.2.1 ≤ 150 := fun j q hj hq => by
            rcases Nat.lt_or_ge j k with h | h
            · exact hall.out j q h hq
            · obtain rfl : j = k := by omega
              rw [hp] at hq; injection hq with hq; rw [← hq]; exact ⟨by show dn2 ≤ 150; omega, by show an ≤ 150; omega⟩
          have hp' := Lib.hid hp; have hall2' := Lib.hid hall2; clear hp hall2
          go_wp2
          go_roundw
          case rel => exact ⟨k + 1, by omega, by go_num, hall2', hbk, hbel⟩
          case measure => simp [intOf]; omega
    · have hsh : Short ps := fun p hp => by
        obtain ⟨j, hj, e⟩ := List.mem_iff_getElem.1 hp; exact hall.out j p (by have := hl'.out; omega) (by rw [List.getElem?_eq_getElem hj, e])
      obtain ⟨X, hX⟩ : ∃ X, IntKind.i64.wrap (ax * dn) = X := ⟨_, rfl⟩; have hbel' := hbel; have hl2 := hl'.out; clear hall hbk; have hsh' := Lib.hid hsh; clear hsh
      by_cases c1 : 12 < ax
      · by_cases c2 : ax ≤ 512
        · skip
          first | (exfalso; omega) | (go_wp2; go_ret; first | exact Lrg12.yes rfl hbel'.out | exact Lrg12.no rfl ⟨hsh'.out, by show ¬ (12 < ax ∧ ax ≤ 512); omega, by show ¬ (12 < dn ∧ dn ≤ 512); omega, by show ¬ (24 < IntKind.i64.wrap (ax * dn) ∧ ax ≤ 12); rw [hX]; omega, by show ps.length ≤ 5; omega⟩ hbel'.out)
        · skip
          by_cases c3 : 12 < dn
          · by_cases c4 : dn ≤ 512
            · skip
              first | (exfalso; omega) | (go_wp2; go_ret; first | exact Lrg12.yes rfl hbel'.out | exact Lrg12.no rfl ⟨hsh'.out, by show ¬ (12 < ax ∧ ax ≤ 512); omega, by show ¬ (12 < dn ∧ dn ≤ 512); omega, by show ¬ (24 < IntKind.i64.wrap (ax * dn) ∧ ax ≤ 12); rw [hX]; omega, by show ps.length ≤ 5; omega⟩ hbel'.out)
            · skip
              by_cases c5 : 24 < X
              · by_cases c6 : ax ≤ 12
                · skip
                  first | (exfalso; omega) | (go_wp2; go_ret; first | exact Lrg12.yes rfl hbel'.out | exact Lrg12.no rfl ⟨hsh'.out, by show ¬ (12 < ax ∧ ax ≤ 512); omega, by show ¬ (12 < dn ∧ dn ≤ 512); omega, by show ¬ (24 < IntKind.i64.wrap (ax * dn) ∧ ax ≤ 12); rw [hX]; omega, by show ps.length ≤ 5; omega⟩ hbel'.out)
                · skip
                  by_cases c7 : (5 : Int) < pn
                  · skip
                    first | (exfalso; omega) | (go_wp2; go_ret; first | exact Lrg12.yes rfl hbel'.out | exact Lrg12.no rfl ⟨hsh'.out, by show ¬ (12 < ax ∧ ax ≤ 512); omega, by show ¬ (12 < dn ∧ dn ≤ 512); omega, by show ¬ (24 < IntKind.i64.wrap (ax * dn) ∧ ax ≤ 12); rw [hX]; omega, by show ps.length ≤ 5; omega⟩ hbel'.out)
                  · skip
                    first | (exfalso; omega) | (go_wp2; go_ret; first | exact Lrg12.yes rfl hbel'.out | exact Lrg12.no rfl ⟨hsh'.out, by show ¬ (12 < ax ∧ ax ≤ 512); omega, by show ¬ (12 < dn ∧ dn ≤ 512); omega, by show ¬ (24 < IntKind.i64.wrap (ax * dn) ∧ ax ≤ 12); rw [hX]; omega, by show ps.length ≤ 5; omega⟩ hbel'.out)
              · skip
                by_cases c7 : (5 : Int) < pn
                · skip
                  first | (exfalso; omega) | (go_wp2; go_ret; first | exact Lrg12.yes rfl hbel'.out | exact Lrg12.no rfl ⟨hsh'.out, by show ¬ (12 < ax ∧ ax ≤ 512); omega, by show ¬ (12 < dn ∧ dn ≤ 512); omega, by show ¬ (24 < IntKind.i64.wrap (ax * dn) ∧ ax ≤ 12); rw [hX]; omega, by show ps.length ≤ 5; omega⟩ hbel'.out)
                · skip
                  first | (exfalso; omega) | (go_wp2; go_ret; first | exact Lrg12.yes rfl hbel'.out | exact Lrg12.no rfl ⟨hsh'.out, by show ¬ (12 < ax ∧ ax ≤ 512); omega, by show ¬ (12 < dn ∧ dn ≤ 512); omega, by show ¬ (24 < IntKind.i64.wrap (ax * dn) ∧ ax ≤ 12); rw [hX]; omega, by show ps.length ≤ 5; omega⟩ hbel'.out)
          · skip
            by_cases c5 : 24 < X
            · by_cases c6 : ax ≤ 12
              · skip
                first | (exfalso; omega) | (go_wp2; go_ret; first | exact Lrg12.yes rfl hbel'.out | exact Lrg12.no rfl ⟨hsh'.out, by show ¬ (12 < ax ∧ ax ≤ 512); omega, by show ¬ (12 < dn ∧ dn ≤ 512); omega, by show ¬ (24 < IntKind.i64.wrap (ax * dn) ∧ ax ≤ 12); rw [hX]; omega, by show ps.length ≤ 5; omega⟩ hbel'.out)
              · skip
                by_cases c7 : (5 : Int) < pn
                · skip
                  first | (exfalso; omega) | (go_wp2; go_ret; first | exact Lrg12.yes rfl hbel'.out | exact Lrg12.no rfl ⟨hsh'.out, by show ¬ (12 < ax ∧ ax ≤ 512); omega, by show ¬ (12 < dn ∧ dn ≤ 512); omega, by show ¬ (24 < IntKind.i64.wrap (ax * dn) ∧ ax ≤ 12); rw [hX]; omega, by show ps.length ≤ 5; omega⟩ hbel'.out)
                · skip
                  first | (exfalso; omega) | (go_wp2; go_ret; first | exact Lrg12.yes rfl hbel'.out | exact Lrg12.no rfl ⟨hsh'.out, by show ¬ (12 < ax ∧ ax ≤ 512); omega, by show ¬ (12 < dn ∧ dn ≤ 512); omega, by show ¬ (24 < IntKind.i64.wrap (ax * dn) ∧ ax ≤ 12); rw [hX]; omega, by show ps.length ≤ 5; omega⟩ hbel'.out)
            · skip
              by_cases c7 : (5 : Int) < pn
              · skip
                first | (exfalso; omega) | (go_wp2; go_ret; first | exact Lrg12.yes rfl hbel'.out | exact Lrg12.no rfl ⟨hsh'.out, by show ¬ (12 < ax ∧ ax ≤ 512); omega, by show ¬ (12 < dn ∧ dn ≤ 512); omega, by show ¬ (24 < IntKind.i64.wrap (ax * dn) ∧ ax ≤ 12); rw [hX]; omega, by show ps.length ≤ 5; omega⟩ hbel'.out)
              · skip
                first | (exfalso; omega) | (go_wp2; go_ret; first | exact Lrg12.yes rfl hbel'.out | exact Lrg12.no rfl ⟨hsh'.out, by show ¬ (12 < ax ∧ ax ≤ 512); omega, by show ¬ (12 < dn ∧ dn ≤ 512); omega, by show ¬ (24 < IntKind.i64.wrap (ax * dn) ∧ ax ≤ 12); rw [hX]; omega, by show ps.length ≤ 5; omega⟩ hbel'.out)
      · skip
        by_cases c3 : 12 < dn
        · by_cases c4 : dn ≤ 512
          · skip
            first | (exfalso; omega) | (go_wp2; go_ret; first | exact Lrg12.yes rfl hbel'.out | exact Lrg12.no rfl ⟨hsh'.out, by show ¬ (12 < ax ∧ ax ≤ 512); omega, by show ¬ (12 < dn ∧ dn ≤ 512); omega, by show ¬ (24 < IntKind.i64.wrap (ax * dn) ∧ ax ≤ 12); rw [hX]; omega, by show ps.length ≤ 5; omega⟩ hbel'.out)
          · skip
            by_cases c5 : 24 < X
            · by_cases c6 : ax ≤ 12
              · skip
                first | (exfalso; omega) | (go_wp2; go_ret; first | exact Lrg12.yes rfl hbel'.out | exact Lrg12.no rfl ⟨hsh'.out, by show ¬ (12 < ax ∧ ax ≤ 512); omega, by show ¬ (12 < dn ∧ dn ≤ 512); omega, by show ¬ (24 < IntKind.i64.wrap (ax * dn) ∧ ax ≤ 12); rw [hX]; omega, by show ps.length ≤ 5; omega⟩ hbel'.out)
              · skip
                by_cases c7 : (5 : Int) < pn
                · skip
                  first | (exfalso; omega) | (go_wp2; go_ret; first | exact Lrg12.yes rfl hbel'.out | exact Lrg12.no rfl ⟨hsh'.out, by show ¬ (12 < ax ∧ ax ≤ 512); omega, by show ¬ (12 < dn ∧ dn ≤ 512); omega, by show ¬ (24 < IntKind.i64.wrap (ax * dn) ∧ ax ≤ 12); rw [hX]; omega, by show ps.length ≤ 5; omega⟩ hbel'.out)
                · skip
                  first | (exfalso; omega) | (go_wp2; go_ret; first | exact Lrg12.yes rfl hbel'.out | exact Lrg12.no rfl ⟨hsh'.out, by show ¬ (12 < ax ∧ ax ≤ 512); omega, by show ¬ (12 < dn ∧ dn ≤ 512); omega, by show ¬ (24 < IntKind.i64.wrap (ax * dn) ∧ ax ≤ 12); rw [hX]; omega, by show ps.length ≤ 5; omega⟩ hbel'.out)
            · skip
              by_cases c7 : (5 : Int) < pn
              · skip
                first | (exfalso; omega) | (go_wp2; go_ret; first | exact Lrg12.yes rfl hbel'.out | exact Lrg12.no rfl ⟨hsh'.out, by show ¬ (12 < ax ∧ ax ≤ 512); omega, by show ¬ (12 < dn ∧ dn ≤ 512); omega, by show ¬ (24 < IntKind.i64.wrap (ax * dn) ∧ ax ≤ 12); rw [hX]; omega, by show ps.length ≤ 5; omega⟩ hbel'.out)
              · skip
                first | (exfalso; omega) | (go_wp2; go_ret; first | exact Lrg12.yes rfl hbel'.out | exact Lrg12.no rfl ⟨hsh'.out, by show ¬ (12 < ax ∧ ax ≤ 512); omega, by show ¬ (12 < dn ∧ dn ≤ 512); omega, by show ¬ (24 < IntKind.i64.wrap (ax * dn) ∧ ax ≤ 12); rw [hX]; omega, by show ps.length ≤ 5; omega⟩ hbel'.out)
        · skip
          by_cases c5 : 24 < X
          · by_cases c6 : ax ≤ 12
            · skip
              first | (exfalso; omega) | (go_wp2; go_ret; first | exact Lrg12.yes rfl hbel'.out | exact Lrg12.no rfl ⟨hsh'.out, by show ¬ (12 < ax ∧ ax ≤ 512); omega, by show ¬ (12 < dn ∧ dn ≤ 512); omega, by show ¬ (24 < IntKind.i64.wrap (ax * dn) ∧ ax ≤ 12); rw [hX]; omega, by show ps.length ≤ 5; omega⟩ hbel'.out)
            · skip
              by_cases c7 : (5 : Int) < pn
              · skip
                first | (exfalso; omega) | (go_wp2; go_ret; first | exact Lrg12.yes rfl hbel'.out | exact Lrg12.no rfl ⟨hsh'.out, by show ¬ (12 < ax ∧ ax ≤ 512); omega, by show ¬ (12 < dn ∧ dn ≤ 512); omega, by show ¬ (24 < IntKind.i64.wrap (ax * dn) ∧ ax ≤ 12); rw [hX]; omega, by show ps.length ≤ 5; omega⟩ hbel'.out)
              · skip
                first | (exfalso; omega) | (go_wp2; go_ret; first | exact Lrg12.yes rfl hbel'.out | exact Lrg12.no rfl ⟨hsh'.out, by show ¬ (12 < ax ∧ ax ≤ 512); omega, by show ¬ (12 < dn ∧ dn ≤ 512); omega, by show ¬ (24 < IntKind.i64.wrap (ax * dn) ∧ ax ≤ 12); rw [hX]; omega, by show ps.length ≤ 5; omega⟩ hbel'.out)
          · skip
            by_cases c7 : (5 : Int) < pn
            · skip
              first | (exfalso; omega) | (go_wp2; go_ret; first | exact Lrg12.yes rfl hbel'.out | exact Lrg12.no rfl ⟨hsh'.out, by show ¬ (12 < ax ∧ ax ≤ 512); omega, by show ¬ (12 < dn ∧ dn ≤ 512); omega, by show ¬ (24 < IntKind.i64.wrap (ax * dn) ∧ ax ≤ 12); rw [hX]; omega, by show ps.length ≤ 5; omega⟩ hbel'.out)
            · skip
              first | (exfalso; omega) | (go_wp2; go_ret; first | exact Lrg12.yes rfl hbel'.out | exact Lrg12.no rfl ⟨hsh'.out, by show ¬ (12 < ax ∧ ax ≤ 512); omega, by show ¬ (12 < dn ∧ dn ≤ 512); omega, by show ¬ (24 < IntKind.i64.wrap (ax * dn) ∧ ax ≤ 12); rw [hX]; omega, by show ps.length ≤ 5; omega⟩ hbel'.out)
end Go.Proofs.Ytpjopeojeglogaa
