/- Chapter 12: is a scan more than is gone through here: the law's large. | Chapter 12: the ready tables of a scan: the program. | Chapter 12: all symbols told, unit by unit (plain); what the two functions given must do. -/
import Derived.Test.YtpjopeojeglogaaCs17
import Derived.Test.YtpjopeojeglogaaCs12
import Derived.Test.YtpjopeojeglogaaCs14
namespace Go.Proofs.Ytpjopeojeglogaa
open Go.RowKit Tt
set_option linter.unusedVariables false
set_option linter.unusedSimpArgs false

theorem pC_syms {p : PtM} (h1 : p.2.2.1.1.1.length = 16) (h2 : p.2.2.2.1.1.length = 16) : (pC p)[18]? = some (.slice p.2.2.1.2.1 p.2.2.1.2.2.1 p.2.2.1.2.2.2) ∧ (pC p)[35]? = some (.slice p.2.2.2.2.1 p.2.2.2.2.2.1 p.2.2.2.2.2.2) := by
  have e1 := hufC_len h1; have e2 := hufC_len h2
  have k1 : (hufC p.2.2.1)[16]? = some (.slice p.2.2.1.2.1 p.2.2.1.2.2.1 p.2.2.1.2.2.2) := by
    unfold hufC; rw [List.getElem?_append_right (by rw [ints_len, h1]; exact Nat.le_refl _), ints_len, h1]
    rfl
  have k2 : (hufC p.2.2.2)[16]? = some (.slice p.2.2.2.2.1 p.2.2.2.2.2.1 p.2.2.2.2.2.2) := by
    unfold hufC; rw [List.getElem?_append_right (by rw [ints_len, h2]; exact Nat.le_refl _), ints_len, h2]
    rfl
  unfold pC
  constructor
  · rw [List.getElem?_cons_succ, List.getElem?_cons_succ, List.getElem?_append_left (by omega)]; exact k1
  · rw [List.getElem?_cons_succ, List.getElem?_cons_succ, List.getElem?_append_right (by omega), e1]; exact k2
def Short (ps : List PtM) : Prop := ∀ p ∈ ps, p.2.2.1.2.2.1 ≤ 150 ∧ p.2.2.2.2.2.1 ≤ 150
def SmallSc (s : ScT) : Prop := Short s.ps ∧ ¬ (12 < s.ax ∧ s.ax ≤ 512) ∧ ¬ (12 < s.dn ∧ s.dn ≤ 512) ∧ ¬ (24 < IntKind.i64.wrap (s.ax * s.dn) ∧ s.ax ≤ 12) ∧ s.ps.length ≤ 5
def Lrg12 (s : ScT) (w : World) (e : Ending) (w' : World) : Prop := ∃ b, e = .returned (.bool b) ∧ (b = false → SmallSc s) ∧ Below w.heap.size w w'
theorem Lrg12.yes {s : ScT} {w w' : World} {e : Ending} (he : e = .returned (.bool true)) (hb : Below w.heap.size w w') : Lrg12 s w e w' := ⟨true, he, (fun h => by cases h), hb⟩
theorem Lrg12.no {s : ScT} {w w' : World} {e : Ending} (he : e = .returned (.bool false)) (hs : SmallSc s) (hb : Below w.heap.size w w') : Lrg12 s w e w' := ⟨false, he, (fun _ => hs), hb⟩
set_option maxRecDepth 100000 in
set_option maxHeartbeats 4000000 in
theorem large12_any (s : ScT) (pa : Option Addr) (pn pc : Nat) (w : World) (hs : PtsB w pa pn pc s.ps) (hw1 : Wf s.ax) (hw2 : Wf s.dn) :
    Calls Try.prog 16 #[.agg #[.int .i64 s.ax, .int .i64 s.dn, .slice pa pn pc, .int .i64 s.iv]] w (Lrg12 s w) := by
  have hl := hs.ilen; have hle := hs.sl.le; have hmx := hs.sl.max; obtain ⟨ax, dn, iv, ps⟩ := s; simp only at hs hl hw1 hw2 ⊢; have b1 := Blk.new w 24 #[.int .i64 ax, .int .i64 dn, .slice pa pn pc, .int .i64 iv]; have hb1 := (Below.refl w.heap.size w).alloc (Nat.le_refl _) (.cells #[.int .i64 ax, .int .i64 dn, .slice pa pn pc, .int .i64 iv] 24); obtain ⟨W1, hW1⟩ : ∃ W1, w.alloc (.cells #[.int .i64 ax, .int .i64 dn, .slice pa pn pc, .int .i64 iv] 24) = W1 := ⟨_, rfl⟩; rw [hW1] at b1 hb1; have hcs : ∀ W, Blk W w.heap.size 24 #[.int .i64 ax, .int .i64 dn, .slice pa pn pc, .int .i64 iv] → W.cell? ⟨w.heap.size, 0, none⟩ = some (.int .i64 ax) ∧ W.cell? ⟨w.heap.size, 1, none⟩ = some (.int .i64 dn) ∧ W.cell? ⟨w.heap.size, 2, none⟩ = some (.slice pa pn pc) := fun W b => ⟨b.cell rfl, b.cell rfl, b.cell rfl⟩; obtain ⟨k0, k1, k2⟩ := hcs W1 b1; clear k0 k1; have hs' := Lib.hid hs; have hl' := Lib.hid hl; have b1' := Lib.hid b1; have hb1' := Lib.hid hb1; have hW1' := Lib.hid hW1; have hcs' := Lib.hid hcs; clear hs hl b1 hb1 hW1 hcs
  go_enter Try.func16, Try.ntmps16
  go_upto_region 1 with fail
  rw [hW1'.out]
  go_wp2
  clear k2
  go_loopw [3] (fun xv wr => ∃ k : Nat, k ≤ pn ∧ xv = .int .i64 k ∧ Hid (∀ (j : Nat) p, j < k → ps[j]? = some p → p.2.2.1.2.2.1 ≤ 150 ∧ p.2.2.2.2.2.1 ≤ 150) ∧ Hid (Blk wr w.heap.size 24 #[.int .i64 ax, .int .i64 dn, .slice pa pn pc, .int .i64 iv]) ∧ Hid (Below w.heap.size w wr)) (fun xv _ => pn - (intOf xv).toNat)
  case atStart => exact ⟨0, by omega, rfl, Lib.hid (fun j p h => by omega), b1', hb1'⟩
  case round =>
    obtain ⟨k, hk, rfl, hall, hbk, hbel⟩ := hrel; obtain ⟨k0, k1, k2⟩ := hcs'.out wr hbk.out
    by_cases hlt : k < pn
    · obtain ⟨p, hp⟩ : ∃ p, ps[k]? = some p := ⟨_, List.getElem?_eq_getElem (by rw [hl'.out]; exact hlt)⟩
      have hpk := hs'.out.ok p (List.mem_of_getElem? hp); obtain ⟨pb, o, rfl, hpb, f⟩ := (hs'.out.mono hbel.out).elem hp; obtain ⟨g1, g2⟩ := pC_syms hpk.dc.len hpk.ac.len; have f1 := f 18 _ g1; have f2 := f 35 _ g2; obtain ⟨x, y, ⟨dl, da, dn2, dc⟩, ⟨al, aa, an, ac⟩⟩ := p; simp only at f1 f2; clear f g1 g2 hpk k0 k1
      by_cases c1 : (150 : Int) < dn2
      · have hp' := Lib.hid hp
        clear hp
        go_wp2
        go_ret
        exact Lrg12.yes rfl hbel.out
      · by_cases c2 : (150 : Int) < an
        · have hp' := Lib.hid hp
          clear hp
          go_wp2
          go_ret
          exact Lrg12.yes rfl hbel.out
        · have hall2 : ∀ (j : Nat) p, j < k + 1 → ps[j]? = some p → p.2.2.1.2.2.1 ≤ 150 ∧ p.2.2.2.2.2.1 ≤ 150 := fun j q hj hq => by
            rcases Nat.lt_or_ge j k with h | h
            · exact hall.out j q h hq
            · obtain rfl : j = k := by omega
              rw [hp] at hq; injection hq with hq; rw [← hq]; exact ⟨by show dn2 ≤ 150; omega, by show an ≤ 150; omega⟩
          have hp' := Lib.hid hp; have hall2' := Lib.hid hall2; clear hp hall2
          go_wp2
          go_roundw
          case rel => exact ⟨k + 1, by omega, by go_num, hall2', hbk, hbel⟩
          case measure => simp [intOf]; omega
    · have hsh : Short ps := fun p hp => by
        obtain ⟨j, hj, e⟩ := List.mem_iff_getElem.1 hp; exact hall.out j p (by have := hl'.out; omega) (by rw [List.getElem?_eq_getElem hj, e])
      obtain ⟨X, hX⟩ : ∃ X, IntKind.i64.wrap (ax * dn) = X := ⟨_, rfl⟩; have hbel' := hbel; have hl2 := hl'.out; clear hall hbk; have hsh' := Lib.hid hsh; clear hsh
      by_cases c1 : 12 < ax
      · by_cases c2 : ax ≤ 512
        · skip
          first | (exfalso; omega) | (go_wp2; go_ret; first | exact Lrg12.yes rfl hbel'.out | exact Lrg12.no rfl ⟨hsh'.out, by show ¬ (12 < ax ∧ ax ≤ 512); omega, by show ¬ (12 < dn ∧ dn ≤ 512); omega, by show ¬ (24 < IntKind.i64.wrap (ax * dn) ∧ ax ≤ 12); rw [hX]; omega, by show ps.length ≤ 5; omega⟩ hbel'.out)
        · skip
          by_cases c3 : 12 < dn
          · by_cases c4 : dn ≤ 512
            · skip
              first | (exfalso; omega) | (go_wp2; go_ret; first | exact Lrg12.yes rfl hbel'.out | exact Lrg12.no rfl ⟨hsh'.out, by show ¬ (12 < ax ∧ ax ≤ 512); omega, by show ¬ (12 < dn ∧ dn ≤ 512); omega, by show ¬ (24 < IntKind.i64.wrap (ax * dn) ∧ ax ≤ 12); rw [hX]; omega, by show ps.length ≤ 5; omega⟩ hbel'.out)
            · skip
              by_cases c5 : 24 < X
              · by_cases c6 : ax ≤ 12
                · skip
                  first | (exfalso; omega) | (go_wp2; go_ret; first | exact Lrg12.yes rfl hbel'.out | exact Lrg12.no rfl ⟨hsh'.out, by show ¬ (12 < ax ∧ ax ≤ 512); omega, by show ¬ (12 < dn ∧ dn ≤ 512); omega, by show ¬ (24 < IntKind.i64.wrap (ax * dn) ∧ ax ≤ 12); rw [hX]; omega, by show ps.length ≤ 5; omega⟩ hbel'.out)
                · skip
                  by_cases c7 : (5 : Int) < pn
                  · skip
                    first | (exfalso; omega) | (go_wp2; go_ret; first | exact Lrg12.yes rfl hbel'.out | exact Lrg12.no rfl ⟨hsh'.out, by show ¬ (12 < ax ∧ ax ≤ 512); omega, by show ¬ (12 < dn ∧ dn ≤ 512); omega, by show ¬ (24 < IntKind.i64.wrap (ax * dn) ∧ ax ≤ 12); rw [hX]; omega, by show ps.length ≤ 5; omega⟩ hbel'.out)
                  · skip
                    first | (exfalso; omega) | (go_wp2; go_ret; first | exact Lrg12.yes rfl hbel'.out | exact Lrg12.no rfl ⟨hsh'.out, by show ¬ (12 < ax ∧ ax ≤ 512); omega, by show ¬ (12 < dn ∧ dn ≤ 512); omega, by show ¬ (24 < IntKind.i64.wrap (ax * dn) ∧ ax ≤ 12); rw [hX]; omega, by show ps.length ≤ 5; omega⟩ hbel'.out)
              · skip
                by_cases c7 : (5 : Int) < pn
                · skip
                  first | (exfalso; omega) | (go_wp2; go_ret; first | exact Lrg12.yes rfl hbel'.out | exact Lrg12.no rfl ⟨hsh'.out, by show ¬ (12 < ax ∧ ax ≤ 512); omega, by show ¬ (12 < dn ∧ dn ≤ 512); omega, by show ¬ (24 < IntKind.i64.wrap (ax * dn) ∧ ax ≤ 12); rw [hX]; omega, by show ps.length ≤ 5; omega⟩ hbel'.out)
                · skip
                  first | (exfalso; omega) | (go_wp2; go_ret; first | exact Lrg12.yes rfl hbel'.out | exact Lrg12.no rfl ⟨hsh'.out, by show ¬ (12 < ax ∧ ax ≤ 512); omega, by show ¬ (12 < dn ∧ dn ≤ 512); omega, by show ¬ (24 < IntKind.i64.wrap (ax * dn) ∧ ax ≤ 12); rw [hX]; omega, by show ps.length ≤ 5; omega⟩ hbel'.out)
          · skip
            by_cases c5 : 24 < X
            · by_cases c6 : ax ≤ 12
              · skip
                first | (exfalso; omega) | (go_wp2; go_ret; first | exact Lrg12.yes rfl hbel'.out | exact Lrg12.no rfl ⟨hsh'.out, by show ¬ (12 < ax ∧ ax ≤ 512); omega, by show ¬ (12 < dn ∧ dn ≤ 512); omega, by show ¬ (24 < IntKind.i64.wrap (ax * dn) ∧ ax ≤ 12); rw [hX]; omega, by show ps.length ≤ 5; omega⟩ hbel'.out)
              · skip
                by_cases c7 : (5 : Int) < pn
                · skip
                  first | (exfalso; omega) | (go_wp2; go_ret; first | exact Lrg12.yes rfl hbel'.out | exact Lrg12.no rfl ⟨hsh'.out, by show ¬ (12 < ax ∧ ax ≤ 512); omega, by show ¬ (12 < dn ∧ dn ≤ 512); omega, by show ¬ (24 < IntKind.i64.wrap (ax * dn) ∧ ax ≤ 12); rw [hX]; omega, by show ps.length ≤ 5; omega⟩ hbel'.out)
                · skip
                  first | (exfalso; omega) | (go_wp2; go_ret; first | exact Lrg12.yes rfl hbel'.out | exact Lrg12.no rfl ⟨hsh'.out, by show ¬ (12 < ax ∧ ax ≤ 512); omega, by show ¬ (12 < dn ∧ dn ≤ 512); omega, by show ¬ (24 < IntKind.i64.wrap (ax * dn) ∧ ax ≤ 12); rw [hX]; omega, by show ps.length ≤ 5; omega⟩ hbel'.out)
            · skip
              by_cases c7 : (5 : Int) < pn
              · skip
                first | (exfalso; omega) | (go_wp2; go_ret; first | exact Lrg12.yes rfl hbel'.out | exact Lrg12.no rfl ⟨hsh'.out, by show ¬ (12 < ax ∧ ax ≤ 512); omega, by show ¬ (12 < dn ∧ dn ≤ 512); omega, by show ¬ (24 < IntKind.i64.wrap (ax * dn) ∧ ax ≤ 12); rw [hX]; omega, by show ps.length ≤ 5; omega⟩ hbel'.out)
              · skip
                first | (exfalso; omega) | (go_wp2; go_ret; first | exact Lrg12.yes rfl hbel'.out | exact Lrg12.no rfl ⟨hsh'.out, by show ¬ (12 < ax ∧ ax ≤ 512); omega, by show ¬ (12 < dn ∧ dn ≤ 512); omega, by show ¬ (24 < IntKind.i64.wrap (ax * dn) ∧ ax ≤ 12); rw [hX]; omega, by show ps.length ≤ 5; omega⟩ hbel'.out)
      · skip
        by_cases c3 : 12 < dn
        · by_cases c4 : dn ≤ 512
          · skip
            first | (exfalso; omega) | (go_wp2; go_ret; first | exact Lrg12.yes rfl hbel'.out | exact Lrg12.no rfl ⟨hsh'.out, by show ¬ (12 < ax ∧ ax ≤ 512); omega, by show ¬ (12 < dn ∧ dn ≤ 512); omega, by show ¬ (24 < IntKind.i64.wrap (ax * dn) ∧ ax ≤ 12); rw [hX]; omega, by show ps.length ≤ 5; omega⟩ hbel'.out)
          · skip
            by_cases c5 : 24 < X
            · by_cases c6 : ax ≤ 12
              · skip
                first | (exfalso; omega) | (go_wp2; go_ret; first | exact Lrg12.yes rfl hbel'.out | exact Lrg12.no rfl ⟨hsh'.out, by show ¬ (12 < ax ∧ ax ≤ 512); omega, by show ¬ (12 < dn ∧ dn ≤ 512); omega, by show ¬ (24 < IntKind.i64.wrap (ax * dn) ∧ ax ≤ 12); rw [hX]; omega, by show ps.length ≤ 5; omega⟩ hbel'.out)
              · skip
                by_cases c7 : (5 : Int) < pn
                · skip
                  first | (exfalso; omega) | (go_wp2; go_ret; first | exact Lrg12.yes rfl hbel'.out | exact Lrg12.no rfl ⟨hsh'.out, by show ¬ (12 < ax ∧ ax ≤ 512); omega, by show ¬ (12 < dn ∧ dn ≤ 512); omega, by show ¬ (24 < IntKind.i64.wrap (ax * dn) ∧ ax ≤ 12); rw [hX]; omega, by show ps.length ≤ 5; omega⟩ hbel'.out)
                · skip
                  first | (exfalso; omega) | (go_wp2; go_ret; first | exact Lrg12.yes rfl hbel'.out | exact Lrg12.no rfl ⟨hsh'.out, by show ¬ (12 < ax ∧ ax ≤ 512); omega, by show ¬ (12 < dn ∧ dn ≤ 512); omega, by show ¬ (24 < IntKind.i64.wrap (ax * dn) ∧ ax ≤ 12); rw [hX]; omega, by show ps.length ≤ 5; omega⟩ hbel'.out)
            · skip
              by_cases c7 : (5 : Int) < pn
              · skip
                first | (exfalso; omega) | (go_wp2; go_ret; first | exact Lrg12.yes rfl hbel'.out | exact Lrg12.no rfl ⟨hsh'.out, by show ¬ (12 < ax ∧ ax ≤ 512); omega, by show ¬ (12 < dn ∧ dn ≤ 512); omega, by show ¬ (24 < IntKind.i64.wrap (ax * dn) ∧ ax ≤ 12); rw [hX]; omega, by show ps.length ≤ 5; omega⟩ hbel'.out)
              · skip
                first | (exfalso; omega) | (go_wp2; go_ret; first | exact Lrg12.yes rfl hbel'.out | exact Lrg12.no rfl ⟨hsh'.out, by show ¬ (12 < ax ∧ ax ≤ 512); omega, by show ¬ (12 < dn ∧ dn ≤ 512); omega, by show ¬ (24 < IntKind.i64.wrap (ax * dn) ∧ ax ≤ 12); rw [hX]; omega, by show ps.length ≤ 5; omega⟩ hbel'.out)
        · skip
          by_cases c5 : 24 < X
          · by_cases c6 : ax ≤ 12
            · skip
              first | (exfalso; omega) | (go_wp2; go_ret; first | exact Lrg12.yes rfl hbel'.out | exact Lrg12.no rfl ⟨hsh'.out, by show ¬ (12 < ax ∧ ax ≤ 512); omega, by show ¬ (12 < dn ∧ dn ≤ 512); omega, by show ¬ (24 < IntKind.i64.wrap (ax * dn) ∧ ax ≤ 12); rw [hX]; omega, by show ps.length ≤ 5; omega⟩ hbel'.out)
            · skip
              by_cases c7 : (5 : Int) < pn
              · skip
                first | (exfalso; omega) | (go_wp2; go_ret; first | exact Lrg12.yes rfl hbel'.out | exact Lrg12.no rfl ⟨hsh'.out, by show ¬ (12 < ax ∧ ax ≤ 512); omega, by show ¬ (12 < dn ∧ dn ≤ 512); omega, by show ¬ (24 < IntKind.i64.wrap (ax * dn) ∧ ax ≤ 12); rw [hX]; omega, by show ps.length ≤ 5; omega⟩ hbel'.out)
              · skip
                first | (exfalso; omega) | (go_wp2; go_ret; first | exact Lrg12.yes rfl hbel'.out | exact Lrg12.no rfl ⟨hsh'.out, by show ¬ (12 < ax ∧ ax ≤ 512); omega, by show ¬ (12 < dn ∧ dn ≤ 512); omega, by show ¬ (24 < IntKind.i64.wrap (ax * dn) ∧ ax ≤ 12); rw [hX]; omega, by show ps.length ≤ 5; omega⟩ hbel'.out)
          · skip
            by_cases c7 : (5 : Int) < pn
            · skip
              first | (exfalso; omega) | (go_wp2; go_ret; first | exact Lrg12.yes rfl hbel'.out | exact Lrg12.no rfl ⟨hsh'.out, by show ¬ (12 < ax ∧ ax ≤ 512); omega, by show ¬ (12 < dn ∧ dn ≤ 512); omega, by show ¬ (24 < IntKind.i64.wrap (ax * dn) ∧ ax ≤ 12); rw [hX]; omega, by show ps.length ≤ 5; omega⟩ hbel'.out)
            · skip
              first | (exfalso; omega) | (go_wp2; go_ret; first | exact Lrg12.yes rfl hbel'.out | exact Lrg12.no rfl ⟨hsh'.out, by show ¬ (12 < ax ∧ ax ≤ 512); omega, by show ¬ (12 < dn ∧ dn ≤ 512); omega, by show ¬ (24 < IntKind.i64.wrap (ax * dn) ∧ ax ≤ 12); rw [hX]; omega, by show ps.length ≤ 5; omega⟩ hbel'.out)
end Go.Proofs.Ytpjopeojeglogaa

namespace Go.Proofs.Ytpjopeojeglogaa
open Go.RowKit Tt
set_option linter.unusedVariables false
set_option linter.unusedSimpArgs false

theorem own_neM {P : Program} {k : TypeId} {w : World} {B : Nat} {E : TypeId} {sz : Nat} {v : Value} {n g : Nat} {xs : List Value} {l : List (Value × Value)} (h : w.ownsRow B E sz v n xs) (hb : AM P k w g l) : v.ownBlock ≠ some g := fun e => by
  rcases h.2 with ⟨rfl, _⟩ | ⟨g', cap, cur, rfl, _, hg, _⟩
  · cases e
  · injection e with e
    obtain rfl : g' = g := e; obtain ⟨es, clock, h1, _⟩ := hb; rw [hg] at h1; injection h1 with h1
    cases h1
theorem TbM.grown {w w' : World} {tb B : Nat} {c s : List Int} {E : TypeId} {sz : Nat} {v : Value} {n : Nat} {xs : List Value} (h : TbM w tb c s) (ho : w.ownsRow B E sz v n xs) (hE : E ≠ 199) (m : Mo (fun j => v.ownBlock = some j) w w') : TbM w' tb c s := by
  obtain ⟨b1, b2, h1, h2, h3⟩ := h.ex; exact ⟨⟨b1, b2, h1.mo m (own_neB ho h1 hE), h2.mo m (own_neM ho h2), h3.mo m (own_neM ho h3)⟩, h.may, h.wf⟩
/-- both tables of a plane -/
structure TbP (w : World) (p : PtM) (x : Nat × Nat) : Prop where
  dc : TbM w x.1 p.2.2.1.1.1 p.2.2.1.1.2
  ac : TbM w x.2 p.2.2.2.1.1 p.2.2.2.1.2
theorem TbP.late {w w' : World} {p : PtM} {x : Nat × Nat} (h : TbP w p x) (hb : Below w.heap.size w w') : TbP w' p x := ⟨h.dc.below (B := 0) hb, h.ac.below (B := 0) hb⟩
def tabC (x : Nat × Nat) : List Value := [.pointer (some ⟨x.1, 0, none⟩), .pointer (some ⟨x.2, 0, none⟩)]
def tabsC (l : List (Nat × Nat)) : List Value := (l.map tabC).flatten
theorem tabsC_snoc (l : List (Nat × Nat)) (x : Nat × Nat) : tabsC (l ++ [x]) = tabsC l ++ [.pointer (some ⟨x.1, 0, none⟩), .pointer (some ⟨x.2, 0, none⟩)] := by unfold tabsC; rw [List.map_append, List.flatten_append]; rfl
theorem infoTb : (Try.prog.info? 134).map (fun i => (i.zero, i.size, i.bytes)) = some (some (.agg #[.pointer none, .pointer none]), 2, 16) := by kernel_rfl
def TbsA (w : World) (ps : List PtM) (tl : List (Nat × Nat)) : Prop := ∀ (j : Nat) p x, ps[j]? = some p → tl[j]? = some x → TbP w p x
theorem TbsA.late {w w' : World} {ps : List PtM} {tl : List (Nat × Nat)} (h : TbsA w ps tl) (hb : Below w.heap.size w w') : TbsA w' ps tl := fun j p x h1 h2 => (h j p x h1 h2).late hb
theorem TbsA.grown {w w' : World} {ps : List PtM} {tl : List (Nat × Nat)} {B : Nat} {E : TypeId} {sz : Nat} {v : Value} {n : Nat} {xs : List Value} (h : TbsA w ps tl) (ho : w.ownsRow B E sz v n xs) (hE : E ≠ 199) (m : Mo (fun j => v.ownBlock = some j) w w') : TbsA w' ps tl :=
  fun j p x h1 h2 => ⟨(h j p x h1 h2).dc.grown ho hE m, (h j p x h1 h2).ac.grown ho hE m⟩
theorem TbsA.snoc {w : World} {ps : List PtM} {tl : List (Nat × Nat)} {p : PtM} {x : Nat × Nat} (h : TbsA w ps tl) (hp : ps[tl.length]? = some p) (hx : TbP w p x) : TbsA w ps (tl ++ [x]) := fun j q y h1 h2 => by
  rcases Nat.lt_or_ge j tl.length with hj | hj
  · rw [List.getElem?_append_left hj] at h2
    exact h j q y h1 h2
  · have hj2 : j < (tl ++ [x]).length := (List.getElem?_eq_some_iff.1 h2).1
    rw [List.length_append, List.length_singleton] at hj2; obtain rfl : j = tl.length := by omega
    rw [hp] at h1; rw [List.getElem?_concat_length] at h2; injection h1 with h1; injection h2 with h2; rw [← h1, ← h2]; exact hx
/-- a table from a plane's codes that may be -/
theorem newH_any {w : World} {h : HufM} (k : HufOk w h) (hm : mayH h = true) (H : Array Value) (hH : (hufC h).toArray = H) :
    Calls Try.prog 73 #[.agg H] w fun e w' => ∃ tb, e = .returned (.tuple #[.pointer (some ⟨tb, 0, none⟩), .int .i64 0]) ∧ TbM w' tb h.1.1 h.1.2 ∧ Below w.heap.size w w' := by
  have := new_any h.1.1 h.1.2 h.2.1 h.2.2.1 h.2.2.2 w k.len k.sl k.wf (by have := k.few; omega); unfold hV at this; rw [← hH]; refine this.mono ?_; rintro e w' ⟨h1 | ⟨tb, h1, h2⟩, hb⟩
  · unfold mayH at hm
    rw [hm] at h1
    cases h1.1
  · exact ⟨tb, h1, h2, hb⟩
set_option maxRecDepth 100000 in
set_option maxHeartbeats 4000000 in
theorem tables_any (s : ScT) (pa : Option Addr) (pn pc : Nat) (w : World) (hs : PtsR w pa pn pc s.ps) (hmay : mayS s = true) :
    Calls Try.prog 90 #[.agg #[.int .i64 s.ax, .int .i64 s.dn, .slice pa pn pc, .int .i64 s.iv]] w fun e w' => ∃ a c tl, e = .returned (.slice a pn c) ∧ Below w.heap.size w w' ∧ w'.ownsRow w.heap.size 134 2 (.slice a pn c) pn (tabsC tl) ∧ tl.length = pn ∧ TbsA w' s.ps tl := by
  obtain ⟨i1, hi, hz0, hz1, hz2⟩ := info_parts infoTb; have hl := hs.ilen; obtain ⟨htop, hpts, hsum⟩ := mayS_parts hmay; obtain ⟨ax, dn, iv, ps⟩ := s; simp only at hs hl htop hpts hsum ⊢; have b1 := Blk.new w 24 #[.int .i64 ax, .int .i64 dn, .slice pa pn pc, .int .i64 iv]; have hb1 := (Below.refl w.heap.size w).alloc (Nat.le_refl _) (.cells #[.int .i64 ax, .int .i64 dn, .slice pa pn pc, .int .i64 iv] 24); obtain ⟨W1, hW1⟩ : ∃ W1, w.alloc (.cells #[.int .i64 ax, .int .i64 dn, .slice pa pn pc, .int .i64 iv] 24) = W1 := ⟨_, rfl⟩; rw [hW1] at b1 hb1; have k2 : W1.cell? ⟨w.heap.size, 2, none⟩ = some (.slice pa pn pc) := b1.cell rfl; have hp4 : pn ≤ 4 := by omega
  have hsz1 := b1.lt; have hs' := Lib.hid hs; have hl' := Lib.hid hl; have b1' := Lib.hid b1; have hb1' := Lib.hid hb1; have hW1' := Lib.hid hW1; have hpts' := Lib.hid hpts; have htop' := Lib.hid htop; have hsum' := Lib.hid hsum; have hsz1' := Lib.hid hsz1; clear hs hl b1 hb1 hW1 hpts htop hsum hsz1
  go_enter Try.func90, Try.ntmps90
  go_upto_region 1 with fail
  rw [hW1'.out]
  go_wp2
  clear k2
  go_loopw [2, 4, 5, 6, 7, 8, 12] (fun ov _ _ _ _ _ xv wr => ∃ (k : Nat) (a3 : Option Addr) (c3 : Nat) (tl : List (Nat × Nat)), k ≤ pn ∧ xv = .int .i64 k ∧ ov = .slice a3 k c3 ∧ Hid (tl.length = k) ∧ Hid (wr.ownsRow (w.heap.size + 1) 134 2 (.slice a3 k c3) k (tabsC tl)) ∧ Hid (TbsA wr ps tl) ∧ Hid (Below w.heap.size w wr) ∧ Hid (w.heap.size + 1 ≤ wr.heap.size)) (fun _ _ _ _ _ _ xv _ => pn - (intOf xv).toNat)
  case atStart => exact ⟨0, none, 0, [], by omega, rfl, rfl, Lib.hid rfl, Lib.hid (own_nil _ _ _ _), Lib.hid (fun j p x h1 h2 => by cases h2), hb1', hsz1'⟩
  case round =>
    obtain ⟨k, a3, c3, tl, hk, rfl, rfl, htl, Ob, HT, hbel, hsz⟩ := hrel
    by_cases hlt : k < pn
    · obtain ⟨p, hp⟩ : ∃ p, ps[k]? = some p := ⟨_, List.getElem?_eq_getElem (by rw [hl'.out]; exact hlt)⟩
      obtain ⟨bb, o, rfl, hbb, f⟩ := (hs'.out.mono hbel.out).elem hp; have hpk := (hs'.out.ok p (List.mem_of_getElem? hp)).mono hbel.out; have hpm := mayPt_bd (hpts'.out k p hp); obtain ⟨B, hB⟩ : ∃ B, (pC p).toArray = B := ⟨_, rfl⟩; have hcl := pC_len hpk; have hone := pC_one (p := p); have hB36 : B.size = 36 := by rw [← hB]; simpa using hcl
      rw [hB] at hone; obtain ⟨W2, hW2⟩ : ∃ W2, wr.alloc (.cells B 47) = W2 := ⟨_, rfl⟩; have hal := (Below.refl wr.heap.size wr).alloc (Nat.le_refl _) (.cells B 47); have hqb : Blk W2 wr.heap.size 47 B := by rw [← hW2]; exact Blk.new wr 47 B
      rw [hW2] at hal; have hbw := hbel.out.trans (hal.mono hbel.out.size); have hfields := fun W (b : Blk W wr.heap.size 47 B) => pB_cells (p := p) hpk.dc.len (hB ▸ b); obtain ⟨H1, hH1⟩ : ∃ H, (hufC p.2.2.1).toArray = H := ⟨_, rfl⟩; obtain ⟨H2, hH2⟩ : ∃ H, (hufC p.2.2.2).toArray = H := ⟨_, rfl⟩; have hl1 := hufC_len hpk.dc.len; have hl2 := hufC_len hpk.ac.len; have HN1 := newH_any (hpk.dc.mono hal) hpm.2.2.2.2.1 H1 hH1; have HN2 := fun W (h : Below wr.heap.size wr W) => newH_any (hpk.ac.mono h) hpm.2.2.2.2.2 H2 hH2; have k2 := (hfields W2 hqb).2.2.1; have f' := Lib.hid f; have hpk' := Lib.hid hpk; have hB' := Lib.hid hB; have hcl' := Lib.hid hcl; have hp' := Lib.hid hp; have hone' := Lib.hid hone; have hB36' := Lib.hid hB36; have hal' := Lib.hid hal; have hqb' := Lib.hid hqb; have hW2' := Lib.hid hW2; have hbw' := Lib.hid hbw; have hfields' := Lib.hid hfields; have hH1' := Lib.hid hH1; have hH2' := Lib.hid hH2; have hl1' := Lib.hid hl1; have hl2' := Lib.hid hl2; have HN1' := Lib.hid HN1; have HN2' := Lib.hid HN2; have hpm' := Lib.hid hpm; clear f hpk hB hcl hp hone hB36 hal hqb hW2 hbw hfields hH1 hH2 hl1 hl2 HN1 HN2 hpm
      go_upto_region 4 with (first
        | (refine wpList_load_at rfl 47 (.tmp 14) rfl bb (o + k * 36) rfl (pC p) B hB'.out _ f'.out Try.underlying47 rfl 36 infoP hcl'.out ?_)
        | (refine wpList_store_row rfl 47 (.tmp 4) (.tmp 15) rfl wr.heap.size B rfl rfl 47 _ (heap_new _ _) (by rw [hB36'.out]; exact infoP) (by rw [hB36'.out]; rfl) hone'.out ?_))
      rw [setRow_alloc, hW2'.out]
      go_wp2_with (refine wpList_load_at rfl 45 (.tmp 17) rfl wr.heap.size 2 rfl (hufC p.2.2.1) H1 hH1'.out _ k2 Try.underlying45 rfl 17 infoH17 hl1'.out ?_)
      refine HN1'.out.mono ?_; rintro e w3 ⟨t1, rfl, ht1, hb3⟩; have hb13 := hal'.out.trans (hb3.mono hal'.out.size); have bk3 := hqb'.out.late hb3; have k3 := (hfields'.out w3 bk3).2.2.2; clear k2 hb3; have hb13' := Lib.hid hb13; have bk3' := Lib.hid bk3; have ht1' := Lib.hid ht1; clear hb13 bk3 ht1
      go_wp2_with (refine wpList_load_at rfl 45 (.tmp 23) rfl wr.heap.size 19 rfl (hufC p.2.2.2) H2 hH2'.out _ k3 Try.underlying45 rfl 17 infoH17 hl2'.out ?_)
      refine (HN2'.out _ hb13'.out).mono ?_; rintro e w4 ⟨t2, rfl, ht2, hb4⟩; have hal4 := (Below.refl w4.heap.size w4).alloc (Nat.le_refl _) (.cells #[.pointer (some ⟨t1, 0, none⟩), .pointer (some ⟨t2, 0, none⟩)] 134); have hb34 := hb13'.out.trans (hb4.mono hb13'.out.size); have hb5 := hb34.trans (hal4.mono hb34.size); have tb : TbP (w4.alloc (.cells #[.pointer (some ⟨t1, 0, none⟩), .pointer (some ⟨t2, 0, none⟩)] 134)) p (t1, t2) := TbP.late ⟨ht1'.out.below (B := 0) hb4, ht2⟩ hal4; have ta := (HT.out.late hb5).snoc (by rw [htl.out]; exact hp'.out) tb; have o5 := own_later Ob.out hb5; have d5 := hbel.out.trans (hb5.mono hbel.out.size); have s5 := Sl.new w4 134 2 1 #[.pointer (some ⟨t1, 0, none⟩), .pointer (some ⟨t2, 0, none⟩)] (0, 0) (by decide) rfl; have hsz5 := Nat.le_trans hsz.out hb5.size; have hrow := tabsC_snoc tl (t1, t2); clear k3 hb4 hal4 hb34 hb5 tb ht2; have ta' := Lib.hid ta; have o5' := Lib.hid o5; have d5' := Lib.hid d5; have s5' := Lib.hid s5; have hsz5' := Lib.hid hsz5; have hrow' := Lib.hid hrow; clear ta o5 d5 s5 hsz5 hrow
      go_wp2_with (at_builtin; refine wpList_app2 rfl _ _ 130 rfl (w.heap.size + 1) 134 i1 _ 2 16 Try.underlying130 hi hz0 hz1 hz2 rfl (by decide) _ k _ rfl o5'.out ⟨w4.heap.size, 0, none⟩ 1 1 [.pointer (some ⟨t1, 0, none⟩), .pointer (some ⟨t2, 0, none⟩)] rfl s5'.out (by simp [Value.oneCell']) (by omega) (by decide) hsz5'.out ?_; intro a7 c7 w7 ho7 hg7 hn7; have g7 : Mo (fun j' => (Value.slice a3 k c3).ownBlock = some j') _ w7 := Mo.of_grown hg7 (fun _ e => e); have T7 := Lib.hid (ta'.out.grown o5'.out (by decide) g7); have Z7 := Lib.hid (Nat.le_trans hsz5'.out g7.size); have Hd7 := Lib.hid (d5'.out.trans (Mo.below (S := fun j' => j' ≥ w.heap.size + 1 ∧ True) (Mo.of_grown hg7 (fun k e => ⟨(o5'.out.lt k e).1, trivial⟩)) d5'.out.size (fun k hk h => by omega))); have Ho7 := Lib.hid ho7; clear ho7 hg7 hn7 g7)
      go_roundw
      case rel => exact ⟨k + 1, a7, c7, tl ++ [(t1, t2)], by omega, by go_num, rfl, Lib.hid (by rw [List.length_append, htl.out]; rfl), Lib.hid (by rw [hrow'.out]; exact Ho7.out), T7, Hd7, Z7⟩
      case measure => simp [intOf]; omega
    · have hkn : k = pn := by omega
      subst hkn
      go_wp2
      go_ret
      exact ⟨a3, c3, tl, rfl, hbel.out, own_mono Ob.out (Nat.le_succ _), htl.out, HT.out⟩
end Go.Proofs.Ytpjopeojeglogaa

namespace Go.Proofs.Ytpjopeojeglogaa
open Go.RowKit Tt
set_option linter.unusedVariables false
set_option linter.unusedSimpArgs false

theorem div_lt {m a d : Nat} (h : m < a * d) : m / a < d := Nat.div_lt_of_lt_mul h
theorem row_lt {q r v d : Nat} (hr : r < d) (hq : q < v) : r * v + q < d * v := by
  have h1 : (r + 1) * v ≤ d * v := Nat.mul_le_mul_right _ hr; rw [Nat.succ_mul] at h1
  omega
theorem atU_lt {a h v d n j : Nat} (ha : 1 ≤ a) (hh : 1 ≤ h) (hn : n < a * d) (hj : j < h * v) : atU a h v n j < a * h * d * v := by
  have h1 := row_lt (div_lt hn) (div_lt hj); have h2 := row_lt (Nat.mod_lt n ha) (Nat.mod_lt j hh); have h3 := row_lt h1 h2; unfold atU; rw [Nat.mul_assoc]; have e : d * v * (a * h) = a * h * d * v := by rw [Nat.mul_comm (d * v), Nat.mul_assoc (a * h)]
  omega
theorem unit_in {a d n : Nat} {ps : List PtM} (ha : 1 ≤ a) (hp : ∀ (k : Nat) p, ps[k]? = some p → mayPt p = true) (hn : n < a * d) {x : Nat × Nat} (hx : x ∈ unitS a ps n) :
    ∃ p, ps[x.1]? = some p ∧ x.2 < a * p.1.toNat * d * p.2.1.toNat := by
  unfold unitS at hx; obtain ⟨l, hl, hxl⟩ := List.mem_flatten.1 hx; obtain ⟨⟨p, k⟩, hpk, rfl⟩ := List.mem_map.1 hl; have hk : ps[k]? = some p := List.mem_zipIdx_iff_getElem?.1 hpk; unfold unitP at hxl; obtain ⟨j, hj, rfl⟩ := List.mem_map.1 hxl; have hm := mayPt_bd (hp k p hk); exact ⟨p, hk, atU_lt ha (show 1 ≤ p.1.toNat by omega) hn (List.mem_range.1 hj)⟩
theorem acFrom_len17 (l : List Int) : ∀ (p q : List Cod × Nat), acFrom l (some p) = some q → 16 * q.1.length + q.2 ≤ 16 * p.1.length + p.2 + 17 * l.length := by
  induction l with
  | nil => intro p q h; unfold acFrom at h; injection h with h; rw [← h]; simp
  | cons v l ih =>
    intro p q h; rw [show acFrom (v :: l) (some p) = acFrom l (acStep (some p) v) from rfl] at h; rw [List.length_cons]; unfold acStep at h; rw [Option.bind_some] at h
    by_cases hv : v = 0
    · rw [if_pos hv] at h
      have := ih _ _ h; simp only at this
      omega
    · rw [if_neg hv] at h
      by_cases hb : bitLen v.natAbs ≤ 10
      · rw [if_pos hb] at h
        have := ih _ _ h; simp only [List.length_append, List.length_replicate, List.length_singleton] at this
        omega
      · rw [if_neg hb, acFrom_none] at h
        cases h
theorem codeB_len {b : List Int} {last : Int} {l : List Cod} (hb : b.length = 64) (h : codeB b last = some l) : l.length ≤ 70 := by
  unfold codeB at h
  split at h
  · cases h
  · obtain ⟨q, hq, rfl⟩ := Option.map_eq_some_iff.1 h
    have h1 := acFrom_len17 _ _ _ hq; simp only [List.length_singleton, List.length_drop] at h1; have h2 : (toZ b).length = 64 := toZ_len b; have h3 : (acEnd q).length ≤ q.1.length + 1 := by unfold acEnd; split <;> simp
    omega
section
variable {T : Type}
theorem ex_snoc {α β : Type} {f : β → α → Except Int β} {l : List α} {j : Nat} {x : α} (h : l[j]? = some x) (s : β) : (l.take (j + 1)).foldlM f s = ((l.take j).foldlM f s).bind fun t => f t x := by
  rw [List.take_add_one, h, Option.toList_some, List.foldlM_append]
  show ((l.take j).foldlM f s).bind _ = _
  congr 1
  funext t
  rw [List.foldlM_cons]
  show (f t x).bind _ = _
  cases f t x <;> rfl
theorem ex_err {α β : Type} {f : β → α → Except Int β} {l : List α} {j : Nat} {s : β} {e : Int} (h : (l.take j).foldlM f s = .error e) : l.foldlM f s = .error e := by
  conv => lhs; rw [← List.take_append_drop j l]
  rw [List.foldlM_append, h]
  rfl
/-- all symbols of a block handed on -/
def putL (put : T → Nat → Cod → Except Int T) (part : Nat) (t : T) (l : List Cod) : Except Int T := l.foldlM (fun t x => put t part x) t
def blkB (bs : List (List (List Int))) (x : Nat × Nat) : List Int := (bs.getD x.1 []).getD x.2 []
def stepB (put : T → Nat → Cod → Except Int T) (bs : List (List (List Int))) (s : T × List Int) (x : Nat × Nat) : Except Int (T × List Int) :=
  match codeB (blkB bs x) (s.2.getD x.1 0) with
  | none => .error 7
  | some l => (putL put x.1 s.1 l).map fun t => (t, s.2.set x.1 ((blkB bs x).getD 0 0))
def stepU (put : T → Nat → Cod → Except Int T) (again : T → Nat → T) (s : ScT) (bs : List (List (List Int))) (st : T × List Int) (n : Nat) : Except Int (T × List Int) :=
  (unitS s.ax.toNat s.ps n).foldlM (stepB put bs) (if resS s.iv n then (again st.1 n, List.replicate s.ps.length 0) else st)
def tellS (put : T → Nat → Cod → Except Int T) (again : T → Nat → T) (s : ScT) (bs : List (List (List Int))) (t : T) : Except Int (T × List Int) :=
  (List.range (s.ax * s.dn).toNat).foldlM (stepU put again s bs) (t, List.replicate s.ps.length 0)
theorem stepB_none {put : T → Nat → Cod → Except Int T} {bs : List (List (List Int))} {s : T × List Int} {x : Nat × Nat} (h : codeB (blkB bs x) (s.2.getD x.1 0) = none) : stepB put bs s x = .error 7 := by unfold stepB; rw [h]
theorem stepB_err {put : T → Nat → Cod → Except Int T} {bs : List (List (List Int))} {s : T × List Int} {x : Nat × Nat} {l : List Cod} {e : Int} (h : codeB (blkB bs x) (s.2.getD x.1 0) = some l) (he : putL put x.1 s.1 l = .error e) : stepB put bs s x = .error e := by unfold stepB; rw [h]; show (putL put x.1 s.1 l).map _ = _; rw [he]; rfl
theorem stepB_ok {put : T → Nat → Cod → Except Int T} {bs : List (List (List Int))} {s : T × List Int} {x : Nat × Nat} {l : List Cod} {t : T} (h : codeB (blkB bs x) (s.2.getD x.1 0) = some l) (he : putL put x.1 s.1 l = .ok t) : stepB put bs s x = .ok (t, s.2.set x.1 ((blkB bs x).getD 0 0)) := by unfold stepB; rw [h]; show (putL put x.1 s.1 l).map _ = _; rw [he]; rfl
end
end Go.Proofs.Ytpjopeojeglogaa
