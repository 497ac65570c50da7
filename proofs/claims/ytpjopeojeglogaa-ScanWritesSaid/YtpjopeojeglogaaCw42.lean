/- Chapter 12, the document's side: Whole. | Chapter 12: the law's many; the document's Own. -/
import Derived.Test.YtpjopeojeglogaaCw36
import Derived.Test.YtpjopeojeglogaaCw17
import Derived.Test.YtpjopeojeglogaaCw40
import Derived.Test.YtpjopeojeglogaaCw33
namespace Go.Proofs.Ytpjopeojeglogaa
open Go.RowKit Tt
set_option linter.unusedVariables false
set_option linter.unusedSimpArgs false

theorem doc_mul {a h d v : Nat} (ha : a ≤ 512) (hd : d ≤ 512) (hh : h ≤ 4) (hv : v ≤ 4) :
    ∃ x y z : Nat, z ≤ 4194304 ∧ a * h * d * v = z ∧ IntKind.i64.wrap ((a : Int) * d) = x ∧ IntKind.i64.wrap ((x : Int) * h) = y ∧ IntKind.i64.wrap ((y : Int) * v) = z := by
  have b1 : a * d ≤ 512 * 512 := Nat.mul_le_mul ha hd; have b2 : a * d * h ≤ 512 * 512 * 4 := Nat.mul_le_mul b1 hh; have b3 : a * d * h * v ≤ 512 * 512 * 4 * 4 := Nat.mul_le_mul b2 hv; refine ⟨a * d, a * d * h, a * d * h * v, b3, by rw [Nat.mul_assoc a h d, Nat.mul_comm h d, ← Nat.mul_assoc], ?_, ?_, ?_⟩
  · rw [← Int.natCast_mul]; exact wrapN (by omega)
  · rw [← Int.natCast_mul]; exact wrapN (by omega)
  · rw [← Int.natCast_mul]; exact wrapN (by omega)
set_option maxRecDepth 100000 in
set_option maxHeartbeats 4000000 in
theorem rwhole12_any (s : ScT) (bs : List BpM) (pa ba : Option Addr) (pn pc bn bc : Nat) (w : World) (hs : PtsR w pa pn pc s.ps) (hbs : BpsR w ba bn bc bs) (hbn : bn ≤ 1000000000) (hbl : ∀ b ∈ bs, b.2.2.1 ≤ 1000000000) (hw1 : Wf s.ax) (hw2 : Wf s.dn) (hw3 : Wf s.iv) (hpw : ∀ p ∈ s.ps, Wf p.1 ∧ Wf p.2.1) :
    Calls Try.prog 27 #[.agg #[.int .i64 s.ax, .int .i64 s.dn, .slice pa pn pc, .int .i64 s.iv], .slice ba bn bc] w fun e w' => e = .returned (.bool (wholeS s (bs.map (·.1)))) ∧ Below w.heap.size w w' := by
  have HM := fun W (h : Below w.heap.size w W) => rmay12_any s pa pn pc W (hs.mono h) hw1 hw2 hw3 hpw; have hl := hs.ilen; have hbl2 := hbs.ilen; have hbad := @wholeS_bad s (bs.map (·.1)); have hok := @wholeS_ok s (bs.map (·.1)); have hno := @wholeS_may s (bs.map (·.1)); have hln := @wholeS_len s (bs.map (·.1)); have hparts := @mayS_parts s; obtain ⟨R, hR⟩ : ∃ R, mayS s = R := ⟨_, rfl⟩; obtain ⟨Q, hQ⟩ : ∃ Q, wholeS s (bs.map (·.1)) = Q := ⟨_, rfl⟩; rw [hQ] at hok hno hln ⊢; have hbad : ∀ (i : Nat) (p : PtM) (b : List (List Int)), s.ps[i]? = some p → (bs.map (·.1))[i]? = some b → ¬ (b.length : Int) = s.ax * p.1 * s.dn * p.2.1 → Q = false := fun i p b h1 h2 h3 => hQ ▸ hbad h1 h2 h3; rw [hR] at HM hok hno hparts; rw [List.length_map, hbl2, hl] at hok hln; obtain ⟨ax, dn, iv, ps⟩ := s; simp only at hs hl HM hbad hok hparts; have b1 := Blk.new w 24 #[.int .i64 ax, .int .i64 dn, .slice pa pn pc, .int .i64 iv]; have hb1 := (Below.refl w.heap.size w).alloc (Nat.le_refl _) (.cells #[.int .i64 ax, .int .i64 dn, .slice pa pn pc, .int .i64 iv] 24); obtain ⟨W1, hW1⟩ : ∃ W1, w.alloc (.cells #[.int .i64 ax, .int .i64 dn, .slice pa pn pc, .int .i64 iv] 24) = W1 := ⟨_, rfl⟩; rw [hW1] at b1 hb1; have hcs : ∀ W, Blk W w.heap.size 24 #[.int .i64 ax, .int .i64 dn, .slice pa pn pc, .int .i64 iv] → W.cell? ⟨w.heap.size, 0, none⟩ = some (.int .i64 ax) ∧ W.cell? ⟨w.heap.size, 1, none⟩ = some (.int .i64 dn) ∧ W.cell? ⟨w.heap.size, 2, none⟩ = some (.slice pa pn pc) ∧ W.cell? ⟨w.heap.size, 3, none⟩ = some (.int .i64 iv) := fun W b => ⟨b.cell rfl, b.cell rfl, b.cell rfl, b.cell rfl⟩; obtain ⟨k0, k1, k2, k3⟩ := hcs W1 b1; have hs' := Lib.hid hs; have hbs' := Lib.hid hbs; have b1' := Lib.hid b1; have hb1' := Lib.hid hb1; have hW1' := Lib.hid hW1; have hpw' := Lib.hid hpw; have hR' := Lib.hid hR; have HM' := Lib.hid HM; have hw1' := Lib.hid hw1; have hw2' := Lib.hid hw2; have hw3' := Lib.hid hw3; have hl' := Lib.hid hl; have hbl' := Lib.hid hbl; have hbl2' := Lib.hid hbl2; have hbad' := Lib.hid hbad; have hok' := Lib.hid hok; have hno' := Lib.hid hno; have hln' := Lib.hid hln; have hparts' := Lib.hid hparts; have hQ' := Lib.hid hQ; have hcs' := Lib.hid hcs; clear hs hbs b1 hb1 hW1 hpw hR HM hw1 hw2 hw3 hl hbl hbl2 hbad hok hno hln hparts hQ hcs
  go_enter Try.func27, Try.ntmps27
  go_upto_region 1 with fail
  rw [hW1'.out]
  go_wp2_with fail
  refine (HM'.out _ hb1'.out).mono ?_; rintro e w2 ⟨rfl, hb2⟩; have hbw2 := hb1'.out.trans (hb2.mono hb1'.out.size); have b2 := b1'.out.late hb2; clear hb2 k0 k1 k2 k3; obtain ⟨k0, k1, k2, k3⟩ := hcs'.out w2 b2; clear k0 k1 k3
  cases R with
  | false =>
    obtain rfl : Q = false := hno'.out rfl; have hbw2' := Lib.hid hbw2; have b2' := Lib.hid b2; clear hbw2 b2
    go_wp2
    go_ret
    exact ⟨rfl, hbw2'.out⟩
  | true =>
    obtain ⟨htop, hpts, hsum⟩ := hparts'.out rfl
    by_cases hq : (bn : Int) = pn
    · have hbp : bn = pn := by omega
      subst hbp; obtain ⟨a, rfl⟩ : ∃ a : Nat, ax = a := ⟨ax.toNat, by omega⟩; obtain ⟨d, rfl⟩ : ∃ a : Nat, dn = a := ⟨dn.toNat, by omega⟩; have ha : a ≤ 512 := by omega
      have hd : d ≤ 512 := by omega
      have hok2 := hok'.out rfl rfl; clear hq; have hbw2' := Lib.hid hbw2; have b2' := Lib.hid b2; have hpts' := Lib.hid hpts; have hsum' := Lib.hid hsum; have htop' := Lib.hid htop; have hok2' := Lib.hid hok2; have ha' := Lib.hid ha; have hd' := Lib.hid hd; clear hbw2 b2 hpts hsum htop hok2 ha hd
      go_wp2
      clear k2
      go_loopw [5] (fun xv wr => ∃ k : Nat, k ≤ bn ∧ xv = .int .i64 k ∧ Hid (∀ (j : Nat) (p : PtM) (b : List (List Int)), j < k → ps[j]? = some p → (bs.map (·.1))[j]? = some b → (b.length : Int) = a * p.1 * d * p.2.1) ∧ Hid (Below w2.heap.size w2 wr)) (fun xv _ => bn - (intOf xv).toNat)
      case atStart => exact ⟨0, by omega, rfl, Lib.hid (fun j p b h => by omega), Lib.hid (Below.refl _ _)⟩
      case round =>
        rename World => wr
        obtain ⟨k, hk, rfl, hall, hbel⟩ := hrel; have hbw := hbw2'.out.trans (hbel.out.mono hbw2'.out.size)
        by_cases hlt : k < bn
        · obtain ⟨p, hp⟩ : ∃ p, ps[k]? = some p := ⟨_, List.getElem?_eq_getElem (by rw [hl'.out]; exact hlt)⟩
          obtain ⟨bl, hbl3⟩ : ∃ b, bs[k]? = some b := ⟨_, List.getElem?_eq_getElem (by rw [hbl2'.out]; exact hlt)⟩; obtain ⟨bb, o, rfl, hbb, f⟩ := (hs'.out.mono hbw).elem hp; obtain ⟨gb, ob, rfl, hgb, fb⟩ := (hbs'.out.mono hbw).elem hbl3; have hbok := hbs'.out.ok bl (List.mem_of_getElem? hbl3); have hpm := mayPt_bd (hpts'.out k p hp); have hbdl := hbl'.out bl (List.mem_of_getElem? hbl3); have hbad3 := fun h => hbad'.out k p bl.1 hp (by rw [List.getElem?_map, hbl3]; rfl) h; have hil := hbok.ilen
          have hall2 : (bl.1.length : Int) = a * p.1 * d * p.2.1 → ∀ (j : Nat) (q : PtM) (b : List (List Int)), j < k + 1 → ps[j]? = some q → (bs.map (·.1))[j]? = some b → (b.length : Int) = a * q.1 * d * q.2.1 := fun he j q b hj hq hb => by
            rcases Nat.lt_or_ge j k with h | h
            · exact hall.out j q b h hq hb
            · obtain rfl : j = k := by omega
              rw [hp] at hq; injection hq with hq; rw [List.getElem?_map, hbl3] at hb; injection hb with hb; rw [← hq, ← hb]; exact he
          rw [hil] at hbad3 hall2; obtain ⟨x, y, hdc, hac⟩ := p; obtain ⟨bl, ta, tn, tc⟩ := bl; simp only at hpm hbad3 hall2 hbdl; obtain ⟨h, rfl⟩ : ∃ h : Nat, x = h := ⟨x.toNat, by omega⟩; obtain ⟨v, rfl⟩ : ∃ h : Nat, y = h := ⟨y.toNat, by omega⟩; obtain ⟨x1, x2, z, hz, hze, e1, e2, e3⟩ := doc_mul (h := h) (v := v) ha'.out hd'.out (by omega) (by omega); have hzi : (a : Int) * h * d * v = z := by rw [← Int.natCast_mul, ← Int.natCast_mul, ← Int.natCast_mul, hze]
          rw [hzi] at hbad3 hall2; have f0 : wr.cell? ⟨bb, o + k * 36, none⟩ = some (.int .i64 (h : Int)) := f 0 _ rfl; have f1 : wr.cell? ⟨bb, o + k * 36 + 1, none⟩ = some (.int .i64 (v : Int)) := f 1 _ rfl; unfold bpV at fb; obtain ⟨k0, k1, k2, k3⟩ := hcs'.out wr (b2'.out.late hbel.out); clear hpm hze hzi f k3; have hp' := Lib.hid hp; have hbl3' := Lib.hid hbl3; have hbok' := Lib.hid hbok; have hbad3' := Lib.hid hbad3; have hil' := Lib.hid hil; have hall2' := Lib.hid hall2; have hbb' := Lib.hid hbb; have hgb' := Lib.hid hgb; have hbw' := Lib.hid hbw; clear hp hbl3 hbok hbad3 hil hall2 hbb hgb hbw
          by_cases he : (tn : Int) = z
          · have hall5 := hall2'.out he
            obtain rfl : tn = z := by omega
            have hnz : ((tn : Int) != (tn : Int)) = false := by simp
            clear he; have hall5' := Lib.hid hall5; clear hall5
            go_wp2
            go_quiet (fail)
            go_wp2
            go_roundw
            case rel => exact ⟨k + 1, by omega, by go_num, hall5', Lib.hid (hbel.out.trans ((Qt.below ⟨_, rfl⟩ _).mono hbel.out.size))⟩
            case measure => simp [intOf]; omega
          · obtain rfl : Q = false := hbad3'.out he
            have hnz : ((tn : Int) != (z : Int)) = true := by simp; omega
            clear he
            go_wp2
            go_quiet (fail)
            go_wp2
            go_ret
            exact ⟨rfl, hbw'.out.trans ((Qt.below ⟨_, rfl⟩ _).mono hbw'.out.size)⟩
        · obtain rfl : k = bn := by omega
          obtain rfl : Q = true := hok2'.out (fun i p b hp hb => hall.out i p b (by have := (List.getElem?_eq_some_iff.1 hp).1; have := hl'.out; omega) hp hb); have hbw' := Lib.hid hbw; clear hbw
          go_wp2
          go_ret
          exact ⟨rfl, hbw'.out⟩
    · obtain rfl : Q = false := hln'.out (by omega)
      have hnq : ((bn : Int) != (pn : Int)) = true := by simp; omega
      clear hq; have hbw2' := Lib.hid hbw2; have b2' := Lib.hid b2; clear hbw2 b2
      go_wp2
      go_ret
      exact ⟨rfl, hbw2'.out⟩
end Go.Proofs.Ytpjopeojeglogaa

namespace Go.Proofs.Ytpjopeojeglogaa
open Go.RowKit Tt
set_option linter.unusedVariables false
set_option linter.unusedSimpArgs false

def ManyP (bn : Nat) (bs : List BpM) (w : World) (e : Ending) (w' : World) : Prop := ∃ b, e = .returned (.bool b) ∧ (b = false → bn ≤ 5 ∧ ∀ x ∈ bs, x.2.2.1 ≤ 100) ∧ Below w.heap.size w w'
set_option maxRecDepth 100000 in
set_option maxHeartbeats 4000000 in
theorem many12_any (bs : List BpM) (ba : Option Addr) (bn bc : Nat) (w : World) (hbs : BpsR w ba bn bc bs) :
    Calls Try.prog 17 #[.slice ba bn bc] w (ManyP bn bs w) := by
  have hl := hbs.ilen; have hle := hbs.sl.le; have hmx := hbs.sl.max; have hbs' := Lib.hid hbs; have hl' := Lib.hid hl; clear hbs hl
  go_enter Try.func17, Try.ntmps17
  go_wp2
  go_loopw [3] (fun xv wr => ∃ k : Nat, k ≤ bn ∧ xv = .int .i64 k ∧ Hid (∀ (j : Nat) x, j < k → bs[j]? = some x → x.2.2.1 ≤ 100) ∧ wr = w) (fun xv _ => bn - (intOf xv).toNat)
  case atStart => exact ⟨0, by omega, rfl, Lib.hid (fun j p h => by omega), rfl⟩
  case round =>
    rename World => wr
    obtain ⟨k, hk, rfl, hall, hwr⟩ := hrel
    by_cases hlt : k < bn
    · obtain ⟨bl, hbl3⟩ : ∃ b, bs[k]? = some b := ⟨_, List.getElem?_eq_getElem (by rw [hl'.out]; exact hlt)⟩
      obtain ⟨gb, ob, rfl, hgb, fb⟩ := hbs'.out.elem hbl3; have hok := hbs'.out.ok bl (List.mem_of_getElem? hbl3); have hn9 : bl.2.2.1 ≤ 9223372036854775807 := Nat.le_trans hok.sl.le hok.sl.max; unfold bpV at fb; obtain ⟨tn, htn⟩ : ∃ n, bl.2.2.1 = n := ⟨_, rfl⟩; rw [htn] at fb hn9; obtain ⟨tc, htc⟩ : ∃ n, bl.2.2.2 = n := ⟨_, rfl⟩; obtain ⟨ta, hta⟩ : ∃ n, bl.2.1 = n := ⟨_, rfl⟩; rw [htc, hta] at fb; subst hwr
      by_cases h100 : 100 < tn
      · clear htn htc hta
        have hbl3' := Lib.hid hbl3; have hok' := Lib.hid hok; have hgb' := Lib.hid hgb; clear hbl3 hok hgb
        go_wp2
        go_ret
        exact ⟨true, rfl, (fun h => by cases h), Below.refl _ _⟩
      · have hall2 : ∀ (j : Nat) x, j < k + 1 → bs[j]? = some x → x.2.2.1 ≤ 100 := fun j x hj hx => by
          rcases Nat.lt_or_ge j k with h | h
          · exact hall.out j x h hx
          · obtain rfl : j = k := by omega
            rw [hbl3] at hx; injection hx with hx; rw [← hx, htn]; omega
        clear htn htc hta; have hbl3' := Lib.hid hbl3; have hok' := Lib.hid hok; have hgb' := Lib.hid hgb; have hall2' := Lib.hid hall2; clear hbl3 hok hgb hall2
        go_wp2
        go_roundw
        case rel => exact ⟨k + 1, by omega, by go_num, hall2', by first | rfl | trivial⟩
        case measure => simp [intOf]; omega
    · obtain rfl : k = bn := by omega
      subst hwr
      have hall3 : ∀ x ∈ bs, x.2.2.1 ≤ 100 := fun x hx => by
        obtain ⟨i, hi, e⟩ := List.mem_iff_getElem.1 hx; exact hall.out i x (by rw [← hl'.out]; exact hi) (by rw [List.getElem?_eq_getElem hi, e])
      have hall3' := Lib.hid hall3; clear hall3
      by_cases h5 : 5 < k
      · go_wp2
        go_ret
        exact ⟨true, by first | rfl | (congr 2; simp; omega), (fun h => by cases h), Below.refl _ _⟩
      · go_wp2
        go_ret
        exact ⟨false, by first | rfl | (congr 2; simp; omega), (fun _ => ⟨by omega, hall3'.out⟩), Below.refl _ _⟩
/-- rows of blocks that are copied -/
def OwnB (w : World) (L : List BpM) : Prop := ∀ b ∈ L, w.ownsRow 0 129 64 (.slice b.2.1 b.2.2.1 b.2.2.2) b.2.2.1 ((b.1.map (ints .i64)).flatten)
theorem OwnB.late {w w' : World} {L : List BpM} (h : OwnB w L) (hb : Below w.heap.size w w') : OwnB w' L := fun b hx => own_later (h b hx) hb
def OwnP (bs : List BpM) (w : World) (e : Ending) (w' : World) : Prop := ∃ a n c L, e = .returned (.slice a n c) ∧ BpsR w' a n c L ∧ L.map (·.1) = bs.map (·.1) ∧ L.map (·.2.2.1) = bs.map (·.2.2.1) ∧ Below w.heap.size w w'
theorem infoBk : (Try.prog.info? 129).map (fun i => (i.zero, i.size, i.bytes)) = some (some (.agg z64), 64, 512) := by kernel_rfl
theorem infoBkR : (Try.prog.info? 126).map (fun i => (i.zero, i.size, i.bytes)) = some (some (.slice none 0 0), 1, 24) := by kernel_rfl
set_option maxRecDepth 100000 in
set_option maxHeartbeats 4000000 in
theorem rown12_any (bs : List BpM) (ba : Option Addr) (bn bc : Nat) (w : World) (hbs : BpsR w ba bn bc bs) (hbn : bn ≤ 5) (hbl : ∀ x ∈ bs, x.2.2.1 ≤ 100) :
    Calls Try.prog 19 #[.slice ba bn bc] w (OwnP bs w) := by
  obtain ⟨iB, hiB, hzB0, hzB1, hzB2⟩ := info_parts infoBk; obtain ⟨iR, hiR, hzR0, hzR1, hzR2⟩ := info_parts infoBkR; have hl := hbs.ilen; have hbs' := Lib.hid hbs; have hl' := Lib.hid hl; have hbl' := Lib.hid hbl; clear hbs hl hbl
  go_enter Try.func19, Try.ntmps19
  go_wp2
  go_loopw [3, 4] (fun ov xv wr => ∃ (k : Nat) (a3 : Option Addr) (c3 : Nat) (L : List BpM), k ≤ bn ∧ xv = .int .i64 k ∧ ov = .slice a3 k c3 ∧ Hid (wr.ownsRow w.heap.size 126 1 (.slice a3 k c3) k (L.map bpV)) ∧ Hid (OwnB wr L) ∧ Hid (L.map (·.1) = (bs.take k).map (·.1) ∧ L.map (·.2.2.1) = (bs.take k).map (·.2.2.1)) ∧ Hid (Below w.heap.size w wr)) (fun _ xv _ => bn - (intOf xv).toNat)
  case atStart => exact ⟨0, none, 0, [], by omega, rfl, rfl, Lib.hid (own_nil _ _ _ _), Lib.hid (fun b hb => by cases hb), Lib.hid ⟨rfl, rfl⟩, Lib.hid (Below.refl _ _)⟩
  case round =>
    rename World => wr
    obtain ⟨k, a3, c3, L, hk, rfl, rfl, hown, hOB, hmap, hbel⟩ := hrel
    by_cases hlt : k < bn
    · obtain ⟨bl, hbl3⟩ : ∃ b, bs[k]? = some b := ⟨_, List.getElem?_eq_getElem (by rw [hl'.out]; exact hlt)⟩
      obtain ⟨gb, ob, rfl, hgb, fb⟩ := (hbs'.out.mono hbel.out).elem hbl3; have hok := (hbs'.out.ok bl (List.mem_of_getElem? hbl3)).mono hbel.out; have hbl100 := hbl'.out bl (List.mem_of_getElem? hbl3); have htk : bs.take (k + 1) = bs.take k ++ [bl] := by rw [List.take_add_one, hbl3]; rfl
      obtain ⟨bl1, ta, tn, tc⟩ := bl; unfold bpV at fb; simp only at fb hbl100; have O0 := own_new wr wr.heap.size 129 64 0 #[] (Nat.le_refl _) (by unfold maxLen; omega) rfl; have hal0 := (Below.refl wr.heap.size wr).alloc (Nat.le_refl _) (.cells #[] 129); have hsz0 := hal0.size; have sa0 := hok.sl.mono hal0; have fb0 := (hal0.cell (p := ⟨gb, _, none⟩) hgb).trans fb
      have hone : ∀ u ∈ ((bl1.map (ints .i64)).flatten), u.oneCell' = true := fun u hu => by
        obtain ⟨l, hl, hul⟩ := List.mem_flatten.1 hu; obtain ⟨b, _, rfl⟩ := List.mem_map.1 hl; exact ints_one u hul
      have hbl3' := Lib.hid hbl3; have hgb' := Lib.hid hgb; have hok' := Lib.hid hok; have htk' := Lib.hid htk; have O0' := Lib.hid O0; have hal0' := Lib.hid hal0; have sa0' := Lib.hid sa0; have hone' := Lib.hid hone; clear hbl3 hgb hok htk O0 hal0 sa0 hone
      go_wp2_with (first
        | (at_builtin; refine wpList_app rfl _ _ 126 rfl wr.heap.size 129 iB _ 64 512 Try.underlying126 hiB hzB0 hzB1 hzB2 rfl (by decide) _ 0 [] rfl O0'.out ta tn tc _ rfl sa0'.out hone'.out (by omega) (by decide) hsz0 ?_; intro a5 c5 w5 ob5 hb5 hg5; simp only [Nat.zero_add, List.nil_append] at ob5 ⊢; have Ob5 := Lib.hid ob5; have Hb5 := Lib.hid (hal0'.out.trans hb5); clear ob5 hb5 hg5)
        | (at_builtin; refine wpList_app rfl _ _ 25 rfl w.heap.size 126 iR _ 1 24 Try.underlying25 hiR hzR0 hzR1 hzR2 rfl (by decide) _ k _ rfl (own_later (own_later hown.out Hb5.out) ((Below.refl _ _).alloc (Nat.le_refl _) _)) (some ⟨w5.heap.size, 0, none⟩) 1 1 [.slice a5 tn c5] rfl (Sl.new w5 126 1 1 #[.slice a5 tn c5] (0, 0) (by decide) rfl) (by simp [Value.oneCell']) (by omega) (by decide) (by have h1 := Hb5.out.size; have h2 := hbel.out.size; simp only [World.size_alloc]; omega) ?_; intro a9 c9 w9 ho9 hb9 hg9; have Ho9 := Lib.hid ho9; have Hb9 := Lib.hid hb9; have Hg9 := Lib.hid hg9; clear ho9 hb9 hg9))
      have hal6 := (Below.refl w5.heap.size w5).alloc (Nat.le_refl _) (.cells #[.slice a5 tn c5] 126); have hb6 := Hb5.out.trans (hal6.mono Hb5.out.size); have hOB6 := hOB.out.late hb6; have on6 := own_mono (own_later Ob5.out hal6) (Nat.zero_le _); have row6 := own_later hown.out hb6; have hmg := Mo.of_grown (S := fun j => (Value.slice a3 k c3).ownBlock = some j) Hg9.out fun j hj => hj
      have hOB9 : OwnB w9 (L ++ [(bl1, a5, tn, c5)]) := fun b hb => by
        rcases List.mem_append.1 hb with hb | hb
        · exact own_mo (hOB6 b hb) hmg (own_neR (hOB6 b hb) row6 (by decide))
        · rw [List.mem_singleton.1 hb]
          exact own_mo on6 hmg (own_neR on6 row6 (by decide))
      have ho9 : w9.ownsRow w.heap.size 126 1 (.slice a9 (k + 1) c9) (k + 1) ((L ++ [(bl1, a5, tn, c5)]).map bpV) := by
        rw [List.map_append]; exact Ho9.out
      have hbel9 := (hbel.out.trans (hb6.mono hbel.out.size)).trans Hb9.out
      have hmap9 : (L ++ [(bl1, a5, tn, c5)]).map (·.1) = (bs.take (k + 1)).map (·.1) ∧ (L ++ [(bl1, a5, tn, c5)]).map (·.2.2.1) = (bs.take (k + 1)).map (·.2.2.1) := by
        rw [htk'.out, List.map_append, List.map_append, List.map_append, List.map_append, hmap.out.1, hmap.out.2]; exact ⟨rfl, rfl⟩
      clear hal6 hb6 hOB6 on6 row6 hmg Ho9 Hb9 Hg9 Ob5 Hb5 fb fb0 hsz0; have hOB9' := Lib.hid hOB9; have ho9' := Lib.hid ho9; have hbel9' := Lib.hid hbel9; have hmap9' := Lib.hid hmap9; clear hOB9 ho9 hbel9 hmap9
      go_wp2
      go_roundw
      case rel => exact ⟨k + 1, a9, c9, _, by omega, by go_num, rfl, ho9', hOB9', hmap9', hbel9'⟩
      case measure => simp [intOf]; omega
    · obtain rfl : k = bn := by omega
      have hm := hmap.out; rw [List.take_of_length_le (Nat.le_of_eq hl'.out)] at hm
      have hR : BpsR wr a3 k c3 L := ⟨(Sl.of_own hown.out).1, fun b hb => by
        have h1 : b.1 ∈ bs.map (·.1) := by rw [← hm.1]; exact List.mem_map_of_mem hb
        obtain ⟨b2, hb2, e2⟩ := List.mem_map.1 h1; have h2 := hbs'.out.ok b2 hb2; exact ⟨(Sl.of_own (hOB.out b hb)).1, fun x hx => h2.len x (by rw [e2]; exact hx), fun x hx => h2.wf x (by rw [e2]; exact hx)⟩⟩
      have hR' := Lib.hid hR; have hm' := Lib.hid hm; clear hR hm
      go_wp2
      go_ret
      exact ⟨a3, k, c3, L, rfl, hR'.out, hm'.out.1, hm'.out.2, hbel.out⟩
end Go.Proofs.Ytpjopeojeglogaa
