/- Chapter 12, the document's side: Read (under way). -/
import Derived.Test.YtpjopeojeglogaaCr33
import Derived.Test.YtpjopeojeglogaaCr34
import Derived.Test.YtpjopeojeglogaaCr38
import Derived.Test.YtpjopeojeglogaaCr39
import Derived.Test.YtpjopeojeglogaaCr29
namespace Go.Proofs.Ytpjopeojeglogaa
open Go.RowKit Tt
set_option linter.unusedVariables false
set_option linter.unusedSimpArgs false

theorem doc_steps {a h d v : Nat} (ha : a ≤ 512) (hd : d ≤ 512) (hh : h ≤ 4) (hv : v ≤ 4) :
    ∃ x y z : Nat, z ≤ 4194304 ∧ a * h * d * v = z ∧ IntKind.i64.wrap ((a : Int) * d) = x ∧ IntKind.i64.wrap ((x : Int) * h) = y ∧ IntKind.i64.wrap ((y : Int) * v) = z := by
  have b1 : a * d ≤ 512 * 512 := Nat.mul_le_mul ha hd; have b2 : a * d * h ≤ 512 * 512 * 4 := Nat.mul_le_mul b1 hh; have b3 : a * d * h * v ≤ 512 * 512 * 4 * 4 := Nat.mul_le_mul b2 hv; refine ⟨a * d, a * d * h, a * d * h * v, b3, by rw [Nat.mul_assoc a h d, Nat.mul_comm h d, ← Nat.mul_assoc], ?_, ?_, ?_⟩
  · rw [← Int.natCast_mul]; exact wrapN (by omega)
  · rw [← Int.natCast_mul]; exact wrapN (by omega)
  · rw [← Int.natCast_mul]; exact wrapN (by omega)
theorem unitN_pos {ps : List PtM} (h : ∀ (k : Nat) p, ps[k]? = some p → mayPt p = true) (h1 : 1 ≤ ps.length) : 0 < unitN ps := by
  cases ps with
  | nil => simp at h1
  | cons p l =>
    have hm := mayPt_bd (h 0 p rfl); have h2 : 0 < p.1.toNat * p.2.1.toNat := Nat.mul_pos (by omega) (by omega); unfold unitN; rw [List.map_cons, List.sum_cons]
    omega
theorem sl_back {w w' : World} {a a2 : Option Addr} {n n2 c c2 : Nat} {cs cs2 : List Value} (h : Sl w' a2 n2 c2 1 cs2) (k : Sl w a n c 1 cs) (hn : n2 ≤ n) (hin : In a2 a) (hb : Below w.heap.size w w') : Sl w a2 n2 c2 1 cs2 := ⟨h.len, h.le, h.max, fun i hi => by
  obtain ⟨b, off, e, hlt, hc⟩ := h.lies i hi; obtain ⟨b2, off2, e2, hlt2, _⟩ := k.lies i (by omega); obtain ⟨y, hy, hyb⟩ := hin _ e; rw [e2] at hy; injection hy with hy; have hbb : b2 = b := by rw [← hy] at hyb; exact hyb
  have hlt3 : b < w.heap.size := by omega
  exact ⟨b, off, e, hlt3, fun j v hv => (hb.cell (p := ⟨b, off + j, none⟩) hlt3).symm.trans (hc j v hv)⟩, h.fit⟩
theorem blkR_wf {p : PtM} {last : Int} {f : Nat} : ∀ {l : List Cod} {B : List Int} {b r : List Int}, blkR p last f l B = some (b, r) → ∀ y ∈ b, (Lit.int .i64 y).wf = true := by
  induction f with
  | zero => intro l B b r h; cases h
  | succ f ih =>
    intro l B b r h; unfold blkR at h
    split at h
    · cases h
    · split at h
      · rename_i q hq
        split at h
        · cases h
        · injection h with h
          injection h with h1 _; rw [← h1]; exact (blockS_ok hq).2
      · split at h
        · exact ih h
        · cases h
def RdQ (s : ScT) (bb : List Int) (w : World) (e : Ending) (w' : World) : Prop :=
  ((∃ n : Nat, readS s bb = .error n ∧ e = .returned (.tuple #[.slice none 0 0, .int .i64 n, .int .i64 2])) ∨ ∃ bl a n c bs, readS s bb = .ok bl ∧ e = .returned (.tuple #[.slice a n c, .int .i64 0, .int .i64 0]) ∧ BpsR w' a n c bs ∧ bs.map (·.1) = bl) ∧ Below w.heap.size w w'
theorem RdQ.err {s : ScT} {bb : List Int} {w w' : World} {e : Ending} {n : Nat} (hr : readS s bb = .error n) (he : e = .returned (.tuple #[.slice none 0 0, .int .i64 n, .int .i64 2])) (hb : Below w.heap.size w w') : RdQ s bb w e w' := ⟨.inl ⟨n, hr, he⟩, hb⟩
theorem RdQ.ok {s : ScT} {bb : List Int} {w w' : World} {e : Ending} {bl : List (List (List Int))} {a : Option Addr} {n c : Nat} {bs : List BpM} (hr : readS s bb = .ok bl) (he : e = .returned (.tuple #[.slice a n c, .int .i64 0, .int .i64 0])) (hbs : BpsR w' a n c bs) (hbl : bs.map (·.1) = bl) (hb : Below w.heap.size w w') : RdQ s bb w e w' := ⟨.inr ⟨bl, a, n, c, bs, hr, he, hbs, hbl⟩, hb⟩
set_option maxRecDepth 100000 in
set_option maxHeartbeats 4000000 in
theorem read12_any (s : ScT) (pa ba : Option Addr) (pn pc bn bc : Nat) (bb : List Int) (w : World) (hs : PtsR w pa pn pc s.ps) (hb : Sl w ba bn bc 1 (ints .u8 bb)) (hbb : Byt bb) (hbn : bn ≤ 1000) (hba : ∀ x, ba = some x → x.block < w.heap.size) (hmay : mayS s = true) :
    Calls Try.prog 30 #[.agg #[.int .i64 s.ax, .int .i64 s.dn, .slice pa pn pc, .int .i64 s.iv], .slice ba bn bc] w (RdQ s bb w) := by
  obtain ⟨iB, hiB, hzB0, hzB1, hzB2⟩ := info_parts infoBz; obtain ⟨iR, hiR, hzR0, hzR1, hzR2⟩ := info_parts infoRow; obtain ⟨i1, hi, hz0, hz1, hz2⟩ := info_parts infoI; have hl := hs.ilen; have hbl := hb.ilen; obtain ⟨htop, hpts, hsum⟩ := mayS_parts hmay; have hpn4 : pn ≤ 4 := by omega
  have hpn1 : 1 ≤ pn := by omega
  have hU12 := fun W (h : Below w.heap.size w W) => runit12_any s pa pn pc W (hs.mono h) hpts hpn4; have hO12 := fun W (h : Below w.heap.size w W) => rorder12_any s pa pn pc W (hs.mono h) hmay; obtain ⟨a, ha⟩ : ∃ a : Nat, s.ax = a := ⟨s.ax.toNat, by omega⟩; obtain ⟨d, hd⟩ : ∃ d : Nat, s.dn = d := ⟨s.dn.toNat, by omega⟩; have ha512 : 1 ≤ a ∧ a ≤ 512 := by omega
  have hd512 : 1 ≤ d ∧ d ≤ 512 := by omega
  have hR12 := fun n W hn => rrest12_any (a : Int) (d : Int) s.iv pa pn pc n W (by omega) (by omega) hn; rw [ha, hd] at hU12 hO12 ⊢; have b1 := Blk.new w 24 #[.int .i64 (a : Int), .int .i64 (d : Int), .slice pa pn pc, .int .i64 s.iv]; have hb1 := (Below.refl w.heap.size w).alloc (Nat.le_refl _) (.cells #[.int .i64 (a : Int), .int .i64 (d : Int), .slice pa pn pc, .int .i64 s.iv] 24); obtain ⟨W1, hW1⟩ : ∃ W1, w.alloc (.cells #[.int .i64 (a : Int), .int .i64 (d : Int), .slice pa pn pc, .int .i64 s.iv] 24) = W1 := ⟨_, rfl⟩; rw [hW1] at b1 hb1; have hcs : ∀ W, Blk W w.heap.size 24 #[.int .i64 (a : Int), .int .i64 (d : Int), .slice pa pn pc, .int .i64 s.iv] → W.cell? ⟨w.heap.size, 0, none⟩ = some (.int .i64 (a : Int)) ∧ W.cell? ⟨w.heap.size, 1, none⟩ = some (.int .i64 (d : Int)) ∧ W.cell? ⟨w.heap.size, 2, none⟩ = some (.slice pa pn pc) ∧ W.cell? ⟨w.heap.size, 3, none⟩ = some (.int .i64 s.iv) := fun W b => ⟨b.cell rfl, b.cell rfl, b.cell rfl, b.cell rfl⟩; obtain ⟨P, R, hpc, hMk, hbeg⟩ := begin_piece bb (-1); have hpb := fun p h => piece_byt hbb (m := -1) (p := p) h; have HP := rpieces_any ba bn bc bb W1 (hb.mono hb1) hbb hbn (fun x hx => Nat.lt_of_lt_of_le (hba x hx) hb1.size); rw [hpc] at HP hpb; rw [hbl] at hpb; clear hsum; have hs' := Lib.hid hs; have hb' := Lib.hid hb; have hbb' := Lib.hid hbb; have hl' := Lib.hid hl; have hbl' := Lib.hid hbl; have hmay' := Lib.hid hmay; have htop' := Lib.hid htop; have hpts' := Lib.hid hpts; have hU12' := Lib.hid hU12; have hO12' := Lib.hid hO12; have ha' := Lib.hid ha; have hd' := Lib.hid hd; have hR12' := Lib.hid hR12; have b1' := Lib.hid b1; have hb1' := Lib.hid hb1; have hW1' := Lib.hid hW1; have hcs' := Lib.hid hcs; have hpc' := Lib.hid hpc; have hMk' := Lib.hid hMk; have hbeg' := Lib.hid hbeg; have hpb' := Lib.hid hpb; have HP' := Lib.hid HP; have hba' := Lib.hid hba; clear hs hb hbb hl hbl hmay htop hpts hU12 hO12 ha hd hR12 b1 hb1 hW1 hcs hpc hMk hbeg hpb HP hba
  go_enter Try.func30, Try.ntmps30
  go_upto_region 1 with fail
  rw [hW1'.out]
  go_wp2_with fail
  refine HP'.out.mono ?_; rintro e w2 ⟨ao, no, co, l, rfl, hPc, hmap, hb2⟩; have hbw2 := hb1'.out.trans (hb2.mono hb1'.out.size); have b2 := b1'.out.late hb2
  obtain ⟨⟨⟨P0, m0⟩, a0, n0, c0⟩, hl0⟩ : ∃ p0, l[0]? = some p0 := by
    cases l with
    | nil => cases hmap
    | cons p0 l => exact ⟨p0, rfl⟩
  obtain rfl : P0 = P := by
    have := congrArg (fun z => (z[0]?).map (·.1)) hmap; simp only [List.getElem?_map, hl0, List.getElem?_cons_zero, Option.map_some] at this; injection this
  obtain ⟨g0, o0, rfl, hg0, f0, f1⟩ := hPc.elem hl0; have s0 := hPc.ok _ (List.mem_of_getElem? hl0); simp only [Nat.zero_mul, Nat.add_zero] at f0 f1 s0; have hP0 := hpb'.out _ (List.mem_cons_self ..); simp only at hP0; have hP0l := s0.ilen; have hnol := hPc.ilen; have hn01 : n0 ≤ 1000 := by omega
  have HB := rbits_any a0 n0 c0 P0 w2 s0 hn01 hP0.2; have hno0 : 0 < no := by rw [← hnol]; exact (List.getElem?_eq_some_iff.1 hl0).1
  clear hb2 f1; have hbw2' := Lib.hid hbw2; have b2' := Lib.hid b2; have hmap' := Lib.hid hmap; have hPc' := Lib.hid hPc; have s0' := Lib.hid s0; have hl0' := Lib.hid hl0; have hP0' := Lib.hid hP0; have HB' := Lib.hid HB; have hnol' := Lib.hid hnol; clear hbw2 b2 hmap hPc s0 hl0 hP0 HB hnol
  go_wp2_with fail
  refine HB'.out.mono ?_; rintro e w3 ⟨aB, nB, cB, rfl, hnB, hoB, hb3⟩; have hbw3 := hbw2'.out.trans (hb3.mono hbw2'.out.size); have b3 := b2'.out.late hb3; have sB := (Sl.of_own hoB).1
  have hBlt : ∀ x, aB = some x → x.block < w3.heap.size := fun x hx => by
    subst hx
    rcases hoB.2 with ⟨h, _⟩ | ⟨g, cap, cur, h, _, hg, _⟩
    · cases h
    · injection h with h _ _
      injection h with h; rw [h]; exact (Array.getElem?_eq_some_iff.1 hg).1
  have hPc3 := hPc'.out.mono hb3; have f0 := (hb3.cell (p := ⟨g0, o0, none⟩) hg0).trans f0; obtain ⟨Ty, ff, hnn, hbel, hsurj⟩ := later_worlds w3; have HD := fun W (h : Below w3.heap.size w3 W) => rdata_any a0 n0 c0 P0 W ((s0'.out.mono hb3).mono h) (by omega); have hg03 : g0 < w3.heap.size := Nat.lt_of_lt_of_le hg0 hb3.size; have q0 : ∀ s, (ff s).cell? ⟨g0, o0, none⟩ = some (.slice a0 n0 c0) := fun s => ((hbel s).cell (p := ⟨g0, o0, none⟩) hg03).trans f0; have HS := Lib.hid (hsurj _ ((Below.refl _ _).drew)); obtain ⟨D0, hD0⟩ : ∃ D, (plainS P0).2 = D := ⟨_, rfl⟩; rw [hD0] at HD; clear hb3 hoB f0; have hBlt' := Lib.hid hBlt; have hbw3' := Lib.hid hbw3; have b3' := Lib.hid b3; have sB' := Lib.hid sB; have hPc3' := Lib.hid hPc3; have HD' := Lib.hid HD; have hbel' := Lib.hid hbel; have hsurj' := Lib.hid hsurj; have hD0' := Lib.hid hD0; have hnB' := Lib.hid hnB; clear hBlt hbw3 b3 sB hPc3 HD hbel hsurj hD0 hnB
  go_upto_region 4 with fail
  refine wp_quiet_in ff (by kernel_rfl) (by kernel_rfl) HS.out ?_
  iterate 12 (go_big_quiet_step ((go_at_call 106; refine (HD'.out _ (hbel'.out _)).mono ?_; rintro e w3 ⟨rfl, hb3⟩; exact ⟨rfl, hsurj'.out _ ((hbel'.out _).trans (hb3.mono (hbel'.out _).size))⟩)))
  refine wpQuiet_nil ?_; intro sx; have hb4 := hbel'.out sx; obtain ⟨w4, hw4⟩ : ∃ W, ff sx = W := ⟨_, rfl⟩; rw [hw4] at hb4 ⊢; have hbw4 := hbw3'.out.trans (hb4.mono hbw3'.out.size); have b4 := b3'.out.late hb4; have sB4 := sB'.out.mono hb4; have hPc4 := hPc3'.out.mono hb4; have k2 : w4.cell? ⟨w.heap.size, 2, none⟩ = some (.slice pa pn pc) := b4.cell rfl; have hal5 := (Below.refl w4.heap.size w4).alloc (Nat.le_refl _) (.cells (ints .i64 (List.replicate pn 0)).toArray 3); have bL := Blk.new w4 3 (ints .i64 (List.replicate pn 0)).toArray; obtain ⟨w5, hw5⟩ : ∃ W, w4.alloc (.cells (ints .i64 (List.replicate pn 0)).toArray 3) = W := ⟨_, rfl⟩; obtain ⟨gl, hgl⟩ : ∃ g, w4.heap.size = g := ⟨_, rfl⟩; rw [hw5] at hal5; rw [hw5, hgl] at bL; have hbw5 := hbw4.trans (hal5.mono hbw4.size); have b5 := b4.late hal5; have sB5 := sB4.mono hal5; have hPc5 := hPc4.mono hal5; have hg5 : w.heap.size ≤ gl := by rw [← hgl]; exact hbw4.size
  have hal45 := hal5; have h34 := hb4.size; clear hb4 q0 hw4 hal5 b4 sB4; have hbw4' := Lib.hid hbw4; have bL' := Lib.hid bL; have hbw5' := Lib.hid hbw5; have b5' := Lib.hid b5; have sB5' := Lib.hid sB5; have hPc5' := Lib.hid hPc5; have hw5' := Lib.hid hw5; have hgl' := Lib.hid hgl; have hg5' := Lib.hid hg5; have hPc4' := Lib.hid hPc4; have hal45' := Lib.hid hal45; have h34' := Lib.hid h34; clear hbw4 bL hbw5 b5 sB5 hPc5 hw5 hgl hg5 hPc4 hal45 h34
  go_upto_region 6 with (at_make; refine wpList_make_row _ rfl _ _ 35 rfl 3 i1 (.int .i64 0) Try.underlying35 hi hz0 hz1 rfl .i64 .i64 pn rfl rfl (by rw [hz2]; omega) (by omega) ?_; rw [made_ints, hw5'.out, hgl'.out])
  clear k2; have hdr := zeroB_take s; simp only [ha'.out, hd'.out, Int.toNat_natCast] at hdr; have hdr' := Lib.hid hdr; clear hdr
  go_wp2
  go_loopw [12, 13] (fun ov xv wr => ∃ (k : Nat) (a3 : Option Addr) (c3 : Nat) (L : List (Nat × List (List Int))), k ≤ pn ∧ xv = .int .i64 k ∧ ov = .slice a3 k c3 ∧ Hid (OutM w5.heap.size wr a3 k c3 L) ∧ Hid (L.map (·.2) = (zeroB s).take k) ∧ Hid (Below w5.heap.size w5 wr)) (fun _ xv _ => pn - (intOf xv).toNat)
  case atStart => exact ⟨0, none, 0, [], by omega, rfl, rfl, Lib.hid ⟨own_nil _ _ _ _, (fun i x hx => by cases hx), (fun i j x y hx => by cases hx)⟩, Lib.hid rfl, Lib.hid (Below.refl _ _)⟩
  case round =>
    rename World => wo
    obtain ⟨k, a3, c3, L, hk, rfl, rfl, hout, hlm, hbel⟩ := hrel; have hbo := b5'.out.late hbel.out; obtain ⟨k0, k1, k2, k3⟩ := hcs'.out wo hbo
    by_cases hlt : k < pn
    · obtain ⟨p, hp⟩ : ∃ p, s.ps[k]? = some p := ⟨_, List.getElem?_eq_getElem (by rw [hl'.out]; exact hlt)⟩
      have hbwo := hbw5'.out.trans (hbel.out.mono hbw5'.out.size); obtain ⟨pb, o, rfl, hbbk, f⟩ := (hs'.out.mono hbwo).elem hp; have hpm := mayPt_bd (hpts'.out k p hp); have hdrk := hdr'.out k p hp; obtain ⟨h, hh⟩ : ∃ h : Nat, p.1 = h := ⟨p.1.toNat, by omega⟩; obtain ⟨v, hv⟩ : ∃ v : Nat, p.2.1 = v := ⟨p.2.1.toNat, by omega⟩; rw [hh, hv] at hpm; rw [hh, hv, Int.toNat_natCast, Int.toNat_natCast] at hdrk; have f0 : wo.cell? ⟨pb, o + k * 36, none⟩ = some (.int .i64 h) := by have := f 0 (.int .i64 p.1) rfl; rw [hh] at this; exact this
      have f1 : wo.cell? ⟨pb, o + k * 36 + 1, none⟩ = some (.int .i64 v) := by have := f 1 (.int .i64 p.2.1) rfl; rw [hv] at this; exact this
      obtain ⟨x, y, z, hz, hze, e1, e2, e3⟩ := doc_steps (h := h) (v := v) ha512.2 hd512.2 (by omega) (by omega); rw [hze] at hdrk; have hDq := (Below.refl wo.heap.size wo).drew; obtain ⟨wD, hwD⟩ : ∃ W, wo.drew = W := ⟨_, rfl⟩; rw [hwD] at hDq; obtain ⟨Ty2, f2, hnn2, hpr2, hsurj2⟩ := pr_worlds (fun W => Blk W w.heap.size 24 #[.int .i64 (a : Int), .int .i64 (d : Int), .slice (some ⟨pb, o, none⟩) pn pc, .int .i64 s.iv] ∧ W.cell? ⟨pb, o + k * 36, none⟩ = some (.int .i64 h) ∧ W.cell? ⟨pb, o + k * 36 + 1, none⟩ = some (.int .i64 v)) wo ⟨hbo, f0, f1⟩; have HS := Lib.hid (hsurj2 wD ⟨hbo.late hDq, (hDq.cell (p := ⟨pb, o + k * 36, none⟩) hbbk).trans f0, (hDq.cell (p := ⟨pb, o + k * 36 + 1, none⟩) hbbk).trans f1⟩); have q0 : ∀ u, (f2 u).cell? ⟨w.heap.size, 0, none⟩ = some (.int .i64 (a : Int)) := fun u => (hcs'.out _ (hpr2 u).1).1; have q1 : ∀ u, (f2 u).cell? ⟨w.heap.size, 1, none⟩ = some (.int .i64 (d : Int)) := fun u => (hcs'.out _ (hpr2 u).1).2.1; have q2 : ∀ u, (f2 u).cell? ⟨w.heap.size, 2, none⟩ = some (.slice (some ⟨pb, o, none⟩) pn pc) := fun u => (hcs'.out _ (hpr2 u).1).2.2.1; have q3 : ∀ u, (f2 u).cell? ⟨pb, o + k * 36, none⟩ = some (.int .i64 h) := fun u => (hpr2 u).2.1; have q4 : ∀ u, (f2 u).cell? ⟨pb, o + k * 36 + 1, none⟩ = some (.int .i64 v) := fun u => (hpr2 u).2.2; clear k0 k1 k3 f hpm; have hkeep : ∀ W, Below wo.heap.size wo W → ∃ s, W = f2 s := fun W h => hsurj2 W ⟨hbo.late h, (h.cell (p := ⟨pb, o + k * 36, none⟩) hbbk).trans f0, (h.cell (p := ⟨pb, o + k * 36 + 1, none⟩) hbbk).trans f1⟩; have hmade : madeCells (Value.agg z64).cells (z * 64) = (flatB (List.replicate z (List.replicate 64 0))).toArray := made_flat z; have hal2 := (Below.refl wD.heap.size wD).alloc (Nat.le_refl _) (.cells (flatB (List.replicate z (List.replicate 64 0))).toArray 129); have bM := Blk.new wD 129 (flatB (List.replicate z (List.replicate 64 0))).toArray; obtain ⟨W2, hW2⟩ : ∃ W, wD.alloc (.cells (flatB (List.replicate z (List.replicate 64 0))).toArray 129) = W := ⟨_, rfl⟩; rw [hW2] at hal2 bM; have hd2 := hDq.trans (hal2.mono hDq.size); have hal3 := (Below.refl W2.heap.size W2).alloc (Nat.le_refl _) (.cells #[.slice (some ⟨wD.heap.size, 0, none⟩) z z] 126); have s4 := Sl.new W2 126 1 1 #[.slice (some ⟨wD.heap.size, 0, none⟩) z z] (0, 0) (by decide) rfl; obtain ⟨W3, hW3⟩ : ∃ W, W2.alloc (.cells #[.slice (some ⟨wD.heap.size, 0, none⟩) z z] 126) = W := ⟨_, rfl⟩; rw [hW3] at hal3 s4; have hd3 := hd2.trans (hal3.mono hd2.size); have hout3 := hout.out.late hd3; have bM3 := bM.late hal3; have HS2 := Lib.hid (hkeep W2 hd2); have HS3 := Lib.hid (hkeep W3 hd3); have hfresh : ∀ (i : Nat) x, L[i]? = some x → x.1 ≠ wD.heap.size := fun i x hx => by have := (hout.out.blk i x hx).2.1.lt; have := hDq.size; omega
      have hbel3 := hbel.out.trans (hd3.mono hbel.out.size); have hbs3 := hbel3.size; have hgD : w5.heap.size ≤ wD.heap.size := Nat.le_trans hbel.out.size hDq.size; have hbo3 := hbo.late hd3; have hf03 := (hd3.cell (p := ⟨pb, o + k * 36, none⟩) hbbk).trans f0; have hf13 := (hd3.cell (p := ⟨pb, o + k * 36 + 1, none⟩) hbbk).trans f1
      have hpbw : pb < w.heap.size := by
        obtain ⟨pb2, o2, e, hlt2, _⟩ := hs'.out.elem hp; injection e with e; injection e with e _ _; rw [e]; exact hlt2
      clear hal2 hal3 bM hd2; have hbo' := Lib.hid hbo; have hbwo' := Lib.hid hbwo; have hdrk' := Lib.hid hdrk; have hh' := Lib.hid hh; have hv' := Lib.hid hv; have hze' := Lib.hid hze; have hwD' := Lib.hid hwD; have hDq' := Lib.hid hDq; have hpr2' := Lib.hid hpr2; have hp' := Lib.hid hp; have hkeep' := Lib.hid hkeep; have hW2' := Lib.hid hW2; have hW3' := Lib.hid hW3; have hout3' := Lib.hid hout3; have bM3' := Lib.hid bM3; have s4' := Lib.hid s4; have hd3' := Lib.hid hd3; have hfresh' := Lib.hid hfresh; have hbel3' := Lib.hid hbel3; have hbs3' := Lib.hid hbs3; have hgD' := Lib.hid hgD; have hbo3' := Lib.hid hbo3; have hf03' := Lib.hid hf03; have hf13' := Lib.hid hf13; have hpbw' := Lib.hid hpbw; have hsurj2' := Lib.hid hsurj2; clear hbo hbwo hdrk hh hv hze hwD hDq hpr2 hp hkeep hW2 hW3 hout3 bM3 s4 hd3 hfresh hbel3 hbs3 hgD hbo3 hf03 hf13 hpbw hsurj2
      go_upto_region 10 with fail
      clear k2; refine held_begin (S := fun W => ∃ s, W = f2 s) (by kernel_rfl) 24 rfl ?_; rw [hwD'.out]; refine held_take [0, 1, 2, 3, 4, 5, 6, 7, 8, 9, 10, 11, 12, 13, 14, 15, 16, 17, 18, 19] 4 (by kernel_rfl) (fun d _ _ _ _ h => by cases d <;> exact h) (by kernel_rfl) (by kernel_rfl) (by kernel_rfl) HS.out ?_; simp only [pickL, List.map_cons, List.map_nil, List.getD_cons_succ, List.getD_cons_zero]
      iterate 20 (go_big_quiet_step (fail))
      refine wpQuiet_nil ?_; clear q0 q1 q2 q3 q4 f0 f1; refine held_one 20 3 (by kernel_rfl) (by kernel_rfl) ?_; simp only [pickL, List.map_cons, List.map_nil, List.getD_cons_succ, List.getD_cons_zero]
      go_wp2_with (at_make; refine wpList_make_rowN _ rfl _ _ 126 rfl 129 iB (.agg z64) Try.underlying126 hiB hzB0 .i64 .i64 z rfl rfl (by rw [hzB2]; omega) (by omega) ?_; rw [hzB1, hmade, hW2'.out])
      refine Mid.mk ⟨HS2.out, ?_⟩; refine held_one 21 2 (by kernel_rfl) (by kernel_rfl) ?_; simp only [pickL, List.map_cons, List.map_nil, List.getD_cons_succ, List.getD_cons_zero]
      go_wp2_with fail
      rw [hW3'.out]; refine Mid.mk ⟨HS3.out, ?_⟩; refine held_one 22 1 (by kernel_rfl) (by kernel_rfl) ?_; simp only [pickL, List.map_cons, List.map_nil, List.getD_cons_succ, List.getD_cons_zero]; refine wpList_app3 rfl _ _ 25 rfl w5.heap.size 126 iR _ 1 24 Try.underlying25 hiR hzR0 hzR1 hzR2 rfl (by decide) (.slice a3 k c3) k _ rfl hout3'.out.own (some ⟨W2.heap.size, 0, none⟩) 1 1 [.slice (some ⟨wD.heap.size, 0, none⟩) z z] rfl s4'.out (by simp [Value.oneCell']) (by omega) (by decide) hbs3'.out ?_; intro a7 c7 w7 ho7 hg7 hk7; have hmg := Mo.of_grown (S := fun j => (Value.slice a3 k c3).ownBlock = some j) hg7 fun j hj => hj; have hol := hout3'.out.own.lt
      have hout5 := hout3'.out.snoc (g := wD.heap.size) (l := List.replicate z (List.replicate 64 0)) hgD'.out bM3'.out (fun b hb => by
        rw [List.eq_of_mem_replicate hb]; exact ⟨List.length_replicate, fun y hy => by rw [List.eq_of_mem_replicate hy]; rfl⟩) hfresh'.out (by
        unfold obV; rw [List.length_replicate]; exact ho7) hg7
      have hb57 : Below w5.heap.size w5 w7 := hbel3'.out.trans (Mo.below hmg hbs3'.out fun j hj e => by have := (hol j e).1; omega); have hnpb : ¬ (Value.slice a3 k c3).ownBlock = some pb := fun e => by have := (hol pb e).1; have := hbw5'.out.size; have := hpbw'.out; omega
      have hpb3 : pb < W3.heap.size := by have := hd3'.out.size; omega
      have HS5 := Lib.hid (hsurj2'.out w7 ⟨hbo3'.out.mo hmg (own_neB hout3'.out.own hbo3'.out (by decide)), (hmg.cell (p := ⟨pb, o + k * 36, none⟩) hpb3 hnpb).trans hf03'.out, (hmg.cell (p := ⟨pb, o + k * 36 + 1, none⟩) hpb3 hnpb).trans hf13'.out⟩)
      have hlm5 : List.map (fun x : Nat × List (List Int) => x.2) (L ++ [(wD.heap.size, List.replicate z (List.replicate 64 0))]) = (zeroB s).take (k + 1) := by
        rw [List.map_append, hdrk'.out]; have h1 : List.map (fun x : Nat × List (List Int) => x.2) L = (zeroB s).take k := hlm.out; rw [h1]
        rfl
      clear ho7 hg7 hk7 hmg hol hnpb hpb3; have hout5' := Lib.hid hout5; have hb57' := Lib.hid hb57; have hlm5' := Lib.hid hlm5; clear hout5 hb57 hlm5
      go_wp2_with fail
      refine Mid.mk ⟨HS5.out, ?_⟩; refine held_one 23 0 (by kernel_rfl) (by kernel_rfl) ?_; simp only [pickL, List.map_cons, List.map_nil, List.getD_cons_succ, List.getD_cons_zero]
      go_wp2_with fail
      refine Mid.mk ⟨HS5.out, ?_⟩; refine held_last (by kernel_rfl) ?_
      go_wp2
      go_roundw
      case rel => exact ⟨k + 1, a7, c7, _, by omega, by go_num, rfl, hout5', hlm5', hb57'⟩
      case measure => simp [intOf]; omega
    · have hkn : k = pn := by omega
      subst hkn
      have hlm2 : L.map (·.2) = zeroB s := by
        have h1 := hlm.out; rw [List.take_of_length_le (by unfold zeroB; rw [List.length_map]; have := hl'.out; omega)] at h1; exact h1
      have hbwo := hbw5'.out.trans (hbel.out.mono hbw5'.out.size); obtain ⟨U, hU⟩ : ∃ U, unitN s.ps = U := ⟨_, rfl⟩; have HU := hU12'.out wo hbwo; rw [hU] at HU; have hout0 := hout.out; have sBo := sB5'.out.mono hbel.out; have hPco := hPc5'.out.mono hbel.out; have bLo := bL'.out.late hbel.out; clear hlm hlt; have hlm2' := Lib.hid hlm2; have hbo' := Lib.hid hbo; have hbwo' := Lib.hid hbwo; have HU' := Lib.hid HU; have hout0' := Lib.hid hout0; have sBo' := Lib.hid sBo; have hPco' := Lib.hid hPco; have bLo' := Lib.hid bLo; have hU' := Lib.hid hU; clear hlm2 hbo hbwo HU hout0 sBo hPco bLo hU
      go_wp2_with fail
      refine HU'.out.mono ?_; rintro e wu ⟨rfl, hbu⟩; have hbwu := hbwo'.out.trans (hbu.mono hbwo'.out.size); have bu := hbo'.out.late hbu; have HO := hO12'.out wu hbwu; have houtu := hout0'.out.late hbu; have sBu := sBo'.out.mono hbu; have hPcu := hPco'.out.mono hbu; have bLu := bLo'.out.late hbu; obtain ⟨k0, k1, k2, k3⟩ := hcs'.out wu bu; have h5u := hbel.out.trans (hbu.mono hbel.out.size); clear hbu; have h5u' := Lib.hid h5u; have hbwu' := Lib.hid hbwu; have bu' := Lib.hid bu; have HO' := Lib.hid HO; have houtu' := Lib.hid houtu; have sBu' := Lib.hid sBu; have hPcu' := Lib.hid hPcu; have bLu' := Lib.hid bLu; clear h5u hbwu bu HO houtu sBu hPcu bLu
      go_wp2_with fail
      refine HO'.out.mono ?_; rintro e wv ⟨oa, on, oc, rfl, hoo, hbv⟩; have hbwv := hbwu'.out.trans (hbv.mono hbwu'.out.size); have bv := bu'.out.late hbv; have houtv := houtu'.out.late hbv; have sBv := sBu'.out.mono hbv; have hPcv := hPcu'.out.mono hbv; have bLv := bLu'.out.late hbv; have sO := (Sl.of_own hoo).1; have h5v := h5u'.out.trans (hbv.mono h5u'.out.size); have hsuv := hbv.size
      have hob : ∀ x, oa = some x → wu.heap.size ≤ x.block ∧ x.block < wv.heap.size := fun x hx => by
        subst hx
        rcases hoo.2 with ⟨h, _⟩ | ⟨g, cap, cur, h, hB, hg, _⟩
        · cases h
        · injection h with h _ _
          injection h with h; rw [h]; exact ⟨hB, (Array.getElem?_eq_some_iff.1 hg).1⟩
      clear k0 k1 k2 k3 hbv hoo; obtain ⟨k0, k1, k2, k3⟩ := hcs'.out wv bv; obtain ⟨N, hN⟩ : ∃ N, a * d = N := ⟨_, rfl⟩; have hN2 : N ≤ 262144 := by rw [← hN]; exact Nat.le_trans (Nat.mul_le_mul ha512.2 hd512.2) (by omega)
      have eN : IntKind.i64.wrap ((a : Int) * d) = N := by rw [← Int.natCast_mul, hN]; exact wrapN (by omega)
      have hNs : (s.ax * s.dn).toNat = N := by rw [ha'.out, hd'.out, ← Int.natCast_mul, hN]; rfl
      have hN0 : 0 < N := by rw [← hN]; exact Nat.mul_pos (by omega) (by omega)
      clear k2 k3; have hsuv' := Lib.hid hsuv; have hob' := Lib.hid hob; have h5v' := Lib.hid h5v; have hbwv' := Lib.hid hbwv; have bv' := Lib.hid bv; have houtv' := Lib.hid houtv; have sBv' := Lib.hid sBv; have hPcv' := Lib.hid hPcv; have bLv' := Lib.hid bLv; have sO' := Lib.hid sO; have hN' := Lib.hid hN; have hNs' := Lib.hid hNs; clear hsuv hob h5v hbwv bv houtv sBv hPcv bLv sO hN hNs
      by_cases hwh : D0 = n0
      · have hU := hU'.out
        have hst : startR s (rd0 s bb) 0 = some ⟨zeroB s, bitsS (plainS P0).1, R, List.replicate k 0⟩ := by
          rw [startR_zero]
          show (beginS bb).map _ = _
          rw [hbeg'.out, if_pos (by rw [hD0'.out, hP0l]; exact hwh), ← hl'.out]
          rfl
        have hat : RdAt s bb U 0 ⟨zeroB s, bitsS (plainS P0).1, R, List.replicate k 0⟩ := .inl ⟨rfl, hst⟩
        have hD : RdD w4 wv w5.heap.size wu.heap.size w.heap.size #[.int .i64 (a : Int), .int .i64 (d : Int), .slice pa k pc, .int .i64 s.iv] a3 k c3 L aB nB cB gl ⟨zeroB s, bitsS (plainS P0).1, R, List.replicate k 0⟩ := by
          have h45 := hal45'.out.size; have h3 := h34'.out; have hg := hgl'.out; exact ⟨houtv'.out, hlm2'.out, (fun i x hx => (houtu'.out.blk i x hx).2.1.lt), sBv'.out, bitsS_bit _, (fun x hx => .inl (by have := hBlt'.out x hx; omega)), (fun x hx => by have := hBlt'.out x hx; omega), bLv'.out, List.length_replicate, (fun y hy => by rw [List.eq_of_mem_replicate hy]; decide), bv'.out, by omega, h45, hal45'.out.trans (h5v'.out.mono h45), hsuv'.out⟩
        have hpts2 := hpts'.out; have hul := unitS_len (a := a) hpts2 (by rw [hl'.out]; exact hpn4) 0; rw [unitS_many, hU] at hul; have hUN : unitsS a s.ps N = unitsS s.ax.toNat s.ps (s.ax * s.dn).toNat := by rw [hNs'.out, ha'.out]; rfl
        have hol : (unitsS a s.ps N).length = N * U := by rw [unitsS_len, hU]
        have hon : on = 2 * (N * U) := by
          have h1 := sO'.out.ilen; unfold orderS at h1; rw [placesI_len, ← hUN, hol] at h1
          omega
        obtain ⟨NU, hNU⟩ : ∃ q, N * U = q := ⟨_, rfl⟩; have hNU2 : NU ≤ 16777216 := by rw [← hNU]; exact Nat.le_trans (Nat.mul_le_mul hN2 hul) (by decide)
        rw [hNU] at hon; have hmk0 : (l.map (·.1)).drop (0 + 1) = tailP R := by rw [hmap'.out]; rfl
        subst hon
        have hB0 : nB ≤ 8000 := by
          have h1 := sBv'.out.ilen; rw [bitsS_len] at h1; have h2 := plainS_le P0.length P0 (Nat.le_refl _); have h3 := hP0'.out.1
          omega
        have hwh1 : ((D0 : Int) == (n0 : Int)) = true := by simp; omega
        clear hwh hul; have hU' := Lib.hid hU; have hst' := Lib.hid hst; have hat' := Lib.hid hat; have hD' := Lib.hid hD; have hpts2' := Lib.hid hpts2; have hUN' := Lib.hid hUN; have hol' := Lib.hid hol; have hNU' := Lib.hid hNU; have hmk0' := Lib.hid hmk0; clear hU hst hat hD hpts2 hUN hol hNU hmk0
        go_wp2
        go_loopw [8, 9, 11, 17, 18, 19, 20, 21, 22] (fun av lv tv kv _ _ _ _ _ wr => ∃ (kk at_ nB cB gl : Nat) (aB : Option Addr) (st : RdT) (L : List (Nat × List (List Int))), kk ≤ NU ∧ at_ < no ∧ nB ≤ 8000 ∧ kv = .int .i64 kk ∧ av = .int .i64 at_ ∧ lv = .slice aB nB cB ∧ tv = .slice (some ⟨gl, 0, none⟩) k k ∧ Hid (RdAt s bb U kk st) ∧ Hid (RdD w4 wr w5.heap.size wu.heap.size w.heap.size #[.int .i64 (a : Int), .int .i64 (d : Int), .slice pa k pc, .int .i64 s.iv] a3 k c3 L aB nB cB gl st) ∧ Hid ((l.map (·.1)).drop (at_ + 1) = tailP st.rest ∧ Mk12 st.rest) ∧ Hid (Sl wr oa (2 * NU) oc 1 (ints .i64 (orderS s)) ∧ (gl < wu.heap.size ∨ wv.heap.size ≤ gl) ∧ wv.heap.size ≤ wr.heap.size) ∧ Hid (∀ (i : Nat) p x, s.ps[i]? = some p → L[i]? = some x → x.2.length = a * p.1.toNat * d * p.2.1.toNat)) (fun _ _ _ kv _ _ _ _ _ _ => NU - (intOf kv).toNat)
        case atStart =>
          have hglt : gl < wu.heap.size := by
            have h1 := bL'.out.lt; have h2 := h5u'.out.size
            omega
          exact ⟨0, 0, nB, cB, gl, aB, _, L, by omega, hno0, hB0, rfl, rfl, rfl, rfl, hat', hD', Lib.hid ⟨hmk0'.out, hMk'.out⟩, Lib.hid ⟨sO'.out, .inl hglt, Nat.le_refl _⟩, Lib.hid fun i p x hp hx => by
            have h1 : (L.map (·.2))[i]? = some x.2 := by rw [List.getElem?_map, hx]; rfl
            rw [hlm2'.out] at h1; unfold zeroB at h1; rw [List.getElem?_map, hp, ha'.out, hd'.out] at h1; simp only [Option.map_some, Int.toNat_natCast] at h1; injection h1 with h1; rw [← h1, List.length_replicate]⟩
        case round =>
          rename World => wr
          obtain ⟨kk, at_, nB, cB, gl, aB, st, L, hkk, hato, hnB8, rfl, rfl, rfl, rfl, hat, hD, hmk, hso, hshp⟩ := hrel
          by_cases hlt : kk < NU
          · have hU0 : 0 < U := by rw [← hU'.out]; exact unitN_pos hpts2'.out (by rw [hl'.out]; exact hpn1)
            obtain ⟨n, hn⟩ : ∃ n, kk / U = n := ⟨_, rfl⟩; obtain ⟨r, hr⟩ : ∃ r, kk % U = r := ⟨_, rfl⟩; have hnN : n < N := by rw [← hn]; exact Nat.div_lt_of_lt_mul (by rw [Nat.mul_comm, hNU'.out]; exact hlt)
            have enq : Int.tdiv (kk : Int) (U : Int) = (n : Int) := by rw [← hn]; exact (Int.ofNat_tdiv kk U).symm
            have enr : Int.tmod (kk : Int) (U : Int) = (r : Int) := by rw [← hr]; exact (Int.ofNat_tmod kk U).symm
            have hUz : ¬ (U : Int) = 0 := by omega
            have hn26 : n ≤ 262144 := by omega
            have hrk : r ≤ kk := by rw [← hr]; exact Nat.mod_le _ _
            have HR := hR12'.out n wr hn26; obtain ⟨k0, k1, k2, k3⟩ := hcs'.out wr hD.out.sb; obtain ⟨T, hT⟩ : ∃ T : Bool, (decide (r = 0) && resS s.iv n) = T := ⟨_, rfl⟩; obtain ⟨RT, hRT⟩ : ∃ T : Bool, resS s.iv n = T := ⟨_, rfl⟩; rw [hRT] at HR; have hkb : kk < 16777216 := by omega
            have hU0' := Lib.hid hU0; have hn' := Lib.hid hn; have hr' := Lib.hid hr; have hT' := Lib.hid hT; have HR' := Lib.hid HR; have hRT' := Lib.hid hRT; have hnN' := Lib.hid hnN; clear hU0 hn hr hT HR hRT hnN
            go_upto_region 20 with fail
            go_cut [104] from 86 to 196 (fun v wx => v = .bool T ∧ Hid (Below wr.heap.size wr wx))
            case first =>
              by_cases hr0 : r = 0
              · have hTR : RT = T := by rw [← hT'.out, ← hRT'.out, hr0]; rfl
                have hr1 : ((r : Int) == 0) = true := by rw [hr0]; rfl
                clear hr0; have hTR' := Lib.hid hTR; clear hTR
                go_wp2_with fail
                refine HR'.out.mono ?_; rintro e wx ⟨rfl, hb⟩; have Hb := Lib.hid hb; clear hb
                go_wp2
                go_meet
                case rel => exact ⟨by rw [hTR'.out], Hb⟩
              · have hTR : T = false := by rw [← hT'.out, decide_eq_false hr0]; rfl
                have hr1 : ((r : Int) == 0) = false := by simp; omega
                clear hr0; have hTR' := Lib.hid hTR; clear hTR
                go_wp2
                go_meet
                case rel => exact ⟨by rw [hTR'.out], Lib.hid (Below.refl _ _)⟩
            case rest =>
              obtain ⟨rfl, hbx⟩ := hcut
              rename World => wq
              have hDx := hD.out.late hbx.out; have hsx : Hid (Sl wq oa (2 * NU) oc 1 (ints .i64 (orderS s)) ∧ (gl < wu.heap.size ∨ wv.heap.size ≤ gl) ∧ wv.heap.size ≤ wq.heap.size) := Lib.hid ⟨hso.out.1.mono hbx.out, hso.out.2.1, Nat.le_trans hso.out.2.2 hbx.out.size⟩; clear k0 k1 k2 k3 enq enr hUz hrk hbx hD hso; have hDx' := Lib.hid hDx; clear hDx
              go_upto_if 104 with fail
              go_cut [8, 9, 11] from 86 to 196 (fun v8 v9 v11 wx => ∃ (at_ nB cB gl : Nat) (aB : Option Addr) (st : RdT), v8 = .int .i64 at_ ∧ v9 = .slice aB nB cB ∧ v11 = .slice (some ⟨gl, 0, none⟩) k k ∧ at_ < no ∧ nB ≤ 8000 ∧ Hid (RdIn s bb U kk st) ∧ Hid (RdD w4 wx w5.heap.size wu.heap.size w.heap.size #[.int .i64 (a : Int), .int .i64 (d : Int), .slice pa k pc, .int .i64 s.iv] a3 k c3 L aB nB cB gl st) ∧ Hid ((l.map (·.1)).drop (at_ + 1) = tailP st.rest ∧ Mk12 st.rest) ∧ Hid (Sl wx oa (2 * NU) oc 1 (ints .i64 (orderS s)) ∧ (gl < wu.heap.size ∨ wv.heap.size ≤ gl) ∧ wv.heap.size ≤ wx.heap.size))
              case first =>
                cases T with
                | false =>
                  have hin := hat.out.stay hU'.out hU0'.out hn'.out hr'.out hT'.out; have hin' := Lib.hid hin; clear hin
                  go_wp2
                  go_meet
                  case rel => exact ⟨at_, nB, cB, gl, aB, st, rfl, rfl, rfl, hato, hnB8, hin', hDx', hmk, hsx⟩
                | true =>
                  obtain ⟨hn0, hiv0, hdv, hfold, hst⟩ := hat.out.turn hU'.out hn'.out hr'.out hT'.out; obtain ⟨A1, hA1⟩ : ∃ A1, at_ + 1 = A1 := ⟨_, rfl⟩; have hmk1 := hmk.out; rw [hA1] at hmk1; have ea : (at_ : Int) + 1 = (A1 : Int) := by omega
                  have hA1n : A1 ≤ no := by omega
                  have hPx := hPc4'.out.mono hDx'.out.bel; have hnomax : no ≤ 9223372036854775807 := Nat.le_trans hPcv'.out.sl.le hPcv'.out.sl.max; have hA1' := Lib.hid hA1; have hmk1' := Lib.hid hmk1; have hPx' := Lib.hid hPx; have hdv' := Lib.hid hdv; have hfold' := Lib.hid hfold; have hst' := Lib.hid hst; clear hA1 hmk1 hPx hdv hfold hst
                  go_upto_region 22 with fail
                  clear ea
                  go_cut [144] from 86 to 196 (fun v wx => Hid (Below wq.heap.size wq wx) ∧ ((v = .bool true ∧ Hid (startR s st (kk / U) = none)) ∨ (v = .bool false ∧ A1 < no ∧ Hid (∃ q R2, l[A1]? = some q ∧ Mk12 R2 ∧ (l.map (·.1)).drop (A1 + 1) = tailP R2 ∧ startR s st (kk / U) = some ⟨st.bl, bitsS (plainS q.1.1).1, R2, List.replicate s.ps.length 0⟩))))
                  case first =>
                    obtain ⟨Ty2, f2, hnn2, hb2, hsurj2⟩ := later_worlds wq; have HS := Lib.hid (hsurj2 _ ((Below.refl _ _).drew)); have HF := fun W (h : Below wq.heap.size wq W) => rfilled_any aB nB cB st.B W (hDx'.out.bit.mono h) hDx'.out.bl (by omega); obtain ⟨F, hF⟩ : ∃ F, fillS st.B = F := ⟨_, rfl⟩; rw [hF] at HF
                    cases F with
                    | false =>
                      have hno : startR s st (kk / U) = none := by rw [hst'.out, againR_no (fun h => by rw [hF] at h; cases h.1)]; rfl
                      have HF' := Lib.hid HF; have hF' := Lib.hid hF; have hno' := Lib.hid hno; have hb2' := Lib.hid hb2; have hsurj2' := Lib.hid hsurj2; clear HF hF hno hb2 hsurj2; refine wp_quiet_in f2 (by kernel_rfl) (by kernel_rfl) HS.out ?_
                      iterate 38 (go_big_quiet_step (first
                        | (go_at_call 107; refine (HF'.out _ (hb2'.out _)).mono ?_; rintro e w3 ⟨rfl, hb3⟩; exact ⟨rfl, hsurj2'.out _ ((hb2'.out _).trans (hb3.mono (hb2'.out _).size))⟩)
                        | rfl))
                      refine wpQuiet_nil ?_; intro u
                      go_wp2
                      go_meet
                      case rel => exact ⟨Lib.hid (hb2'.out u), .inl ⟨rfl, hno'⟩⟩
                    | true =>
                      by_cases hlen : A1 < no
                      · obtain ⟨q, hq⟩ : ∃ q, l[A1]? = some q := ⟨_, List.getElem?_eq_getElem (by rw [hnol'.out]; exact hlen)⟩
                        obtain ⟨gP, oP, eP, hgP, f0, f1⟩ := hPx'.out.elem hq; injection eP with eP; injection eP with e1 e2 _; subst e1; subst e2; have sq := hPx'.out.ok q (List.mem_of_getElem? hq); obtain ⟨R2, hR2, htl, hag⟩ := again_piece (iv := s.iv) (n := n) (B := st.B) hmk1'.out.2 (tail_piece hmk1'.out.1 hq); obtain ⟨⟨P1, mk⟩, a1, n1, c1⟩ := q; simp only at f0 f1 sq hag; have sql := sq.ilen; obtain ⟨I, hI⟩ : ∃ I : Nat, s.iv = I := ⟨s.iv.toNat, by omega⟩
                        obtain ⟨Q1, hQ1⟩ : ∃ Q1, n / I = Q1 + 1 := ⟨n / I - 1, by
                          have h1 := Nat.div_add_mod n I; have h2 := hdv'.out; rw [hI, Int.toNat_natCast] at h2; rw [h2] at h1; have h3 : n / I ≠ 0 := fun h => by rw [h, Nat.mul_zero] at h1; omega
                          exact (Nat.sub_add_cancel (Nat.pos_of_ne_zero h3)).symm⟩
                        obtain ⟨R8, hR8⟩ : ∃ R8, Q1 % 8 = R8 := ⟨_, rfl⟩
                        have hrst : rstS s.iv n = 208 + (R8 : Int) := by
                          unfold rstS; rw [hI, Int.toNat_natCast, hQ1, Nat.add_sub_cancel, hR8]
                          omega
                        rw [hrst] at hag; have hIz : ¬ (I : Int) = 0 := by omega
                        have eQ : Int.tdiv (n : Int) (I : Int) = (Q1 : Int) + 1 := by rw [← Int.ofNat_tdiv, hQ1]; rfl
                        have hQn : Q1 + 1 ≤ n := by rw [← hQ1]; exact Nat.div_le_self _ _
                        have eR : Int.tmod (Q1 : Int) 8 = (R8 : Int) := by rw [← hR8]; exact (Int.ofNat_tmod Q1 8).symm
                        have hRQ : R8 ≤ 7 := by omega
                        have y3 : ∀ u, (f2 u).cell? ⟨w.heap.size, 3, none⟩ = some (.int .i64 (I : Int)) := fun u => by rw [← hI]; exact (hcs'.out _ (hDx'.out.sb.late (hb2 u))).2.2.2
                        have y0 : ∀ u, (f2 u).cell? ⟨g0, o0 + A1 * 2, none⟩ = some (.slice a1 n1 c1) := fun u => ((hb2 u).cell (p := ⟨g0, _, none⟩) hgP).trans f0; have y1 : ∀ u, (f2 u).cell? ⟨g0, o0 + A1 * 2 + 1, none⟩ = some (.int .i64 mk) := fun u => ((hb2 u).cell (p := ⟨g0, _, none⟩) hgP).trans f1
                        have HDt := fun W (h : Below wq.heap.size wq W) => rdata_any a1 n1 c1 P1 W (sq.mono h) (by
                          have h1 := (hpb'.out (P1, mk) (by rw [← hmap'.out]; exact List.mem_map_of_mem (List.mem_of_getElem? hq))).1; simp only at h1
                          omega)
                        obtain ⟨D1, hD1⟩ : ∃ D1, (plainS P1).2 = D1 := ⟨_, rfl⟩; have hD1n : D1 ≤ n1 := by rw [← hD1, ← sql]; exact (plainS_le P1.length P1 (Nat.le_refl _)).2
                        rw [hD1] at HDt hag; have hg1 : ¬ (no : Int) ≤ (A1 : Int) := by omega
                        by_cases hmq : mk = (R8 : Int)
                        · subst hmq
                          have hm0 : ((R8 : Int) != (R8 : Int)) = false := by simp
                          by_cases hdn : D1 = n1
                          · have hyes : startR s st (kk / U) = some ⟨st.bl, bitsS (plainS P1).1, R2, List.replicate s.ps.length 0⟩ := by rw [hst'.out, hag, if_pos ⟨hF, by omega, by rw [sql]; exact hdn⟩]; rfl
                            have hdl : n1 ≤ D1 := by omega
                            have hfin : ∃ q R2, l[A1]? = some q ∧ Mk12 R2 ∧ (l.map (·.1)).drop (A1 + 1) = tailP R2 ∧ startR s st (kk / U) = some ⟨st.bl, bitsS (plainS q.1.1).1, R2, List.replicate s.ps.length 0⟩ := ⟨_, R2, hq, hR2, htl, hyes⟩; clear hdn hag hyes hrst hR2 htl; have HF' := Lib.hid HF; have hF' := Lib.hid hF; have HDt' := Lib.hid HDt; have hD1' := Lib.hid hD1; have hq' := Lib.hid hq; have sq' := Lib.hid sq; have hb2' := Lib.hid hb2; have hsurj2' := Lib.hid hsurj2; have hI' := Lib.hid hI; have hQ1' := Lib.hid hQ1; have hR8' := Lib.hid hR8; have hfin' := Lib.hid hfin; clear HF hF HDt hD1 hq sq hb2 hsurj2 hI hQ1 hR8 hfin; refine wp_quiet_in f2 (by kernel_rfl) (by kernel_rfl) HS.out ?_
                            iterate 38 (go_big_quiet_step (first
                              | (go_at_call 107; refine (HF'.out _ (hb2'.out _)).mono ?_; rintro e w3 ⟨rfl, hb3⟩; exact ⟨rfl, hsurj2'.out _ ((hb2'.out _).trans (hb3.mono (hb2'.out _).size))⟩)
                              | (go_at_call 106; refine (HDt'.out _ (hb2'.out _)).mono ?_; rintro e w3 ⟨rfl, hb3⟩; exact ⟨rfl, hsurj2'.out _ ((hb2'.out _).trans (hb3.mono (hb2'.out _).size))⟩)
                              | rfl))
                            refine wpQuiet_nil ?_; intro u
                            go_wp2
                            go_meet
                            case rel => exact ⟨Lib.hid (hb2'.out u), .inr ⟨by first | rfl | exact congrArg Value.bool (decide_eq_false (Nat.not_lt.2 hdl)), hlen, hfin'⟩⟩
                          · have hno : startR s st (kk / U) = none := by rw [hst'.out, hag, if_neg (fun h => hdn (by rw [← sql]; exact h.2.2))]; rfl
                            have hdl : D1 < n1 := by omega
                            clear hdn hag hrst hR2 htl; have HF' := Lib.hid HF; have hF' := Lib.hid hF; have HDt' := Lib.hid HDt; have hD1' := Lib.hid hD1; have hq' := Lib.hid hq; have sq' := Lib.hid sq; have hb2' := Lib.hid hb2; have hsurj2' := Lib.hid hsurj2; have hI' := Lib.hid hI; have hQ1' := Lib.hid hQ1; have hR8' := Lib.hid hR8; have hno' := Lib.hid hno; clear HF hF HDt hD1 hq sq hb2 hsurj2 hI hQ1 hR8 hno; refine wp_quiet_in f2 (by kernel_rfl) (by kernel_rfl) HS.out ?_
                            iterate 38 (go_big_quiet_step (first
                              | (go_at_call 107; refine (HF'.out _ (hb2'.out _)).mono ?_; rintro e w3 ⟨rfl, hb3⟩; exact ⟨rfl, hsurj2'.out _ ((hb2'.out _).trans (hb3.mono (hb2'.out _).size))⟩)
                              | (go_at_call 106; refine (HDt'.out _ (hb2'.out _)).mono ?_; rintro e w3 ⟨rfl, hb3⟩; exact ⟨rfl, hsurj2'.out _ ((hb2'.out _).trans (hb3.mono (hb2'.out _).size))⟩)
                              | rfl))
                            refine wpQuiet_nil ?_; intro u
                            go_wp2
                            go_meet
                            case rel => exact ⟨Lib.hid (hb2'.out u), .inl ⟨by first | rfl | exact congrArg Value.bool (decide_eq_true hdl), hno'⟩⟩
                        · have hno : startR s st (kk / U) = none := by rw [hst'.out, hag, if_neg (fun h => hmq (by have := h.2.1; omega))]; rfl
                          have hm0 : (mk != (R8 : Int)) = true := by simp [hmq]
                          clear hmq hag hrst hR2 htl; have HF' := Lib.hid HF; have hF' := Lib.hid hF; have HDt' := Lib.hid HDt; have hD1' := Lib.hid hD1; have hq' := Lib.hid hq; have sq' := Lib.hid sq; have hb2' := Lib.hid hb2; have hsurj2' := Lib.hid hsurj2; have hI' := Lib.hid hI; have hQ1' := Lib.hid hQ1; have hR8' := Lib.hid hR8; have hno' := Lib.hid hno; clear HF hF HDt hD1 hq sq hb2 hsurj2 hI hQ1 hR8 hno; refine wp_quiet_in f2 (by kernel_rfl) (by kernel_rfl) HS.out ?_
                          iterate 38 (go_big_quiet_step (first
                            | (go_at_call 107; refine (HF'.out _ (hb2'.out _)).mono ?_; rintro e w3 ⟨rfl, hb3⟩; exact ⟨rfl, hsurj2'.out _ ((hb2'.out _).trans (hb3.mono (hb2'.out _).size))⟩)
                            | (go_at_call 106; refine (HDt'.out _ (hb2'.out _)).mono ?_; rintro e w3 ⟨rfl, hb3⟩; exact ⟨rfl, hsurj2'.out _ ((hb2'.out _).trans (hb3.mono (hb2'.out _).size))⟩)
                            | rfl))
                          refine wpQuiet_nil ?_; intro u
                          go_wp2
                          go_meet
                          case rel => exact ⟨Lib.hid (hb2'.out u), .inl ⟨rfl, hno'⟩⟩
                      · have hno : startR s st (kk / U) = none := by rw [hst'.out, again_end (tail_none hmk1'.out.1 (by rw [hnol'.out]; omega))]; rfl
                        have hge : (no : Int) ≤ (A1 : Int) := by omega
                        have HF' := Lib.hid HF; have hF' := Lib.hid hF; have hno' := Lib.hid hno; have hb2' := Lib.hid hb2; have hsurj2' := Lib.hid hsurj2; clear HF hF hno hb2 hsurj2; refine wp_quiet_in f2 (by kernel_rfl) (by kernel_rfl) HS.out ?_
                        iterate 38 (go_big_quiet_step (first
                          | (go_at_call 107; refine (HF'.out _ (hb2'.out _)).mono ?_; rintro e w3 ⟨rfl, hb3⟩; exact ⟨rfl, hsurj2'.out _ ((hb2'.out _).trans (hb3.mono (hb2'.out _).size))⟩)
                          | rfl))
                        refine wpQuiet_nil ?_; intro u
                        go_wp2
                        go_meet
                        case rel => exact ⟨Lib.hid (hb2'.out u), .inl ⟨rfl, hno'⟩⟩
                  case rest =>
                    obtain ⟨hbx, hc⟩ := hcut
                    rcases hc with ⟨rfl, hno⟩ | ⟨rfl, hlen, hyes⟩
                    · have hre := rd_err_new hNs'.out hfold'.out (by rw [hn'.out]; exact hnN'.out) hno.out
                      rw [hn'.out] at hre; have hbwx := hbw4'.out.trans ((hDx'.out.late hbx.out).bel.mono hbw4'.out.size); have hre' := Lib.hid hre; have hbwx' := Lib.hid hbwx; clear hre hbwx
                      go_wp2
                      go_ret3
                      exact RdQ.err hre'.out rfl hbwx'.out
                    · obtain ⟨⟨⟨P1, mk⟩, a1, n1, c1⟩, R2, hq, hR2, htl, hs2⟩ := hyes.out
                      have hDc := hDx'.out.late hbx.out; obtain ⟨gP, oP, eP, hgP, f0, f1⟩ := (hPx'.out.mono hbx.out).elem hq; injection eP with eP; injection eP with e1 e2 _; subst e1; subst e2; have sq := (hPx'.out.mono hbx.out).ok _ (List.mem_of_getElem? hq); simp only at f0 f1 sq hs2; have sql := sq.ilen; have hpq := hpb'.out (P1, mk) (by rw [← hmap'.out]; exact List.mem_map_of_mem (List.mem_of_getElem? hq)); simp only at hpq; have HB := rbits_any a1 n1 c1 P1 wc sq (by omega) hpq.2; rw [hl'.out] at hs2
                      have hr0 : kk % U = 0 := by
                        have h1 := hT'.out; rw [Bool.and_eq_true, decide_eq_true_eq] at h1; rw [hr'.out]; exact h1.1
                      have hin := RdIn.of_new hfold'.out hU0'.out hr0 hs2; have hsc := hsx.out.1.mono hbx.out; have hwvc := Nat.le_trans hsx.out.2.2 hbx.out.size; clear f1 hr0 hs2 hyes hbx hq; have hDc' := Lib.hid hDc; have sq' := Lib.hid sq; have hpq' := Lib.hid hpq; have HB' := Lib.hid HB; have hin' := Lib.hid hin; have hsc' := Lib.hid hsc; have hwvc' := Lib.hid hwvc; have hR2' := Lib.hid hR2; have htl' := Lib.hid htl; clear hDc sq hpq HB hin hsc hwvc hR2 htl
                      go_wp2_with fail
                      refine HB'.out.mono ?_; rintro e w6 ⟨a2, n2, c2, rfl, hn2, ho2, hb6⟩; have hD6 := hDc'.out.late hb6; have k2 := (hcs'.out w6 hD6.sb).2.2.1; have hal7 := (Below.refl w6.heap.size w6).alloc (Nat.le_refl _) (.cells (ints .i64 (List.replicate k 0)).toArray 3); have bL7 := Blk.new w6 3 (ints .i64 (List.replicate k 0)).toArray; obtain ⟨w7, hw7⟩ : ∃ W, w6.alloc (.cells (ints .i64 (List.replicate k 0)).toArray 3) = W := ⟨_, rfl⟩; rw [hw7] at hal7 bL7; have hD7 := hD6.late hal7
                      have hfar : ∀ x, a2 = some x → wc.heap.size ≤ x.block ∧ x.block < w6.heap.size := fun x hx => by
                        subst hx
                        rcases ho2.2 with ⟨h, _⟩ | ⟨g, cap, cur, h, hB, hg, _⟩
                        · cases h
                        · injection h with h _ _
                          injection h with h; rw [h]; exact ⟨hB, (Array.getElem?_eq_some_iff.1 hg).1⟩
                      have s7 := (Sl.of_own ho2).1.mono hal7
                      have hDn : RdD w4 w7 w5.heap.size wu.heap.size w.heap.size #[.int .i64 (a : Int), .int .i64 (d : Int), .slice pa k pc, .int .i64 s.iv] a3 k c3 L a2 n2 c2 w6.heap.size ⟨st.bl, bitsS (plainS P1).1, R2, List.replicate k 0⟩ :=
                        ⟨hD7.out, hD7.pl, hD7.lt, s7, bitsS_bit _, (fun x hx => .inr (Nat.le_trans hDc'.out.sz (hfar x hx).1)), (fun x hx => by have := (hfar x hx).2; omega), bL7, List.length_replicate, (fun y hy => by rw [List.eq_of_mem_replicate hy]; decide), hD7.sb, hD6.bel.size, hD7.p54, hD7.bel, hD7.sz⟩
                      have hsn : Sl w7 oa (2 * NU) oc 1 (ints .i64 (orderS s)) := (hsc'.out.mono hb6).mono hal7; have hwv6 := Nat.le_trans hwvc'.out hb6.size; have hwv7 := Nat.le_trans hwv6 hal7.size; have hmkn : (l.map (·.1)).drop (A1 + 1) = tailP R2 ∧ Mk12 R2 := ⟨htl'.out, hR2'.out⟩
                      have hn28 : n2 ≤ 8000 := by
                        rw [hn2, bitsS_len]; have h2 := plainS_le P1.length P1 (Nat.le_refl _); have h3 := hpq'.out.1
                        omega
                      clear hn2 ho2 hb6 hD6 hal7 bL7 hD7 hfar s7 f0; have hw7' := Lib.hid hw7; have hDn' := Lib.hid hDn; have hsn' := Lib.hid hsn; have hwv6' := Lib.hid hwv6; have hwv7' := Lib.hid hwv7; have hmkn' := Lib.hid hmkn; clear hw7 hDn hsn hwv6 hwv7 hmkn
                      go_wp2_with (at_make; refine wpList_make_row _ rfl _ _ 35 rfl 3 i1 (.int .i64 0) Try.underlying35 hi hz0 hz1 rfl .i64 .i64 k rfl rfl (by rw [hz2]; omega) (by omega) ?_; rw [made_ints, hw7'.out])
                      go_meet
                      case rel => exact ⟨A1, n2, c2, w6.heap.size, a2, _, rfl, rfl, rfl, hlen, hn28, hin', hDn', hmkn', Lib.hid ⟨hsn'.out, .inr hwv6'.out, hwv7'.out⟩⟩
              case rest =>
                clear hato hnB8 hat hDx' hmk hsx; obtain ⟨at_, nB, cB, gl, aB, st, rfl, rfl, rfl, hato, hnB8, hin, hD, hmk, hso⟩ := hcut
                rename World => wi
                obtain ⟨y, p, hy, hp, hyn, _, _, _⟩ := order_step (a := a) (d := d) (k := kk) ha512.1 hpts2'.out hU'.out (by rw [hN'.out, hNU'.out]; exact hlt); rw [hN'.out] at hy; have hyu : (unitS s.ax.toNat s.ps (kk / U))[kk % U]? = some y := by rw [ha'.out, Int.toNat_natCast, ← unitsS_get hU'.out N (by rw [hNU'.out]; exact hlt)]; exact hy
                obtain ⟨ob, oo, hoa, hobb, fo⟩ := hso.out.1.at (show 2 * kk < 2 * NU by omega); have hord : orderS s = placesI (unitsS a s.ps N) := by unfold orderS; rw [← hUN'.out]
                have hpl := placesI_get _ kk y hy; have q0 : wi.cell? ⟨ob, oo + 2 * kk, none⟩ = some (.int .i64 (y.1 : Int)) := fo (2 * kk) _ (by rw [hord]; unfold ints; rw [List.getElem?_map, hpl.1]; rfl); have q1 : wi.cell? ⟨ob, oo + (2 * kk + 1), none⟩ = some (.int .i64 (y.2 : Int)) := fo (2 * kk + 1) _ (by rw [hord]; unfold ints; rw [List.getElem?_map, hpl.2]; rfl); have hyk : y.1 < k := by rw [← hl'.out]; exact (List.getElem?_eq_some_iff.1 hp).1
                obtain ⟨x, hx⟩ : ∃ x, L[y.1]? = some x := ⟨_, List.getElem?_eq_getElem (by rw [hD.out.out.len]; exact hyk)⟩; have hxl : y.2 < x.2.length := by rw [hshp.out y.1 p x hp hx]; exact hyn
                have hbwi := hbw4'.out.trans (hD.out.bel.mono hbw4'.out.size); obtain ⟨pb, o, hpa, hpbb, f⟩ := (hs'.out.mono hbwi).elem hp; have hpk := hs'.out.ok p (List.mem_of_getElem? hp); have hrdB := hin.out.block hp; have hpm := hpts2'.out y.1 p hp
                have hm1 : mayH p.2.2.1 = true := by
                  cases h : mayH p.2.2.1 with
                  | true => rfl
                  | false => rw [mayPt_dc h] at hpm; cases hpm
                have hm2 : mayH p.2.2.2 = true := by
                  cases h : mayH p.2.2.2 with
                  | true => rfl
                  | false => rw [mayPt_ac h] at hpm; cases hpm
                obtain ⟨B, hB⟩ : ∃ B, (pC p).toArray = B := ⟨_, rfl⟩; have hcl := pC_len hpk; obtain ⟨y0, y1⟩ := y; simp only at q0 q1 hyk hx hxl hp hyn hrdB f; obtain ⟨la, hla⟩ : ∃ v, st.last.getD y0 0 = v := ⟨_, rfl⟩
                have hls : 0 ≤ sizeS la := by
                  rw [← hla, List.getD_eq_getElem?_getD, List.getElem?_eq_getElem (by rw [hD.out.ll]; exact hyk)]; exact hD.out.ls _ (List.getElem_mem _)
                rw [hla] at hrdB
                have hlac : (ints .i64 st.last).toArray[y0]? = some (.int .i64 la) := by
                  rw [List.getElem?_toArray, ints_get (by rw [hD.out.ll]; exact hyk), hla]
                have hDq := (Below.refl wi.heap.size wi).drew; obtain ⟨wD, hwD⟩ : ∃ W, wi.drew = W := ⟨_, rfl⟩; rw [hwD] at hDq; have hDD := hD.out.late hDq; have HB := fun W (h : Below wD.heap.size wD W) => rblock12_any p B hB aB nB cB st.B la W ((hpk.mono (hbwi.trans (hDq.mono hbwi.size))).mono h) hm1 hm2 (hDD.bit.mono h) hDD.bl hls (by omega); have hqi : ∀ W, Below wi.heap.size wi W → Blk W w.heap.size 24 #[.int .i64 (a : Int), .int .i64 (d : Int), .slice pa k pc, .int .i64 s.iv] ∧ Blk W gl 3 (ints .i64 st.last).toArray ∧ ∀ j v, (pC p)[j]? = some v → W.cell? ⟨pb, o + y0 * 36 + j, none⟩ = some v := fun W h => ⟨hD.out.sb.late h, hD.out.la.late h, fun j v hv => (h.cell (p := ⟨pb, _, none⟩) hpbb).trans (f j v hv)⟩; obtain ⟨Tz, f2, hnn2, hpr2, hsurj2⟩ := pr_worlds (fun W => Blk W w.heap.size 24 #[.int .i64 (a : Int), .int .i64 (d : Int), .slice pa k pc, .int .i64 s.iv] ∧ Blk W gl 3 (ints .i64 st.last).toArray ∧ ∀ j v, (pC p)[j]? = some v → W.cell? ⟨pb, o + y0 * 36 + j, none⟩ = some v) wi (hqi wi (Below.refl _ _)); have HS := Lib.hid (hsurj2 wD (hqi wD hDq)); have z2 : ∀ u, (f2 u).cell? ⟨w.heap.size, 2, none⟩ = some (.slice pa k pc) := fun u => (hcs'.out _ (hpr2 u).1).2.2.1; have zl : ∀ u, (f2 u).cell? ⟨gl, y0, none⟩ = some (.int .i64 la) := fun u => (hpr2 u).2.1.cell hlac
                have zp : ∀ W, (∃ u, W = f2 u) → ∀ j v, (pC p)[j]? = some v → W.cell? ⟨pb, o + y0 * 36 + j, none⟩ = some v := fun W hW j v hv => by
                  obtain ⟨u, rfl⟩ := hW; exact (hpr2 u).2.2 j v hv
                subst hoa; subst hpa; clear hpm hm1 hm2 hls hlac fo hord hpl f hyn; have hy' := Lib.hid hy; have hyu' := Lib.hid hyu; have hp' := Lib.hid hp; have hx' := Lib.hid hx; have hxl' := Lib.hid hxl; have hbwi' := Lib.hid hbwi; have hpk' := Lib.hid hpk; have hrdB' := Lib.hid hrdB; have hB' := Lib.hid hB; have hcl' := Lib.hid hcl; have hla' := Lib.hid hla; have hwD' := Lib.hid hwD; have hDq' := Lib.hid hDq; have hDD' := Lib.hid hDD; have HB' := Lib.hid HB; have hqi' := Lib.hid hqi; have hpr2' := Lib.hid hpr2; have hsurj2' := Lib.hid hsurj2; have zp' := Lib.hid zp; have hobb' := Lib.hid hobb; have q1' := Lib.hid q1; have hpbb' := Lib.hid hpbb; clear hy hyu hp hx hxl hbwi hpk hrdB hB hcl hla hwD hDq hDD HB hqi hpr2 hsurj2 zp hobb q1 hpbb
                go_upto_region 27 with fail
                clear q0
                go_cut [20, 21, 22] from 86 to 196 (fun v20 v21 v22 wx => ∃ (g : Nat) (Z : List Int) (a2 : Option Addr) (n2 c2 : Nat) (ok : Bool), v20 = .pointer (some ⟨g, 0, none⟩) ∧ v21 = .slice a2 n2 c2 ∧ v22 = .bool ok ∧ Hid (Z.length = 64) ∧ Hid (Below wD.heap.size wD wx) ∧ Hid (wD.heap.size ≤ g) ∧ Hid (Blk wx g 129 (ints .i64 Z).toArray) ∧ Hid (ok = false → blkR p la 65 [] st.B = none) ∧ Hid (ok = true → ∃ k, blkR p la 65 [] st.B = some (Z, st.B.drop k) ∧ Sl wD a2 n2 c2 1 (ints .i64 (st.B.drop k)) ∧ n2 ≤ nB ∧ 0 ≤ sizeS (Z.getD 0 0) ∧ In a2 aB))
                case first =>
                  refine held_begin (S := fun W => ∃ s, W = f2 s) (by kernel_rfl) 19 rfl ?_; rw [hwD'.out]; refine held_take [0, 1, 2, 3, 4, 5, 6, 7, 8, 9] 9 (by kernel_rfl) (fun d _ _ _ _ h => by cases d <;> exact h) (by kernel_rfl) (by kernel_rfl) (by kernel_rfl) HS.out ?_; simp only [pickL, List.map_cons, List.map_nil, List.getD_cons_succ, List.getD_cons_zero]
                  iterate 4 (go_big_quiet_step (fail))
                  refine wpQuiet_load_at rfl 47 (.tmp 165) rfl pb (o + y0 * 36) rfl (pC p) B hB'.out _ zp'.out Try.underlying47 rfl 36 infoP hcl'.out ?_; simp only [Act.put, List.setIfInBounds_toArray, List.set_cons_succ, List.set_cons_zero]
                  iterate 5 (go_big_quiet_step (fail))
                  refine wpQuiet_nil ?_; clear z2 zl; refine held_two 10 15 8 (by kernel_rfl) (by kernel_rfl) ?_ ?_
                  all_goals simp only [pickL, List.map_cons, List.map_nil, List.getD_cons_succ, List.getD_cons_zero]
                  case refine_1 =>
                    go_wp2_with fail
                    refine (HB'.out wD (Below.refl _ _)).mono ?_; intro e w6 hres; obtain ⟨Z, a2, n2, c2, ok, rfl, hZ, hb6, hno, hyes⟩ := hres.both; obtain ⟨A, hA⟩ : ∃ A, (ints .i64 Z).toArray = A := ⟨_, rfl⟩; rw [hA]; have hAs : A.size = 64 := by rw [← hA]; exact ints_size hZ
                    have hone : A.all (·.oneCell') = true := by rw [← hA]; exact ints_one'
                    have HS := Lib.hid (hsurj2'.out w6 (hqi'.out w6 (hDq'.out.trans (hb6.mono hDq'.out.size)))); have hal7 := (Below.refl w6.heap.size w6).alloc (Nat.le_refl _) (.cells z64 129); have b7 := Blk.new w6 129 z64; obtain ⟨w7, hw7⟩ : ∃ W, w6.alloc (.cells z64 129) = W := ⟨_, rfl⟩; rw [hw7] at hal7 b7; have hb7 := hb6.trans (hal7.mono hb6.size); have HS7 := Lib.hid (hsurj2'.out w7 (hqi'.out w7 (hDq'.out.trans (hb7.mono hDq'.out.size)))); unfold z64 at hw7; have b8 := Blk.rowH b7 A; have hb8 := rowBelow hb7 (g := w6.heap.size) hb6.size A; have HS8 := Lib.hid (hsurj2'.out (w7.setRow w6.heap.size A) (hqi'.out _ (hDq'.out.trans (hb8.mono hDq'.out.size)))); have hg := hb6.size; have hyes8 := hyes; clear hres hyes hb6 hal7 hb7; have hA' := Lib.hid hA; have hAs' := Lib.hid hAs; have hone' := Lib.hid hone; have hZ' := Lib.hid hZ; have hno' := Lib.hid hno; have hyes8' := Lib.hid hyes8; have hw7' := Lib.hid hw7; have b7' := Lib.hid b7; have b8' := Lib.hid b8; have hb8' := Lib.hid hb8; have hg' := Lib.hid hg; clear hA hAs hone hZ hno hyes8 hw7 b7 b8 hb8 hg
                    go_wp2_with fail
                    refine Mid.mk ⟨HS.out, ?_⟩; refine held_take [11, 12, 13, 14] 4 (by kernel_rfl) (fun d _ _ _ _ h => by cases d <;> exact h) (by kernel_rfl) (by kernel_rfl) (by kernel_rfl) HS.out ?_; simp only [pickL, List.map_cons, List.map_nil, List.getD_cons_succ, List.getD_cons_zero]
                    iterate 4 (go_big_quiet_step (fail))
                    refine wpQuiet_nil ?_; refine held_one 15 3 (by kernel_rfl) (by kernel_rfl) ?_; simp only [pickL, List.map_cons, List.map_nil, List.getD_cons_succ, List.getD_cons_zero]
                    go_wp2_with fail
                    rw [hw7'.out]; refine Mid.mk ⟨HS7.out, ?_⟩; refine held_one 16 2 (by kernel_rfl) (by kernel_rfl) ?_; simp only [pickL, List.map_cons, List.map_nil, List.getD_cons_succ, List.getD_cons_zero]
                    go_wp2_with (refine wpList_store_row rfl 129 (.tmp 20) (.tmp 173) rfl w6.heap.size A rfl rfl 129 _ b7'.out (by rw [hAs'.out]; exact infoB64) (by rw [hAs'.out]; rfl) hone'.out ?_)
                    refine Mid.mk ⟨HS8.out, ?_⟩; refine held_one 17 1 (by kernel_rfl) (by kernel_rfl) ?_; simp only [pickL, List.map_cons, List.map_nil, List.getD_cons_succ, List.getD_cons_zero]
                    go_wp2_with fail
                    refine Mid.mk ⟨HS8.out, ?_⟩; refine held_one 18 0 (by kernel_rfl) (by kernel_rfl) ?_; simp only [pickL, List.map_cons, List.map_nil, List.getD_cons_succ, List.getD_cons_zero]
                    go_wp2_with fail
                    refine Mid.mk ⟨HS8.out, ?_⟩; refine held_last (by kernel_rfl) ?_
                    go_wp2
                    go_meet
                    case rel => exact ⟨w6.heap.size, Z, a2, n2, c2, ok, rfl, rfl, rfl, hZ', hb8', hg', Lib.hid (by rw [hA'.out]; exact b8'.out), hno', hyes8'⟩
                  case refine_2 =>
                    have hal6 := (Below.refl wD.heap.size wD).alloc (Nat.le_refl _) (.cells z64 129); have b6 := Blk.new wD 129 z64; obtain ⟨w6, hw6⟩ : ∃ W, wD.alloc (.cells z64 129) = W := ⟨_, rfl⟩; rw [hw6] at hal6 b6; unfold z64 at hw6; have HS6 := Lib.hid (hsurj2'.out w6 (hqi'.out w6 (hDq'.out.trans (hal6.mono hDq'.out.size)))); have hw6' := Lib.hid hw6; have b6' := Lib.hid b6; have hal6' := Lib.hid hal6; clear hw6 b6 hal6
                    go_wp2_with fail
                    rw [hw6'.out]; refine Mid.mk ⟨HS6.out, ?_⟩; refine held_one 10 7 (by kernel_rfl) (by kernel_rfl) ?_; simp only [pickL, List.map_cons, List.map_nil, List.getD_cons_succ, List.getD_cons_zero]
                    go_wp2_with fail
                    refine (HB'.out w6 hal6'.out).mono ?_; intro e w7 hres; obtain ⟨Z, a2, n2, c2, ok, rfl, hZ, hb7, hno, hyes⟩ := hres.both; obtain ⟨A, hA⟩ : ∃ A, (ints .i64 Z).toArray = A := ⟨_, rfl⟩; rw [hA]; have hAs : A.size = 64 := by rw [← hA]; exact ints_size hZ
                    have hone : A.all (·.oneCell') = true := by rw [← hA]; exact ints_one'
                    have b7 := b6'.out.late hb7; have hb67 := hal6'.out.trans (hb7.mono hal6'.out.size); have HS7 := Lib.hid (hsurj2'.out w7 (hqi'.out w7 (hDq'.out.trans (hb67.mono hDq'.out.size)))); have b8 := Blk.rowH b7 A; have hb8 := rowBelow hb67 (g := wD.heap.size) (Nat.le_refl _) A; have HS8 := Lib.hid (hsurj2'.out (w7.setRow wD.heap.size A) (hqi'.out _ (hDq'.out.trans (hb8.mono hDq'.out.size))))
                    have hyes8 : ok = true → ∃ k, blkR p la 65 [] st.B = some (Z, st.B.drop k) ∧ Sl wD a2 n2 c2 1 (ints .i64 (st.B.drop k)) ∧ n2 ≤ nB ∧ 0 ≤ sizeS (Z.getD 0 0) ∧ In a2 aB := fun h => by
                      obtain ⟨k, h1, h2, h3, h4, h5⟩ := hyes h; exact ⟨k, h1, sl_back h2 hDD'.out.bit h3 h5 hal6'.out, h3, h4, h5⟩
                    clear hres hyes hb7 hb67; have hA' := Lib.hid hA; have hAs' := Lib.hid hAs; have hone' := Lib.hid hone; have hZ' := Lib.hid hZ; have hno' := Lib.hid hno; have hyes8' := Lib.hid hyes8; have b7' := Lib.hid b7; have b8' := Lib.hid b8; have hb8' := Lib.hid hb8; clear hA hAs hone hZ hno hyes8 b7 b8 hb8
                    go_wp2_with fail
                    refine Mid.mk ⟨HS7.out, ?_⟩; have HS := HS7; refine held_take [11, 12, 13, 14] 3 (by kernel_rfl) (fun d _ _ _ _ h => by cases d <;> exact h) (by kernel_rfl) (by kernel_rfl) (by kernel_rfl) HS.out ?_; simp only [pickL, List.map_cons, List.map_nil, List.getD_cons_succ, List.getD_cons_zero]
                    iterate 4 (go_big_quiet_step (fail))
                    refine wpQuiet_nil ?_; refine held_one 16 2 (by kernel_rfl) (by kernel_rfl) ?_; simp only [pickL, List.map_cons, List.map_nil, List.getD_cons_succ, List.getD_cons_zero]
                    go_wp2_with (refine wpList_store_row rfl 129 (.tmp 20) (.tmp 173) rfl wD.heap.size A rfl rfl 129 _ b7'.out (by rw [hAs'.out]; exact infoB64) (by rw [hAs'.out]; rfl) hone'.out ?_)
                    refine Mid.mk ⟨HS8.out, ?_⟩; refine held_one 17 1 (by kernel_rfl) (by kernel_rfl) ?_; simp only [pickL, List.map_cons, List.map_nil, List.getD_cons_succ, List.getD_cons_zero]
                    go_wp2_with fail
                    refine Mid.mk ⟨HS8.out, ?_⟩; refine held_one 18 0 (by kernel_rfl) (by kernel_rfl) ?_; simp only [pickL, List.map_cons, List.map_nil, List.getD_cons_succ, List.getD_cons_zero]
                    go_wp2_with fail
                    refine Mid.mk ⟨HS8.out, ?_⟩; refine held_last (by kernel_rfl) ?_
                    go_wp2
                    go_meet
                    case rel => exact ⟨wD.heap.size, Z, a2, n2, c2, ok, rfl, rfl, rfl, hZ', hb8', Lib.hid (Nat.le_refl _), Lib.hid (by rw [hA'.out]; exact b8'.out), hno', hyes8'⟩
                case rest =>
                  obtain ⟨g, Z, a2, n2, c2, ok, rfl, rfl, rfl, hZ, hbl, hg, bZ, hno, hyes⟩ := hcut
                  cases ok with
                  | false =>
                    have hnone := hno.out rfl; have hre := hin.out.err hNs'.out hU'.out (by rw [hNU'.out]; exact hlt) hyu'.out (by rw [hrdB'.out, hnone]; rfl); rw [hn'.out] at hre; have hbwx := hbwi'.out.trans (((hDq'.out.trans (hbl.out.mono hDq'.out.size))).mono hbwi'.out.size); have hre' := Lib.hid hre; have hbwx' := Lib.hid hbwx; clear hre hbwx
                    go_wp2
                    go_ret3
                    exact RdQ.err hre'.out rfl hbwx'.out
                  | true =>
                    obtain ⟨kx, hblk, s2, hn2, hsz, hin2⟩ := hyes.out rfl; have hok := hin.out.ok hyu'.out (st2 := ⟨setB st.bl (y0, y1) Z, st.B.drop kx, st.rest, st.last.set y0 (Z.getD 0 0)⟩) (by rw [hrdB'.out, hblk]; rfl); have hwfZ := blkR_wf hblk; have hDc := hDD'.out.late hbl.out
                    have hDb := hDc.bits (s2.mono hbl.out) (hDc.bl.drop kx) (fun x hx => by
                      obtain ⟨y, hy, e⟩ := hin2 x hx; rw [← e]; exact hDc.far y hy) (fun x hx => by
                      obtain ⟨y, hy, e⟩ := hin2 x hx; rw [← e]; exact hDc.fl y hy)
                    obtain ⟨v0, hv0⟩ : ∃ v, Z.getD 0 0 = v := ⟨_, rfl⟩; rw [hv0] at hsz hok; have hD6 := hDb.last y0 hsz; have hbt6 := (But.refl gl wc).set y0 (.int .i64 v0)
                    have hgn : g ≠ gl := by
                      have h1 := hDD'.out.la.lt; have h2 := hg.out
                      omega
                    have bZ6 := bZ.out.but hbt6 hgn; have f0 : wc.cell? ⟨g, 0, none⟩ = some (.int .i64 v0) := bZ.out.cell (by rw [List.getElem?_toArray, ints_get (by rw [hZ.out]; decide), hv0]); have f1 : wc.cell? ⟨gl, y0, none⟩ = some (.int .i64 la) := hDc.la.cell (by rw [List.getElem?_toArray, ints_get (by rw [hDc.ll]; exact hyk), hla'.out]); have f2 := hDc.la.frozen y0; have hs6 : (wc.setCell ⟨gl, y0, none⟩ (.int .i64 v0)).heap.size = wc.heap.size := by simp [World.setCell]
                    obtain ⟨w6, hw6⟩ : ∃ W, wc.setCell ⟨gl, y0, none⟩ (.int .i64 v0) = W := ⟨_, rfl⟩; rw [hw6] at hD6 hbt6 bZ6 hs6
                    have hsO6 : Sl w6 (some ⟨ob, oo, none⟩) (2 * NU) oc 1 (ints .i64 (orderS s)) := (hso.out.1.mono (hDq'.out.trans (hbl.out.mono hDq'.out.size))).but hbt6 (fun x hx => by
                      have h1 := hob'.out x hx; have h2 := hso.out.2.1
                      omega)
                    have hwv6 : wv.heap.size ≤ w6.heap.size := by
                      have h1 := hso.out.2.2; have h2 := hDq'.out.size; have h3 := hbl.out.size
                      omega
                    have hobv := hob'.out _ rfl; simp only at hobv; have hDq2 := (Below.refl w6.heap.size w6).drew; obtain ⟨wE, hwE⟩ : ∃ W, w6.drew = W := ⟨_, rfl⟩; rw [hwE] at hDq2; have hDE := hD6.late hDq2; have hsOE := hsO6.mono hDq2; have bZE := bZ6.late hDq2; have hwvE := Nat.le_trans hwv6 hDq2.size; obtain ⟨go, oq, ha3, hgo, hco, hgx⟩ := hDE.out.cell hx'.out; obtain ⟨hxB, hxblk, hxw⟩ := hDE.out.blk y0 x hx'.out; have hxz := hDE.lt y0 x hx'.out; have hbt : But x.1 wE (wE.setCells x.1 (y1 * 64) (ints .i64 Z)) := but_cells; have hDF := hDE.put hx'.out hxl'.out hZ.out hwfZ; have hobx : ob ≠ x.1 := by omega
                    have hsOF := hsOE.but hbt (fun y hy => by injection hy with hy; rw [← hy]; exact hobx); have hwvF := Nat.le_trans hwvE hbt.size
                    have ngx : g ≠ x.1 := by
                      have h1 := hg.out; have h2 := hDD'.out.sz
                      omega
                    have q1w : w6.cell? ⟨ob, oo + (2 * kk + 1), none⟩ = some (.int .i64 y1) := by
                      have h0 := (hDq'.out.trans (hbl.out.mono hDq'.out.size)).cell (p := ⟨ob, oo + (2 * kk + 1), none⟩) hobb'.out
                      have h1 := hbt6.cell (p := ⟨ob, oo + (2 * kk + 1), none⟩) (by have h3 := (hDq'.out.trans (hbl.out.mono hDq'.out.size)).size; have h4 := hobb'.out; show ob < _; omega) (by
                        have h2 := hso.out.2.1
                        show ob ≠ gl
                        omega)
                      exact h1.trans (h0.trans q1'.out)
                    have hobE : ob < wE.heap.size := by omega
                    have q1E : wE.cell? ⟨ob, oo + (2 * kk + 1), none⟩ = some (.int .i64 y1) := (hDq2.cell (p := ⟨ob, _, none⟩) (Nat.lt_of_lt_of_le hobv.2 hwv6)).trans q1w; obtain ⟨Tz2, f3, hnn3, hpr3, hsurj3⟩ := pr_worlds (fun W => W.cell? ⟨go, oq + y0, none⟩ = some (obV x) ∧ W.cell? ⟨ob, oo + (2 * kk + 1), none⟩ = some (.int .i64 y1) ∧ Blk W g 129 (ints .i64 Z).toArray) wE ⟨hco, q1E, bZE⟩; have HS := Lib.hid (hsurj3 wE ⟨hco, q1E, bZE⟩); have HSE := Lib.hid (hsurj3 (wE.setCells x.1 (y1 * 64) (ints .i64 Z)) ⟨(hbt.cell (p := ⟨go, oq + y0, none⟩) hgo hgx).trans hco, (hbt.cell (p := ⟨ob, oo + (2 * kk + 1), none⟩) hobE hobx).trans q1E, bZE.but hbt ngx⟩)
                    have hshF : ∀ (i : Nat) p z, s.ps[i]? = some p → (L.set y0 (x.1, x.2.set y1 Z))[i]? = some z → z.2.length = a * p.1.toNat * d * p.2.1.toNat := fun i p z hp hz => by
                      by_cases hi : y0 = i
                      · subst hi
                        rw [List.getElem?_set_self (List.getElem?_eq_some_iff.1 hx'.out).1] at hz; injection hz with hz; rw [← hz, List.length_set]; exact hshp.out y0 p x hp hx'.out
                      · rw [List.getElem?_set_ne hi] at hz
                        exact hshp.out i p z hp hz
                    obtain ⟨A, hA⟩ : ∃ A, (ints .i64 Z).toArray = A := ⟨_, rfl⟩; have hAs : A.size = 64 := by rw [← hA]; exact ints_size hZ.out
                    have hone : A.all (·.oneCell') = true := by rw [← hA]; exact ints_one'
                    have hbi : (ints .i64 Z).length = 64 := by rw [ints_len]; exact hZ.out
                    obtain ⟨xg, xl⟩ := x; simp only at hxblk hxB hbt hDF hgx hxz hsOF hwvF HSE hobx ngx hshF hco; have y0c : ∀ u, (f3 u).cell? ⟨go, oq + y0, none⟩ = some (.slice (some ⟨xg, 0, none⟩) xl.length xl.length) := fun u => (hpr3 u).1; have y1c : ∀ u, (f3 u).cell? ⟨ob, oo + (2 * kk + 1), none⟩ = some (.int .i64 y1) := fun u => (hpr3 u).2.1
                    have y3c : ∀ W, (∃ u, W = f3 u) → ∀ j v, (ints .i64 Z)[j]? = some v → W.cell? ⟨g, 0 + j, none⟩ = some v := fun W hW j v hv => by
                      obtain ⟨u, rfl⟩ := hW; exact (hpr3 u).2.2.cell (by rw [Nat.zero_add, List.getElem?_toArray]; exact hv)
                    have hxl2 : y1 < xl.length := hxl'.out
                    have hthere : wE.there xg (y1 * 64) A.size := fun jx hjx => by
                      have hfl := flatB_len (l := xl) fun z hz => (hxw z hz).1; have hle : (y1 + 1) * 64 ≤ xl.length * 64 := Nat.mul_le_mul_right _ hxl2; have hsz : y1 * 64 + jx < (flatB xl).length := by omega
                      refine ⟨?_, hxblk.frozen _⟩; rw [hxblk.cell (v := (flatB xl)[y1 * 64 + jx]) (by rw [List.getElem?_toArray, List.getElem?_eq_getElem hsz])]
                      rfl
                    have hn28 : n2 ≤ 8000 := by omega
                    subst ha3; clear hblk s2 hin2 hwfZ hDc hDb hD6 hbt6 bZ6 hs6 hsO6 hwv6 hDq2 hDE hsOE bZE hwvE hxw hbt hobE q1w q1E hpr3 hsurj3 hv0 hsz hobv hxB hxblk hxz hobx ngx hgo hco hgx; have hok' := Lib.hid hok; have hw6' := Lib.hid hw6; have hwE' := Lib.hid hwE; have hDF' := Lib.hid hDF; have hsOF' := Lib.hid hsOF; have hwvF' := Lib.hid hwvF; have hshF' := Lib.hid hshF; have hA' := Lib.hid hA; have hAs' := Lib.hid hAs; have hone' := Lib.hid hone; have hbi' := Lib.hid hbi; have y3c' := Lib.hid y3c; have hthere' := Lib.hid hthere; have hgn' := Lib.hid hgn; have HSE' := Lib.hid HSE; clear hok hw6 hwE hDF hsOF hwvF hshF hA hAs hone hbi y3c hthere hgn HSE
                    go_upto_region 32 with fail
                    rw [hw6'.out]; clear f0 f1 f2; refine held_begin (S := fun W => ∃ s, W = f3 s) (by kernel_rfl) 13 rfl ?_; rw [hwE'.out]; refine held_take [0, 1, 2, 3, 4, 5, 6, 7, 8, 9, 10, 11] 1 (by kernel_rfl) (fun d _ _ _ _ h => by cases d <;> exact h) (by kernel_rfl) (by kernel_rfl) (by kernel_rfl) HS.out ?_; simp only [pickL, List.map_cons, List.map_nil, List.getD_cons_succ, List.getD_cons_zero]
                    iterate 10 (go_big_quiet_step (fail))
                    refine wpQuiet_load_at rfl 129 (.tmp 20) rfl g 0 rfl (ints .i64 Z) A hA'.out _ y3c'.out Try.underlying129 rfl 64 infoB64 hbi'.out ?_; simp only [Act.put, List.setIfInBounds_toArray, List.set_cons_succ, List.set_cons_zero]
                    iterate 1 (go_big_quiet_step (fail))
                    refine wpQuiet_nil ?_; clear y0c y1c; refine held_one 12 0 (by kernel_rfl) (by kernel_rfl) ?_; simp only [pickL, List.map_cons, List.map_nil, List.getD_cons_succ, List.getD_cons_zero]
                    go_wp2_with (refine wpList_store_mid rfl 129 (.tmp 196) (.tmp 195) rfl xg (y1 * 64) A rfl rfl hthere'.out (by rw [hAs'.out]; exact infoB64) hone'.out ?_)
                    have hAl : A.toList = ints .i64 Z := by rw [← hA'.out]
                    rw [hAl]; refine Mid.mk ⟨HSE'.out, ?_⟩; refine held_last (by kernel_rfl) ?_; clear HS hAl
                    go_wp2
                    go_roundw
                    case rel => exact ⟨kk + 1, at_, n2, c2, gl, a2, _, _, by omega, hato, hn28, by go_num, rfl, rfl, rfl, hok', hDF', hmk, Lib.hid ⟨hsOF'.out, hso.out.2.1, hwvF'.out⟩, hshF'⟩
                    case measure => simp [intOf]; omega
          · have hkN : kk = NU := by omega
            have hfin : readS s bb = if fillS st.B = true ∧ st.rest = [] then .ok st.bl else .error N := by
              have h1 := hat.out; rw [hkN, ← hNU'.out] at h1; exact h1.fin hNs'.out hU'.out (Nat.mul_pos hN0 (by rw [← hU'.out]; exact unitN_pos hpts2'.out (by rw [hl'.out]; exact hpn1)))
            have HF := rfilled_any aB nB cB st.B wr hD.out.bit hD.out.bl (by omega); have hD0 := hD.out; obtain ⟨F, hF⟩ : ∃ F, fillS st.B = F := ⟨_, rfl⟩; rw [hF] at HF hfin
            have hrest : st.rest = [] ↔ no ≤ at_ + 1 := by
              rw [← tailP_nil, ← hmk.out.1, List.drop_eq_nil_iff, List.length_map, hnol'.out]
            clear hat hD hmk hso; have hnomax : no ≤ 9223372036854775807 := Nat.le_trans hPcv'.out.sl.le hPcv'.out.sl.max; have hfin' := Lib.hid hfin; have HF' := Lib.hid HF; have hD0' := Lib.hid hD0; have hF' := Lib.hid hF; have hrest' := Lib.hid hrest; clear hfin HF hD0 hF hrest
            go_wp2_with fail
            refine HF'.out.mono ?_; rintro e wf ⟨rfl, hbf⟩; have hDf := hD0'.out.late hbf; have hbwf := hbw4'.out.trans (hDf.bel.mono hbw4'.out.size); clear hbf; have hDf' := Lib.hid hDf; have hbwf' := Lib.hid hbwf; clear hDf hbwf
            cases F with
            | false =>
              have hre : readS s bb = .error N := by rw [hfin'.out, if_neg (fun h => by cases h.1)]
              have hre' := Lib.hid hre; clear hre
              go_wp2
              go_ret3
              exact RdQ.err hre'.out rfl hbwf'.out
            | true =>
              by_cases hlast : (at_ : Int) < (no : Int) - 1
              · have hre : readS s bb = .error N := by rw [hfin'.out, if_neg (fun h => by have := hrest'.out.1 h.2; omega)]
                have hre' := Lib.hid hre; clear hre
                go_wp2
                go_ret3
                exact RdQ.err hre'.out rfl hbwf'.out
              · have hre : readS s bb = .ok st.bl := by rw [hfin'.out, if_pos ⟨rfl, hrest'.out.2 (by omega)⟩]
                have hbs := hDf'.out.out.reads (fun x hx => by
                  obtain ⟨i, hi, e⟩ := List.mem_iff_getElem.1 hx; have hik : i < k := by rw [← hDf'.out.out.len]; exact hi
                  obtain ⟨p, hp⟩ : ∃ p, s.ps[i]? = some p := ⟨_, List.getElem?_eq_getElem (by rw [hl'.out]; exact hik)⟩; have h1 := hshp.out i p x hp (by rw [List.getElem?_eq_getElem hi, e]); have h2 := mayPt_bd (hpts'.out i p hp); have b1 : a * p.1.toNat ≤ 512 * 4 := Nat.mul_le_mul ha512.2 (by omega); have b2 : a * p.1.toNat * d ≤ 512 * 4 * 512 := Nat.mul_le_mul b1 hd512.2; have b3 : a * p.1.toNat * d * p.2.1.toNat ≤ 512 * 4 * 512 * 4 := Nat.mul_le_mul b2 (by omega); unfold maxLen
                  omega)
                have hmapb : (L.map fun x : Nat × List (List Int) => (x.2, (some ⟨x.1, 0, none⟩ : Option Addr), x.2.length, x.2.length)).map (·.1) = st.bl := by
                  rw [List.map_map]; exact hDf'.out.pl
                have hre' := Lib.hid hre; have hbs' := Lib.hid hbs; have hmapb' := Lib.hid hmapb; clear hre hbs hmapb
                go_wp2
                go_ret3
                exact RdQ.ok hre'.out rfl hbs'.out hmapb'.out hbwf'.out
      · have hst : startR s (rd0 s bb) 0 = none := by
          rw [startR_zero]
          show (beginS bb).map _ = none
          rw [hbeg'.out, if_neg (by rw [hD0'.out, hP0l]; exact hwh)]
          rfl
        have hre := rd_err_zero hNs'.out hN0 hst; have hwh1 : ((D0 : Int) == (n0 : Int)) = false := by simp; omega
        clear hwh; have hre' := Lib.hid hre; have hst' := Lib.hid hst; clear hre hst
        go_wp2
        go_ret3
        exact RdQ.err (n := 0) hre'.out rfl hbwv'.out
end Go.Proofs.Ytpjopeojeglogaa
