/- Chapter 14: the law TablesBack: the walk. -/
import Derived.Test.YtpjopeojeglogaaCb40
import Derived.Test.YtpjopeojeglogaaCb36
import Derived.Test.YtpjopeojeglogaaCb35
import Derived.Test.YtpjopeojeglogaaCb28
namespace Go.Proofs.Ytpjopeojeglogaa
open Go.RowKit Tt
set_option linter.unusedVariables false
set_option linter.unusedSimpArgs false

theorem byt_flat {α : Type} {f : α → List Int} {l : List α} (h : ∀ x ∈ l, Byt (f x)) : Byt ((l.map f).flatten) := fun y hy => by
  obtain ⟨z, hz, hy⟩ := List.mem_flatten.1 hy; obtain ⟨x, hx, rfl⟩ := List.mem_map.1 hz; exact h x hx y hy
theorem flat_len_le {α : Type} {f : α → List Int} {b : Nat} : ∀ (l : List α), (∀ x ∈ l, (f x).length ≤ b) → ((l.map f).flatten).length ≤ l.length * b
  | [], _ => by simp
  | x :: l, h => by
    have h1 := h x List.mem_cons_self; have h2 := flat_len_le l (fun y hy => h y (List.mem_cons_of_mem _ hy)); simp only [List.map_cons, List.flatten_cons, List.length_append, List.length_cons, Nat.add_mul]
    omega
theorem byt_of_mB {l : List Int} (h : mB l = l) : Byt l := fun x hx => by
  rw [← h] at hx; unfold mB at hx; obtain ⟨y, _, rfl⟩ := List.mem_map.1 hx
  omega
theorem byt_Q {qs : List Qt64} {X : List Int} (h : allW qOk qW qs = some X) (hl : ∀ q ∈ qs, q.2.length = 64) : Byt X := by
  obtain ⟨h1, _, rfl⟩ := allW_some h; exact byt_flat fun q hq => byt_of_mB (qOk_byt (h1 q hq) (hl q hq))
theorem byt_C {cs : List Cdr} {X : List Int} (h : allW cOk cW cs = some X) (hl : ∀ c ∈ cs, c.2.2.1.length = 16) : Byt X := by
  obtain ⟨h1, _, rfl⟩ := allW_some h; refine byt_flat fun c hc x hx => ?_; obtain ⟨k1, k2, k3, k4⟩ := cOk_byt (h1 c hc) (hl c hc); unfold cW at hx
  rcases List.mem_cons.1 hx with rfl | hx
  · omega
  · rcases List.mem_append.1 hx with hx | hx
    · have := k3 x hx; omega
    · have := k4 x hx; omega
theorem byt_F {fw fh : Int} {l : List Cmp4} (h : frmE fw fh l = 0) : Byt (frmW fw fh l) := by
  obtain ⟨h1, h2, h3⟩ := frmE_ok h; have hl := idOk_len h2; rw [List.length_map] at hl; unfold frmW; refine Byt.append (fun x hx => ?_) (byt_flat fun c hc x hx => ?_)
  · simp only [List.mem_cons, List.not_mem_nil, or_false] at hx
    omega
  · obtain ⟨j, hj, rfl⟩ := List.mem_iff_getElem.1 hc
    have := frm_byt h j _ (List.getElem?_eq_getElem hj); simp only [List.mem_cons, List.not_mem_nil, or_false] at hx
    omega
theorem byt_H {l : List Use3} (h : usesOk l = true) : Byt (headW l) := by
  obtain ⟨h1, h2, h3⟩ := usesOk_parts h; unfold headW; rw [List.cons_append]; intro x hx
  rcases List.mem_cons.1 hx with rfl | hx
  · omega
  · rcases List.mem_append.1 hx with hx | hx
    · refine byt_flat (f := fun u : Use3 => [u.1, 16 * u.2.1 + u.2.2]) (fun c hc x hx => ?_) x hx
      obtain ⟨j, hj, rfl⟩ := List.mem_iff_getElem.1 hc; have := use_byt h j _ (List.getElem?_eq_getElem hj); simp only [List.mem_cons, List.not_mem_nil, or_false] at hx
      omega
    · simp only [List.mem_cons, List.not_mem_nil, or_false] at hx
      omega
theorem headW_len (l : List Use3) : (headW l).length = 4 + 2 * l.length := by
  unfold headW; simp only [List.cons_append, List.length_cons, List.length_append, use_bytes_len, List.length_nil]
  omega
theorem sl_lt {w : World} {a : Option Addr} {n c sz : Nat} {cs : List Value} (h : Sl w a n c sz cs) (hn : 0 < n) : ∀ x, a = some x → x.block < w.heap.size := fun x hx => by
  obtain ⟨b, o, e, hb, _⟩ := h.lies 0 hn; rw [e] at hx; injection hx with hx; rw [← hx]; exact hb
/-- what a payload of tables of codes has at most -/
theorem lenC {ms : List CdM} {X : List Int} {w : World} {a : Option Addr} {n c : Nat} (hc : CdsR w a n c ms) (hn : n ≤ 20) (h : allW cOk cW (ms.map (·.1)) = some X) : X.length ≤ 100000 ∧ 0 < X.length := by
  obtain ⟨_, h2, rfl⟩ := allW_some h; have hl := hc.ilen
  have h3 := flat_len_le (f := cW) (b := 1017) (ms.map (·.1)) (fun x hx => by
    obtain ⟨m, hm, rfl⟩ := List.mem_map.1 hx; have k := hc.ok m hm; rw [cW_len k.len]; have := k.sl.ilen; have := k.few
    omega)
  have h4 := flat_len_ge (f := cW) (ms.map (·.1)) (fun x hx => by
    obtain ⟨m, hm, rfl⟩ := List.mem_map.1 hx; rw [cW_len (hc.ok m hm).len]
    omega)
  rw [List.length_map, hl] at h3 h4
  have h5 : 0 < n := by
    rw [← hl]
    cases ms with
    | nil => exact absurd rfl h2
    | cons => simp
  have : n * 1017 ≤ 20 * 1017 := Nat.mul_le_mul_right _ hn
  omega
set_option maxRecDepth 100000 in
set_option maxHeartbeats 8000000 in
theorem back14_law (qa ca pa ua : Option Addr) (qn qc cn cc pn pc un uc : Nat) (fw fh iv : Int) (qs : List Qt64) (ms : List CdM) (cs : List Cmp4) (us : List Use3) (w : World)
    (hq : QsR w qa qn qc qs) (hc : CdsB w ca cn cc ms) (hp : StR cmpL 4 w pa pn pc cs) (hu : StR useL 3 w ua un uc us) (hpw : ∀ x ∈ cs, CmpWf x) (hfw : Wf fw) (hfh : Wf fh) (hiv : Wf iv) :
    Calls Try.prog 10 #[.agg #[.slice qa qn qc, .slice ca cn cc, .int .i64 fw, .int .i64 fh, .slice pa pn pc, .slice ua un uc, .int .i64 iv]] w (AwR w) := by
  have b1 := Blk.new w 59 #[.slice qa qn qc, .slice ca cn cc, .int .i64 fw, .int .i64 fh, .slice pa pn pc, .slice ua un uc, .int .i64 iv]; have hb1 := (Below.refl w.heap.size w).alloc (Nat.le_refl _) (.cells #[.slice qa qn qc, .slice ca cn cc, .int .i64 fw, .int .i64 fh, .slice pa pn pc, .slice ua un uc, .int .i64 iv] 59); obtain ⟨W1, hW1⟩ : ∃ W1, w.alloc (.cells #[.slice qa qn qc, .slice ca cn cc, .int .i64 fw, .int .i64 fh, .slice pa pn pc, .slice ua un uc, .int .i64 iv] 59) = W1 := ⟨_, rfl⟩; rw [hW1] at b1 hb1; have HL := large_any qa ca pa ua qn qc cn cc pn pc un uc fw fh iv ms W1 (hc.mono hb1); obtain ⟨k0, k1, k2, k3, k4, k5, k6⟩ := all_cells b1; have hq' := Lib.hid hq; have hc' := Lib.hid hc; have hp' := Lib.hid hp; have hu' := Lib.hid hu; have hpw' := Lib.hid hpw; have hfw' := Lib.hid hfw; have hfh' := Lib.hid hfh; have hiv' := Lib.hid hiv; have b1' := Lib.hid b1; have hb1' := Lib.hid hb1; have hW1' := Lib.hid hW1; have HL' := Lib.hid HL; clear hq hc hp hu hpw hfw hfh hiv b1 hb1 hW1 HL
  go_enter Try.func10, Try.ntmps10
  go_upto_region 1 with fail
  rw [hW1'.out]
  go_wp2_with fail
  refine HL'.out.mono ?_; intro e w2 h2; obtain ⟨bl, rfl, hb2, hbl⟩ := h2; have bk2 := b1'.out.late hb2; have hbw2 := hb1'.out.trans (hb2.mono hb1'.out.size); clear hb2 k0 k1 k2 k3 k4 k5 k6
  cases bl with
  | true =>
    have bk2' := Lib.hid bk2; have hbw2' := Lib.hid hbw2; have hbl' := Lib.hid hbl; clear bk2 hbw2 hbl
    go_wp2_with fail
    refine (awake_any _).mono ?_; intro e w3 h3; obtain ⟨rfl, hb3⟩ := h3; have hbw3 := hbw2'.out.trans (hb3.mono hbw2'.out.size); clear hb3; have hbw3' := Lib.hid hbw3; clear hbw3
    go_wp2_with fail
    go_ret
    exact ⟨rfl, hbw3'.out⟩
  | false =>
    have hbl2 := hbl rfl; clear hbl; obtain ⟨hm300, n1, n2, n3, n4⟩ := hbl2; have hcR : CdsR w ca cn cc ms := hc'.out.to hm300; clear hm300; obtain ⟨k0, k1, k2, k3, k4, k5, k6⟩ := all_cells bk2; have HQ := quants_any qa qn qc qs w2 (hq'.out.mono hbw2) (by omega); obtain ⟨R1, hR1⟩ : ∃ R, allW qOk qW qs = R := ⟨_, rfl⟩; rw [hR1] at HQ; have bk2' := Lib.hid bk2; have hbw2' := Lib.hid hbw2; have hcR' := Lib.hid hcR; have HQ' := Lib.hid HQ; have hR1' := Lib.hid hR1; clear bk2 hbw2 hcR HQ hR1
    go_wp2_with fail
    refine HQ'.out.mono ?_; intro e w3 h3; obtain ⟨a3, l3, c3, rfl, s3, hb3⟩ := pay_sl h3; clear h3 k0 k1 k2 k3 k4 k5 k6; have bk3 := bk2'.out.late hb3; have hbw3 := hbw2'.out.trans (hb3.mono hbw2'.out.size); clear hb3; obtain ⟨E1, hE1⟩ : ∃ E, (if R1.isSome = true then (0 : Int) else 1) = E := ⟨_, rfl⟩; rw [hE1]; have bk3' := Lib.hid bk3; have hbw3' := Lib.hid hbw3; have s3' := Lib.hid s3; have hE1' := Lib.hid hE1; clear bk3 hbw3 s3 hE1
    go_upto_if 33 with fail
    go_cut [] from 23 (fun wx => Hid (Blk wx w.heap.size 59 #[.slice qa qn qc, .slice ca cn cc, .int .i64 fw, .int .i64 fh, .slice pa pn pc, .slice ua un uc, .int .i64 iv]) ∧ Hid (Below w.heap.size w wx))
    case first =>
      have hE := hE1'.out
      cases R1 with
      | none =>
        obtain rfl : E1 = 1 := hE.symm; clear hE
        go_wp2_with fail
        go_meet
        case rel => exact ⟨bk3', hbw3'⟩
      | some X =>
        obtain rfl : E1 = 0 := hE.symm; have s3X : Sl w3 a3 l3 c3 1 (ints .u8 X) := s3'.out; have hl3 : X.length = l3 := s3X.ilen; have hlen := hq'.out.len; have hqn := hq'.out.ilen; obtain ⟨e1, e2⟩ := quants_back hR1'.out hlen (n := l3) (by omega); have hne := (allW_some hR1'.out).2.1; have hq0 : 0 < qs.length := List.length_pos_iff.2 hne; have HR := readQuants_any a3 l3 c3 X w3 s3X (sl_lt s3X (by omega)) (byt_Q hR1'.out hlen) (by omega); rw [e1] at HR; obtain ⟨k0, k1, k2, k3, k4, k5, k6⟩ := all_cells bk3'.out; have hw65 : IntKind.i64.wrap (65 * (qn : Int)) = 65 * (qn : Int) := by rw [IntKind.wrap_i64]; omega
        have h65 : ((l3 : Int) != 65 * (qn : Int)) = false := by simp; omega
        clear hE e1; have HR' := Lib.hid HR; have hlen' := Lib.hid hlen; have hqn' := Lib.hid hqn; have s3X' := Lib.hid s3X; have hl3' := Lib.hid hl3; have e2' := Lib.hid e2; have hne' := Lib.hid hne; have hq0' := Lib.hid hq0; clear HR hlen hqn s3X hl3 e2 hne hq0
        go_wp2_with fail
        refine HR'.out.mono ?_; intro e w4 h4; obtain ⟨hb4, a4, m4, c4, rfl, ho4, hm4⟩ := h4; obtain rfl : m4 = qn := hm4.trans hqn'.out; have bk4 := bk3'.out.late hb4; have hbw4 := hbw3'.out.trans (hb4.mono hbw3'.out.size); have HE := lquants_eq a4 qa m4 c4 qc qs w4 ⟨(Sl.of_own ho4).1, hlen'.out⟩ (hq'.out.mono hbw4); clear k0 k1 k2 k3 k4 k5 k6 hb4; obtain ⟨k0, k1, k2, k3, k4, k5, k6⟩ := all_cells bk4; have bk4' := Lib.hid bk4; have hbw4' := Lib.hid hbw4; have HE' := Lib.hid HE; have ho4' := Lib.hid ho4; have hm4' := Lib.hid hm4; clear bk4 hbw4 HE ho4 hm4
        go_wp2_with fail
        refine HE'.out.mono ?_; rintro e w5 ⟨rfl, hb5⟩; have bk5 := bk4'.out.late hb5; have hbw5 := hbw4'.out.trans (hb5.mono hbw4'.out.size); clear hb5 k0 k1 k2 k3 k4 k5 k6; have bk5' := Lib.hid bk5; have hbw5' := Lib.hid hbw5; clear bk5 hbw5
        go_wp2_with fail
        go_meet
        case rel => exact ⟨bk5', hbw5'⟩
    case rest =>
      obtain ⟨bk7', hbw7'⟩ := hcut; clear hE1' bk3' hbw3' s3' HQ' hR1' bk2' hbw2' HL' b1' hW1' hb1' hq'; have HC := coders_any ca cn cc ms wc (hcR'.out.mono hbw7'.out) (by omega); obtain ⟨R2, hR2⟩ : ∃ R, allW cOk cW (ms.map (·.1)) = R := ⟨_, rfl⟩; rw [hR2] at HC; obtain ⟨k0, k1, k2, k3, k4, k5, k6⟩ := all_cells bk7'.out; have HC' := Lib.hid HC; have hR2' := Lib.hid hR2; clear HC hR2
      go_wp2_with fail
      refine HC'.out.mono ?_; intro e w3 h3; obtain ⟨a3, l3, c3, rfl, s3, hb3⟩ := pay_sl h3; clear h3 k0 k1 k2 k3 k4 k5 k6; have bk3 := bk7'.out.late hb3; have hbw3 := hbw7'.out.trans (hb3.mono hbw7'.out.size); clear hb3; obtain ⟨E1, hE1⟩ : ∃ E, (if R2.isSome = true then (0 : Int) else 1) = E := ⟨_, rfl⟩; rw [hE1]; have bk3' := Lib.hid bk3; have hbw3' := Lib.hid hbw3; have s3' := Lib.hid s3; have hE1' := Lib.hid hE1; clear bk3 hbw3 s3 hE1
      go_upto_if 63 with fail
      go_cut [] from 23 (fun wx => Hid (Blk wx w.heap.size 59 #[.slice qa qn qc, .slice ca cn cc, .int .i64 fw, .int .i64 fh, .slice pa pn pc, .slice ua un uc, .int .i64 iv]) ∧ Hid (Below w.heap.size w wx))
      case first =>
        have hE := hE1'.out
        cases R2 with
        | none =>
          obtain rfl : E1 = 1 := hE.symm; clear hE
          go_wp2_with fail
          go_meet
          case rel => exact ⟨bk3', hbw3'⟩
        | some X =>
          obtain rfl : E1 = 0 := hE.symm; have s3X : Sl w3 a3 l3 c3 1 (ints .u8 X) := s3'.out; have hl3 : X.length = l3 := s3X.ilen
          have hln : ∀ c ∈ ms.map (·.1), c.2.2.1.length = 16 := fun c hcm => by
            obtain ⟨m, hm, rfl⟩ := List.mem_map.1 hcm; exact (hcR'.out.ok m hm).len
          have e1 := coders_back hR2'.out hln (n := l3) (by omega); obtain ⟨hx1, hx0⟩ := lenC hcR'.out n2 hR2'.out; have HR := readCoders_any a3 l3 c3 X w3 s3X (sl_lt s3X (by omega)) (byt_C hR2'.out hln) (by omega); rw [e1] at HR; obtain ⟨k0, k1, k2, k3, k4, k5, k6⟩ := all_cells bk3'.out; clear hE e1; have HR' := Lib.hid HR; have hln' := Lib.hid hln; have s3X' := Lib.hid s3X; have hl3' := Lib.hid hl3; have hx1' := Lib.hid hx1; have hx0' := Lib.hid hx0; clear HR hln s3X hl3 hx1 hx0
          go_wp2_with fail
          refine HR'.out.mono ?_; intro e w4 h4; obtain ⟨hb4, a4, m4, c4, ns, rfl, ho4, hmap, hm4, hsy⟩ := h4; have hmn : ns.map (·.1) = ms.map (·.1) := hmap; have hlen2 : ns.length = ms.length := by simpa using congrArg List.length hmn
          obtain rfl : m4 = cn := hm4.trans (hlen2.trans hcR'.out.ilen); have bk4 := bk3'.out.late hb4; have hbw4 := hbw3'.out.trans (hb4.mono hbw3'.out.size)
          have hcb : CdsB w4 a4 m4 c4 ns := ⟨(Sl.of_own ho4).1, fun x hx => ⟨(hsy x hx).1, (Sl.of_own (hsy x hx).2).1, fun y hy => by
            have h1 : x.1 ∈ ms.map (·.1) := by rw [← hmn]; exact List.mem_map_of_mem hx
            obtain ⟨m, hm, hmx⟩ := List.mem_map.1 h1; rw [← hmx] at hy; exact (hc'.out.ok m hm).wf y hy⟩⟩
          have HE := lcoders_eq a4 ca m4 c4 cc ns ms w4 hcb (hc'.out.mono hbw4) hmn; clear k0 k1 k2 k3 k4 k5 k6 hb4; obtain ⟨k0, k1, k2, k3, k4, k5, k6⟩ := all_cells bk4; have bk4' := Lib.hid bk4; have hbw4' := Lib.hid hbw4; have HE' := Lib.hid HE; have ho4' := Lib.hid ho4; have hm4' := Lib.hid hm4; have hmap' := Lib.hid hmap; have hmn' := Lib.hid hmn; have hlen2' := Lib.hid hlen2; have hsy' := Lib.hid hsy; have hcb' := Lib.hid hcb; clear bk4 hbw4 HE ho4 hm4 hmap hmn hlen2 hsy hcb
          go_wp2_with fail
          refine HE'.out.mono ?_; rintro e w5 ⟨rfl, hb5⟩; have bk5 := bk4'.out.late hb5; have hbw5 := hbw4'.out.trans (hb5.mono hbw4'.out.size); clear hb5 k0 k1 k2 k3 k4 k5 k6; have bk5' := Lib.hid bk5; have hbw5' := Lib.hid hbw5; clear bk5 hbw5
          go_wp2_with fail
          go_meet
          case rel => exact ⟨bk5', hbw5'⟩
      case rest =>
        obtain ⟨bk7', hbw7'⟩ := hcut; clear hE1' bk3' hbw3' s3' HC' hR2' hcR' hc'; have HF := frame_any fw fh pa pn pc cs wc (hp'.out.mono hbw7'.out) (by omega) hpw'.out hfw'.out hfh'.out; obtain ⟨R3, hR3⟩ : ∃ R, (if frmE fw fh cs = 0 then some (frmW fw fh cs) else none) = R := ⟨_, rfl⟩; rw [hR3] at HF; obtain ⟨k0, k1, k2, k3, k4, k5, k6⟩ := all_cells bk7'.out; have HF' := Lib.hid HF; have hR3' := Lib.hid hR3; clear HF hR3
        go_wp2_with fail
        refine HF'.out.mono ?_; intro e w3 h3; obtain ⟨a3, l3, c3, rfl, s3, hb3⟩ := pay_sl h3; clear h3 k0 k1 k2 k3 k4 k5 k6; have bk3 := bk7'.out.late hb3; have hbw3 := hbw7'.out.trans (hb3.mono hbw7'.out.size); clear hb3; obtain ⟨E1, hE1⟩ : ∃ E, (if R3.isSome = true then (0 : Int) else 1) = E := ⟨_, rfl⟩; rw [hE1]; have bk3' := Lib.hid bk3; have hbw3' := Lib.hid hbw3; have s3' := Lib.hid s3; have hE1' := Lib.hid hE1; clear bk3 hbw3 s3 hE1
        go_upto_if 85 with fail
        go_cut [] from 23 (fun wx => Hid (Blk wx w.heap.size 59 #[.slice qa qn qc, .slice ca cn cc, .int .i64 fw, .int .i64 fh, .slice pa pn pc, .slice ua un uc, .int .i64 iv]) ∧ Hid (Below w.heap.size w wx))
        case first =>
          have hE := hE1'.out
          by_cases hf : frmE fw fh cs = 0
          · obtain rfl : R3 = some (frmW fw fh cs) := by rw [← hR3'.out, if_pos hf]
            obtain rfl : E1 = 0 := hE.symm; obtain ⟨X, hX⟩ : ∃ X, frmW fw fh cs = X := ⟨_, rfl⟩; have s3X : Sl w3 a3 l3 c3 1 (ints .u8 X) := by rw [← hX]; exact s3'.out
            have hl3 : X.length = l3 := s3X.ilen; have hfl := frmW_len fw fh cs; rw [hX] at hfl; have hcl := hp'.out.len; have e1 := rfS_back hf; rw [hX] at e1; have hby := byt_F hf; rw [hX] at hby
            have HR := readFrame_any a3 l3 c3 X w3 s3X (sl_lt s3X (by omega)) hby (by omega); rw [e1] at HR; obtain ⟨k0, k1, k2, k3, k4, k5, k6⟩ := all_cells bk3'.out; clear hE e1; have HR' := Lib.hid HR; have s3X' := Lib.hid s3X; have hl3' := Lib.hid hl3; have hfl' := Lib.hid hfl; have hcl' := Lib.hid hcl; have hby' := Lib.hid hby
            have hX' := Lib.hid hX; have hf' := Lib.hid hf; clear HR s3X hl3 hfl hcl hby hX hf
            go_wp2_with fail
            refine HR'.out.mono ?_; intro e w4 h4; obtain ⟨hb4, a4, m4, c4, rfl, ho4, hm4⟩ := h4; obtain rfl : m4 = pn := hm4.trans hcl'.out; have hal := (Below.refl w4.heap.size w4).alloc (Nat.le_refl _) (.cells #[.int .i64 fw, .int .i64 fh, .slice a4 m4 c4] 56); have bF := Blk.new w4 56 #[.int .i64 fw, .int .i64 fh, .slice a4 m4 c4]; obtain ⟨W5, hW5⟩ : ∃ W5, w4.alloc (.cells #[.int .i64 fw, .int .i64 fh, .slice a4 m4 c4] 56) = W5 := ⟨_, rfl⟩; rw [hW5] at hal bF; have bk4 := (bk3'.out.late hb4).late hal; have hbx4 := hbw3'.out.trans (hb4.mono hbw3'.out.size); have hbw4 := hbx4.trans (hal.mono hbx4.size); have hS : StR cmpL 4 W5 a4 m4 c4 cs := ⟨by rw [ints_flat]; exact ((Sl.of_own ho4).1).mono hal, hcl'.out⟩; have HE := lframes_eq fw fh a4 pa m4 c4 pc cs W5 hS (hp'.out.mono hbw4); clear k0 k1 k2 k3 k4 k5 k6 hb4 hal hbx4; obtain ⟨k0, k1, k2, k3, k4, k5, k6⟩ := all_cells bk4; have j0 : W5.cell? ⟨w4.heap.size, 0, none⟩ = some (.int .i64 fw) := bF.cell rfl; have j1 : W5.cell? ⟨w4.heap.size, 1, none⟩ = some (.int .i64 fh) := bF.cell rfl; have j2 : W5.cell? ⟨w4.heap.size, 2, none⟩ = some (.slice a4 m4 c4) := bF.cell rfl; have bk4' := Lib.hid bk4; have hbw4' := Lib.hid hbw4; have HE' := Lib.hid HE; have ho4' := Lib.hid ho4; have hm4' := Lib.hid hm4; have hS' := Lib.hid hS; have hW5' := Lib.hid hW5; have bF' := Lib.hid bF; clear bk4 hbw4 HE ho4 hm4 hS hW5 bF
            go_upto_region 16 with fail
            rw [hW5'.out]
            go_wp2_with fail
            refine HE'.out.mono ?_; rintro e w5 ⟨rfl, hb5⟩; have bk5 := bk4'.out.late hb5; have hbw5 := hbw4'.out.trans (hb5.mono hbw4'.out.size); clear hb5 k0 k1 k2 k3 k4 k5 k6 j0 j1 j2; have bk5' := Lib.hid bk5; have hbw5' := Lib.hid hbw5; clear bk5 hbw5
            go_wp2_with fail
            go_meet
            case rel => exact ⟨bk5', hbw5'⟩
          · obtain rfl : R3 = none := by rw [← hR3'.out, if_neg hf]
            obtain rfl : E1 = 1 := hE.symm; clear hE hf
            go_wp2_with fail
            go_meet
            case rel => exact ⟨bk3', hbw3'⟩
        case rest =>
          obtain ⟨bk7', hbw7'⟩ := hcut; clear hE1' bk3' hbw3' s3' HF' hR3' hp' hpw' hfw' hfh'; have HF := head_any ua un uc us wc (hu'.out.mono hbw7'.out) (by omega); obtain ⟨R3, hR3⟩ : ∃ R, (if usesOk us = true then some (headW us) else none) = R := ⟨_, rfl⟩; rw [hR3] at HF; obtain ⟨k0, k1, k2, k3, k4, k5, k6⟩ := all_cells bk7'.out; have HF' := Lib.hid HF; have hR3' := Lib.hid hR3; clear HF hR3
          go_wp2_with fail
          refine HF'.out.mono ?_; intro e w3 h3; obtain ⟨a3, l3, c3, rfl, s3, hb3⟩ := pay_sl h3; clear h3 k0 k1 k2 k3 k4 k5 k6; have bk3 := bk7'.out.late hb3; have hbw3 := hbw7'.out.trans (hb3.mono hbw7'.out.size); clear hb3; obtain ⟨E1, hE1⟩ : ∃ E, (if R3.isSome = true then (0 : Int) else 1) = E := ⟨_, rfl⟩; rw [hE1]; have bk3' := Lib.hid bk3; have hbw3' := Lib.hid hbw3; have s3' := Lib.hid s3; have hE1' := Lib.hid hE1; clear bk3 hbw3 s3 hE1
          go_upto_if 107 with fail
          go_cut [] from 23 (fun wx => Hid (Blk wx w.heap.size 59 #[.slice qa qn qc, .slice ca cn cc, .int .i64 fw, .int .i64 fh, .slice pa pn pc, .slice ua un uc, .int .i64 iv]) ∧ Hid (Below w.heap.size w wx))
          case first =>
            have hE := hE1'.out
            cases hf : usesOk us with
            | true =>
              obtain rfl : R3 = some (headW us) := by rw [← hR3'.out, if_pos hf]
              obtain rfl : E1 = 0 := hE.symm; obtain ⟨X, hX⟩ : ∃ X, headW us = X := ⟨_, rfl⟩; have s3X : Sl w3 a3 l3 c3 1 (ints .u8 X) := by rw [← hX]; exact s3'.out
              have hl3 : X.length = l3 := s3X.ilen; have hfl := headW_len us; rw [hX] at hfl; have hcl := hu'.out.len; have e1 := rhS_back hf; rw [hX] at e1; have hby := byt_H hf; rw [hX] at hby
              have HR := readHead_any a3 l3 c3 X w3 s3X hby (by omega); rw [e1] at HR; obtain ⟨k0, k1, k2, k3, k4, k5, k6⟩ := all_cells bk3'.out; clear hE e1; have HR' := Lib.hid HR; have s3X' := Lib.hid s3X; have hl3' := Lib.hid hl3; have hfl' := Lib.hid hfl; have hcl' := Lib.hid hcl; have hby' := Lib.hid hby
              have hX' := Lib.hid hX; have hf' := Lib.hid hf; clear HR s3X hl3 hfl hcl hby hX hf
              go_wp2_with fail
              refine HR'.out.mono ?_; intro e w4 h4; obtain ⟨hb4, a4, m4, c4, rfl, ho4, hm4⟩ := h4; obtain rfl : m4 = un := hm4.trans hcl'.out; have bk4 := bk3'.out.late hb4; have hbw4 := hbw3'.out.trans (hb4.mono hbw3'.out.size); have hS : StR useL 3 w4 a4 m4 c4 us := ⟨by rw [ints_flat]; exact (Sl.of_own ho4).1, hcl'.out⟩; have HE := luses_eq a4 ua m4 c4 uc us w4 hS (hu'.out.mono hbw4); clear k0 k1 k2 k3 k4 k5 k6 hb4; obtain ⟨k0, k1, k2, k3, k4, k5, k6⟩ := all_cells bk4; have bk4' := Lib.hid bk4; have hbw4' := Lib.hid hbw4; have HE' := Lib.hid HE; have ho4' := Lib.hid ho4; have hm4' := Lib.hid hm4; have hS' := Lib.hid hS; clear bk4 hbw4 HE ho4 hm4 hS
              go_wp2_with fail
              refine HE'.out.mono ?_; rintro e w5 ⟨rfl, hq5⟩; have hb5 := hq5.below w4.heap.size; have bk5 := bk4'.out.late hb5; have hbw5 := hbw4'.out.trans (hb5.mono hbw4'.out.size); clear hb5 hq5 k0 k1 k2 k3 k4 k5 k6; have bk5' := Lib.hid bk5; have hbw5' := Lib.hid hbw5; clear bk5 hbw5
              go_wp2_with fail
              go_meet
              case rel => exact ⟨bk5', hbw5'⟩
            | false =>
              obtain rfl : R3 = none := by rw [← hR3'.out, if_neg (by rw [hf]; decide)]
              obtain rfl : E1 = 1 := hE.symm; clear hE hf
              go_wp2_with fail
              go_meet
              case rel => exact ⟨bk3', hbw3'⟩
          case rest =>
            obtain ⟨bk7', hbw7'⟩ := hcut; clear hE1' bk3' hbw3' s3' HF' hR3' hu'; have HF := interval_any iv wc hiv'.out; obtain ⟨R3, hR3⟩ : ∃ R, (if 0 ≤ iv ∧ iv ≤ 65535 then some [iv / 256, iv % 256] else none) = R := ⟨_, rfl⟩; rw [hR3] at HF; obtain ⟨k0, k1, k2, k3, k4, k5, k6⟩ := all_cells bk7'.out; have HF' := Lib.hid HF; have hR3' := Lib.hid hR3; clear HF hR3
            go_wp2_with fail
            refine HF'.out.mono ?_; intro e w3 h3; obtain ⟨a3, l3, c3, rfl, s3, hb3⟩ := pay_sl h3; clear h3 k0 k1 k2 k3 k4 k5 k6; have bk3 := bk7'.out.late hb3; have hbw3 := hbw7'.out.trans (hb3.mono hbw7'.out.size); clear hb3; obtain ⟨E1, hE1⟩ : ∃ E, (if R3.isSome = true then (0 : Int) else 1) = E := ⟨_, rfl⟩; rw [hE1]; have bk3' := Lib.hid bk3; have hbw3' := Lib.hid hbw3; have s3' := Lib.hid s3; have hE1' := Lib.hid hE1; clear bk3 hbw3 s3 hE1
            go_upto_if 129 with fail
            go_cut [] from 23 (fun wx => Hid (Blk wx w.heap.size 59 #[.slice qa qn qc, .slice ca cn cc, .int .i64 fw, .int .i64 fh, .slice pa pn pc, .slice ua un uc, .int .i64 iv]) ∧ Hid (Below w.heap.size w wx))
            case first =>
              have hE := hE1'.out
              by_cases hf : 0 ≤ iv ∧ iv ≤ 65535
              · obtain rfl : R3 = some [iv / 256, iv % 256] := by rw [← hR3'.out, if_pos hf]
                obtain rfl : E1 = 0 := hE.symm; have s3X : Sl w3 a3 l3 c3 1 (ints .u8 [iv / 256, iv % 256]) := s3'.out; have hl3 : 2 = l3 := s3X.ilen; subst hl3
                have hby : Byt [iv / 256, iv % 256] := fun x hx => by
                  simp only [List.mem_cons, List.not_mem_nil, or_false] at hx
                  omega
                have HR := readint_any a3 2 c3 [iv / 256, iv % 256] w3 s3X hby
                have e1 : intV [iv / 256, iv % 256] = iv := by
                  show 256 * (iv / 256) + iv % 256 = iv
                  omega
                have e2 : intE [iv / 256, iv % 256] = 0 := rfl; rw [e1, e2] at HR; obtain ⟨k0, k1, k2, k3, k4, k5, k6⟩ := all_cells bk3'.out; have hii : (iv != iv) = false := by simp
                clear hE e1 e2; have HR' := Lib.hid HR; have s3X' := Lib.hid s3X; have hby' := Lib.hid hby
                have hf' := Lib.hid hf; clear HR s3X hby hf
                go_wp2_with fail
                refine HR'.out.mono ?_; rintro e w4 ⟨rfl, hb4⟩; have bk4 := bk3'.out.late hb4; have hbw4 := hbw3'.out.trans (hb4.mono hbw3'.out.size); clear k0 k1 k2 k3 k4 k5 k6 hb4; obtain ⟨k0, k1, k2, k3, k4, k5, k6⟩ := all_cells bk4; have bk4' := Lib.hid bk4; have hbw4' := Lib.hid hbw4; clear bk4 hbw4
                go_wp2_with fail
                go_meet
                case rel => exact ⟨bk4', hbw4'⟩
              · obtain rfl : R3 = none := by rw [← hR3'.out, if_neg hf]
                obtain rfl : E1 = 1 := hE.symm; clear hE hf
                go_wp2_with fail
                go_meet
                case rel => exact ⟨bk3', hbw3'⟩
            case rest =>
              obtain ⟨bk7', hbw7'⟩ := hcut
              go_wp2_with fail
              refine (awake_any _).mono ?_; intro e w3 h3; obtain ⟨rfl, hb3⟩ := h3; have hbw3 := hbw7'.out.trans (hb3.mono hbw7'.out.size); clear hb3; have hbw3' := Lib.hid hbw3; clear hbw3
              go_wp2_with fail
              go_ret
              exact ⟨rfl, hbw3'.out⟩
theorem back14_law2 {qa ca pa ua : Option Addr} {qn qc cn cc pn pc un uc : Nat} {fw fh iv : Int} {qs : List Qt64} {ms : List CdM} {cs : List Cmp4} {us : List Use3} {w : World}
    (hq : QsR w qa qn qc qs) (hc : CdsB w ca cn cc ms) (hp : StR cmpL 4 w pa pn pc cs) (hu : StR useL 3 w ua un uc us) (hpw : ∀ x ∈ cs, CmpWf x) (hfw : Wf fw) (hfh : Wf fh) (hiv : Wf iv) :
    Calls Try.prog 10 #[.agg #[.slice qa qn qc, .slice ca cn cc, .int .i64 fw, .int .i64 fh, .slice pa pn pc, .slice ua un uc, .int .i64 iv]] w fun e w' => e = .returned (.bool true) ∧ Below w.heap.size w w' :=
  back14_law qa ca pa ua qn qc cn cc pn pc un uc fw fh iv qs ms cs us w hq hc hp hu hpw hfw hfh hiv
end Go.Proofs.Ytpjopeojeglogaa
