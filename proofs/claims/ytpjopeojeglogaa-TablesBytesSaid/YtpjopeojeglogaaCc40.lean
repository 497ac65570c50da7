/- Chapter 14: the law TablesBytes: the walk. -/
import Derived.Test.YtpjopeojeglogaaCc39
namespace Go.Proofs.Ytpjopeojeglogaa
open Go.RowKit Tt
set_option linter.unusedVariables false
set_option linter.unusedSimpArgs false

theorem cdsB_of {w : World} {B B2 : Nat} {ms : List CdM} {a : Option Addr} {m c : Nat} (h : SymsOk w B ms) (ho : w.ownsRow B2 165 19 (.slice a m c) m ((ms.map cMC).flatten)) (hok : ∀ x ∈ ms.map (·.1), cOk x = true) : CdsB w a m c ms :=
  ⟨(Sl.of_own ho).1, fun x hx => ⟨(h x hx).1, (Sl.of_own (h x hx).2).1, byt_wf (fun y hy => by
    have := (cOk_byt (hok x.1 (List.mem_map_of_mem hx)) (h x hx).1).2.2.2 y hy
    omega)⟩⟩
theorem CdB.mono {w w' : World} {m : CdM} (h : CdB w m) (hb : Below w.heap.size w w') : CdB w' m := ⟨h.len, h.sl.mono hb, h.wf⟩
theorem qC_ones {qs : List Qt64} : ∀ u ∈ (qs.map qC).flatten, u.oneCell' = true := fun u hu => by
  obtain ⟨l, hl, hu⟩ := List.mem_flatten.1 hu; obtain ⟨q, _, rfl⟩ := List.mem_map.1 hl; exact Array.all_eq_true_iff_forall_mem.1 (qC_one (q := q)) u (by simpa using hu)
theorem cMC_ones {ms : List CdM} : ∀ u ∈ (ms.map cMC).flatten, u.oneCell' = true := fun u hu => by
  obtain ⟨l, hl, hu⟩ := List.mem_flatten.1 hu; obtain ⟨q, _, rfl⟩ := List.mem_map.1 hl; exact Array.all_eq_true_iff_forall_mem.1 (cMC_one (m := q)) u (by simpa using hu)
set_option maxRecDepth 100000 in
set_option maxHeartbeats 8000000 in
theorem bytes14_law (a b : Option Addr) (n c m d : Nat) (za zb : List Int) (w : World) (ha : Sl w a n c 1 (ints .u8 za)) (hb : Sl w b m d 1 (ints .u8 zb)) (hba : Byt za) (hbb : Byt zb) (la : ∀ x, a = some x → x.block < w.heap.size) (lb : ∀ x, b = some x → x.block < w.heap.size) :
    Calls Try.prog 9 #[.slice a n c, .slice b m d] w (AwR w) := by
  have hzn := ha.ilen; have hzm := hb.ilen; have hrf := Below.refl w.heap.size w
  by_cases h1 : 300 < n
  · have ha' := Lib.hid ha
    have hb' := Lib.hid hb; have hba' := Lib.hid hba; have hbb' := Lib.hid hbb; have la' := Lib.hid la; have lb' := Lib.hid lb; have hzn' := Lib.hid hzn; have hzm' := Lib.hid hzm; clear ha hb hba hbb la lb hzn hzm
    go_enter Try.func9, Try.ntmps9
    go_wp2_with fail
    refine (awake_any _).mono ?_; intro e w3 h3; obtain ⟨rfl, hb3⟩ := h3; have hbw3 := hrf.trans (hb3.mono hrf.size); clear hb3; have hbw3' := Lib.hid hbw3; clear hbw3
    go_wp2_with fail
    go_ret
    exact ⟨rfl, hbw3'.out⟩
  by_cases h2 : 300 < m
  · have ha' := Lib.hid ha
    have hb' := Lib.hid hb; have hba' := Lib.hid hba; have hbb' := Lib.hid hbb; have la' := Lib.hid la; have lb' := Lib.hid lb; have hzn' := Lib.hid hzn; have hzm' := Lib.hid hzm; clear ha hb hba hbb la lb hzn hzm
    go_enter Try.func9, Try.ntmps9
    go_wp2_with fail
    refine (awake_any _).mono ?_; intro e w3 h3; obtain ⟨rfl, hb3⟩ := h3; have hbw3 := hrf.trans (hb3.mono hrf.size); clear hb3; have hbw3' := Lib.hid hbw3; clear hbw3
    go_wp2_with fail
    go_ret
    exact ⟨rfl, hbw3'.out⟩
  obtain ⟨i0, hi, hz0, hz1, hz2⟩ := info_parts info8; obtain ⟨iq, zq, hqi, hqz, hq1, hq2, hq3⟩ := info_ofz infoQ2 infoQ3; obtain ⟨ic, zc, hci, hcz, hc1, hc2, hc3⟩ := info_ofz infoC2 infoC3; have O0 := own_new w w.heap.size 5 1 0 #[] (Nat.le_refl _) (by unfold maxLen; omega) rfl; have hal0 := (Below.refl w.heap.size w).alloc (Nat.le_refl _) (.cells #[] 5); have hsz0 := hal0.size; have sa0 := ha.mono hal0; have sb0 := hb.mono hal0; have ha' := Lib.hid ha; have hb' := Lib.hid hb; have hba' := Lib.hid hba; have hbb' := Lib.hid hbb; have la' := Lib.hid la; have lb' := Lib.hid lb; have hzn' := Lib.hid hzn; have hzm' := Lib.hid hzm; have hrf' := Lib.hid hrf; have O0' := Lib.hid O0; have hal0' := Lib.hid hal0; have sa0' := Lib.hid sa0; have sb0' := Lib.hid sb0; clear ha hb hba hbb la lb hzn hzm hrf O0 hal0 sa0 sb0
  go_enter Try.func9, Try.ntmps9
  go_upto_region 4 with (first
    | (at_builtin; refine wpList_app rfl _ _ 30 rfl w.heap.size 5 i0 _ 1 1 Try.underlying30 hi hz0 hz1 hz2 rfl (by decide) _ 0 [] rfl O0'.out a n c _ rfl sa0'.out ints_one (by omega) (by decide) hsz0 ?_; intro a5 c5 w5 ob5 hb5 hg5; simp only [Nat.zero_add] at ob5 ⊢; have Ob5 := Lib.hid ob5; have hbw5 := hal0'.out.trans hb5; have sb5 := Lib.hid (hb'.out.mono hbw5); have hsz5 := hbw5.size; have Hb5 := Lib.hid hbw5; clear ob5 hb5 hg5 hbw5)
    | (at_builtin; refine wpList_app rfl _ _ 30 rfl w.heap.size 5 i0 _ 1 1 Try.underlying30 hi hz0 hz1 hz2 rfl (by decide) _ n _ rfl Ob5.out b m d _ rfl sb5.out ints_one (by omega) (by decide) hsz5 ?_; intro a6 c6 w6 ob6 hb6 hg6; have Ob6 := Lib.hid ob6; have Hb6 := Lib.hid (Hb5.out.trans hb6); clear ob6 hb6 hg6))
  obtain ⟨zz, hzz⟩ : ∃ zz, za ++ zb = zz := ⟨_, rfl⟩
  have s6 : Sl w6 a6 (n + m) c6 1 (ints .u8 zz) := by
    have h := (Sl.of_own Ob6.out).1; rw [List.nil_append, ← ints_append, hzz] at h; exact h
  have hbz : Byt zz := by rw [← hzz]; exact hba'.out.append hbb'.out
  have hzl : zz.length = n + m := s6.ilen
  have l6 : ∀ x, a6 = some x → x.block < w6.heap.size := fun x hx => by
    subst hx
    rcases Ob6.out.2 with ⟨h, _⟩ | ⟨g, cap, cur, h, _, hg, _⟩
    · cases h
    · injection h with h _ _
      injection h with h; rw [h]; exact (Array.getElem?_eq_some_iff.1 hg).1
  have hbw6 := Hb6.out; have sa6 := ha'.out.mono hbw6; have sb6 := hb'.out.mono hbw6; have la6 : ∀ x, a = some x → x.block < w6.heap.size := fun x hx => Nat.lt_of_lt_of_le (la'.out x hx) hbw6.size; have lb6 : ∀ x, b = some x → x.block < w6.heap.size := fun x hx => Nat.lt_of_lt_of_le (lb'.out x hx) hbw6.size; clear O0' hal0' sa0' sb0' Ob5 sb5 Hb5 Ob6 Hb6 hsz5 hsz0; have hbz' := Lib.hid hbz; have hzl' := Lib.hid hzl; have hzz' := Lib.hid hzz; clear hbz hzl hzz; obtain ⟨T1, hT1⟩ : ∃ T, readAll takeQ (n + 1) za = T := ⟨_, rfl⟩; obtain ⟨T2, hT2⟩ : ∃ T, readAll takeQ (m + 1) zb = T := ⟨_, rfl⟩; obtain ⟨T3, hT3⟩ : ∃ T, readAll takeQ (n + m + 1) zz = T := ⟨_, rfl⟩; have HR1 := readQuants_any a n c za w6 sa6 la6 hba'.out (by omega); rw [hT1] at HR1; have s6' := Lib.hid s6; have l6' := Lib.hid l6; have hbw6' := Lib.hid hbw6; have sa6' := Lib.hid sa6; have sb6' := Lib.hid sb6; have la6' := Lib.hid la6; have lb6' := Lib.hid lb6; have hT1' := Lib.hid hT1; have hT2' := Lib.hid hT2; have hT3' := Lib.hid hT3; have HR1' := Lib.hid HR1; clear s6 l6 hbw6 sa6 sb6 la6 lb6 hT1 hT2 hT3 HR1
  go_wp2_with fail
  refine HR1'.out.mono ?_; intro e w7 h7; obtain ⟨hb7, ra, rn, rc, rfl, ho7, hm7⟩ := h7; have hbw7 := hbw6'.out.trans (hb7.mono hbw6'.out.size); have HR2 := readQuants_any b m d zb w7 (hb'.out.mono hbw7) (fun x hx => Nat.lt_of_lt_of_le (lb'.out x hx) hbw7.size) hbb'.out (by omega); rw [hT2'.out] at HR2; have s7 := s6'.out.mono hb7; have l7 : ∀ x, a6 = some x → x.block < w7.heap.size := fun x hx => Nat.lt_of_lt_of_le (l6'.out x hx) hb7.size; clear hb7; have ho7' := Lib.hid ho7; have hm7' := Lib.hid hm7; have hbw7' := Lib.hid hbw7; have HR2' := Lib.hid HR2; have s7' := Lib.hid s7; have l7' := Lib.hid l7; clear ho7 hm7 hbw7 HR2 s7 l7
  go_wp2_with fail
  refine HR2'.out.mono ?_; intro e w8 h8; obtain ⟨hb8, sa, sn, sc, rfl, ho8, hm8⟩ := h8; have hbw8 := hbw7'.out.trans (hb8.mono hbw7'.out.size); have s8 := s7'.out.mono hb8; have l8 : ∀ x, a6 = some x → x.block < w8.heap.size := fun x hx => Nat.lt_of_lt_of_le (l7'.out x hx) hb8.size; have ho78 := own_later ho7'.out hb8; have HR3 := readQuants_any a6 (n + m) c6 zz w8 s8 l8 hbz'.out (by omega); rw [hT3'.out] at HR3; clear hb8; have ho8' := Lib.hid ho8; have hm8' := Lib.hid hm8; have hbw8' := Lib.hid hbw8; have HR3' := Lib.hid HR3; have s8' := Lib.hid s8; have l8' := Lib.hid l8; have ho78' := Lib.hid ho78; clear ho8 hm8 hbw8 HR3 s8 l8 ho78
  go_wp2_with fail
  refine HR3'.out.mono ?_; intro e w9 h9; obtain ⟨hb9, ta, tn, tc, rfl, ho9, hm9⟩ := h9; have hbw9 := hbw8'.out.trans (hb9.mono hbw8'.out.size); have s9 := s8'.out.mono hb9; have l9 : ∀ x, a6 = some x → x.block < w9.heap.size := fun x hx => Nat.lt_of_lt_of_le (l8'.out x hx) hb9.size; have ho79 := own_later ho78'.out hb9; have ho89 := own_later ho8'.out hb9; clear hb9; obtain ⟨E1, q⟩ := T1; obtain ⟨E2, r⟩ := T2; obtain ⟨E3, s⟩ := T3; have ho9' := Lib.hid ho9; have hm9' := Lib.hid hm9; have hbw9' := Lib.hid hbw9; have s9' := Lib.hid s9; have l9' := Lib.hid l9; have ho79' := Lib.hid ho79; have ho89' := Lib.hid ho89; clear ho9 hm9 hbw9 s9 l9 ho79 ho89; clear ho7' ho8' ho78' HR1' HR2' HR3' s7' s8' l7' l8' hbw7' hbw8'
  go_upto_if 57 with fail
  go_cut [] from 27 (fun wx => Hid (Below w.heap.size w wx) ∧ Hid (Sl wx a6 (n + m) c6 1 (ints .u8 zz)) ∧ Hid (∀ x, a6 = some x → x.block < wx.heap.size))
  case first =>
    by_cases h0 : E1 = 0
    · subst h0
      obtain ⟨p1, p2, p3⟩ := bytes_Q hT1'.out; obtain ⟨p4, p5⟩ := quants_back p1 p2 (n := n) (by rw [hzn'.out]; exact Nat.le_refl _); rw [hzn'.out] at p5; have hq0 : 0 < q.length := List.length_pos_iff.2 p3; obtain rfl : rn = q.length := hm7'.out; have hQS : QsR w9 ra q.length rc q := ⟨(Sl.of_own ho79'.out).1, p2⟩; have HQ := quants_any ra q.length rc q w9 hQS (by omega); rw [p1] at HQ; clear p4; have p1' := Lib.hid p1; have p2' := Lib.hid p2; have p3' := Lib.hid p3; have p5' := Lib.hid p5; have hq0' := Lib.hid hq0; have hQS' := Lib.hid hQS; have HQ' := Lib.hid HQ; clear p1 p2 p3 p5 hq0 hQS HQ
      go_wp2_with fail
      refine HQ'.out.mono ?_; intro e v1 k1; obtain ⟨pa, pn, pc, rfl, sp, hbv⟩ := pay_sl k1; clear k1; have hbv1 := hbw9'.out.trans (hbv.mono hbw9'.out.size); have e1 := conv8 sp; have e2 := conv8 (ha'.out.mono hbv1); obtain ⟨j1, j2⟩ := str_same za; have t9 := ho9'.out; have sv1 := s9'.out.mono hbv; have lv1 : ∀ x, a6 = some x → x.block < v1.heap.size := fun x hx => Nat.lt_of_lt_of_le (l9'.out x hx) hbv.size; have sq := hQS'.out.sl.mono hbv; have sr := (Sl.of_own ho89'.out).1.mono hbv; have st := (Sl.of_own ho9'.out).1.mono hbv
      by_cases h2 : E2 = 0
      · subst h2
        have hE3 := both_Q hT1'.out hT2'.out (N := n + m) (by rw [hzz'.out, hzl'.out]; exact Nat.le_refl _); rw [hzz'.out, hT3'.out] at hE3; obtain ⟨rfl, rfl⟩ := Prod.mk.inj hE3; obtain ⟨_, r2, r3⟩ := bytes_Q hT2'.out; have hr0 : 0 < r.length := List.length_pos_iff.2 r3; have hrl := (quants_back (bytes_Q hT2'.out).1 r2 (n := m) (by rw [hzm'.out]; exact Nat.le_refl _)).2; rw [hzm'.out] at hrl; have hp5 := p5'.out; obtain rfl : sn = r.length := hm8'.out; obtain rfl : tn = q.length + r.length := by have h := hm9'.out; rw [List.length_append] at h; exact h
        have OX := own_new v1 v1.heap.size 172 65 0 #[] (Nat.le_refl _) (by unfold maxLen; omega) rfl; have halX := (Below.refl v1.heap.size v1).alloc (Nat.le_refl _) (.cells #[] 172); have sq2 := sq.mono halX; have hszX := halX.size; clear hbv t9 hE3 r3 sq; have sp' := Lib.hid sp; have hbv1' := Lib.hid hbv1; have sv1' := Lib.hid sv1; have lv1' := Lib.hid lv1; have sr' := Lib.hid sr; have st' := Lib.hid st; have r2' := Lib.hid r2; have hr0' := Lib.hid hr0; have hrl' := Lib.hid hrl; have hp5' := Lib.hid hp5; have OX' := Lib.hid OX; have halX' := Lib.hid halX; have sq2' := Lib.hid sq2; clear sp hbv1 sv1 lv1 sr st r2 hr0 hrl hp5 OX halX sq2
        go_wp2_with (first
          | (at_builtin; refine wpList_appW rfl _ _ 52 rfl v1.heap.size 172 iq _ 65 520 Try.underlying52 hqi hqz hq1 hq2 hq3 (by decide) _ 0 [] rfl OX'.out ra q.length rc _ rfl sq2'.out qC_ones hq0'.out (by have := hp5'.out; omega) (by decide) hszX ?_; intro a5 c5 w5 ob5 hb5 hg5; simp only [Nat.zero_add, List.nil_append] at ob5 ⊢; have Ob5 := Lib.hid ob5; have hbv5 := halX'.out.trans hb5; have hsz5 := hbv5.size; have sr5 := Lib.hid (sr'.out.mono hbv5); have Hb5 := Lib.hid hbv5; clear ob5 hb5 hg5 hbv5)
          | (at_builtin; refine wpList_appW rfl _ _ 52 rfl v1.heap.size 172 iq _ 65 520 Try.underlying52 hqi hqz hq1 hq2 hq3 (by decide) _ q.length _ rfl Ob5.out sa r.length sc _ rfl sr5.out qC_ones hr0'.out (by have := hp5'.out; have := hrl'.out; omega) (by decide) hsz5 ?_; intro a7 c7 v3 ob7 hb7 hg7; have Ob7 := Lib.hid ob7; have Hb7 := Lib.hid (Hb5.out.trans hb7); clear ob7 hb7 hg7))
        have hqr : QsR v3 a7 (q.length + r.length) c7 (q ++ r) := ⟨by
          have h := (Sl.of_own Ob7.out).1; rw [← List.flatten_append, ← List.map_append] at h; exact h, fun x hx => (List.mem_append.1 hx).elim (p2'.out x) (r2'.out x)⟩
        have hs3 : QsR v3 ta (q.length + r.length) tc (q ++ r) := ⟨st'.out.mono Hb7.out, hqr.len⟩; have HE := lquants_eq ta a7 (q.length + r.length) tc c7 (q ++ r) v3 hs3 hqr; have hbv3 := hbv1'.out.trans (Hb7.out.mono hbv1'.out.size); have sv3 := sv1'.out.mono Hb7.out; have lv3 : ∀ x, a6 = some x → x.block < v3.heap.size := fun x hx => Nat.lt_of_lt_of_le (lv1'.out x hx) Hb7.out.size; clear hqr hs3; have HE' := Lib.hid HE; have hbv3' := Lib.hid hbv3; have sv3' := Lib.hid sv3; have lv3' := Lib.hid lv3; clear HE hbv3 sv3 lv3; refine HE'.out.mono ?_; rintro e v4 ⟨rfl, hb4⟩; have hbv4 := hbv3'.out.trans (hb4.mono hbv3'.out.size); have sv4 := sv3'.out.mono hb4; have lv4 : ∀ x, a6 = some x → x.block < v4.heap.size := fun x hx => Nat.lt_of_lt_of_le (lv3'.out x hx) hb4.size; clear hb4; have hbv4' := Lib.hid hbv4; have sv4' := Lib.hid sv4; have lv4' := Lib.hid lv4; clear hbv4 sv4 lv4
        go_wp2_with fail
        go_meet
        case rel => exact ⟨hbv4', sv4', lv4'⟩
      · have n2 : (E2 == 0) = false := by simpa using h2
        clear t9 hbv sq sr st h2; have sp' := Lib.hid sp; have hbv1' := Lib.hid hbv1; have sv1' := Lib.hid sv1; have lv1' := Lib.hid lv1; clear sp hbv1 sv1 lv1
        go_wp2_with fail
        go_meet
        case rel => exact ⟨hbv1', sv1', lv1'⟩
    · have n1 : (E1 == 0) = false := by simpa using h0
      clear h0
      go_wp2_with fail
      go_meet
      case rel => exact ⟨hbw9', s9', l9'⟩
  case rest =>
    obtain ⟨hbw7', s7', l7'⟩ := hcut; clear hbw9' s9' l9' ho79' ho89' ho9' hm7' hm8' hm9' hT1' hT2' hT3' hbw6' s6' l6' sa6' sb6' la6' lb6'; obtain ⟨T1, hT1⟩ : ∃ T, readAll takeC (n + 1) za = T := ⟨_, rfl⟩; obtain ⟨T2, hT2⟩ : ∃ T, readAll takeC (m + 1) zb = T := ⟨_, rfl⟩; obtain ⟨T3, hT3⟩ : ∃ T, readAll takeC (n + m + 1) zz = T := ⟨_, rfl⟩; have HR1 := readCoders_any a n c za wc (ha'.out.mono hbw7'.out) (fun x hx => Nat.lt_of_lt_of_le (la'.out x hx) hbw7'.out.size) hba'.out (by omega); rw [hT1] at HR1; have hT1' := Lib.hid hT1; have hT2' := Lib.hid hT2; have hT3' := Lib.hid hT3; have HR1' := Lib.hid HR1; clear hT1 hT2 hT3 HR1
    go_wp2_with fail
    refine HR1'.out.mono ?_; intro e w7 h7; obtain ⟨hb7, ra, rn, rc, qm, rfl, ho7, hqm, hm7, hy7⟩ := h7; have hbw8 := hbw7'.out.trans (hb7.mono hbw7'.out.size); have HR2 := readCoders_any b m d zb w7 (hb'.out.mono hbw8) (fun x hx => Nat.lt_of_lt_of_le (lb'.out x hx) hbw8.size) hbb'.out (by omega); rw [hT2'.out] at HR2; have s8 := s7'.out.mono hb7; have l8 : ∀ x, a6 = some x → x.block < w7.heap.size := fun x hx => Nat.lt_of_lt_of_le (l7'.out x hx) hb7.size; clear hb7; have ho7' := Lib.hid ho7; have hqm' := Lib.hid hqm; have hm7' := Lib.hid hm7; have hy7' := Lib.hid hy7; have hbw8' := Lib.hid hbw8; have HR2' := Lib.hid HR2; have s8' := Lib.hid s8; have l8' := Lib.hid l8; clear ho7 hqm hm7 hy7 hbw8 HR2 s8 l8
    go_wp2_with fail
    refine HR2'.out.mono ?_; intro e w8 h8; obtain ⟨hb8, sa, sn, sc, rm, rfl, ho8, hrm, hm8, hy8⟩ := h8; have hbw9 := hbw8'.out.trans (hb8.mono hbw8'.out.size); have s9 := s8'.out.mono hb8; have l9 : ∀ x, a6 = some x → x.block < w8.heap.size := fun x hx => Nat.lt_of_lt_of_le (l8'.out x hx) hb8.size; have ho78 := own_later ho7'.out hb8; have hy78 := hy7'.out.late hb8; have HR3 := readCoders_any a6 (n + m) c6 zz w8 s9 l9 hbz'.out (by omega); rw [hT3'.out] at HR3; clear hb8; have ho8' := Lib.hid ho8; have hrm' := Lib.hid hrm; have hm8' := Lib.hid hm8; have hy8' := Lib.hid hy8; have hbw9' := Lib.hid hbw9; have HR3' := Lib.hid HR3; have s9' := Lib.hid s9; have l9' := Lib.hid l9; have ho78' := Lib.hid ho78; have hy78' := Lib.hid hy78; clear ho8 hrm hm8 hy8 hbw9 HR3 s9 l9 ho78 hy78
    go_wp2_with fail
    refine HR3'.out.mono ?_; intro e w9 h9; obtain ⟨hb9, ta, tn, tc, tm, rfl, ho9, htm, hm9, hy9⟩ := h9; have hbwa := hbw9'.out.trans (hb9.mono hbw9'.out.size); have sa9 := s9'.out.mono hb9; have la9 : ∀ x, a6 = some x → x.block < w9.heap.size := fun x hx => Nat.lt_of_lt_of_le (l9'.out x hx) hb9.size; have ho79 := own_later ho78'.out hb9; have hy79 := hy78'.out.late hb9; have ho89 := own_later ho8'.out hb9; have hy89 := hy8'.out.late hb9; clear hb9; obtain ⟨E1, q⟩ := T1; obtain ⟨E2, r⟩ := T2; obtain ⟨E3, s⟩ := T3; have ho9' := Lib.hid ho9; have htm' := Lib.hid htm; have hm9' := Lib.hid hm9; have hy9' := Lib.hid hy9; have hbwa' := Lib.hid hbwa; have sa9' := Lib.hid sa9; have la9' := Lib.hid la9; have ho79' := Lib.hid ho79; have hy79' := Lib.hid hy79; have ho89' := Lib.hid ho89; have hy89' := Lib.hid hy89; clear ho9 htm hm9 hy9 hbwa sa9 la9 ho79 hy79 ho89 hy89; clear ho7' ho8' ho78' HR1' HR2' HR3' s7' s8' s9' l7' l8' l9' hbw7' hbw8' hbw9' hy7' hy8' hy78'
    go_upto_if 106 with fail
    go_cut [] from 27 (fun wx => Hid (Below w.heap.size w wx))
    case first =>
      by_cases h0 : E1 = 0
      · subst h0
        obtain ⟨p1, p2, p3⟩ := bytes_C hT1'.out; obtain ⟨p4, p5⟩ := count_C hT1'.out; rw [hzn'.out] at p4 p5; have hqm2 : qm.map (·.1) = q := hqm'.out; have hok : ∀ x ∈ qm.map (·.1), cOk x = true := by rw [hqm2]; exact (allW_some p1).1
        have hCB := cdsB_of hy79'.out ho79'.out hok
        have hf : ∀ x ∈ qm, x.2.2.1 ≤ 300 := fun x hx => by
          have h1 := (hCB.ok x hx).sl.ilen; have h2 := p5 x.1 (by rw [← hqm2]; exact List.mem_map_of_mem hx)
          omega
        have hql : qm.length = q.length := by rw [← hqm2, List.length_map]
        have hq0 : 0 < qm.length := by rw [hql]; exact List.length_pos_iff.2 p3
        obtain rfl : rn = qm.length := hm7'.out; have HQ := coders_any ra qm.length rc qm w9 (hCB.to hf) (by omega); rw [hqm2, p1] at HQ; have hq20 : qm.length ≤ 20 := by omega
        clear p4 p5 hf hok; have p1' := Lib.hid p1; have p2' := Lib.hid p2; have p3' := Lib.hid p3; have hq0' := Lib.hid hq0; have hCB' := Lib.hid hCB; have HQ' := Lib.hid HQ; have hqm2' := Lib.hid hqm2; have hql' := Lib.hid hql; have hq20' := Lib.hid hq20; clear p1 p2 p3 hq0 hCB HQ hqm2 hql hq20
        go_wp2_with fail
        refine HQ'.out.mono ?_; intro e v1 k1; obtain ⟨pa, pn, pc, rfl, sp, hbv⟩ := pay_sl k1; clear k1; have hbv1 := hbwa'.out.trans (hbv.mono hbwa'.out.size); have e1 := conv8 sp; have e2 := conv8 (ha'.out.mono hbv1); obtain ⟨j1, j2⟩ := str_same za; have cq := hCB'.out
        by_cases h2 : E2 = 0
        · subst h2
          have hE3 := both_C hT1'.out hT2'.out (N := n + m) (by rw [hzz'.out, hzl'.out]; exact Nat.le_refl _); rw [hzz'.out, hT3'.out] at hE3; obtain ⟨rfl, rfl⟩ := Prod.mk.inj hE3; obtain ⟨r1, r2, r3⟩ := bytes_C hT2'.out; obtain ⟨r4, _⟩ := count_C hT2'.out; rw [hzm'.out] at r4; have hrm2 : rm.map (·.1) = r := hrm'.out; have htm2 : tm.map (·.1) = q ++ r := htm'.out; have hrl : rm.length = r.length := by rw [← hrm2, List.length_map]
          have hr0 : 0 < rm.length := by rw [hrl]; exact List.length_pos_iff.2 r3
          have hr20 : rm.length ≤ 20 := by omega
          obtain rfl : sn = rm.length := hm8'.out
          have htl : tm.length = qm.length + rm.length := by
            have h := congrArg List.length htm2; rw [List.length_map, List.length_append] at h; rw [h, hql'.out, hrl]
          obtain rfl : tn = qm.length + rm.length := hm9'.out.trans htl; have cr := cdsB_of hy89'.out ho89'.out (by rw [hrm2]; exact (allW_some r1).1); have ct := cdsB_of hy9'.out ho9'.out (by rw [htm2]; exact (allW_some (allW_app p1'.out r1)).1); have sr := cr.sl.mono hbv; have OX := own_new v1 v1.heap.size 165 19 0 #[] (Nat.le_refl _) (by unfold maxLen; omega) rfl; have halX := (Below.refl v1.heap.size v1).alloc (Nat.le_refl _) (.cells #[] 165); have sq2 := (cq.sl.mono hbv).mono halX; have hszX := halX.size; have hq20 := hq20'.out; clear hE3 r3 r4; have sp' := Lib.hid sp; have hbv1' := Lib.hid hbv1; have hbv' := Lib.hid hbv; have sr' := Lib.hid sr; have cr' := Lib.hid cr; have ct' := Lib.hid ct; have cq' := Lib.hid cq; have r1' := Lib.hid r1; have r2' := Lib.hid r2; have hr0' := Lib.hid hr0; have OX' := Lib.hid OX; have halX' := Lib.hid halX; have sq2' := Lib.hid sq2; have hrm2' := Lib.hid hrm2; have htm2' := Lib.hid htm2; have hrl' := Lib.hid hrl; have htl' := Lib.hid htl; clear sp hbv1 hbv sr cr ct cq r1 r2 hr0 OX halX sq2 hrm2 htm2 hrl htl
          go_wp2_with (first
            | (at_builtin; refine wpList_appW rfl _ _ 53 rfl v1.heap.size 165 ic _ 19 168 Try.underlying53 hci hcz hc1 hc2 hc3 (by decide) _ 0 [] rfl OX'.out ra qm.length rc _ rfl sq2'.out cMC_ones hq0'.out (by omega) (by decide) hszX ?_; intro a5 c5 w5 ob5 hb5 hg5; simp only [Nat.zero_add, List.nil_append] at ob5 ⊢; have Ob5 := Lib.hid ob5; have hbv5 := halX'.out.trans hb5; have hsz5 := hbv5.size; have sr5 := Lib.hid (sr'.out.mono hbv5); have Hb5 := Lib.hid hbv5; clear ob5 hb5 hg5 hbv5)
            | (at_builtin; refine wpList_appW rfl _ _ 53 rfl v1.heap.size 165 ic _ 19 168 Try.underlying53 hci hcz hc1 hc2 hc3 (by decide) _ qm.length _ rfl Ob5.out sa rm.length sc _ rfl sr5.out cMC_ones hr0'.out (by omega) (by decide) hsz5 ?_; intro a7 c7 v3 ob7 hb7 hg7; have Ob7 := Lib.hid ob7; have Hb7 := Lib.hid (Hb5.out.trans hb7); clear ob7 hb7 hg7))
          have hw93 := hbv'.out.trans (Hb7.out.mono hbv'.out.size)
          have hqr : CdsB v3 a7 (qm.length + rm.length) c7 (qm ++ rm) := ⟨by
            have h := (Sl.of_own Ob7.out).1; rw [← List.flatten_append, ← List.map_append] at h; exact h, fun x hx => (List.mem_append.1 hx).elim (fun h => (cq'.out.ok x h).mono hw93) (fun h => (cr'.out.ok x h).mono hw93)⟩
          have HE := lcoders_eq ta a7 (qm.length + rm.length) tc c7 tm (qm ++ rm) v3 (ct'.out.mono hw93) hqr (by rw [htm2'.out, List.map_append, hqm2'.out, hrm2'.out]); have hbv3 := hbv1'.out.trans (Hb7.out.mono hbv1'.out.size); clear hqr hw93; have HE' := Lib.hid HE; have hbv3' := Lib.hid hbv3; clear HE hbv3; refine HE'.out.mono ?_; rintro e v4 ⟨rfl, hb4⟩; have hbv4 := hbv3'.out.trans (hb4.mono hbv3'.out.size); clear hb4; have hbv4' := Lib.hid hbv4; clear hbv4
          go_wp2_with fail
          go_meet
          case rel => exact hbv4'
        · have n2 : (E2 == 0) = false := by simpa using h2
          clear hbv h2 cq; have sp' := Lib.hid sp; have hbv1' := Lib.hid hbv1; clear sp hbv1
          go_wp2_with fail
          go_meet
          case rel => exact hbv1'
      · have n1 : (E1 == 0) = false := by simpa using h0
        clear h0
        go_wp2_with fail
        go_meet
        case rel => exact hbwa'
    case rest =>
      clear hbwa' sa9' la9' ho79' hy79' ho89' hy89' ho9' htm' hm9' hy9' hm7' hm8' hqm' hrm' hT1' hT2' hT3' hbz' hzl' hzz' hb' hbb' lb' hzm'; have hbw7' : Hid (Below w.heap.size w wc) := hcut; clear hcut; have HR := readFrame_any a n c za wc (ha'.out.mono hbw7'.out) (fun x hx => Nat.lt_of_lt_of_le (la'.out x hx) hbw7'.out.size) hba'.out (by omega); obtain ⟨T, hT⟩ : ∃ T, rfS za = T := ⟨_, rfl⟩; rw [hT] at HR; have HR' := Lib.hid HR; have hT' := Lib.hid hT; clear HR hT
      go_wp2_with fail
      refine HR'.out.mono ?_; intro e w7 h7; obtain ⟨hb7, ra, rn, rc, rfl, ho7, hm7⟩ := h7; obtain ⟨E1, fw, fh, l⟩ := T; simp only at hm7 ho7; have hbw8 := hbw7'.out.trans (hb7.mono hbw7'.out.size); have hal := (Below.refl w7.heap.size w7).alloc (Nat.le_refl _) (.cells #[.int .i64 fw, .int .i64 fh, .slice ra rn rc] 56); have bF := Blk.new w7 56 #[.int .i64 fw, .int .i64 fh, .slice ra rn rc]; obtain ⟨W5, hW5⟩ : ∃ W5, w7.alloc (.cells #[.int .i64 fw, .int .i64 fh, .slice ra rn rc] 56) = W5 := ⟨_, rfl⟩; rw [hW5] at hal bF; have hbw5 := hbw8.trans (hal.mono hbw8.size); have sl5 := ((Sl.of_own ho7).1).mono hal; have j0 : W5.cell? ⟨w7.heap.size, 0, none⟩ = some (.int .i64 fw) := bF.cell rfl; have j1 : W5.cell? ⟨w7.heap.size, 1, none⟩ = some (.int .i64 fh) := bF.cell rfl; have j2 : W5.cell? ⟨w7.heap.size, 2, none⟩ = some (.slice ra rn rc) := bF.cell rfl; clear hb7 hal ho7 hbw8; have hm7' := Lib.hid hm7; have hW5' := Lib.hid hW5; have bF' := Lib.hid bF; have hbw5' := Lib.hid hbw5; have sl5' := Lib.hid sl5; clear hm7 hW5 bF hbw5 sl5
      go_upto_region 19 with fail
      rw [hW5'.out]
      go_upto_if 145 with fail
      go_cut [] from 27 (fun wx => Hid (Below w.heap.size w wx))
      case first =>
        by_cases h0 : E1 = 0
        · subst h0
          obtain ⟨f0, f1⟩ := rfS_of hba'.out hT'.out; obtain ⟨_, _, f2⟩ := frmE_ok f0; have hS : StR cmpL 4 W5 ra rn rc l := ⟨by rw [ints_flat]; exact sl5'.out, hm7'.out.symm⟩
          have hl4 : l.length ≤ 4 := by
            have h := (idOk_len (frmE_ok f0).2.1).2
            rwa [List.length_map] at h
          have HF := frame_any fw fh ra rn rc l W5 hS (by have := hm7'.out; omega) (fun x hx => by
            obtain ⟨j, hj, rfl⟩ := List.mem_iff_getElem.1 hx; have := frm_byt f0 j _ (List.getElem?_eq_getElem hj); unfold CmpWf Wf
            omega) (by unfold Wf; omega) (by unfold Wf; omega)
          rw [if_pos f0, f1] at HF; clear f0 f1 f2 hl4; have hS' := Lib.hid hS; have HF' := Lib.hid HF; clear hS HF
          go_wp2_with fail
          refine HF'.out.mono ?_; intro e v1 k1; obtain ⟨pa, pn, pc, rfl, sp, hbv⟩ := pay_sl k1; have hbv1 := hbw5'.out.trans (hbv.mono hbw5'.out.size); have e1 := conv8 sp; have e2 := conv8 (ha'.out.mono hbv1); obtain ⟨y1, y2⟩ := str_same za; clear k1 hbv j0 j1 j2; have sp' := Lib.hid sp; have hbv1' := Lib.hid hbv1; clear sp hbv1
          go_wp2_with fail
          go_meet
          case rel => exact hbv1'
        · have n1 : (E1 == 0) = false := by simpa using h0
          clear h0
          go_wp2_with fail
          go_meet
          case rel => exact hbw5'
      case rest =>
        clear j0 j1 j2 hm7' hW5' bF' hbw5' sl5' hT' HR' hbw7'; have hbw7' : Hid (Below w.heap.size w wc) := hcut; clear hcut; have HR := readHead_any a n c za wc (ha'.out.mono hbw7'.out) hba'.out (by omega); obtain ⟨T, hT⟩ : ∃ T, rhS za = T := ⟨_, rfl⟩; rw [hT] at HR; have HR' := Lib.hid HR; have hT' := Lib.hid hT; clear HR hT
        go_wp2_with fail
        refine HR'.out.mono ?_; intro e w7 h7; obtain ⟨hb7, ra, rn, rc, rfl, ho7, hm7⟩ := h7; obtain ⟨E1, l⟩ := T; simp only at hm7 ho7; have hbw8 := hbw7'.out.trans (hb7.mono hbw7'.out.size); have sl5 := (Sl.of_own ho7).1; clear hb7 ho7; have hm7' := Lib.hid hm7; have hbw8' := Lib.hid hbw8; have sl5' := Lib.hid sl5; clear hm7 hbw8 sl5
        go_upto_if 166 with fail
        go_cut [] from 27 (fun wx => Hid (Below w.heap.size w wx))
        case first =>
          by_cases h0 : E1 = 0
          · subst h0
            obtain ⟨f0, f1⟩ := rhS_of hba'.out hT'.out; have hS : StR useL 3 w7 ra rn rc l := ⟨by rw [ints_flat]; exact sl5'.out, hm7'.out.symm⟩; have hl4 := (usesOk_parts f0).2.2; have HF := head_any ra rn rc l w7 hS (by have := hm7'.out; omega); rw [if_pos f0, f1] at HF; clear f0 f1 hl4; have hS' := Lib.hid hS; have HF' := Lib.hid HF; clear hS HF
            go_wp2_with fail
            refine HF'.out.mono ?_; intro e v1 k1; obtain ⟨pa, pn, pc, rfl, sp, hbv⟩ := pay_sl k1; have hbv1 := hbw8'.out.trans (hbv.mono hbw8'.out.size); have e1 := conv8 sp; have e2 := conv8 (ha'.out.mono hbv1); obtain ⟨y1, y2⟩ := str_same za; clear k1 hbv; have sp' := Lib.hid sp; have hbv1' := Lib.hid hbv1; clear sp hbv1
            go_wp2_with fail
            go_meet
            case rel => exact hbv1'
          · have n1 : (E1 == 0) = false := by simpa using h0
            clear h0
            go_wp2_with fail
            go_meet
            case rel => exact hbw8'
        case rest =>
          have hbw9 := hcut.out; clear hcut
          go_wp2_with fail
          refine (awake_any _).mono ?_; intro e w3 h3; obtain ⟨rfl, hb3⟩ := h3; have hbw3 := hbw9.trans (hb3.mono hbw9.size); clear hb3; have hbw3' := Lib.hid hbw3; clear hbw3
          go_wp2_with fail
          go_ret
          exact ⟨rfl, hbw3'.out⟩
theorem bytes14_law2 {a b : Option Addr} {n c m d : Nat} {za zb : List Int} {w : World} (ha : Sl w a n c 1 (ints .u8 za)) (hb : Sl w b m d 1 (ints .u8 zb)) (hba : Byt za) (hbb : Byt zb) (la : ∀ x, a = some x → x.block < w.heap.size) (lb : ∀ x, b = some x → x.block < w.heap.size) :
    Calls Try.prog 9 #[.slice a n c, .slice b m d] w fun e w' => e = .returned (.bool true) ∧ Below w.heap.size w w' := bytes14_law a b n c m d za zb w ha hb hba hbb la lb
end Go.Proofs.Ytpjopeojeglogaa
