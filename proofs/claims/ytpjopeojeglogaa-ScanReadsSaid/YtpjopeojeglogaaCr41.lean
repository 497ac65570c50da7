/- Chapter 12: the law ScanReads. | Chapter 14: a table of codes taken from bytes: the program. | Chapter 14 (plain, and a guarded append onto an owned row): what is read of bytes is written as they are; of two payloads, one behind the other. | The closed facts of the row of ScanReads, each by itself. -/
import Derived.Test.YtpjopeojeglogaaCr16
import Derived.Test.YtpjopeojeglogaaCr30
import Derived.Test.YtpjopeojeglogaaCr27
import Derived.Test.YtpjopeojeglogaaCr29
import Derived.Test.YtpjopeojeglogaaCr40
import Derived.Test.YtpjopeojeglogaaCr39
import Derived.Test.YtpjopeojeglogaaCr05
import Derived.Test.YtpjopeojeglogaaCr07
import Derived.Test.YtpjopeojeglogaaCr00
namespace Go.Proofs.Ytpjopeojeglogaa
open Go.RowKit Tt
set_option linter.unusedVariables false
set_option linter.unusedSimpArgs false

/-- the law's own copy of the bytes -/
structure Ro12 (w0 : World) (a : Option Addr) (n c : Nat) (z : List Int) (W : World) : Prop where
  s : Sl W a n c 1 (ints .u8 z)
  l : ∀ x, a = some x → x.block < W.heap.size
  b : Below w0.heap.size w0 W
theorem Ro12.late {w0 : World} {a : Option Addr} {n c : Nat} {z : List Int} {W W' : World} (h : Ro12 w0 a n c z W) (hb : Below W.heap.size W W') : Ro12 w0 a n c z W' :=
  ⟨h.s.mono hb, fun x hx => Nat.lt_of_lt_of_le (h.l x hx) hb.size, h.b.trans (hb.mono h.b.size)⟩
theorem BpsR.nil (w : World) : BpsR w none 0 0 [] := ⟨Sl.nil w 1, fun b h => by cases h⟩
set_option maxRecDepth 100000 in
set_option maxHeartbeats 8000000 in
theorem reads_law (s : ScT) (pa ba : Option Addr) (pn pc bn bc : Nat) (z : List Int) (w : World) (hs : PtsB w pa pn pc s.ps) (hb : Sl w ba bn bc 1 (ints .u8 z)) (hz : Byt z) (hba : ∀ x, ba = some x → x.block < w.heap.size) (hw1 : Wf s.ax) (hw2 : Wf s.dn) (hw3 : Wf s.iv) :
    Calls Try.prog 4 #[.agg #[.int .i64 s.ax, .int .i64 s.dn, .slice pa pn pc, .int .i64 s.iv], .slice ba bn bc] w (LawR w) := by
  obtain ⟨i0, hi, hz0, hz1, hz2⟩ := info_parts info8; have hzl := hb.ilen; have b1 := Blk.new w 24 #[.int .i64 s.ax, .int .i64 s.dn, .slice pa pn pc, .int .i64 s.iv]; have hb1 := (Below.refl w.heap.size w).alloc (Nat.le_refl _) (.cells #[.int .i64 s.ax, .int .i64 s.dn, .slice pa pn pc, .int .i64 s.iv] 24); obtain ⟨W1, hW1⟩ : ∃ W1, w.alloc (.cells #[.int .i64 s.ax, .int .i64 s.dn, .slice pa pn pc, .int .i64 s.iv] 24) = W1 := ⟨_, rfl⟩; rw [hW1] at b1 hb1; have hcs : ∀ W, Blk W w.heap.size 24 #[.int .i64 s.ax, .int .i64 s.dn, .slice pa pn pc, .int .i64 s.iv] → W.cell? ⟨w.heap.size, 0, none⟩ = some (.int .i64 s.ax) ∧ W.cell? ⟨w.heap.size, 1, none⟩ = some (.int .i64 s.dn) ∧ W.cell? ⟨w.heap.size, 2, none⟩ = some (.slice pa pn pc) ∧ W.cell? ⟨w.heap.size, 3, none⟩ = some (.int .i64 s.iv) := fun W b => ⟨b.cell rfl, b.cell rfl, b.cell rfl, b.cell rfl⟩; have HL := large12_any s pa pn pc W1 (hs.mono hb1) hw1 hw2; have HA := awake12_any; obtain ⟨k0, k1, k2, k3⟩ := hcs W1 b1; have hs' := Lib.hid hs; have hb' := Lib.hid hb; have hz' := Lib.hid hz; have hba' := Lib.hid hba; have hw1' := Lib.hid hw1; have hw2' := Lib.hid hw2; have hw3' := Lib.hid hw3; have b1' := Lib.hid b1; have hb1' := Lib.hid hb1; have hW1' := Lib.hid hW1; have hcs' := Lib.hid hcs; have HL' := Lib.hid HL; have HA' := Lib.hid HA; have hzl' := Lib.hid hzl; clear hs hb hz hba hw1 hw2 hw3 b1 hb1 hW1 hcs HL HA hzl
  go_enter Try.func4, Try.ntmps4
  go_upto_region 1 with fail
  rw [hW1'.out]
  go_cut [18] from 12 (fun v wx => Hid (Below w.heap.size w wx) ∧ Hid (Blk wx w.heap.size 24 #[.int .i64 s.ax, .int .i64 s.dn, .slice pa pn pc, .int .i64 s.iv]) ∧ (v = .bool true ∨ (v = .bool false ∧ bn ≤ 200 ∧ Hid (SmallSc s))))
  case first =>
    go_wp2_with fail
    refine HL'.out.mono ?_; rintro e w2 ⟨bl, rfl, hsm, hb2⟩; have hbw2 := hb1'.out.trans (hb2.mono hb1'.out.size); have b2 := b1'.out.late hb2; clear k0 k1 k2 k3 hb2
    cases bl with
    | true =>
      clear hsm; have hbw2' := Lib.hid hbw2; have b2' := Lib.hid b2; clear hbw2 b2
      go_wp2
      go_meet
      case rel => exact ⟨hbw2', b2', .inl rfl⟩
    | false =>
      have hsm2 := hsm rfl; clear hsm; have hbw2' := Lib.hid hbw2; have b2' := Lib.hid b2; have hsm2' := Lib.hid hsm2; clear hbw2 b2 hsm2
      by_cases h2 : 200 < bn
      · go_wp2
        go_meet
        case rel => exact ⟨hbw2', b2', .inl (by first | rfl | (congr 1; simp; omega))⟩
      · go_wp2
        go_meet
        case rel => exact ⟨hbw2', b2', .inr ⟨by first | rfl | (congr 1; simp; omega), by omega, hsm2'⟩⟩
  case rest =>
  clear k0 k1 k2 k3 HL' hb1' b1'; obtain ⟨hbw2, b2, hc⟩ := hcut
  rcases hc with rfl | ⟨rfl, hbn, hsm⟩
  · have HA2 := HA'.out wc
    have HA2' := Lib.hid HA2; clear HA2
    go_wp2_with fail
    refine HA2'.out.mono ?_; rintro e w3 ⟨rfl, hb3⟩; have hbw3 := hbw2.out.trans (hb3.mono hbw2.out.size); clear hb3; have hbw3' := Lib.hid hbw3; clear hbw3
    go_wp2
    go_ret
    exact LawR.mk rfl hbw3'.out
  obtain ⟨hsh, hs1, hs2, hs3, hs4⟩ := hsm.out; have hP := hs'.out.few hsh; have hpw : ∀ p ∈ s.ps, Wf p.1 ∧ Wf p.2.1 := fun p hp => ⟨(hs'.out.ok p hp).wfh, (hs'.out.ok p hp).wfv⟩; have hl := hP.ilen; have O0 := own_new wc wc.heap.size 5 1 0 #[] (Nat.le_refl _) (by unfold maxLen; omega) rfl; have hal0 := (Below.refl wc.heap.size wc).alloc (Nat.le_refl _) (.cells #[] 5); have hsz0 := hal0.size; have sa0 := (hb'.out.mono hbw2.out).mono hal0; clear hsm hs1 hs2 hs3 hs4 hsh; have hP' := Lib.hid hP; have hpw' := Lib.hid hpw; have hl' := Lib.hid hl; have O0' := Lib.hid O0; have hal0' := Lib.hid hal0; have sa0' := Lib.hid sa0; clear hP hpw hl O0 hal0 sa0
  go_upto_region 4 with (at_builtin; refine wpList_app rfl _ _ 30 rfl wc.heap.size 5 i0 _ 1 1 Try.underlying30 hi hz0 hz1 hz2 rfl (by decide) _ 0 [] rfl O0'.out ba bn bc _ rfl sa0'.out ints_one (by omega) (by decide) hsz0 ?_; intro a5 c5 w5 ob5 hb5 hg5; simp only [Nat.zero_add, List.nil_append] at ob5 ⊢; have Ob5 := Lib.hid ob5; have Hb5 := Lib.hid (hal0'.out.trans hb5); clear ob5 hb5 hg5)
  have R5 : Ro12 w a5 bn c5 z w5 := ⟨(Sl.of_own Ob5.out).1, fun x hx => by
    subst hx
    rcases Ob5.out.2 with ⟨h, _⟩ | ⟨g, cap, cur, h, _, hg, _⟩
    · cases h
    · injection h with h _ _
      injection h with h; rw [h]; exact (Array.getElem?_eq_some_iff.1 hg).1, hbw2.out.trans (Hb5.out.mono hbw2.out.size)⟩
  have b5 := b2.out.late Hb5.out; have HR := read_any s pa a5 pn pc bn c5 z w5 (hP'.out.mono R5.b) R5.s hz'.out (by omega) R5.l hw1'.out hw2'.out hw3'.out hpw'.out; obtain ⟨k0, k1, k2, k3⟩ := hcs'.out w5 b5; clear O0' hal0' sa0' Ob5 Hb5 hsz0 b2 hbw2; have R5' := Lib.hid R5; have b5' := Lib.hid b5; have HR' := Lib.hid HR; clear R5 b5 HR
  go_wp2_with fail
  refine HR'.out.mono ?_; intro e w6 hres; have hb6 := hres.2; have R6 := R5'.out.late hb6; have b6 := b5'.out.late hb6; have hM := rmay12_any s pa pn pc w6 (hP'.out.mono R6.b) hw1'.out hw2'.out hw3'.out hpw'.out; obtain ⟨j1, j2⟩ := str_same z; have e1 := conv8 R6.s; have e2 := conv8 (hb'.out.mono R6.b); clear k0 k1 k2 k3 hb6; obtain ⟨k0, k1, k2, k3⟩ := hcs'.out w6 b6
  rcases hres.1 with ⟨hm, rfl⟩ | ⟨hm, hrd⟩
  · rw [hm] at hM
    clear hres HR'; have R6' := Lib.hid R6; have b6' := Lib.hid b6; have hM' := Lib.hid hM; have hm' := Lib.hid hm; clear R6 b6 hM hm
    go_wp2_with fail
    refine hM'.out.mono ?_; rintro e w7 ⟨rfl, hb7⟩; have R7 := R6'.out.late hb7; have HA2 := HA'.out w7; clear hb7 k0 k1 k2 k3 e1 e2 j1 j2; have R7' := Lib.hid R7; have HA2' := Lib.hid HA2; clear R7 HA2
    go_wp2_with fail
    refine HA2'.out.mono ?_; rintro e w8 ⟨rfl, hb8⟩; have hbw8 := R7'.out.b.trans (hb8.mono R7'.out.b.size); clear hb8; have hbw8' := Lib.hid hbw8; clear hbw8
    go_wp2
    go_ret
    exact LawR.mk rfl hbw8'.out
  · rw [hm] at hM
    clear hres HR'
    rcases hrd with ⟨n, hrd, rfl⟩ | ⟨bl, ra, rn, rc, rs, hrd, rfl, hbs, hmap⟩
    · have R6' := Lib.hid R6
      have b6' := Lib.hid b6; have hM' := Lib.hid hM; have hm' := Lib.hid hm; have hrd' := Lib.hid hrd; clear R6 b6 hM hm hrd
      go_wp2_with fail
      refine hM'.out.mono ?_; rintro e w7 ⟨rfl, hb7⟩; have R7 := R6'.out.late hb7; have b7 := b6'.out.late hb7; have HD := read12_any s pa ba pn pc bn bc z w7 (hP'.out.mono R7.b) (hb'.out.mono R7.b) hz'.out (by omega) (fun x hx => Nat.lt_of_lt_of_le (hba'.out x hx) R7.b.size) hm'.out; clear hb7 k0 k1 k2 k3 e1 e2 j1 j2; obtain ⟨k0, k1, k2, k3⟩ := hcs'.out w7 b7; have R7' := Lib.hid R7; have b7' := Lib.hid b7; have HD' := Lib.hid HD; clear R7 b7 HD
      go_wp2_with fail
      refine HD'.out.mono ?_; rintro e w8 ⟨hres, hb8⟩; have R8 := R7'.out.late hb8; clear k0 k1 k2 k3 hb8
      rcases hres with ⟨n2, h2, rfl⟩ | ⟨bl, a2, n2, c2, bs, h2, rfl, hbs, hmap⟩
      · obtain rfl : n = n2 := by
          have := hrd'.out.symm.trans h2; injection this
        have HS := rsame12_eq none none 0 0 0 [] [] w8 (BpsR.nil w8) (BpsR.nil w8) rfl (by unfold maxLen; omega); clear h2; have R8' := Lib.hid R8; have HS' := Lib.hid HS; clear R8 HS
        go_wp2_with fail
        refine HS'.out.mono ?_; rintro e w9 ⟨rfl, hb9⟩; have R9 := R8'.out.late hb9; have HA2 := HA'.out w9; have nn : ((n : Int) == (n : Int)) = true := by simp
        clear hb9; have R9' := Lib.hid R9; have HA2' := Lib.hid HA2; clear R9 HA2
        go_wp2_with fail
        refine HA2'.out.mono ?_; rintro e w10 ⟨rfl, hb10⟩; have hbw10 := R9'.out.b.trans (hb10.mono R9'.out.b.size); clear hb10; have hbw10' := Lib.hid hbw10; clear hbw10
        go_wp2
        go_ret
        exact LawR.mk rfl hbw10'.out
      · have := hrd'.out.symm.trans h2
        cases this
    · have R6' := Lib.hid R6
      have b6' := Lib.hid b6; have hM' := Lib.hid hM; have hm' := Lib.hid hm; have hrd' := Lib.hid hrd; have hbs' := Lib.hid hbs; have hmap' := Lib.hid hmap; clear R6 b6 hM hm hrd hbs hmap
      go_wp2_with fail
      refine hM'.out.mono ?_; rintro e w7 ⟨rfl, hb7⟩; have R7 := R6'.out.late hb7; have b7 := b6'.out.late hb7; have hbs7 := hbs'.out.mono hb7; have HD := read12_any s pa ba pn pc bn bc z w7 (hP'.out.mono R7.b) (hb'.out.mono R7.b) hz'.out (by omega) (fun x hx => Nat.lt_of_lt_of_le (hba'.out x hx) R7.b.size) hm'.out; clear hb7 k0 k1 k2 k3 e1 e2 j1 j2; obtain ⟨k0, k1, k2, k3⟩ := hcs'.out w7 b7; have R7' := Lib.hid R7; have b7' := Lib.hid b7; have HD' := Lib.hid HD; have hbs7' := Lib.hid hbs7; clear R7 b7 HD hbs7
      go_wp2_with fail
      refine HD'.out.mono ?_; rintro e w8 ⟨hres, hb8⟩; have R8 := R7'.out.late hb8; have hbs8 := hbs7'.out.mono hb8; clear k0 k1 k2 k3 hb8
      rcases hres with ⟨n2, h2, rfl⟩ | ⟨bl2, a2, n2, c2, bs, h2, rfl, hbs2, hmap2⟩
      · have := hrd'.out.symm.trans h2
        cases this
      · have hlm : rs.map (·.1) = bs.map (·.1) := by
          have h1 := hrd'.out.symm.trans h2; injection h1 with h1; rw [hmap'.out, hmap2, h1]
        have hln : rs.length = bs.length := by simpa using congrArg List.length hlm
        obtain rfl : rn = n2 := by rw [← hbs8.ilen, ← hbs2.ilen, hln]
        have HS := rsame12_eq ra a2 rn rc c2 rs bs w8 hbs8 hbs2 hlm (by
          have h1 := hbs8.sl.le; have h2 := hbs8.sl.max; unfold maxLen
          omega)
        clear h2 hln hlm hbs2 hmap2 hbs8; have R8' := Lib.hid R8; have HS' := Lib.hid HS; clear R8 HS
        go_wp2_with fail
        refine HS'.out.mono ?_; rintro e w9 ⟨rfl, hb9⟩; have R9 := R8'.out.late hb9; have HA2 := HA'.out w9; clear hb9; have R9' := Lib.hid R9; have HA2' := Lib.hid HA2; clear R9 HA2
        go_wp2_with fail
        refine HA2'.out.mono ?_; rintro e w10 ⟨rfl, hb10⟩; have hbw10 := R9'.out.b.trans (hb10.mono R9'.out.b.size); clear hb10; have hbw10' := Lib.hid hbw10; clear hbw10
        go_wp2
        go_ret
        exact LawR.mk rfl hbw10'.out
end Go.Proofs.Ytpjopeojeglogaa

namespace Go.Proofs.Ytpjopeojeglogaa
open Go.RowKit Tt
set_option linter.unusedVariables false
set_option linter.unusedSimpArgs false

theorem byt_wf {l : List Int} (h : Byt l) : ∀ x ∈ l, (Lit.int .i64 x).wf = true := fun x hx => by
  have := h x hx
  simp [Lit.wf, IntKind.min, IntKind.max, IntKind.signed, IntKind.bits]
  omega
end Go.Proofs.Ytpjopeojeglogaa

namespace Tt
open Go Go.RowKit
set_option linter.unusedVariables false
section
variable {P : Program} {ops : Array Oper} {rest : List Oper} {o : Oper} {a : Act} {w : World} {Q : Exit → Act → World → Prop}
/-- the block of a slice that came in -/
theorem wide_lt {W : World} {base : Nat} {t e : TypeId} {xa : Option Addr} {n c : Nat} (hu : P.underlying t = some (.slice e)) (h : Value.okWide P W .any base t (.slice xa n c)) : ∀ x, xa = some x → x.block < W.heap.size := fun x hx => by
  subst hx; unfold Value.okWide at h; simp only [hu] at h; unfold Cell.okWide at h; simp only [hu] at h; unfold Cell.ok at h; simp only [hu] at h; obtain ⟨_, _, _, _, row, cells, hs, _⟩ := h
  rcases Nat.lt_or_ge x.block W.heap.size with h1 | h1
  · exact h1
  · unfold World.shape? at hs
    rw [Array.getElem?_eq_none h1] at hs
    cases hs
end
end Tt
namespace Go.Proofs.Ytpjopeojeglogaa
open Go.RowKit Tt
set_option linter.unusedVariables false
set_option linter.unusedSimpArgs false

end Go.Proofs.Ytpjopeojeglogaa

namespace Go.Proofs.Ytpjopeojeglogaa.scanReads
theorem band {a b : Bool} (h1 : a = true) (h2 : b = true) : (a && b) = true := by rw [h1, h2]; rfl
set_option maxRecDepth 100000 in
set_option maxHeartbeats 8000000 in
theorem joined : joinedFacts Try.pinned.checked.prog 4 Try.f4 Rows.scanReadsSpec Rows.scanReadsRow = true := by
  unfold joinedFacts
  repeat' (with_reducible apply band)
  all_goals as_aux_lemma => kernel_rfl
end Go.Proofs.Ytpjopeojeglogaa.scanReads
