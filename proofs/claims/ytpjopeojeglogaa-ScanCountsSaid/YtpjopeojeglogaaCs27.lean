/- Chapter 12: the bytes up to the next marker of a restart: the program's reader.begin. -/
import Derived.Test.YtpjopeojeglogaaCs24
import Derived.Test.YtpjopeojeglogaaCs26
namespace Go.Proofs.Ytpjopeojeglogaa
open Go.RowKit Tt
set_option linter.unusedVariables false
set_option linter.unusedSimpArgs false

theorem cut_go {l : List Int} {k : Nat} {x : Int} (h : l[k]? = some x) (hs : x ≠ 255 ∨ k + 1 = l.length ∨ ∃ y, l[k + 1]? = some y ∧ ¬ (208 ≤ y ∧ y ≤ 215)) : cutR (l.drop k) = cutR (l.drop (k + 1)) + 1 := by
  rw [drop_at h]
  cases hd : l.drop (k + 1) with
  | nil => rfl
  | cons y t =>
    have hlt : k + 1 < l.length := by
      rcases Nat.lt_or_ge (k + 1) l.length with h1 | h1
      · exact h1
      · rw [List.drop_of_length_le h1] at hd; cases hd
    have hy : l[k + 1]? = some y := by
      have : (l.drop (k + 1))[0]? = some y := by rw [hd]; rfl
      rwa [List.getElem?_drop, Nat.add_zero] at this
    rw [show cutR (x :: y :: t) = if x = 255 ∧ 208 ≤ y ∧ y ≤ 215 then 0 else cutR (y :: t) + 1 from by rw [cutR], if_neg]
    · rintro ⟨h1, h2, h3⟩
      rcases hs with hs | hs | ⟨z, hz, hs⟩
      · exact hs h1
      · omega
      · rw [hy] at hz
        injection hz with hz; rw [← hz] at hs; exact hs ⟨h2, h3⟩
theorem cut_stop {l : List Int} {k : Nat} {y : Int} (h : l[k]? = some 255) (hy : l[k + 1]? = some y) (h1 : 208 ≤ y) (h2 : y ≤ 215) : cutR (l.drop k) = 0 := by
  rw [drop_at h, drop_at hy]; rw [cutR, if_pos ⟨rfl, h1, h2⟩]
theorem cut_end {l : List Int} {k : Nat} (h : l.length ≤ k) : cutR (l.drop k) = 0 := by rw [List.drop_of_length_le h]; rfl
theorem andnot7_fin : ∀ a : Fin 256, bits BinOp.andNot IntKind.u8 (a.val : Int) 7 = (a.val : Int) - (a.val : Int) % 8 := by decide +kernel
theorem andnot7 {a : Int} (h1 : 0 ≤ a) (h2 : a < 256) : bits BinOp.andNot IntKind.u8 a 7 = a - a % 8 := by
  have h := andnot7_fin ⟨a.toNat, by omega⟩
  simpa [Int.toNat_of_nonneg h1] using h
theorem rdr_cells {w : World} {rr : Nat} {s : ScT} {pa : Option Addr} {pn pc : Nat} {ta : Option Addr} {tc : Nat} {ra : Option Addr} {rn rc : Nat} {q : Option Addr} {gl : Nat} (h : Blk w rr 152 (rdrC s pa pn pc ta tc ra rn rc q gl)) :
    w.cell? ⟨rr, 3, none⟩ = some (.int .i64 s.iv) ∧ w.cell? ⟨rr, 5, none⟩ = some (.slice ra rn rc) ∧ w.cell? ⟨rr, 6, none⟩ = some (.pointer q) ∧ w.cell? ⟨rr, 7, none⟩ = some (.slice (some ⟨gl, 0, none⟩) pn pn) := by
  unfold rdrC at h; exact ⟨h.cell rfl, h.cell rfl, h.cell rfl, h.cell rfl⟩
theorem rdr_set6 {w : World} {rr : Nat} {s : ScT} {pa : Option Addr} {pn pc : Nat} {ta : Option Addr} {tc : Nat} {ra : Option Addr} {rn rc : Nat} {q : Option Addr} {gl : Nat} (h : Blk w rr 152 (rdrC s pa pn pc ta tc ra rn rc q gl)) (q2 : Option Addr) : Blk (w.setCell ⟨rr, 6, none⟩ (.pointer q2)) rr 152 (rdrC s pa pn pc ta tc ra rn rc q2 gl) := h.set 6 _
theorem rdr_set5 {w : World} {rr : Nat} {s : ScT} {pa : Option Addr} {pn pc : Nat} {ta : Option Addr} {tc : Nat} {ra : Option Addr} {rn rc : Nat} {q : Option Addr} {gl : Nat} (h : Blk w rr 152 (rdrC s pa pn pc ta tc ra rn rc q gl)) (a2 : Option Addr) (n2 c2 : Nat) : Blk (w.setCell ⟨rr, 5, none⟩ (.slice a2 n2 c2)) rr 152 (rdrC s pa pn pc ta tc a2 n2 c2 q gl) := h.set 5 _
theorem beginS_no {R : List Int} {k : Nat} (h : cutR R = k) (hn : ¬ (plainS (R.take k)).2 = (R.take k).length) : beginS R = none := by subst h; unfold beginS; rw [if_neg hn]
theorem beginS_ok {R : List Int} {k : Nat} (h : cutR R = k) (hn : (plainS (R.take k)).2 = (R.take k).length) : beginS R = some (bitsS (plainS (R.take k)).1, R.drop k) := by subst h; unfold beginS; rw [if_pos hn]
set_option maxRecDepth 20000 in
set_option maxHeartbeats 1000000 in
theorem bnew2_any (a : Option Addr) (n c : Nat) (z : List Int) (w : World) (hs : Sl w a n c 1 (ints .u8 z)) (hn : n ≤ 1000000) (hb : Byt z) :
    Calls Try.prog 79 #[.slice a n c] w fun e w' => ∃ rb a2 m c2, e = .returned (.pointer (some ⟨rb, 0, none⟩)) ∧ Rb w' rb a2 m c2 (plainS z).1 0 ∧ w.heap.size ≤ rb ∧ Below w.heap.size w w' ∧ (∀ x, a2 = some x → w.heap.size ≤ x.block) := by
  have hP := plain_any a n c z w hs hn; have hl := hs.ilen; have hle := plainS_le z.length z (Nat.le_refl _); have hby := plainS_byt z.length z (Nat.le_refl _) hb; clear hs hb; have hP' := Lib.hid hP; have hby' := Lib.hid hby
  clear hP hby
  go_enter Try.func79, Try.ntmps79
  go_wp2_with fail
  refine (hP'.out).mono ?_; rintro e w1 ⟨a2, m, c2, rfl, hm, ho, hb1⟩; have hz := hb1.size; have ho' := Lib.hid ho; have hb1' := Lib.hid hb1; have hm' := Lib.hid hm; clear ho hb1 hm
  go_wp2
  go_ret
  exact ⟨_, a2, m, c2, rfl, ⟨Blk.new _ _ _, (Sl.of_own ho'.out).1.mono ((Below.refl _ _).alloc (Nat.le_refl _) _), fun x hx => Nat.ne_of_lt (ho'.out.lt x.block (by subst hx; rfl)).2, by omega, by rw [hm'.out]; omega, hby'.out, fun x hx => by have h1 := (ho'.out.lt x.block (by subst hx; rfl)).2; simp; omega⟩, hz, hb1'.out.alloc hz _, fun x hx => (ho'.out.lt x.block (by subst hx; rfl)).1⟩
set_option maxRecDepth 100000 in
set_option maxHeartbeats 4000000 in
theorem begin_any (rr gl : Nat) (s : ScT) (pa : Option Addr) (pn pc : Nat) (ta : Option Addr) (tc : Nat) (ra : Option Addr) (rn rc : Nat) (q : Option Addr) (la R : List Int) (w : World)
    (hr : Blk w rr 152 (rdrC s pa pn pc ta tc ra rn rc q gl)) (hl : Blk w gl 3 (ints .i64 la).toArray) (hll : la.length = pn) (hpn : 0 < pn) (hs : Sl w ra rn rc 1 (ints .u8 R)) (hR : Byt R) (hra : ∀ x, ra = some x → x.block ≠ rr ∧ x.block ≠ gl ∧ x.block < w.heap.size) (hn : rn ≤ 1000000) :
    Calls Try.prog 101 #[.pointer (some ⟨rr, 0, none⟩)] w fun e w' =>
      ((beginS R = none ∧ e = .returned (.bool false)) ∨ ∃ R2 rb a2 n2 c2 D ra2 rn2 rc2, beginS R = some (bitsS D, R2) ∧ e = .returned (.bool true) ∧ RdB w' rr gl rb s pa pn pc ta tc ra2 rn2 rc2 (List.replicate pn 0) a2 n2 c2 D 0 ∧ Sl w' ra2 rn2 rc2 1 (ints .u8 R2) ∧ In ra2 ra ∧ Byt R2 ∧ w.heap.size ≤ rb ∧ rn2 ≤ rn ∧ ∀ x, a2 = some x → w.heap.size ≤ x.block) ∧ Mo (fun k => k = rr ∨ k = gl) w w' := by
  have hRl := hs.ilen; obtain ⟨k0, k5, k6, k7⟩ := rdr_cells hr; have hgr : rr ≠ gl := blk_neT hr hl (by decide); clear k0 k6 k7; have hr' := Lib.hid hr; have hl' := Lib.hid hl; have hll' := Lib.hid hll; have hpn' := Lib.hid hpn; have hs' := Lib.hid hs; have hR' := Lib.hid hR; have hra' := Lib.hid hra; have hn' := Lib.hid hn; have hRl' := Lib.hid hRl; have hgr' := Lib.hid hgr; clear hr hl hll hpn hs hR hra hn hRl hgr
  go_enter Try.func101, Try.ntmps101
  go_wp2
  go_loopw [3] (fun xv wr => ∃ k : Nat, k ≤ rn ∧ xv = .int .i64 k ∧ Hid (cutR R = k + cutR (R.drop k)) ∧ Hid (w = wr)) (fun xv _ => rn - (intOf xv).toNat)
  case atStart => exact ⟨0, by omega, rfl, Lib.hid (by simp), Lib.hid rfl⟩
  case round =>
    rename World => wr
    obtain ⟨k, hk, rfl, hcut, hw⟩ := hrel; obtain rfl := hw.out; clear hw
    by_cases hlt : k < rn
    · obtain ⟨x, hx⟩ : ∃ x, R[k]? = some x := ⟨_, List.getElem?_eq_getElem (by rw [hRl'.out]; exact hlt)⟩
      have hxb := hR'.out x (List.mem_of_getElem? hx); have hxd : R.getD k 0 = x := by rw [List.getD_eq_getElem?_getD, hx]; rfl
      have hRl2 := hRl'.out; have hn2 := hn'.out; obtain ⟨ba, oa, hra2, _, fa⟩ := hs'.out.at hlt; subst hra2; have f0 := fa k _ (ints_get (by rw [hRl'.out]; exact hlt)); rw [hxd] at f0
      by_cases c1 : x = 255
      · subst c1
        have c1 : ((255 : Int) != 255) = false := by decide
        by_cases c2 : k + 1 = rn
        · have hgo := cut_go hx (.inr (.inl (by omega)))
          have hc2 := hcut.out; rw [hgo] at hc2; have hc3 : cutR R = (k + 1) + cutR (R.drop (k + 1)) := by omega
          have c3 : ((k : Int) + 1 == rn) = true := by simp; omega
          clear hgo hc2 fa hxd hRl2 hxb hcut c2; have hc3' := Lib.hid hc3; have hx' := Lib.hid hx; clear hc3 hx
          go_wp2
          go_roundw
          case rel => exact ⟨k + 1, by omega, by go_num, hc3', Lib.hid (by first | rfl | trivial)⟩
          case measure => simp [intOf]; omega
        · have hlt2 : k + 1 < rn := by omega
          obtain ⟨y, hy⟩ : ∃ y, R[k + 1]? = some y := ⟨_, List.getElem?_eq_getElem (by omega)⟩; have hyb := hR'.out y (List.mem_of_getElem? hy); have hyd : R.getD (k + 1) 0 = y := by rw [List.getD_eq_getElem?_getD, hy]; rfl
          have f1 := fa (k + 1) _ (ints_get (by rw [hRl'.out]; exact hlt2)); rw [hyd] at f1; have c3 : ((k : Int) + 1 == rn) = false := by simp; omega
          have ha := andnot7 hyb.1 hyb.2; obtain ⟨z, hz⟩ : ∃ z, y - y % 8 = z := ⟨_, rfl⟩; rw [hz] at ha
          by_cases c4 : z = 208
          · have hst := cut_stop hx hy (by omega) (by omega)
            have hcR : cutR R = k := by rw [hcut.out, hst]; rfl
            have c5 : (z != 208) = false := by simpa using c4
            clear hst fa hxd hyd hRl2 hxb hyb hz c4 c2; have hx' := Lib.hid hx; have hy' := Lib.hid hy; clear hx hy; clear hcut; have hra := hra'.out; obtain ⟨a4, r4, s4, i4⟩ := sub_h (P := Try.prog) Try.underlying30 sizeU8 hs'.out k (by omega) (by omega) k rfl; obtain ⟨a5, r5, s5, i5⟩ := sub_l (P := Try.prog) Try.underlying30 sizeU8 hs'.out k (by omega) (by omega) (rn - k) (rc - k) (by omega) (by have := hs'.out.le; omega); rw [Nat.mul_one, show (ints .u8 R).take k = ints .u8 (R.take k) by unfold ints; rw [List.map_take]] at s4; rw [Int.toNat_natCast, Nat.mul_one, show (ints .u8 R).drop k = ints .u8 (R.drop k) by unfold ints; rw [List.map_drop]] at s5; have n4 : ∀ x, a4 = some x → x.block ≠ rr ∧ x.block ≠ gl ∧ x.block < w.heap.size := fun x hx => by obtain ⟨y, hy, e⟩ := i4 x hx; rw [← e]; exact hra y hy
            have n5 : ∀ x, a5 = some x → x.block ≠ rr ∧ x.block ≠ gl ∧ x.block < w.heap.size := fun x hx => by obtain ⟨y, hy, e⟩ := i5 x hx; rw [← e]; exact hra y hy
            have hbno := @beginS_no R k hcR; have hbok := @beginS_ok R k hcR; have hB4 : Byt (R.take k) := fun x hx => hR'.out x (List.mem_of_mem_take hx); have hB5 : Byt (R.drop k) := fun x hx => hR'.out x (List.mem_of_mem_drop hx); have hD := (Below.refl w.heap.size w).drew; obtain ⟨wD, hwD⟩ : ∃ W, w.drew = W := ⟨_, rfl⟩; rw [hwD] at hD; have HN := bnew2_any a4 k rc (R.take k) wD (s4.mono hD) (by have := hn'.out; omega) hB4; have hrD := hr'.out.late hD; obtain ⟨Ty, ff, hne, hpr, hsurj⟩ := pr_worlds (fun W => W.cell? ⟨rr, 5, none⟩ = some (.slice (some ⟨ba, oa, none⟩) rn rc)) wD (rdr_cells hrD).2.1; have HS := Lib.hid (hsurj wD (rdr_cells hrD).2.1); have y0 := fun s => hpr s; clear hra i4 hpr; have s4' := Lib.hid s4; have s5' := Lib.hid s5; have n4' := Lib.hid n4; have n5' := Lib.hid n5; have i5' := Lib.hid i5; have hbno' := Lib.hid hbno; have hbok' := Lib.hid hbok; have hB4' := Lib.hid hB4; have hB5' := Lib.hid hB5; have hwD' := Lib.hid hwD; have hD' := Lib.hid hD; have HN' := Lib.hid HN; have hsurj' := Lib.hid hsurj; have hcR' := Lib.hid hcR; clear s4 s5 n4 n5 i5 hbno hbok hB4 hB5 hwD hD HN hsurj hcR
            go_upto_region 5 with fail
            refine wp_noP ?_; refine till_begin (t := 15) (C := fun W => ∃ s, W = ff s) (by kernel_rfl) 16 rfl ?_; rw [hwD'.out]; refine till_take [0, 1, 2, 4, 5, 6, 7, 8, 9] 7 (by kernel_rfl) noP_put (by kernel_rfl) (by kernel_rfl) (by kernel_rfl) HS.out ?_; simp only [pickL, List.map_cons, List.map_nil, List.getD_cons_succ, List.getD_cons_zero]
            iterate 9 (go_big_quiet_step (fail))
            refine wpQuiet_nil ?_; clear y0; refine till_one 3 6 (by kernel_rfl) (by kernel_rfl) ?_; simp only [pickL, List.map_cons, List.map_nil, List.getD_cons_succ, List.getD_cons_zero]
            go_wp2_with fail
            refine HN'.out.mono ?_; rintro e w1 ⟨rb, a2, n2, c2, rfl, hb1, hrb, hl1, hna0⟩; have hna2 : ∀ x, a2 = some x → w.heap.size ≤ x.block := fun x hx => Nat.le_trans hD'.out.size (hna0 x hx); clear hna0; have hd1 := hD'.out.trans (hl1.mono hD'.out.size); have hr1 := hr'.out.late hd1; have hg1 := hl'.out.late hd1; have HS1 := Lib.hid (hsurj'.out w1 (rdr_cells hr1).2.1); have e6 := (rdr_cells hr1).2.2.1; have f6 := hr1.frozen 6; have hr2 := rdr_set6 hr1 (some ⟨rb, 0, none⟩); have HS2 := Lib.hid (hsurj'.out _ (rdr_cells hr2).2.1); have e5 := (rdr_cells hr2).2.1; have f5 := hr2.frozen 5; have hr3 := rdr_set5 hr2 a5 (rn - k) (rc - k); have hbt3 := ((But.refl rr w1).set 6 (.pointer (some ⟨rb, 0, none⟩))).set 5 (.slice a5 (rn - k) (rc - k)); have hwrb : w.heap.size ≤ rb := Nat.le_trans hD'.out.size hrb; have hrrl := hr'.out.lt; have hgll := hl'.out.lt; have ha2w := hna2; have hm1 : Mo (fun k => k = rr ∨ k = gl) w w1 := Mo.of_below hd1; clear hl1 hrD HS k5; have hb1' := Lib.hid hb1; have hrb' := Lib.hid hrb; have hd1' := Lib.hid hd1; have hr1' := Lib.hid hr1; have hg1' := Lib.hid hg1; have hr2' := Lib.hid hr2; have hr3' := Lib.hid hr3; have hbt3' := Lib.hid hbt3; have hwrb' := Lib.hid hwrb; have hrrl' := Lib.hid hrrl; have hgll' := Lib.hid hgll; have ha2w' := Lib.hid ha2w; have hm1' := Lib.hid hm1; clear hb1 hrb hd1 hr1 hg1 hr2 hr3 hbt3 hwrb hrrl hgll ha2w hm1
            go_wp2_with fail
            refine Mid.mk ⟨fun _ => HS1.out, ?_⟩; refine till_one 10 5 (by kernel_rfl) (by kernel_rfl) ?_; simp only [pickL, List.map_cons, List.map_nil, List.getD_cons_succ, List.getD_cons_zero]
            go_wp2_with fail
            refine Mid.mk ⟨fun _ => HS1.out, ?_⟩; refine till_one 11 4 (by kernel_rfl) (by kernel_rfl) ?_; simp only [pickL, List.map_cons, List.map_nil, List.getD_cons_succ, List.getD_cons_zero]
            go_wp2_with fail
            refine Mid.mk ⟨fun _ => HS1.out, ?_⟩; refine till_one 12 3 (by kernel_rfl) (by kernel_rfl) ?_; simp only [pickL, List.map_cons, List.map_nil, List.getD_cons_succ, List.getD_cons_zero]
            go_wp2_with fail
            refine Mid.mk ⟨fun _ => HS2.out, ?_⟩; refine till_one 13 2 (by kernel_rfl) (by kernel_rfl) ?_; simp only [pickL, List.map_cons, List.map_nil, List.getD_cons_succ, List.getD_cons_zero]
            go_wp2_with fail
            refine Mid.mk ⟨fun _ => HS2.out, ?_⟩; refine till_one 14 1 (by kernel_rfl) (by kernel_rfl) ?_; simp only [pickL, List.map_cons, List.map_nil, List.getD_cons_succ, List.getD_cons_zero]
            go_wp2_with fail
            refine Mid.mk ⟨fun _ => HS2.out, ?_⟩; refine till_one 15 0 (by kernel_rfl) (by kernel_rfl) ?_; simp only [pickL, List.map_cons, List.map_nil, List.getD_cons_succ, List.getD_cons_zero]
            go_wp2_with fail
            refine ⟨fun h => Bool.noConfusion (show true = false from h), ⟨by kernel_rfl, noP_normal ?_⟩⟩; clear HS1 HS2 e6 f6 e5 f5; obtain ⟨w3, hw3⟩ : ∃ W, (w1.setCell ⟨rr, 6, none⟩ (.pointer (some ⟨rb, 0, none⟩))).setCell ⟨rr, 5, none⟩ (.slice a5 (rn - k) (rc - k)) = W := ⟨_, rfl⟩; rw [hw3] at hr3' hbt3' ⊢; clear hw3; have hg3 := hg1'.out.but hbt3'.out (Ne.symm hgr'.out); have hlasz : (ints .i64 la).toArray.size = pn := by rw [List.size_toArray, ints_len]; exact hll'.out
            have k7 := (rdr_cells hr3'.out).2.2.2; have hpn2 := hpn'.out; have hg3' := Lib.hid hg3; have hlasz' := Lib.hid hlasz; clear hg3 hlasz
            go_wp2_with (refine wpList_clear_blk rfl (.tmp 71) 35 rfl rfl 3 (.int .i64 0) Try.underlying35 zeroI rfl rfl gl pn (ints .i64 la).toArray rfl hg3'.out hlasz'.out hpn2 ?_; intro w4 hbt4 hbl4; have Hbt4 := Lib.hid hbt4; have Hbl4 := Lib.hid hbl4; clear hbt4 hbl4)
            clear k7; have hbl4 := Hbl4.out; rw [repl_ints] at hbl4; have hr4 := hr3'.out.but Hbt4.out hgr'.out; have hrbr : rb ≠ rr ∧ rb ≠ gl := by have := hwrb'.out; have := hrrl'.out; have := hgll'.out; omega
            have hb1n : ∀ x, a2 = some x → w.heap.size ≤ x.block := ha2w'.out; have hb4 := (hb1'.out.but hbt3'.out hrbr.1 (fun x hx => by have := hb1n x hx; have := hrrl'.out; omega)).but Hbt4.out hrbr.2 (fun x hx => by have := hb1n x hx; have := hgll'.out; omega); have s44 := ((s4'.out.mono hd1'.out).but hbt3'.out (fun x hx => (n4'.out x hx).1)).but Hbt4.out (fun x hx => (n4'.out x hx).2.1); have s54 := ((s5'.out.mono hd1'.out).but hbt3'.out (fun x hx => (n5'.out x hx).1)).but Hbt4.out (fun x hx => (n5'.out x hx).2.1); have m4 := (hm1'.out.trans (S' := fun k => k = rr) (Mo.of_but hbt3'.out rfl) fun i hi e => .inl e).trans (S' := fun k => k = gl) (Mo.of_but Hbt4.out rfl) fun i hi e => .inr e; have HP := bplain_any a4 k rc (R.take k) w4 s44 (by have := hn'.out; omega); have hrd4 : RdB w4 rr gl rb s pa pn pc ta tc a5 (rn - k) (rc - k) (List.replicate pn 0) a2 n2 c2 (plainS (R.take k)).1 0 := ⟨hr4, hbl4, hb4, fun x hx => by have := hb1n x hx; have := hrrl'.out; have := hgll'.out; omega, List.length_replicate, fun y hy => by rw [List.eq_of_mem_replicate hy]; rfl⟩; clear hb4 hbl4 hr4 s44; have s54' := Lib.hid s54; have m4' := Lib.hid m4; have HP' := Lib.hid HP; have hrd4' := Lib.hid hrd4; have hrbr' := Lib.hid hrbr; clear s54 m4 HP hrd4 hrbr
            go_wp2_with fail
            refine HP'.out.mono ?_; rintro e w5 ⟨v, rfl, hb5⟩; have m5 := m4'.out.trans (S' := fun k => k = rr ∨ k = gl) (Mo.of_below hb5) fun _ _ e => e; have hrd5 := hrd4'.out.late hb5; have s55 := s54'.out.mono hb5
            by_cases hpl : (plainS (R.take k)).2 = (R.take k).length
            · have hfin := hbok'.out hpl
              rw [decide_eq_true hpl]; clear hb5 hpl; have m5' := Lib.hid m5; have hrd5' := Lib.hid hrd5; have s55' := Lib.hid s55; have hfin' := Lib.hid hfin; clear m5 hrd5 s55 hfin
              go_wp2
              go_ret
              exact ⟨.inr ⟨R.drop k, rb, a2, n2, c2, _, a5, rn - k, rc - k, hfin'.out, rfl, hrd5'.out, s55'.out, i5'.out, hB5'.out, hwrb'.out, Nat.sub_le _ _, hb1n⟩, m5'.out⟩
            · have hfin := hbno'.out hpl
              rw [decide_eq_false hpl]; clear hb5 hpl; have m5' := Lib.hid m5; have hrd5' := Lib.hid hrd5; have s55' := Lib.hid s55; have hfin' := Lib.hid hfin; clear m5 hrd5 s55 hfin
              go_wp2
              go_ret
              exact ⟨.inl ⟨hfin'.out, rfl⟩, m5'.out⟩
          · have hgo := cut_go hx (.inr (.inr ⟨y, hy, by omega⟩))
            have hc2 := hcut.out; rw [hgo] at hc2; have hc3 : cutR R = (k + 1) + cutR (R.drop (k + 1)) := by omega
            have c5 : (z != 208) = true := by simpa using c4
            clear hgo hc2 fa hxd hyd hRl2 hxb hyb hz c4 c2 hcut; have hc3' := Lib.hid hc3; have hx' := Lib.hid hx; have hy' := Lib.hid hy; clear hc3 hx hy
            go_wp2
            go_roundw
            case rel => exact ⟨k + 1, by omega, by go_num, hc3', Lib.hid (by first | rfl | trivial)⟩
            case measure => simp [intOf]; omega
      · have hgo := cut_go hx (.inl c1)
        have hc2 := hcut.out; rw [hgo] at hc2; have hc3 : cutR R = (k + 1) + cutR (R.drop (k + 1)) := by omega
        have c2 : (x != 255) = true := by simpa using c1
        clear hgo hc2 fa hxd hRl2 hxb hcut c1; have hc3' := Lib.hid hc3; have hx' := Lib.hid hx; clear hc3 hx
        go_wp2
        go_roundw
        case rel => exact ⟨k + 1, by omega, by go_num, hc3', Lib.hid (by first | rfl | trivial)⟩
        case measure => simp [intOf]; omega
    · have hkn : k = rn := by omega
      have hcR : cutR R = k := by rw [hcut.out, cut_end (by have := hRl'.out; omega)]; rfl
      clear hkn; clear hcut; have hra := hra'.out; obtain ⟨a4, r4, s4, i4⟩ := sub_h (P := Try.prog) Try.underlying30 sizeU8 hs'.out k (by omega) (by omega) k rfl; obtain ⟨a5, r5, s5, i5⟩ := sub_l (P := Try.prog) Try.underlying30 sizeU8 hs'.out k (by omega) (by omega) (rn - k) (rc - k) (by omega) (by have := hs'.out.le; omega); rw [Nat.mul_one, show (ints .u8 R).take k = ints .u8 (R.take k) by unfold ints; rw [List.map_take]] at s4; rw [Int.toNat_natCast, Nat.mul_one, show (ints .u8 R).drop k = ints .u8 (R.drop k) by unfold ints; rw [List.map_drop]] at s5; have n4 : ∀ x, a4 = some x → x.block ≠ rr ∧ x.block ≠ gl ∧ x.block < w.heap.size := fun x hx => by obtain ⟨y, hy, e⟩ := i4 x hx; rw [← e]; exact hra y hy
      have n5 : ∀ x, a5 = some x → x.block ≠ rr ∧ x.block ≠ gl ∧ x.block < w.heap.size := fun x hx => by obtain ⟨y, hy, e⟩ := i5 x hx; rw [← e]; exact hra y hy
      have hbno := @beginS_no R k hcR; have hbok := @beginS_ok R k hcR; have hB4 : Byt (R.take k) := fun x hx => hR'.out x (List.mem_of_mem_take hx); have hB5 : Byt (R.drop k) := fun x hx => hR'.out x (List.mem_of_mem_drop hx); have hD := (Below.refl w.heap.size w).drew; obtain ⟨wD, hwD⟩ : ∃ W, w.drew = W := ⟨_, rfl⟩; rw [hwD] at hD; have HN := bnew2_any a4 k rc (R.take k) wD (s4.mono hD) (by have := hn'.out; omega) hB4; have hrD := hr'.out.late hD; obtain ⟨Ty, ff, hne, hpr, hsurj⟩ := pr_worlds (fun W => W.cell? ⟨rr, 5, none⟩ = some (.slice ra rn rc)) wD (rdr_cells hrD).2.1; have HS := Lib.hid (hsurj wD (rdr_cells hrD).2.1); have y0 := fun s => hpr s; clear hra i4 hpr; have s4' := Lib.hid s4; have s5' := Lib.hid s5; have n4' := Lib.hid n4; have n5' := Lib.hid n5; have i5' := Lib.hid i5; have hbno' := Lib.hid hbno; have hbok' := Lib.hid hbok; have hB4' := Lib.hid hB4; have hB5' := Lib.hid hB5; have hwD' := Lib.hid hwD; have hD' := Lib.hid hD; have HN' := Lib.hid HN; have hsurj' := Lib.hid hsurj; have hcR' := Lib.hid hcR; clear s4 s5 n4 n5 i5 hbno hbok hB4 hB5 hwD hD HN hsurj hcR
      go_upto_region 5 with fail
      refine wp_noP ?_; refine till_begin (t := 15) (C := fun W => ∃ s, W = ff s) (by kernel_rfl) 16 rfl ?_; rw [hwD'.out]; refine till_take [0, 1, 2, 4, 5, 6, 7, 8, 9] 7 (by kernel_rfl) noP_put (by kernel_rfl) (by kernel_rfl) (by kernel_rfl) HS.out ?_; simp only [pickL, List.map_cons, List.map_nil, List.getD_cons_succ, List.getD_cons_zero]
      iterate 9 (go_big_quiet_step (fail))
      refine wpQuiet_nil ?_; clear y0; refine till_one 3 6 (by kernel_rfl) (by kernel_rfl) ?_; simp only [pickL, List.map_cons, List.map_nil, List.getD_cons_succ, List.getD_cons_zero]
      go_wp2_with fail
      refine HN'.out.mono ?_; rintro e w1 ⟨rb, a2, n2, c2, rfl, hb1, hrb, hl1, hna0⟩; have hna2 : ∀ x, a2 = some x → w.heap.size ≤ x.block := fun x hx => Nat.le_trans hD'.out.size (hna0 x hx); clear hna0; have hd1 := hD'.out.trans (hl1.mono hD'.out.size); have hr1 := hr'.out.late hd1; have hg1 := hl'.out.late hd1; have HS1 := Lib.hid (hsurj'.out w1 (rdr_cells hr1).2.1); have e6 := (rdr_cells hr1).2.2.1; have f6 := hr1.frozen 6; have hr2 := rdr_set6 hr1 (some ⟨rb, 0, none⟩); have HS2 := Lib.hid (hsurj'.out _ (rdr_cells hr2).2.1); have e5 := (rdr_cells hr2).2.1; have f5 := hr2.frozen 5; have hr3 := rdr_set5 hr2 a5 (rn - k) (rc - k); have hbt3 := ((But.refl rr w1).set 6 (.pointer (some ⟨rb, 0, none⟩))).set 5 (.slice a5 (rn - k) (rc - k)); have hwrb : w.heap.size ≤ rb := Nat.le_trans hD'.out.size hrb; have hrrl := hr'.out.lt; have hgll := hl'.out.lt; have ha2w := hna2; have hm1 : Mo (fun k => k = rr ∨ k = gl) w w1 := Mo.of_below hd1; clear hl1 hrD HS k5; have hb1' := Lib.hid hb1; have hrb' := Lib.hid hrb; have hd1' := Lib.hid hd1; have hr1' := Lib.hid hr1; have hg1' := Lib.hid hg1; have hr2' := Lib.hid hr2; have hr3' := Lib.hid hr3; have hbt3' := Lib.hid hbt3; have hwrb' := Lib.hid hwrb; have hrrl' := Lib.hid hrrl; have hgll' := Lib.hid hgll; have ha2w' := Lib.hid ha2w; have hm1' := Lib.hid hm1; clear hb1 hrb hd1 hr1 hg1 hr2 hr3 hbt3 hwrb hrrl hgll ha2w hm1
      go_wp2_with fail
      refine Mid.mk ⟨fun _ => HS1.out, ?_⟩; refine till_one 10 5 (by kernel_rfl) (by kernel_rfl) ?_; simp only [pickL, List.map_cons, List.map_nil, List.getD_cons_succ, List.getD_cons_zero]
      go_wp2_with fail
      refine Mid.mk ⟨fun _ => HS1.out, ?_⟩; refine till_one 11 4 (by kernel_rfl) (by kernel_rfl) ?_; simp only [pickL, List.map_cons, List.map_nil, List.getD_cons_succ, List.getD_cons_zero]
      go_wp2_with fail
      refine Mid.mk ⟨fun _ => HS1.out, ?_⟩; refine till_one 12 3 (by kernel_rfl) (by kernel_rfl) ?_; simp only [pickL, List.map_cons, List.map_nil, List.getD_cons_succ, List.getD_cons_zero]
      go_wp2_with fail
      refine Mid.mk ⟨fun _ => HS2.out, ?_⟩; refine till_one 13 2 (by kernel_rfl) (by kernel_rfl) ?_; simp only [pickL, List.map_cons, List.map_nil, List.getD_cons_succ, List.getD_cons_zero]
      go_wp2_with fail
      refine Mid.mk ⟨fun _ => HS2.out, ?_⟩; refine till_one 14 1 (by kernel_rfl) (by kernel_rfl) ?_; simp only [pickL, List.map_cons, List.map_nil, List.getD_cons_succ, List.getD_cons_zero]
      go_wp2_with fail
      refine Mid.mk ⟨fun _ => HS2.out, ?_⟩; refine till_one 15 0 (by kernel_rfl) (by kernel_rfl) ?_; simp only [pickL, List.map_cons, List.map_nil, List.getD_cons_succ, List.getD_cons_zero]
      go_wp2_with fail
      refine ⟨fun h => Bool.noConfusion (show true = false from h), ⟨by kernel_rfl, noP_normal ?_⟩⟩; clear HS1 HS2 e6 f6 e5 f5; obtain ⟨w3, hw3⟩ : ∃ W, (w1.setCell ⟨rr, 6, none⟩ (.pointer (some ⟨rb, 0, none⟩))).setCell ⟨rr, 5, none⟩ (.slice a5 (rn - k) (rc - k)) = W := ⟨_, rfl⟩; rw [hw3] at hr3' hbt3' ⊢; clear hw3; have hg3 := hg1'.out.but hbt3'.out (Ne.symm hgr'.out); have hlasz : (ints .i64 la).toArray.size = pn := by rw [List.size_toArray, ints_len]; exact hll'.out
      have k7 := (rdr_cells hr3'.out).2.2.2; have hpn2 := hpn'.out; have hg3' := Lib.hid hg3; have hlasz' := Lib.hid hlasz; clear hg3 hlasz
      go_wp2_with (refine wpList_clear_blk rfl (.tmp 71) 35 rfl rfl 3 (.int .i64 0) Try.underlying35 zeroI rfl rfl gl pn (ints .i64 la).toArray rfl hg3'.out hlasz'.out hpn2 ?_; intro w4 hbt4 hbl4; have Hbt4 := Lib.hid hbt4; have Hbl4 := Lib.hid hbl4; clear hbt4 hbl4)
      clear k7; have hbl4 := Hbl4.out; rw [repl_ints] at hbl4; have hr4 := hr3'.out.but Hbt4.out hgr'.out; have hrbr : rb ≠ rr ∧ rb ≠ gl := by have := hwrb'.out; have := hrrl'.out; have := hgll'.out; omega
      have hb1n : ∀ x, a2 = some x → w.heap.size ≤ x.block := ha2w'.out; have hb4 := (hb1'.out.but hbt3'.out hrbr.1 (fun x hx => by have := hb1n x hx; have := hrrl'.out; omega)).but Hbt4.out hrbr.2 (fun x hx => by have := hb1n x hx; have := hgll'.out; omega); have s44 := ((s4'.out.mono hd1'.out).but hbt3'.out (fun x hx => (n4'.out x hx).1)).but Hbt4.out (fun x hx => (n4'.out x hx).2.1); have s54 := ((s5'.out.mono hd1'.out).but hbt3'.out (fun x hx => (n5'.out x hx).1)).but Hbt4.out (fun x hx => (n5'.out x hx).2.1); have m4 := (hm1'.out.trans (S' := fun k => k = rr) (Mo.of_but hbt3'.out rfl) fun i hi e => .inl e).trans (S' := fun k => k = gl) (Mo.of_but Hbt4.out rfl) fun i hi e => .inr e; have HP := bplain_any a4 k rc (R.take k) w4 s44 (by have := hn'.out; omega); have hrd4 : RdB w4 rr gl rb s pa pn pc ta tc a5 (rn - k) (rc - k) (List.replicate pn 0) a2 n2 c2 (plainS (R.take k)).1 0 := ⟨hr4, hbl4, hb4, fun x hx => by have := hb1n x hx; have := hrrl'.out; have := hgll'.out; omega, List.length_replicate, fun y hy => by rw [List.eq_of_mem_replicate hy]; rfl⟩; clear hb4 hbl4 hr4 s44; have s54' := Lib.hid s54; have m4' := Lib.hid m4; have HP' := Lib.hid HP; have hrd4' := Lib.hid hrd4; have hrbr' := Lib.hid hrbr; clear s54 m4 HP hrd4 hrbr
      go_wp2_with fail
      refine HP'.out.mono ?_; rintro e w5 ⟨v, rfl, hb5⟩; have m5 := m4'.out.trans (S' := fun k => k = rr ∨ k = gl) (Mo.of_below hb5) fun _ _ e => e; have hrd5 := hrd4'.out.late hb5; have s55 := s54'.out.mono hb5
      by_cases hpl : (plainS (R.take k)).2 = (R.take k).length
      · have hfin := hbok'.out hpl
        rw [decide_eq_true hpl]; clear hb5 hpl; have m5' := Lib.hid m5; have hrd5' := Lib.hid hrd5; have s55' := Lib.hid s55; have hfin' := Lib.hid hfin; clear m5 hrd5 s55 hfin
        go_wp2
        go_ret
        exact ⟨.inr ⟨R.drop k, rb, a2, n2, c2, _, a5, rn - k, rc - k, hfin'.out, rfl, hrd5'.out, s55'.out, i5'.out, hB5'.out, hwrb'.out, Nat.sub_le _ _, hb1n⟩, m5'.out⟩
      · have hfin := hbno'.out hpl
        rw [decide_eq_false hpl]; clear hb5 hpl; have m5' := Lib.hid m5; have hrd5' := Lib.hid hrd5; have s55' := Lib.hid s55; have hfin' := Lib.hid hfin; clear m5 hrd5 s55 hfin
        go_wp2
        go_ret
        exact ⟨.inl ⟨hfin'.out, rfl⟩, m5'.out⟩
end Go.Proofs.Ytpjopeojeglogaa
