/- Chapter 12: the program's Count. -/
import Derived.Test.YtpjopeojeglogaaCs40
import Derived.Test.YtpjopeojeglogaaCs33
namespace Go.Proofs.Ytpjopeojeglogaa
open Go.RowKit Tt
set_option linter.unusedVariables false
set_option linter.unusedSimpArgs false

def CountP (s : ScT) (bs : List (List (List Int))) (pn : Nat) (w : World) (e : Ending) (w' : World) : Prop :=
  ((wholeS s bs = false ∧ e = .returned (.tuple #[.slice none 0 0, .slice none 0 0, .int .i64 1])) ∨ (wholeS s bs = true ∧ ((∃ er, tellC s bs = .error er ∧ e = .returned (.tuple #[.slice none 0 0, .slice none 0 0, .int .i64 er])) ∨
    ∃ t la da dc aa ac LD LA, tellC s bs = .ok (t, la) ∧ e = .returned (.tuple #[.slice da pn dc, .slice aa pn ac, .int .i64 0]) ∧ OutI w.heap.size w' da pn dc LD ∧ OutI w.heap.size w' aa pn ac LA ∧ (∀ (i : Nat) x, LD[i]? = some x → x.2 = cntL t i 0) ∧ ∀ (i : Nat) x, LA[i]? = some x → x.2 = cntL t i 1))) ∧ Below w.heap.size w w'
set_option maxRecDepth 100000 in
set_option maxHeartbeats 16000000 in
theorem count_any (s : ScT) (bs : List BpM) (pa ba : Option Addr) (pn pc bn bc : Nat) (w : World) (hs : PtsR w pa pn pc s.ps) (hbs : BpsR w ba bn bc bs) (hbn : bn ≤ 1000000000) (hbl : ∀ b ∈ bs, b.2.2.1 ≤ 1000000000) (hw1 : Wf s.ax) (hw2 : Wf s.dn) (hw3 : Wf s.iv) (hpw : ∀ p ∈ s.ps, Wf p.1 ∧ Wf p.2.1) (hfew : mayS s = true → (s.ax * s.dn).toNat ≤ 26) :
    Calls Try.prog 31 #[.agg #[.int .i64 s.ax, .int .i64 s.dn, .slice pa pn pc, .int .i64 s.iv], .slice ba bn bc] w (CountP s (bs.map (·.1)) pn w) := by
  obtain ⟨i1, hi, hz0, hz1, hz2⟩ := info_parts infoI; obtain ⟨iR, hiR, hzR0, hzR1, hzR2⟩ := info_parts infoRowI; have HM := fun W (h : Below w.heap.size w W) => whole_any s bs pa ba pn pc bn bc W (hs.mono h) (hbs.mono h) hbn hbl hw1 hw2 hw3 hpw; have hps := hs.ilen; obtain ⟨Q, hQ⟩ : ∃ Q, wholeS s (bs.map (·.1)) = Q := ⟨_, rfl⟩; simp only [hQ] at HM; have hmy := @wholeS_mayS s (bs.map (·.1)); rw [hQ] at hmy; have b1 := Blk.new w 24 #[.int .i64 s.ax, .int .i64 s.dn, .slice pa pn pc, .int .i64 s.iv]; have hb1 := (Below.refl w.heap.size w).alloc (Nat.le_refl _) (.cells #[.int .i64 s.ax, .int .i64 s.dn, .slice pa pn pc, .int .i64 s.iv] 24); obtain ⟨W1, hW1⟩ : ∃ W1, w.alloc (.cells #[.int .i64 s.ax, .int .i64 s.dn, .slice pa pn pc, .int .i64 s.iv] 24) = W1 := ⟨_, rfl⟩; rw [hW1] at b1 hb1; have hcs : ∀ W, Blk W w.heap.size 24 #[.int .i64 s.ax, .int .i64 s.dn, .slice pa pn pc, .int .i64 s.iv] → W.cell? ⟨w.heap.size, 0, none⟩ = some (.int .i64 s.ax) ∧ W.cell? ⟨w.heap.size, 1, none⟩ = some (.int .i64 s.dn) ∧ W.cell? ⟨w.heap.size, 2, none⟩ = some (.slice pa pn pc) ∧ W.cell? ⟨w.heap.size, 3, none⟩ = some (.int .i64 s.iv) := fun W b => ⟨b.cell rfl, b.cell rfl, b.cell rfl, b.cell rfl⟩; obtain ⟨k0, k1, k2, k3⟩ := hcs W1 b1; have hs' := Lib.hid hs; have hbs' := Lib.hid hbs; have hbl' := Lib.hid hbl; have hw1' := Lib.hid hw1; have hw2' := Lib.hid hw2; have hw3' := Lib.hid hw3; have hpw' := Lib.hid hpw; have hfew' := Lib.hid hfew; have HM' := Lib.hid HM; have hps' := Lib.hid hps; have hQ' := Lib.hid hQ; have hmy' := Lib.hid hmy; have b1' := Lib.hid b1; have hb1' := Lib.hid hb1; have hW1' := Lib.hid hW1; have hcs' := Lib.hid hcs; clear hs hbs hbl hw1 hw2 hw3 hpw hfew HM hps hQ hmy b1 hb1 hW1 hcs
  go_enter Try.func31, Try.ntmps31
  go_upto_region 1 with fail
  rw [hW1'.out]
  go_wp2_with fail
  refine (HM'.out W1 hb1'.out).mono ?_; rintro e w0 ⟨rfl, hb0⟩; have hbw0 := hb1'.out.trans (hb0.mono hb1'.out.size); have b0 := b1'.out.late hb0; clear hb0 k0 k1 k2 k3
  cases Q with
  | false =>
    have hbw0' := Lib.hid hbw0; clear hbw0
    go_wp2
    go_ret3
    exact ⟨.inl ⟨hQ'.out, rfl⟩, hbw0'.out⟩
  | true =>
  have hmay := hmy'.out rfl; obtain ⟨htop, hpts, hsum⟩ := mayS_parts hmay; have hpn4 : pn ≤ 4 := by have := hps'.out; omega
  have hpn1 : 1 ≤ pn := by have := hps'.out; omega
  have hal := (Below.refl w0.heap.size w0).alloc (Nat.le_refl _) (.cells #[.slice none 0 0, .slice none 0 0] 163); have b7 := Blk.new w0 163 #[.slice none 0 0, .slice none 0 0]; obtain ⟨w7, hw7⟩ : ∃ W, w0.alloc (.cells #[.slice none 0 0, .slice none 0 0] 163) = W := ⟨_, rfl⟩; obtain ⟨g7, hg7e⟩ : ∃ g, w0.heap.size = g := ⟨_, rfl⟩; have hg7 : w0.heap.size ≤ g7 := Nat.le_of_eq hg7e; rw [hw7] at hal b7; rw [hg7e] at b7; have C0 : Cq w0.heap.size g7 (.slice none 0 0) (.slice none 0 0) w0 none 0 0 none 0 0 [] [] w7 := ⟨b7, ⟨own_nil _ _ _ _, (fun i x hx => by cases hx), (fun i j x y hx => by cases hx)⟩, ⟨own_nil _ _ _ _, (fun i x hx => by cases hx), (fun i j x y hx => by cases hx)⟩, (fun i j x y hx => by cases hx), (fun j hj => by cases hj), (fun i x hx => by cases hx), (fun i x hx => by cases hx), hal⟩; have b07 := b0.late hal; clear hal htop hsum hpts; have hbw0' := Lib.hid hbw0; have b0' := Lib.hid b0; have b7' := Lib.hid b7; have hw7' := Lib.hid hw7; have hg7e' := Lib.hid hg7e; have hg7' := Lib.hid hg7; have C0' := Lib.hid C0; have hmay' := Lib.hid hmay; clear hbw0 b0 b7 hw7 hg7e hg7 C0 hmay; obtain ⟨k0, k1, k2, k3⟩ := hcs'.out w7 b07
  go_upto_region 4 with fail
  try rw [hw7'.out]
  try rw [hg7e'.out]
  go_wp2
  clear k0 k1 k2 k3
  go_loopw [18] (fun xv wr => ∃ (k : Nat) (da : Option Addr) (dc : Nat) (aa : Option Addr) (ac : Nat) (LD LA : List (Nat × List Int)), k ≤ pn ∧ xv = .int .i64 k ∧ Hid (Cq w0.heap.size g7 (.slice da k dc) (.slice aa k ac) w0 da k dc aa k ac LD LA wr)) (fun xv _ => pn - (intOf xv).toNat)
  case atStart => exact ⟨0, none, 0, none, 0, [], [], by omega, rfl, C0'⟩
  case round =>
    rename World => wr
    obtain ⟨k, da, dc, aa, ac, LD, LA, hk, rfl, C⟩ := hrel
    by_cases hlt : k < pn
    · have hDq := (Below.refl wr.heap.size wr).drew
      obtain ⟨wD, hwD⟩ : ∃ W, wr.drew = W := ⟨_, rfl⟩; rw [hwD] at hDq; have C0 := C.out.late hDq; obtain ⟨Tz, ff, hnn, hpr, hsurj⟩ := pr_worlds (fun W => Blk W g7 163 #[.slice da k dc, .slice aa k ac]) wr C.out.b7; have HS := Lib.hid (hsurj wD C0.b7); have y0 : ∀ s, (ff s).cell? ⟨g7, 0, none⟩ = some (.slice da k dc) := fun s => (hpr s).cell rfl; have y1 : ∀ s, (ff s).cell? ⟨g7, 1, none⟩ = some (.slice aa k ac) := fun s => (hpr s).cell rfl; clear hDq hpr; have hwD' := Lib.hid hwD; have C0' := Lib.hid C0; have hsurj' := Lib.hid hsurj; clear hwD C0 hsurj
      go_upto_region 6 with fail
      · skip
        refine wp_noP ?_; refine till_begin (t := 11) (C := fun W => ∃ s, W = ff s) (by kernel_rfl) 14 rfl ?_; rw [hwD'.out]; refine till_take [0, 1, 5, 6] 10 (by kernel_rfl) noP_put (by kernel_rfl) (by kernel_rfl) (by kernel_rfl) HS.out ?_; simp only [pickL, List.map_cons, List.map_nil, List.getD_cons_succ, List.getD_cons_zero]
        iterate 4 (go_big_quiet_step (fail))
        refine wpQuiet_nil ?_; clear y0 y1; refine till_two 2 7 9 (by kernel_rfl) (by kernel_rfl) ?_ ?_
        all_goals simp only [pickL, List.map_cons, List.map_nil, List.getD_cons_succ, List.getD_cons_zero]
        case refine_1 =>
          have hal := (Below.refl wD.heap.size wD).alloc (Nat.le_refl _) (.cells (ints .i64 z256).toArray 3); have pA1 : Blk (wD.alloc (.cells (ints .i64 z256).toArray 3)) wD.heap.size 3 (ints .i64 z256).toArray := Blk.new wD 3 (ints .i64 z256).toArray; obtain ⟨w1, hw1⟩ : ∃ W, wD.alloc (.cells (ints .i64 z256).toArray 3) = W := ⟨_, rfl⟩; have fA := C0'.out.fresh; obtain ⟨gA, hgA⟩ : ∃ g, wD.heap.size = g := ⟨_, rfl⟩; rw [hw1] at hal pA1; rw [hgA] at pA1 fA; have C1 := C0'.out.late hal; have HS1 := Lib.hid (hsurj'.out w1 C1.b7); clear hal; have hw1' := Lib.hid hw1; have hgA' := Lib.hid hgA; have C1' := Lib.hid C1; have pA1' := Lib.hid pA1; have fA' := Lib.hid fA; clear hw1 hgA C1 pA1 fA
          go_wp2_with (at_make; refine wpList_make_row _ rfl _ _ 35 rfl 3 i1 (.int .i64 0) Try.underlying35 hi hz0 hz1 rfl .i64 .i64 256 rfl rfl (by rw [hz2]; omega) (by omega) ?_; rw [made_ints, show List.replicate 256 (0 : Int) = z256 from rfl])
          rw [hw1'.out, hgA'.out]; refine Mid.mk ⟨fun _ => HS1.out, ?_⟩; refine till_two 3 7 8 (by kernel_rfl) (by kernel_rfl) ?_ ?_
          all_goals simp only [pickL, List.map_cons, List.map_nil, List.getD_cons_succ, List.getD_cons_zero]
          case refine_1 =>
            have hal := (Below.refl w1.heap.size w1).alloc (Nat.le_refl _) (.cells #[.slice (some ⟨gA, 0, none⟩) 256 256] 35); have sA2 := Sl.new w1 35 1 1 #[.slice (some ⟨gA, 0, none⟩) 256 256] (0, 0) (by decide) rfl; obtain ⟨w2, hw2⟩ : ∃ W, w1.alloc (.cells #[.slice (some ⟨gA, 0, none⟩) 256 256] 35) = W := ⟨_, rfl⟩; obtain ⟨bA, hbA⟩ : ∃ g, w1.heap.size = g := ⟨_, rfl⟩; rw [hw2] at hal sA2; rw [hbA] at sA2; have C2 := C1'.out.late hal; have pA2 := pA1'.out.late hal; have HS2 := Lib.hid (hsurj'.out w2 C2.b7); clear hal; have hw2' := Lib.hid hw2; have hbA' := Lib.hid hbA; have C2' := Lib.hid C2; have sA2' := Lib.hid sA2; have pA2' := Lib.hid pA2; clear hw2 hbA C2 sA2 pA2
            go_wp2_with fail
            rw [hw2'.out, hbA'.out]; refine Mid.mk ⟨fun _ => HS2.out, ?_⟩; refine till_two 4 7 7 (by kernel_rfl) (by kernel_rfl) ?_ ?_
            all_goals simp only [pickL, List.map_cons, List.map_nil, List.getD_cons_succ, List.getD_cons_zero]
            case refine_1 =>
              have hsz := C2'.out.bel.size
              go_wp2_with (at_builtin; refine wpList_app3 rfl _ _ 42 rfl w0.heap.size 35 iR _ 1 24 Try.underlying42 hiR hzR0 hzR1 hzR2 rfl (by decide) (.slice da k dc) k _ rfl C2'.out.d.own (some ⟨bA, 0, none⟩) 1 1 [.slice (some ⟨gA, 0, none⟩) 256 256] rfl sA2'.out (by simp [Value.oneCell']) (by omega) (by decide) hsz ?_; intro a3 c3 w3 ho hg hk ; have Ho3 := Lib.hid ho; have Hg3 := Lib.hid hg; have Hk3 := Lib.hid hk; clear ho hg hk)
              have hmg := Mo.of_grown (S := fun j => (Value.slice da k dc).ownBlock = some j) Hg3.out fun j hj => hj; have C3 := C2'.out.appD rfl fA'.out.1 pA2'.out fA'.out.2.1 fA'.out.2.2 Ho3.out Hg3.out Hk3.out; have lA3 := Nat.lt_of_lt_of_le pA2'.out.lt hmg.size; have HS3 := Lib.hid (hsurj'.out w3 C3.b7); clear hmg Ho3 Hg3 Hk3 hsz; have C3' := Lib.hid C3; have lA3' := Lib.hid lA3; clear C3 lA3; refine Mid.mk ⟨fun _ => HS3.out, ?_⟩; have HS := HS3; refine till_free [10] 6 (by kernel_rfl) noP_put (by kernel_rfl) (by kernel_rfl) (by kernel_rfl) HS.out ?_; simp only [pickL, List.map_cons, List.map_nil, List.getD_cons_succ, List.getD_cons_zero]
              iterate 1 (go_big_quiet_step (fail))
              refine wpQuiet_nil ?_; refine till_one 7 5 (by kernel_rfl) (by kernel_rfl) ?_; simp only [pickL, List.map_cons, List.map_nil, List.getD_cons_succ, List.getD_cons_zero]; have hal := (Below.refl w3.heap.size w3).alloc (Nat.le_refl _) (.cells (ints .i64 z256).toArray 3); have pB4 : Blk (w3.alloc (.cells (ints .i64 z256).toArray 3)) w3.heap.size 3 (ints .i64 z256).toArray := Blk.new w3 3 (ints .i64 z256).toArray; obtain ⟨w4, hw4⟩ : ∃ W, w3.alloc (.cells (ints .i64 z256).toArray 3) = W := ⟨_, rfl⟩; have fB := C3'.out.fresh; have qB : gA ≠ w3.heap.size := by have := lA3'.out; omega
              obtain ⟨gB, hgB⟩ : ∃ g, w3.heap.size = g := ⟨_, rfl⟩; rw [hw4] at hal pB4; rw [hgB] at pB4 fB qB; have C4 := C3'.out.late hal; have lA4 := Nat.lt_of_lt_of_le lA3'.out hal.size; have HS4 := Lib.hid (hsurj'.out w4 C4.b7); clear hal; have hw4' := Lib.hid hw4; have hgB' := Lib.hid hgB; have C4' := Lib.hid C4; have pB4' := Lib.hid pB4; have fB' := Lib.hid fB; have qB' := Lib.hid qB; have lA4' := Lib.hid lA4; clear hw4 hgB C4 pB4 fB qB lA4
              go_wp2_with (at_make; refine wpList_make_row _ rfl _ _ 35 rfl 3 i1 (.int .i64 0) Try.underlying35 hi hz0 hz1 rfl .i64 .i64 256 rfl rfl (by rw [hz2]; omega) (by omega) ?_; rw [made_ints, show List.replicate 256 (0 : Int) = z256 from rfl])
              rw [hw4'.out, hgB'.out]; refine Mid.mk ⟨fun _ => HS4.out, ?_⟩; refine till_one 8 4 (by kernel_rfl) (by kernel_rfl) ?_; simp only [pickL, List.map_cons, List.map_nil, List.getD_cons_succ, List.getD_cons_zero]; have hal := (Below.refl w4.heap.size w4).alloc (Nat.le_refl _) (.cells #[.slice (some ⟨gB, 0, none⟩) 256 256] 35); have sB5 := Sl.new w4 35 1 1 #[.slice (some ⟨gB, 0, none⟩) 256 256] (0, 0) (by decide) rfl; obtain ⟨w5, hw5⟩ : ∃ W, w4.alloc (.cells #[.slice (some ⟨gB, 0, none⟩) 256 256] 35) = W := ⟨_, rfl⟩; obtain ⟨bB, hbB⟩ : ∃ g, w4.heap.size = g := ⟨_, rfl⟩; rw [hw5] at hal sB5; rw [hbB] at sB5; have C5 := C4'.out.late hal; have pB5 := pB4'.out.late hal; have lA5 := Nat.lt_of_lt_of_le lA4'.out hal.size; have HS5 := Lib.hid (hsurj'.out w5 C5.b7); clear hal; have hw5' := Lib.hid hw5; have hbB' := Lib.hid hbB; have C5' := Lib.hid C5; have sB5' := Lib.hid sB5; have pB5' := Lib.hid pB5; have lA5' := Lib.hid lA5; clear hw5 hbB C5 sB5 pB5 lA5
              go_wp2_with fail
              rw [hw5'.out, hbB'.out]; refine Mid.mk ⟨fun _ => HS5.out, ?_⟩; refine till_one 9 3 (by kernel_rfl) (by kernel_rfl) ?_; simp only [pickL, List.map_cons, List.map_nil, List.getD_cons_succ, List.getD_cons_zero]; have hsz := C5'.out.bel.size
              go_wp2_with (at_builtin; refine wpList_app3 rfl _ _ 42 rfl w0.heap.size 35 iR _ 1 24 Try.underlying42 hiR hzR0 hzR1 hzR2 rfl (by decide) (.slice aa k ac) k _ rfl C5'.out.a.own (some ⟨bB, 0, none⟩) 1 1 [.slice (some ⟨gB, 0, none⟩) 256 256] rfl sB5'.out (by simp [Value.oneCell']) (by omega) (by decide) hsz ?_; intro a6 c6 w6 ho hg hk ; have Ho6 := Lib.hid ho; have Hg6 := Lib.hid hg; have Hk6 := Lib.hid hk; clear ho hg hk)
              have f2 : ∀ (i : Nat) x, (LD ++ [(gA, z256)])[i]? = some x → gB ≠ x.1 := by
                first
                  | exact fun i x hx => (fB'.out.2.1 i x hx).symm
                  | exact fresh_snoc fB'.out.2.1 qB'.out
                  | exact fresh_snoc fB'.out.2.1 qA'.out.symm
              have Cn := (C5'.out.turn.appD rfl fB'.out.1 pB5'.out (fun i x hx e => fB'.out.2.2 i x hx e.symm) f2 Ho6.out Hg6.out Hk6.out).turn; have HSn := Lib.hid (hsurj'.out w6 Cn.b7); have e0 : w6.cell? ⟨g7, 0, none⟩ = some (.slice da k dc) := Cn.b7.cell rfl; have e1 : w6.cell? ⟨g7, 1, none⟩ = some (.slice aa k ac) := Cn.b7.cell rfl; have z0 := Cn.b7.frozen 0; have z1 := Cn.b7.frozen 1; clear f2 Ho6 Hg6 Hk6 hsz; have Cn' := Lib.hid Cn; clear Cn; refine Mid.mk ⟨fun _ => HSn.out, ?_⟩; refine till_one 11 2 (by kernel_rfl) (by kernel_rfl) ?_; simp only [pickL, List.map_cons, List.map_nil, List.getD_cons_succ, List.getD_cons_zero]
              go_wp2_with fail
              refine Mid.mk ⟨fun h => Bool.noConfusion (show true = false from h), ?_⟩; refine till_one 12 1 (by kernel_rfl) (by kernel_rfl) ?_; simp only [pickL, List.map_cons, List.map_nil, List.getD_cons_succ, List.getD_cons_zero]
              go_wp2_with fail
              refine Mid.mk ⟨fun h => Bool.noConfusion (show true = false from h), ?_⟩; refine till_one 13 0 (by kernel_rfl) (by kernel_rfl) ?_; simp only [pickL, List.map_cons, List.map_nil, List.getD_cons_succ, List.getD_cons_zero]
              go_wp2_with fail
              refine ⟨fun h => Bool.noConfusion (show true = false from h), ⟨by kernel_rfl, noP_normal ?_⟩⟩
              go_wp2
              go_roundw
              case rel => exact ⟨k + 1, _, _, _, _, _, _, by omega, by go_num, Lib.hid (Cn'.out.put2 hg7'.out _ _)⟩
              case measure => simp [intOf]; omega
            case refine_2 =>
              have hal := (Below.refl w2.heap.size w2).alloc (Nat.le_refl _) (.cells (ints .i64 z256).toArray 3); have pB7 : Blk (w2.alloc (.cells (ints .i64 z256).toArray 3)) w2.heap.size 3 (ints .i64 z256).toArray := Blk.new w2 3 (ints .i64 z256).toArray; obtain ⟨w7, hw7⟩ : ∃ W, w2.alloc (.cells (ints .i64 z256).toArray 3) = W := ⟨_, rfl⟩; have fB := C2'.out.fresh; have qB : gA ≠ w2.heap.size := by have := pA2'.out.lt; omega
              obtain ⟨gB, hgB⟩ : ∃ g, w2.heap.size = g := ⟨_, rfl⟩; rw [hw7] at hal pB7; rw [hgB] at pB7 fB qB; have C7 := C2'.out.late hal; have pA7 := pA2'.out.late hal; have sA7 := sA2'.out.mono hal; have HS7 := Lib.hid (hsurj'.out w7 C7.b7); clear hal; have hw7' := Lib.hid hw7; have hgB' := Lib.hid hgB; have C7' := Lib.hid C7; have pB7' := Lib.hid pB7; have fB' := Lib.hid fB; have qB' := Lib.hid qB; have pA7' := Lib.hid pA7; have sA7' := Lib.hid sA7; clear hw7 hgB C7 pB7 fB qB pA7 sA7
              go_wp2_with (at_make; refine wpList_make_row _ rfl _ _ 35 rfl 3 i1 (.int .i64 0) Try.underlying35 hi hz0 hz1 rfl .i64 .i64 256 rfl rfl (by rw [hz2]; omega) (by omega) ?_; rw [made_ints, show List.replicate 256 (0 : Int) = z256 from rfl])
              rw [hw7'.out, hgB'.out]; refine Mid.mk ⟨fun _ => HS7.out, ?_⟩; refine till_two 4 8 6 (by kernel_rfl) (by kernel_rfl) ?_ ?_
              all_goals simp only [pickL, List.map_cons, List.map_nil, List.getD_cons_succ, List.getD_cons_zero]
              case refine_1 =>
                have hsz := C7'.out.bel.size
                go_wp2_with (at_builtin; refine wpList_app3 rfl _ _ 42 rfl w0.heap.size 35 iR _ 1 24 Try.underlying42 hiR hzR0 hzR1 hzR2 rfl (by decide) (.slice da k dc) k _ rfl C7'.out.d.own (some ⟨bA, 0, none⟩) 1 1 [.slice (some ⟨gA, 0, none⟩) 256 256] rfl sA7'.out (by simp [Value.oneCell']) (by omega) (by decide) hsz ?_; intro a8 c8 w8 ho hg hk ; have Ho8 := Lib.hid ho; have Hg8 := Lib.hid hg; have Hk8 := Lib.hid hk; clear ho hg hk)
                have hmg := Mo.of_grown (S := fun j => (Value.slice da k dc).ownBlock = some j) Hg8.out fun j hj => hj; have C8 := C7'.out.appD rfl fA'.out.1 pA7'.out fA'.out.2.1 fA'.out.2.2 Ho8.out Hg8.out Hk8.out; have pB8 := pB7'.out.mo hmg (own_neB C7'.out.d.own pB7'.out (by decide)); have lA8 := Nat.lt_of_lt_of_le pA7'.out.lt hmg.size; have HS8 := Lib.hid (hsurj'.out w8 C8.b7); clear hmg Ho8 Hg8 Hk8 hsz; have C8' := Lib.hid C8; have pB8' := Lib.hid pB8; have lA8' := Lib.hid lA8; clear C8 pB8 lA8; refine Mid.mk ⟨fun _ => HS8.out, ?_⟩; have HS := HS8; refine till_free [10] 5 (by kernel_rfl) noP_put (by kernel_rfl) (by kernel_rfl) (by kernel_rfl) HS.out ?_; simp only [pickL, List.map_cons, List.map_nil, List.getD_cons_succ, List.getD_cons_zero]
                iterate 1 (go_big_quiet_step (fail))
                refine wpQuiet_nil ?_; refine till_one 8 4 (by kernel_rfl) (by kernel_rfl) ?_; simp only [pickL, List.map_cons, List.map_nil, List.getD_cons_succ, List.getD_cons_zero]; have hal := (Below.refl w8.heap.size w8).alloc (Nat.le_refl _) (.cells #[.slice (some ⟨gB, 0, none⟩) 256 256] 35); have sB9 := Sl.new w8 35 1 1 #[.slice (some ⟨gB, 0, none⟩) 256 256] (0, 0) (by decide) rfl; obtain ⟨w9, hw9⟩ : ∃ W, w8.alloc (.cells #[.slice (some ⟨gB, 0, none⟩) 256 256] 35) = W := ⟨_, rfl⟩; obtain ⟨bB, hbB⟩ : ∃ g, w8.heap.size = g := ⟨_, rfl⟩; rw [hw9] at hal sB9; rw [hbB] at sB9; have C9 := C8'.out.late hal; have pB9 := pB8'.out.late hal; have lA9 := Nat.lt_of_lt_of_le lA8'.out hal.size; have HS9 := Lib.hid (hsurj'.out w9 C9.b7); clear hal; have hw9' := Lib.hid hw9; have hbB' := Lib.hid hbB; have C9' := Lib.hid C9; have sB9' := Lib.hid sB9; have pB9' := Lib.hid pB9; have lA9' := Lib.hid lA9; clear hw9 hbB C9 sB9 pB9 lA9
                go_wp2_with fail
                rw [hw9'.out, hbB'.out]; refine Mid.mk ⟨fun _ => HS9.out, ?_⟩; refine till_one 9 3 (by kernel_rfl) (by kernel_rfl) ?_; simp only [pickL, List.map_cons, List.map_nil, List.getD_cons_succ, List.getD_cons_zero]; have hsz := C9'.out.bel.size
                go_wp2_with (at_builtin; refine wpList_app3 rfl _ _ 42 rfl w0.heap.size 35 iR _ 1 24 Try.underlying42 hiR hzR0 hzR1 hzR2 rfl (by decide) (.slice aa k ac) k _ rfl C9'.out.a.own (some ⟨bB, 0, none⟩) 1 1 [.slice (some ⟨gB, 0, none⟩) 256 256] rfl sB9'.out (by simp [Value.oneCell']) (by omega) (by decide) hsz ?_; intro a10 c10 w10 ho hg hk ; have Ho10 := Lib.hid ho; have Hg10 := Lib.hid hg; have Hk10 := Lib.hid hk; clear ho hg hk)
                have f2 : ∀ (i : Nat) x, (LD ++ [(gA, z256)])[i]? = some x → gB ≠ x.1 := by
                  first
                    | exact fun i x hx => (fB'.out.2.1 i x hx).symm
                    | exact fresh_snoc fB'.out.2.1 qB'.out
                    | exact fresh_snoc fB'.out.2.1 qA'.out.symm
                have Cn := (C9'.out.turn.appD rfl fB'.out.1 pB9'.out (fun i x hx e => fB'.out.2.2 i x hx e.symm) f2 Ho10.out Hg10.out Hk10.out).turn; have HSn := Lib.hid (hsurj'.out w10 Cn.b7); have e0 : w10.cell? ⟨g7, 0, none⟩ = some (.slice da k dc) := Cn.b7.cell rfl; have e1 : w10.cell? ⟨g7, 1, none⟩ = some (.slice aa k ac) := Cn.b7.cell rfl; have z0 := Cn.b7.frozen 0; have z1 := Cn.b7.frozen 1; clear f2 Ho10 Hg10 Hk10 hsz; have Cn' := Lib.hid Cn; clear Cn; refine Mid.mk ⟨fun _ => HSn.out, ?_⟩; refine till_one 11 2 (by kernel_rfl) (by kernel_rfl) ?_; simp only [pickL, List.map_cons, List.map_nil, List.getD_cons_succ, List.getD_cons_zero]
                go_wp2_with fail
                refine Mid.mk ⟨fun h => Bool.noConfusion (show true = false from h), ?_⟩; refine till_one 12 1 (by kernel_rfl) (by kernel_rfl) ?_; simp only [pickL, List.map_cons, List.map_nil, List.getD_cons_succ, List.getD_cons_zero]
                go_wp2_with fail
                refine Mid.mk ⟨fun h => Bool.noConfusion (show true = false from h), ?_⟩; refine till_one 13 0 (by kernel_rfl) (by kernel_rfl) ?_; simp only [pickL, List.map_cons, List.map_nil, List.getD_cons_succ, List.getD_cons_zero]
                go_wp2_with fail
                refine ⟨fun h => Bool.noConfusion (show true = false from h), ⟨by kernel_rfl, noP_normal ?_⟩⟩
                go_wp2
                go_roundw
                case rel => exact ⟨k + 1, _, _, _, _, _, _, by omega, by go_num, Lib.hid (Cn'.out.put2 hg7'.out _ _)⟩
                case measure => simp [intOf]; omega
              case refine_2 =>
                have hal := (Below.refl w7.heap.size w7).alloc (Nat.le_refl _) (.cells #[.slice (some ⟨gB, 0, none⟩) 256 256] 35); have sB11 := Sl.new w7 35 1 1 #[.slice (some ⟨gB, 0, none⟩) 256 256] (0, 0) (by decide) rfl; obtain ⟨w11, hw11⟩ : ∃ W, w7.alloc (.cells #[.slice (some ⟨gB, 0, none⟩) 256 256] 35) = W := ⟨_, rfl⟩; have nB : ∀ j, (Value.slice da k dc).ownBlock = some j → j ≠ w7.heap.size := fun j hj => by have := (C7'.out.d.own.lt j hj).2; omega
                obtain ⟨bB, hbB⟩ : ∃ g, w7.heap.size = g := ⟨_, rfl⟩; rw [hw11] at hal sB11; rw [hbB] at sB11 nB; have C11 := C7'.out.late hal; have pA11 := pA7'.out.late hal; have sA11 := sA7'.out.mono hal; have pB11 := pB7'.out.late hal; have HS11 := Lib.hid (hsurj'.out w11 C11.b7); clear hal; have hw11' := Lib.hid hw11; have hbB' := Lib.hid hbB; have C11' := Lib.hid C11; have sB11' := Lib.hid sB11; have nB' := Lib.hid nB; have pA11' := Lib.hid pA11; have sA11' := Lib.hid sA11; have pB11' := Lib.hid pB11; clear hw11 hbB C11 sB11 nB pA11 sA11 pB11
                go_wp2_with fail
                rw [hw11'.out, hbB'.out]; refine Mid.mk ⟨fun _ => HS11.out, ?_⟩; refine till_one 4 5 (by kernel_rfl) (by kernel_rfl) ?_; simp only [pickL, List.map_cons, List.map_nil, List.getD_cons_succ, List.getD_cons_zero]; have hsz := C11'.out.bel.size
                go_wp2_with (at_builtin; refine wpList_app3 rfl _ _ 42 rfl w0.heap.size 35 iR _ 1 24 Try.underlying42 hiR hzR0 hzR1 hzR2 rfl (by decide) (.slice da k dc) k _ rfl C11'.out.d.own (some ⟨bA, 0, none⟩) 1 1 [.slice (some ⟨gA, 0, none⟩) 256 256] rfl sA11'.out (by simp [Value.oneCell']) (by omega) (by decide) hsz ?_; intro a12 c12 w12 ho hg hk ; have Ho12 := Lib.hid ho; have Hg12 := Lib.hid hg; have Hk12 := Lib.hid hk; clear ho hg hk)
                have hmg := Mo.of_grown (S := fun j => (Value.slice da k dc).ownBlock = some j) Hg12.out fun j hj => hj; have C12 := C11'.out.appD rfl fA'.out.1 pA11'.out fA'.out.2.1 fA'.out.2.2 Ho12.out Hg12.out Hk12.out; have pB12 := pB11'.out.mo hmg (own_neB C11'.out.d.own pB11'.out (by decide)); have sB12 := sB11'.out.mo hmg (fun x hx hs => nB'.out _ hs (by injection hx with hx; rw [← hx])); have lA12 := Nat.lt_of_lt_of_le pA11'.out.lt hmg.size; have HS12 := Lib.hid (hsurj'.out w12 C12.b7); clear hmg Ho12 Hg12 Hk12 hsz; have C12' := Lib.hid C12; have pB12' := Lib.hid pB12; have sB12' := Lib.hid sB12; have lA12' := Lib.hid lA12; clear C12 pB12 sB12 lA12; refine Mid.mk ⟨fun _ => HS12.out, ?_⟩; have HS := HS12; refine till_free [10] 4 (by kernel_rfl) noP_put (by kernel_rfl) (by kernel_rfl) (by kernel_rfl) HS.out ?_; simp only [pickL, List.map_cons, List.map_nil, List.getD_cons_succ, List.getD_cons_zero]
                iterate 1 (go_big_quiet_step (fail))
                refine wpQuiet_nil ?_; refine till_one 9 3 (by kernel_rfl) (by kernel_rfl) ?_; simp only [pickL, List.map_cons, List.map_nil, List.getD_cons_succ, List.getD_cons_zero]; have hsz := C12'.out.bel.size
                go_wp2_with (at_builtin; refine wpList_app3 rfl _ _ 42 rfl w0.heap.size 35 iR _ 1 24 Try.underlying42 hiR hzR0 hzR1 hzR2 rfl (by decide) (.slice aa k ac) k _ rfl C12'.out.a.own (some ⟨bB, 0, none⟩) 1 1 [.slice (some ⟨gB, 0, none⟩) 256 256] rfl sB12'.out (by simp [Value.oneCell']) (by omega) (by decide) hsz ?_; intro a13 c13 w13 ho hg hk ; have Ho13 := Lib.hid ho; have Hg13 := Lib.hid hg; have Hk13 := Lib.hid hk; clear ho hg hk)
                have f2 : ∀ (i : Nat) x, (LD ++ [(gA, z256)])[i]? = some x → gB ≠ x.1 := by
                  first
                    | exact fun i x hx => (fB'.out.2.1 i x hx).symm
                    | exact fresh_snoc fB'.out.2.1 qB'.out
                    | exact fresh_snoc fB'.out.2.1 qA'.out.symm
                have Cn := (C12'.out.turn.appD rfl fB'.out.1 pB12'.out (fun i x hx e => fB'.out.2.2 i x hx e.symm) f2 Ho13.out Hg13.out Hk13.out).turn; have HSn := Lib.hid (hsurj'.out w13 Cn.b7); have e0 : w13.cell? ⟨g7, 0, none⟩ = some (.slice da k dc) := Cn.b7.cell rfl; have e1 : w13.cell? ⟨g7, 1, none⟩ = some (.slice aa k ac) := Cn.b7.cell rfl; have z0 := Cn.b7.frozen 0; have z1 := Cn.b7.frozen 1; clear f2 Ho13 Hg13 Hk13 hsz; have Cn' := Lib.hid Cn; clear Cn; refine Mid.mk ⟨fun _ => HSn.out, ?_⟩; refine till_one 11 2 (by kernel_rfl) (by kernel_rfl) ?_; simp only [pickL, List.map_cons, List.map_nil, List.getD_cons_succ, List.getD_cons_zero]
                go_wp2_with fail
                refine Mid.mk ⟨fun h => Bool.noConfusion (show true = false from h), ?_⟩; refine till_one 12 1 (by kernel_rfl) (by kernel_rfl) ?_; simp only [pickL, List.map_cons, List.map_nil, List.getD_cons_succ, List.getD_cons_zero]
                go_wp2_with fail
                refine Mid.mk ⟨fun h => Bool.noConfusion (show true = false from h), ?_⟩; refine till_one 13 0 (by kernel_rfl) (by kernel_rfl) ?_; simp only [pickL, List.map_cons, List.map_nil, List.getD_cons_succ, List.getD_cons_zero]
                go_wp2_with fail
                refine ⟨fun h => Bool.noConfusion (show true = false from h), ⟨by kernel_rfl, noP_normal ?_⟩⟩
                go_wp2
                go_roundw
                case rel => exact ⟨k + 1, _, _, _, _, _, _, by omega, by go_num, Lib.hid (Cn'.out.put2 hg7'.out _ _)⟩
                case measure => simp [intOf]; omega
          case refine_2 =>
            have hal := (Below.refl w1.heap.size w1).alloc (Nat.le_refl _) (.cells (ints .i64 z256).toArray 3); have pB14 : Blk (w1.alloc (.cells (ints .i64 z256).toArray 3)) w1.heap.size 3 (ints .i64 z256).toArray := Blk.new w1 3 (ints .i64 z256).toArray; obtain ⟨w14, hw14⟩ : ∃ W, w1.alloc (.cells (ints .i64 z256).toArray 3) = W := ⟨_, rfl⟩; have fB := C1'.out.fresh; have qB : gA ≠ w1.heap.size := by have := pA1'.out.lt; omega
            obtain ⟨gB, hgB⟩ : ∃ g, w1.heap.size = g := ⟨_, rfl⟩; rw [hw14] at hal pB14; rw [hgB] at pB14 fB qB; have C14 := C1'.out.late hal; have pA14 := pA1'.out.late hal; have HS14 := Lib.hid (hsurj'.out w14 C14.b7); clear hal; have hw14' := Lib.hid hw14; have hgB' := Lib.hid hgB; have C14' := Lib.hid C14; have pB14' := Lib.hid pB14; have fB' := Lib.hid fB; have qB' := Lib.hid qB; have pA14' := Lib.hid pA14; clear hw14 hgB C14 pB14 fB qB pA14
            go_wp2_with (at_make; refine wpList_make_row _ rfl _ _ 35 rfl 3 i1 (.int .i64 0) Try.underlying35 hi hz0 hz1 rfl .i64 .i64 256 rfl rfl (by rw [hz2]; omega) (by omega) ?_; rw [made_ints, show List.replicate 256 (0 : Int) = z256 from rfl])
            rw [hw14'.out, hgB'.out]; refine Mid.mk ⟨fun _ => HS14.out, ?_⟩; refine till_two 3 8 7 (by kernel_rfl) (by kernel_rfl) ?_ ?_
            all_goals simp only [pickL, List.map_cons, List.map_nil, List.getD_cons_succ, List.getD_cons_zero]
            case refine_1 =>
              have hal := (Below.refl w14.heap.size w14).alloc (Nat.le_refl _) (.cells #[.slice (some ⟨gA, 0, none⟩) 256 256] 35); have sA15 := Sl.new w14 35 1 1 #[.slice (some ⟨gA, 0, none⟩) 256 256] (0, 0) (by decide) rfl; obtain ⟨w15, hw15⟩ : ∃ W, w14.alloc (.cells #[.slice (some ⟨gA, 0, none⟩) 256 256] 35) = W := ⟨_, rfl⟩; obtain ⟨bA, hbA⟩ : ∃ g, w14.heap.size = g := ⟨_, rfl⟩; rw [hw15] at hal sA15; rw [hbA] at sA15; have C15 := C14'.out.late hal; have pA15 := pA14'.out.late hal; have pB15 := pB14'.out.late hal; have HS15 := Lib.hid (hsurj'.out w15 C15.b7); clear hal; have hw15' := Lib.hid hw15; have hbA' := Lib.hid hbA; have C15' := Lib.hid C15; have sA15' := Lib.hid sA15; have pA15' := Lib.hid pA15; have pB15' := Lib.hid pB15; clear hw15 hbA C15 sA15 pA15 pB15
              go_wp2_with fail
              rw [hw15'.out, hbA'.out]; refine Mid.mk ⟨fun _ => HS15.out, ?_⟩; refine till_two 4 8 6 (by kernel_rfl) (by kernel_rfl) ?_ ?_
              all_goals simp only [pickL, List.map_cons, List.map_nil, List.getD_cons_succ, List.getD_cons_zero]
              case refine_1 =>
                have hsz := C15'.out.bel.size
                go_wp2_with (at_builtin; refine wpList_app3 rfl _ _ 42 rfl w0.heap.size 35 iR _ 1 24 Try.underlying42 hiR hzR0 hzR1 hzR2 rfl (by decide) (.slice da k dc) k _ rfl C15'.out.d.own (some ⟨bA, 0, none⟩) 1 1 [.slice (some ⟨gA, 0, none⟩) 256 256] rfl sA15'.out (by simp [Value.oneCell']) (by omega) (by decide) hsz ?_; intro a16 c16 w16 ho hg hk ; have Ho16 := Lib.hid ho; have Hg16 := Lib.hid hg; have Hk16 := Lib.hid hk; clear ho hg hk)
                have hmg := Mo.of_grown (S := fun j => (Value.slice da k dc).ownBlock = some j) Hg16.out fun j hj => hj; have C16 := C15'.out.appD rfl fA'.out.1 pA15'.out fA'.out.2.1 fA'.out.2.2 Ho16.out Hg16.out Hk16.out; have pB16 := pB15'.out.mo hmg (own_neB C15'.out.d.own pB15'.out (by decide)); have lA16 := Nat.lt_of_lt_of_le pA15'.out.lt hmg.size; have HS16 := Lib.hid (hsurj'.out w16 C16.b7); clear hmg Ho16 Hg16 Hk16 hsz; have C16' := Lib.hid C16; have pB16' := Lib.hid pB16; have lA16' := Lib.hid lA16; clear C16 pB16 lA16; refine Mid.mk ⟨fun _ => HS16.out, ?_⟩; have HS := HS16; refine till_free [10] 5 (by kernel_rfl) noP_put (by kernel_rfl) (by kernel_rfl) (by kernel_rfl) HS.out ?_; simp only [pickL, List.map_cons, List.map_nil, List.getD_cons_succ, List.getD_cons_zero]
                iterate 1 (go_big_quiet_step (fail))
                refine wpQuiet_nil ?_; refine till_one 8 4 (by kernel_rfl) (by kernel_rfl) ?_; simp only [pickL, List.map_cons, List.map_nil, List.getD_cons_succ, List.getD_cons_zero]; have hal := (Below.refl w16.heap.size w16).alloc (Nat.le_refl _) (.cells #[.slice (some ⟨gB, 0, none⟩) 256 256] 35); have sB17 := Sl.new w16 35 1 1 #[.slice (some ⟨gB, 0, none⟩) 256 256] (0, 0) (by decide) rfl; obtain ⟨w17, hw17⟩ : ∃ W, w16.alloc (.cells #[.slice (some ⟨gB, 0, none⟩) 256 256] 35) = W := ⟨_, rfl⟩; obtain ⟨bB, hbB⟩ : ∃ g, w16.heap.size = g := ⟨_, rfl⟩; rw [hw17] at hal sB17; rw [hbB] at sB17; have C17 := C16'.out.late hal; have pB17 := pB16'.out.late hal; have lA17 := Nat.lt_of_lt_of_le lA16'.out hal.size; have HS17 := Lib.hid (hsurj'.out w17 C17.b7); clear hal; have hw17' := Lib.hid hw17; have hbB' := Lib.hid hbB; have C17' := Lib.hid C17; have sB17' := Lib.hid sB17; have pB17' := Lib.hid pB17; have lA17' := Lib.hid lA17; clear hw17 hbB C17 sB17 pB17 lA17
                go_wp2_with fail
                rw [hw17'.out, hbB'.out]; refine Mid.mk ⟨fun _ => HS17.out, ?_⟩; refine till_one 9 3 (by kernel_rfl) (by kernel_rfl) ?_; simp only [pickL, List.map_cons, List.map_nil, List.getD_cons_succ, List.getD_cons_zero]; have hsz := C17'.out.bel.size
                go_wp2_with (at_builtin; refine wpList_app3 rfl _ _ 42 rfl w0.heap.size 35 iR _ 1 24 Try.underlying42 hiR hzR0 hzR1 hzR2 rfl (by decide) (.slice aa k ac) k _ rfl C17'.out.a.own (some ⟨bB, 0, none⟩) 1 1 [.slice (some ⟨gB, 0, none⟩) 256 256] rfl sB17'.out (by simp [Value.oneCell']) (by omega) (by decide) hsz ?_; intro a18 c18 w18 ho hg hk ; have Ho18 := Lib.hid ho; have Hg18 := Lib.hid hg; have Hk18 := Lib.hid hk; clear ho hg hk)
                have f2 : ∀ (i : Nat) x, (LD ++ [(gA, z256)])[i]? = some x → gB ≠ x.1 := by
                  first
                    | exact fun i x hx => (fB'.out.2.1 i x hx).symm
                    | exact fresh_snoc fB'.out.2.1 qB'.out
                    | exact fresh_snoc fB'.out.2.1 qA'.out.symm
                have Cn := (C17'.out.turn.appD rfl fB'.out.1 pB17'.out (fun i x hx e => fB'.out.2.2 i x hx e.symm) f2 Ho18.out Hg18.out Hk18.out).turn; have HSn := Lib.hid (hsurj'.out w18 Cn.b7); have e0 : w18.cell? ⟨g7, 0, none⟩ = some (.slice da k dc) := Cn.b7.cell rfl; have e1 : w18.cell? ⟨g7, 1, none⟩ = some (.slice aa k ac) := Cn.b7.cell rfl; have z0 := Cn.b7.frozen 0; have z1 := Cn.b7.frozen 1; clear f2 Ho18 Hg18 Hk18 hsz; have Cn' := Lib.hid Cn; clear Cn; refine Mid.mk ⟨fun _ => HSn.out, ?_⟩; refine till_one 11 2 (by kernel_rfl) (by kernel_rfl) ?_; simp only [pickL, List.map_cons, List.map_nil, List.getD_cons_succ, List.getD_cons_zero]
                go_wp2_with fail
                refine Mid.mk ⟨fun h => Bool.noConfusion (show true = false from h), ?_⟩; refine till_one 12 1 (by kernel_rfl) (by kernel_rfl) ?_; simp only [pickL, List.map_cons, List.map_nil, List.getD_cons_succ, List.getD_cons_zero]
                go_wp2_with fail
                refine Mid.mk ⟨fun h => Bool.noConfusion (show true = false from h), ?_⟩; refine till_one 13 0 (by kernel_rfl) (by kernel_rfl) ?_; simp only [pickL, List.map_cons, List.map_nil, List.getD_cons_succ, List.getD_cons_zero]
                go_wp2_with fail
                refine ⟨fun h => Bool.noConfusion (show true = false from h), ⟨by kernel_rfl, noP_normal ?_⟩⟩
                go_wp2
                go_roundw
                case rel => exact ⟨k + 1, _, _, _, _, _, _, by omega, by go_num, Lib.hid (Cn'.out.put2 hg7'.out _ _)⟩
                case measure => simp [intOf]; omega
              case refine_2 =>
                have hal := (Below.refl w15.heap.size w15).alloc (Nat.le_refl _) (.cells #[.slice (some ⟨gB, 0, none⟩) 256 256] 35); have sB19 := Sl.new w15 35 1 1 #[.slice (some ⟨gB, 0, none⟩) 256 256] (0, 0) (by decide) rfl; obtain ⟨w19, hw19⟩ : ∃ W, w15.alloc (.cells #[.slice (some ⟨gB, 0, none⟩) 256 256] 35) = W := ⟨_, rfl⟩; have nB : ∀ j, (Value.slice da k dc).ownBlock = some j → j ≠ w15.heap.size := fun j hj => by have := (C15'.out.d.own.lt j hj).2; omega
                obtain ⟨bB, hbB⟩ : ∃ g, w15.heap.size = g := ⟨_, rfl⟩; rw [hw19] at hal sB19; rw [hbB] at sB19 nB; have C19 := C15'.out.late hal; have pA19 := pA15'.out.late hal; have sA19 := sA15'.out.mono hal; have pB19 := pB15'.out.late hal; have HS19 := Lib.hid (hsurj'.out w19 C19.b7); clear hal; have hw19' := Lib.hid hw19; have hbB' := Lib.hid hbB; have C19' := Lib.hid C19; have sB19' := Lib.hid sB19; have nB' := Lib.hid nB; have pA19' := Lib.hid pA19; have sA19' := Lib.hid sA19; have pB19' := Lib.hid pB19; clear hw19 hbB C19 sB19 nB pA19 sA19 pB19
                go_wp2_with fail
                rw [hw19'.out, hbB'.out]; refine Mid.mk ⟨fun _ => HS19.out, ?_⟩; refine till_one 4 5 (by kernel_rfl) (by kernel_rfl) ?_; simp only [pickL, List.map_cons, List.map_nil, List.getD_cons_succ, List.getD_cons_zero]; have hsz := C19'.out.bel.size
                go_wp2_with (at_builtin; refine wpList_app3 rfl _ _ 42 rfl w0.heap.size 35 iR _ 1 24 Try.underlying42 hiR hzR0 hzR1 hzR2 rfl (by decide) (.slice da k dc) k _ rfl C19'.out.d.own (some ⟨bA, 0, none⟩) 1 1 [.slice (some ⟨gA, 0, none⟩) 256 256] rfl sA19'.out (by simp [Value.oneCell']) (by omega) (by decide) hsz ?_; intro a20 c20 w20 ho hg hk ; have Ho20 := Lib.hid ho; have Hg20 := Lib.hid hg; have Hk20 := Lib.hid hk; clear ho hg hk)
                have hmg := Mo.of_grown (S := fun j => (Value.slice da k dc).ownBlock = some j) Hg20.out fun j hj => hj; have C20 := C19'.out.appD rfl fA'.out.1 pA19'.out fA'.out.2.1 fA'.out.2.2 Ho20.out Hg20.out Hk20.out; have pB20 := pB19'.out.mo hmg (own_neB C19'.out.d.own pB19'.out (by decide)); have sB20 := sB19'.out.mo hmg (fun x hx hs => nB'.out _ hs (by injection hx with hx; rw [← hx])); have lA20 := Nat.lt_of_lt_of_le pA19'.out.lt hmg.size; have HS20 := Lib.hid (hsurj'.out w20 C20.b7); clear hmg Ho20 Hg20 Hk20 hsz; have C20' := Lib.hid C20; have pB20' := Lib.hid pB20; have sB20' := Lib.hid sB20; have lA20' := Lib.hid lA20; clear C20 pB20 sB20 lA20; refine Mid.mk ⟨fun _ => HS20.out, ?_⟩; have HS := HS20; refine till_free [10] 4 (by kernel_rfl) noP_put (by kernel_rfl) (by kernel_rfl) (by kernel_rfl) HS.out ?_; simp only [pickL, List.map_cons, List.map_nil, List.getD_cons_succ, List.getD_cons_zero]
                iterate 1 (go_big_quiet_step (fail))
                refine wpQuiet_nil ?_; refine till_one 9 3 (by kernel_rfl) (by kernel_rfl) ?_; simp only [pickL, List.map_cons, List.map_nil, List.getD_cons_succ, List.getD_cons_zero]; have hsz := C20'.out.bel.size
                go_wp2_with (at_builtin; refine wpList_app3 rfl _ _ 42 rfl w0.heap.size 35 iR _ 1 24 Try.underlying42 hiR hzR0 hzR1 hzR2 rfl (by decide) (.slice aa k ac) k _ rfl C20'.out.a.own (some ⟨bB, 0, none⟩) 1 1 [.slice (some ⟨gB, 0, none⟩) 256 256] rfl sB20'.out (by simp [Value.oneCell']) (by omega) (by decide) hsz ?_; intro a21 c21 w21 ho hg hk ; have Ho21 := Lib.hid ho; have Hg21 := Lib.hid hg; have Hk21 := Lib.hid hk; clear ho hg hk)
                have f2 : ∀ (i : Nat) x, (LD ++ [(gA, z256)])[i]? = some x → gB ≠ x.1 := by
                  first
                    | exact fun i x hx => (fB'.out.2.1 i x hx).symm
                    | exact fresh_snoc fB'.out.2.1 qB'.out
                    | exact fresh_snoc fB'.out.2.1 qA'.out.symm
                have Cn := (C20'.out.turn.appD rfl fB'.out.1 pB20'.out (fun i x hx e => fB'.out.2.2 i x hx e.symm) f2 Ho21.out Hg21.out Hk21.out).turn; have HSn := Lib.hid (hsurj'.out w21 Cn.b7); have e0 : w21.cell? ⟨g7, 0, none⟩ = some (.slice da k dc) := Cn.b7.cell rfl; have e1 : w21.cell? ⟨g7, 1, none⟩ = some (.slice aa k ac) := Cn.b7.cell rfl; have z0 := Cn.b7.frozen 0; have z1 := Cn.b7.frozen 1; clear f2 Ho21 Hg21 Hk21 hsz; have Cn' := Lib.hid Cn; clear Cn; refine Mid.mk ⟨fun _ => HSn.out, ?_⟩; refine till_one 11 2 (by kernel_rfl) (by kernel_rfl) ?_; simp only [pickL, List.map_cons, List.map_nil, List.getD_cons_succ, List.getD_cons_zero]
                go_wp2_with fail
                refine Mid.mk ⟨fun h => Bool.noConfusion (show true = false from h), ?_⟩; refine till_one 12 1 (by kernel_rfl) (by kernel_rfl) ?_; simp only [pickL, List.map_cons, List.map_nil, List.getD_cons_succ, List.getD_cons_zero]
                go_wp2_with fail
                refine Mid.mk ⟨fun h => Bool.noConfusion (show true = false from h), ?_⟩; refine till_one 13 0 (by kernel_rfl) (by kernel_rfl) ?_; simp only [pickL, List.map_cons, List.map_nil, List.getD_cons_succ, List.getD_cons_zero]
                go_wp2_with fail
                refine ⟨fun h => Bool.noConfusion (show true = false from h), ⟨by kernel_rfl, noP_normal ?_⟩⟩
                go_wp2
                go_roundw
                case rel => exact ⟨k + 1, _, _, _, _, _, _, by omega, by go_num, Lib.hid (Cn'.out.put2 hg7'.out _ _)⟩
                case measure => simp [intOf]; omega
            case refine_2 =>
              have hal := (Below.refl w14.heap.size w14).alloc (Nat.le_refl _) (.cells #[.slice (some ⟨gB, 0, none⟩) 256 256] 35); have sB22 := Sl.new w14 35 1 1 #[.slice (some ⟨gB, 0, none⟩) 256 256] (0, 0) (by decide) rfl; obtain ⟨w22, hw22⟩ : ∃ W, w14.alloc (.cells #[.slice (some ⟨gB, 0, none⟩) 256 256] 35) = W := ⟨_, rfl⟩; have nB : ∀ j, (Value.slice da k dc).ownBlock = some j → j ≠ w14.heap.size := fun j hj => by have := (C14'.out.d.own.lt j hj).2; omega
              obtain ⟨bB, hbB⟩ : ∃ g, w14.heap.size = g := ⟨_, rfl⟩; rw [hw22] at hal sB22; rw [hbB] at sB22 nB; have C22 := C14'.out.late hal; have pA22 := pA14'.out.late hal; have pB22 := pB14'.out.late hal; have HS22 := Lib.hid (hsurj'.out w22 C22.b7); clear hal; have hw22' := Lib.hid hw22; have hbB' := Lib.hid hbB; have C22' := Lib.hid C22; have sB22' := Lib.hid sB22; have nB' := Lib.hid nB; have pA22' := Lib.hid pA22; have pB22' := Lib.hid pB22; clear hw22 hbB C22 sB22 nB pA22 pB22
              go_wp2_with fail
              rw [hw22'.out, hbB'.out]; refine Mid.mk ⟨fun _ => HS22.out, ?_⟩; refine till_one 3 6 (by kernel_rfl) (by kernel_rfl) ?_; simp only [pickL, List.map_cons, List.map_nil, List.getD_cons_succ, List.getD_cons_zero]; have hal := (Below.refl w22.heap.size w22).alloc (Nat.le_refl _) (.cells #[.slice (some ⟨gA, 0, none⟩) 256 256] 35); have sA23 := Sl.new w22 35 1 1 #[.slice (some ⟨gA, 0, none⟩) 256 256] (0, 0) (by decide) rfl; obtain ⟨w23, hw23⟩ : ∃ W, w22.alloc (.cells #[.slice (some ⟨gA, 0, none⟩) 256 256] 35) = W := ⟨_, rfl⟩; obtain ⟨bA, hbA⟩ : ∃ g, w22.heap.size = g := ⟨_, rfl⟩; rw [hw23] at hal sA23; rw [hbA] at sA23; have C23 := C22'.out.late hal; have pA23 := pA22'.out.late hal; have pB23 := pB22'.out.late hal; have sB23 := sB22'.out.mono hal; have HS23 := Lib.hid (hsurj'.out w23 C23.b7); clear hal; have hw23' := Lib.hid hw23; have hbA' := Lib.hid hbA; have C23' := Lib.hid C23; have sA23' := Lib.hid sA23; have pA23' := Lib.hid pA23; have pB23' := Lib.hid pB23; have sB23' := Lib.hid sB23; clear hw23 hbA C23 sA23 pA23 pB23 sB23
              go_wp2_with fail
              rw [hw23'.out, hbA'.out]; refine Mid.mk ⟨fun _ => HS23.out, ?_⟩; refine till_one 4 5 (by kernel_rfl) (by kernel_rfl) ?_; simp only [pickL, List.map_cons, List.map_nil, List.getD_cons_succ, List.getD_cons_zero]; have hsz := C23'.out.bel.size
              go_wp2_with (at_builtin; refine wpList_app3 rfl _ _ 42 rfl w0.heap.size 35 iR _ 1 24 Try.underlying42 hiR hzR0 hzR1 hzR2 rfl (by decide) (.slice da k dc) k _ rfl C23'.out.d.own (some ⟨bA, 0, none⟩) 1 1 [.slice (some ⟨gA, 0, none⟩) 256 256] rfl sA23'.out (by simp [Value.oneCell']) (by omega) (by decide) hsz ?_; intro a24 c24 w24 ho hg hk ; have Ho24 := Lib.hid ho; have Hg24 := Lib.hid hg; have Hk24 := Lib.hid hk; clear ho hg hk)
              have hmg := Mo.of_grown (S := fun j => (Value.slice da k dc).ownBlock = some j) Hg24.out fun j hj => hj; have C24 := C23'.out.appD rfl fA'.out.1 pA23'.out fA'.out.2.1 fA'.out.2.2 Ho24.out Hg24.out Hk24.out; have pB24 := pB23'.out.mo hmg (own_neB C23'.out.d.own pB23'.out (by decide)); have sB24 := sB23'.out.mo hmg (fun x hx hs => nB'.out _ hs (by injection hx with hx; rw [← hx])); have lA24 := Nat.lt_of_lt_of_le pA23'.out.lt hmg.size; have HS24 := Lib.hid (hsurj'.out w24 C24.b7); clear hmg Ho24 Hg24 Hk24 hsz; have C24' := Lib.hid C24; have pB24' := Lib.hid pB24; have sB24' := Lib.hid sB24; have lA24' := Lib.hid lA24; clear C24 pB24 sB24 lA24; refine Mid.mk ⟨fun _ => HS24.out, ?_⟩; have HS := HS24; refine till_free [10] 4 (by kernel_rfl) noP_put (by kernel_rfl) (by kernel_rfl) (by kernel_rfl) HS.out ?_; simp only [pickL, List.map_cons, List.map_nil, List.getD_cons_succ, List.getD_cons_zero]
              iterate 1 (go_big_quiet_step (fail))
              refine wpQuiet_nil ?_; refine till_one 9 3 (by kernel_rfl) (by kernel_rfl) ?_; simp only [pickL, List.map_cons, List.map_nil, List.getD_cons_succ, List.getD_cons_zero]; have hsz := C24'.out.bel.size
              go_wp2_with (at_builtin; refine wpList_app3 rfl _ _ 42 rfl w0.heap.size 35 iR _ 1 24 Try.underlying42 hiR hzR0 hzR1 hzR2 rfl (by decide) (.slice aa k ac) k _ rfl C24'.out.a.own (some ⟨bB, 0, none⟩) 1 1 [.slice (some ⟨gB, 0, none⟩) 256 256] rfl sB24'.out (by simp [Value.oneCell']) (by omega) (by decide) hsz ?_; intro a25 c25 w25 ho hg hk ; have Ho25 := Lib.hid ho; have Hg25 := Lib.hid hg; have Hk25 := Lib.hid hk; clear ho hg hk)
              have f2 : ∀ (i : Nat) x, (LD ++ [(gA, z256)])[i]? = some x → gB ≠ x.1 := by
                first
                  | exact fun i x hx => (fB'.out.2.1 i x hx).symm
                  | exact fresh_snoc fB'.out.2.1 qB'.out
                  | exact fresh_snoc fB'.out.2.1 qA'.out.symm
              have Cn := (C24'.out.turn.appD rfl fB'.out.1 pB24'.out (fun i x hx e => fB'.out.2.2 i x hx e.symm) f2 Ho25.out Hg25.out Hk25.out).turn; have HSn := Lib.hid (hsurj'.out w25 Cn.b7); have e0 : w25.cell? ⟨g7, 0, none⟩ = some (.slice da k dc) := Cn.b7.cell rfl; have e1 : w25.cell? ⟨g7, 1, none⟩ = some (.slice aa k ac) := Cn.b7.cell rfl; have z0 := Cn.b7.frozen 0; have z1 := Cn.b7.frozen 1; clear f2 Ho25 Hg25 Hk25 hsz; have Cn' := Lib.hid Cn; clear Cn; refine Mid.mk ⟨fun _ => HSn.out, ?_⟩; refine till_one 11 2 (by kernel_rfl) (by kernel_rfl) ?_; simp only [pickL, List.map_cons, List.map_nil, List.getD_cons_succ, List.getD_cons_zero]
              go_wp2_with fail
              refine Mid.mk ⟨fun h => Bool.noConfusion (show true = false from h), ?_⟩; refine till_one 12 1 (by kernel_rfl) (by kernel_rfl) ?_; simp only [pickL, List.map_cons, List.map_nil, List.getD_cons_succ, List.getD_cons_zero]
              go_wp2_with fail
              refine Mid.mk ⟨fun h => Bool.noConfusion (show true = false from h), ?_⟩; refine till_one 13 0 (by kernel_rfl) (by kernel_rfl) ?_; simp only [pickL, List.map_cons, List.map_nil, List.getD_cons_succ, List.getD_cons_zero]
              go_wp2_with fail
              refine ⟨fun h => Bool.noConfusion (show true = false from h), ⟨by kernel_rfl, noP_normal ?_⟩⟩
              go_wp2
              go_roundw
              case rel => exact ⟨k + 1, _, _, _, _, _, _, by omega, by go_num, Lib.hid (Cn'.out.put2 hg7'.out _ _)⟩
              case measure => simp [intOf]; omega
        case refine_2 =>
          have hal := (Below.refl wD.heap.size wD).alloc (Nat.le_refl _) (.cells (ints .i64 z256).toArray 3); have pB26 : Blk (wD.alloc (.cells (ints .i64 z256).toArray 3)) wD.heap.size 3 (ints .i64 z256).toArray := Blk.new wD 3 (ints .i64 z256).toArray; obtain ⟨w26, hw26⟩ : ∃ W, wD.alloc (.cells (ints .i64 z256).toArray 3) = W := ⟨_, rfl⟩; have fB := C0'.out.fresh; obtain ⟨gB, hgB⟩ : ∃ g, wD.heap.size = g := ⟨_, rfl⟩; rw [hw26] at hal pB26; rw [hgB] at pB26 fB; have C26 := C0'.out.late hal; have HS26 := Lib.hid (hsurj'.out w26 C26.b7); clear hal; have hw26' := Lib.hid hw26; have hgB' := Lib.hid hgB; have C26' := Lib.hid C26; have pB26' := Lib.hid pB26; have fB' := Lib.hid fB; clear hw26 hgB C26 pB26 fB
          go_wp2_with (at_make; refine wpList_make_row _ rfl _ _ 35 rfl 3 i1 (.int .i64 0) Try.underlying35 hi hz0 hz1 rfl .i64 .i64 256 rfl rfl (by rw [hz2]; omega) (by omega) ?_; rw [made_ints, show List.replicate 256 (0 : Int) = z256 from rfl])
          rw [hw26'.out, hgB'.out]; refine Mid.mk ⟨fun _ => HS26.out, ?_⟩; refine till_two 2 8 8 (by kernel_rfl) (by kernel_rfl) ?_ ?_
          all_goals simp only [pickL, List.map_cons, List.map_nil, List.getD_cons_succ, List.getD_cons_zero]
          case refine_1 =>
            have hal := (Below.refl w26.heap.size w26).alloc (Nat.le_refl _) (.cells (ints .i64 z256).toArray 3); have pA27 : Blk (w26.alloc (.cells (ints .i64 z256).toArray 3)) w26.heap.size 3 (ints .i64 z256).toArray := Blk.new w26 3 (ints .i64 z256).toArray; obtain ⟨w27, hw27⟩ : ∃ W, w26.alloc (.cells (ints .i64 z256).toArray 3) = W := ⟨_, rfl⟩; have fA := C26'.out.fresh; have qA : gB ≠ w26.heap.size := by have := pB26'.out.lt; omega
            obtain ⟨gA, hgA⟩ : ∃ g, w26.heap.size = g := ⟨_, rfl⟩; rw [hw27] at hal pA27; rw [hgA] at pA27 fA qA; have C27 := C26'.out.late hal; have pB27 := pB26'.out.late hal; have HS27 := Lib.hid (hsurj'.out w27 C27.b7); clear hal; have hw27' := Lib.hid hw27; have hgA' := Lib.hid hgA; have C27' := Lib.hid C27; have pA27' := Lib.hid pA27; have fA' := Lib.hid fA; have qA' := Lib.hid qA; have pB27' := Lib.hid pB27; clear hw27 hgA C27 pA27 fA qA pB27
            go_wp2_with (at_make; refine wpList_make_row _ rfl _ _ 35 rfl 3 i1 (.int .i64 0) Try.underlying35 hi hz0 hz1 rfl .i64 .i64 256 rfl rfl (by rw [hz2]; omega) (by omega) ?_; rw [made_ints, show List.replicate 256 (0 : Int) = z256 from rfl])
            rw [hw27'.out, hgA'.out]; refine Mid.mk ⟨fun _ => HS27.out, ?_⟩; refine till_two 3 8 7 (by kernel_rfl) (by kernel_rfl) ?_ ?_
            all_goals simp only [pickL, List.map_cons, List.map_nil, List.getD_cons_succ, List.getD_cons_zero]
            case refine_1 =>
              have hal := (Below.refl w27.heap.size w27).alloc (Nat.le_refl _) (.cells #[.slice (some ⟨gA, 0, none⟩) 256 256] 35); have sA28 := Sl.new w27 35 1 1 #[.slice (some ⟨gA, 0, none⟩) 256 256] (0, 0) (by decide) rfl; obtain ⟨w28, hw28⟩ : ∃ W, w27.alloc (.cells #[.slice (some ⟨gA, 0, none⟩) 256 256] 35) = W := ⟨_, rfl⟩; obtain ⟨bA, hbA⟩ : ∃ g, w27.heap.size = g := ⟨_, rfl⟩; rw [hw28] at hal sA28; rw [hbA] at sA28; have C28 := C27'.out.late hal; have pA28 := pA27'.out.late hal; have pB28 := pB27'.out.late hal; have HS28 := Lib.hid (hsurj'.out w28 C28.b7); clear hal; have hw28' := Lib.hid hw28; have hbA' := Lib.hid hbA; have C28' := Lib.hid C28; have sA28' := Lib.hid sA28; have pA28' := Lib.hid pA28; have pB28' := Lib.hid pB28; clear hw28 hbA C28 sA28 pA28 pB28
              go_wp2_with fail
              rw [hw28'.out, hbA'.out]; refine Mid.mk ⟨fun _ => HS28.out, ?_⟩; refine till_two 4 8 6 (by kernel_rfl) (by kernel_rfl) ?_ ?_
              all_goals simp only [pickL, List.map_cons, List.map_nil, List.getD_cons_succ, List.getD_cons_zero]
              case refine_1 =>
                have hsz := C28'.out.bel.size
                go_wp2_with (at_builtin; refine wpList_app3 rfl _ _ 42 rfl w0.heap.size 35 iR _ 1 24 Try.underlying42 hiR hzR0 hzR1 hzR2 rfl (by decide) (.slice da k dc) k _ rfl C28'.out.d.own (some ⟨bA, 0, none⟩) 1 1 [.slice (some ⟨gA, 0, none⟩) 256 256] rfl sA28'.out (by simp [Value.oneCell']) (by omega) (by decide) hsz ?_; intro a29 c29 w29 ho hg hk ; have Ho29 := Lib.hid ho; have Hg29 := Lib.hid hg; have Hk29 := Lib.hid hk; clear ho hg hk)
                have hmg := Mo.of_grown (S := fun j => (Value.slice da k dc).ownBlock = some j) Hg29.out fun j hj => hj; have C29 := C28'.out.appD rfl fA'.out.1 pA28'.out fA'.out.2.1 fA'.out.2.2 Ho29.out Hg29.out Hk29.out; have pB29 := pB28'.out.mo hmg (own_neB C28'.out.d.own pB28'.out (by decide)); have lA29 := Nat.lt_of_lt_of_le pA28'.out.lt hmg.size; have HS29 := Lib.hid (hsurj'.out w29 C29.b7); clear hmg Ho29 Hg29 Hk29 hsz; have C29' := Lib.hid C29; have pB29' := Lib.hid pB29; have lA29' := Lib.hid lA29; clear C29 pB29 lA29; refine Mid.mk ⟨fun _ => HS29.out, ?_⟩; have HS := HS29; refine till_free [10] 5 (by kernel_rfl) noP_put (by kernel_rfl) (by kernel_rfl) (by kernel_rfl) HS.out ?_; simp only [pickL, List.map_cons, List.map_nil, List.getD_cons_succ, List.getD_cons_zero]
                iterate 1 (go_big_quiet_step (fail))
                refine wpQuiet_nil ?_; refine till_one 8 4 (by kernel_rfl) (by kernel_rfl) ?_; simp only [pickL, List.map_cons, List.map_nil, List.getD_cons_succ, List.getD_cons_zero]; have hal := (Below.refl w29.heap.size w29).alloc (Nat.le_refl _) (.cells #[.slice (some ⟨gB, 0, none⟩) 256 256] 35); have sB30 := Sl.new w29 35 1 1 #[.slice (some ⟨gB, 0, none⟩) 256 256] (0, 0) (by decide) rfl; obtain ⟨w30, hw30⟩ : ∃ W, w29.alloc (.cells #[.slice (some ⟨gB, 0, none⟩) 256 256] 35) = W := ⟨_, rfl⟩; obtain ⟨bB, hbB⟩ : ∃ g, w29.heap.size = g := ⟨_, rfl⟩; rw [hw30] at hal sB30; rw [hbB] at sB30; have C30 := C29'.out.late hal; have pB30 := pB29'.out.late hal; have lA30 := Nat.lt_of_lt_of_le lA29'.out hal.size; have HS30 := Lib.hid (hsurj'.out w30 C30.b7); clear hal; have hw30' := Lib.hid hw30; have hbB' := Lib.hid hbB; have C30' := Lib.hid C30; have sB30' := Lib.hid sB30; have pB30' := Lib.hid pB30; have lA30' := Lib.hid lA30; clear hw30 hbB C30 sB30 pB30 lA30
                go_wp2_with fail
                rw [hw30'.out, hbB'.out]; refine Mid.mk ⟨fun _ => HS30.out, ?_⟩; refine till_one 9 3 (by kernel_rfl) (by kernel_rfl) ?_; simp only [pickL, List.map_cons, List.map_nil, List.getD_cons_succ, List.getD_cons_zero]; have hsz := C30'.out.bel.size
                go_wp2_with (at_builtin; refine wpList_app3 rfl _ _ 42 rfl w0.heap.size 35 iR _ 1 24 Try.underlying42 hiR hzR0 hzR1 hzR2 rfl (by decide) (.slice aa k ac) k _ rfl C30'.out.a.own (some ⟨bB, 0, none⟩) 1 1 [.slice (some ⟨gB, 0, none⟩) 256 256] rfl sB30'.out (by simp [Value.oneCell']) (by omega) (by decide) hsz ?_; intro a31 c31 w31 ho hg hk ; have Ho31 := Lib.hid ho; have Hg31 := Lib.hid hg; have Hk31 := Lib.hid hk; clear ho hg hk)
                have f2 : ∀ (i : Nat) x, (LD ++ [(gA, z256)])[i]? = some x → gB ≠ x.1 := by
                  first
                    | exact fun i x hx => (fB'.out.2.1 i x hx).symm
                    | exact fresh_snoc fB'.out.2.1 qB'.out
                    | exact fresh_snoc fB'.out.2.1 qA'.out.symm
                have Cn := (C30'.out.turn.appD rfl fB'.out.1 pB30'.out (fun i x hx e => fB'.out.2.2 i x hx e.symm) f2 Ho31.out Hg31.out Hk31.out).turn; have HSn := Lib.hid (hsurj'.out w31 Cn.b7); have e0 : w31.cell? ⟨g7, 0, none⟩ = some (.slice da k dc) := Cn.b7.cell rfl; have e1 : w31.cell? ⟨g7, 1, none⟩ = some (.slice aa k ac) := Cn.b7.cell rfl; have z0 := Cn.b7.frozen 0; have z1 := Cn.b7.frozen 1; clear f2 Ho31 Hg31 Hk31 hsz; have Cn' := Lib.hid Cn; clear Cn; refine Mid.mk ⟨fun _ => HSn.out, ?_⟩; refine till_one 11 2 (by kernel_rfl) (by kernel_rfl) ?_; simp only [pickL, List.map_cons, List.map_nil, List.getD_cons_succ, List.getD_cons_zero]
                go_wp2_with fail
                refine Mid.mk ⟨fun h => Bool.noConfusion (show true = false from h), ?_⟩; refine till_one 12 1 (by kernel_rfl) (by kernel_rfl) ?_; simp only [pickL, List.map_cons, List.map_nil, List.getD_cons_succ, List.getD_cons_zero]
                go_wp2_with fail
                refine Mid.mk ⟨fun h => Bool.noConfusion (show true = false from h), ?_⟩; refine till_one 13 0 (by kernel_rfl) (by kernel_rfl) ?_; simp only [pickL, List.map_cons, List.map_nil, List.getD_cons_succ, List.getD_cons_zero]
                go_wp2_with fail
                refine ⟨fun h => Bool.noConfusion (show true = false from h), ⟨by kernel_rfl, noP_normal ?_⟩⟩
                go_wp2
                go_roundw
                case rel => exact ⟨k + 1, _, _, _, _, _, _, by omega, by go_num, Lib.hid (Cn'.out.put2 hg7'.out _ _)⟩
                case measure => simp [intOf]; omega
              case refine_2 =>
                have hal := (Below.refl w28.heap.size w28).alloc (Nat.le_refl _) (.cells #[.slice (some ⟨gB, 0, none⟩) 256 256] 35); have sB32 := Sl.new w28 35 1 1 #[.slice (some ⟨gB, 0, none⟩) 256 256] (0, 0) (by decide) rfl; obtain ⟨w32, hw32⟩ : ∃ W, w28.alloc (.cells #[.slice (some ⟨gB, 0, none⟩) 256 256] 35) = W := ⟨_, rfl⟩; have nB : ∀ j, (Value.slice da k dc).ownBlock = some j → j ≠ w28.heap.size := fun j hj => by have := (C28'.out.d.own.lt j hj).2; omega
                obtain ⟨bB, hbB⟩ : ∃ g, w28.heap.size = g := ⟨_, rfl⟩; rw [hw32] at hal sB32; rw [hbB] at sB32 nB; have C32 := C28'.out.late hal; have pA32 := pA28'.out.late hal; have sA32 := sA28'.out.mono hal; have pB32 := pB28'.out.late hal; have HS32 := Lib.hid (hsurj'.out w32 C32.b7); clear hal; have hw32' := Lib.hid hw32; have hbB' := Lib.hid hbB; have C32' := Lib.hid C32; have sB32' := Lib.hid sB32; have nB' := Lib.hid nB; have pA32' := Lib.hid pA32; have sA32' := Lib.hid sA32; have pB32' := Lib.hid pB32; clear hw32 hbB C32 sB32 nB pA32 sA32 pB32
                go_wp2_with fail
                rw [hw32'.out, hbB'.out]; refine Mid.mk ⟨fun _ => HS32.out, ?_⟩; refine till_one 4 5 (by kernel_rfl) (by kernel_rfl) ?_; simp only [pickL, List.map_cons, List.map_nil, List.getD_cons_succ, List.getD_cons_zero]; have hsz := C32'.out.bel.size
                go_wp2_with (at_builtin; refine wpList_app3 rfl _ _ 42 rfl w0.heap.size 35 iR _ 1 24 Try.underlying42 hiR hzR0 hzR1 hzR2 rfl (by decide) (.slice da k dc) k _ rfl C32'.out.d.own (some ⟨bA, 0, none⟩) 1 1 [.slice (some ⟨gA, 0, none⟩) 256 256] rfl sA32'.out (by simp [Value.oneCell']) (by omega) (by decide) hsz ?_; intro a33 c33 w33 ho hg hk ; have Ho33 := Lib.hid ho; have Hg33 := Lib.hid hg; have Hk33 := Lib.hid hk; clear ho hg hk)
                have hmg := Mo.of_grown (S := fun j => (Value.slice da k dc).ownBlock = some j) Hg33.out fun j hj => hj; have C33 := C32'.out.appD rfl fA'.out.1 pA32'.out fA'.out.2.1 fA'.out.2.2 Ho33.out Hg33.out Hk33.out; have pB33 := pB32'.out.mo hmg (own_neB C32'.out.d.own pB32'.out (by decide)); have sB33 := sB32'.out.mo hmg (fun x hx hs => nB'.out _ hs (by injection hx with hx; rw [← hx])); have lA33 := Nat.lt_of_lt_of_le pA32'.out.lt hmg.size; have HS33 := Lib.hid (hsurj'.out w33 C33.b7); clear hmg Ho33 Hg33 Hk33 hsz; have C33' := Lib.hid C33; have pB33' := Lib.hid pB33; have sB33' := Lib.hid sB33; have lA33' := Lib.hid lA33; clear C33 pB33 sB33 lA33; refine Mid.mk ⟨fun _ => HS33.out, ?_⟩; have HS := HS33; refine till_free [10] 4 (by kernel_rfl) noP_put (by kernel_rfl) (by kernel_rfl) (by kernel_rfl) HS.out ?_; simp only [pickL, List.map_cons, List.map_nil, List.getD_cons_succ, List.getD_cons_zero]
                iterate 1 (go_big_quiet_step (fail))
                refine wpQuiet_nil ?_; refine till_one 9 3 (by kernel_rfl) (by kernel_rfl) ?_; simp only [pickL, List.map_cons, List.map_nil, List.getD_cons_succ, List.getD_cons_zero]; have hsz := C33'.out.bel.size
                go_wp2_with (at_builtin; refine wpList_app3 rfl _ _ 42 rfl w0.heap.size 35 iR _ 1 24 Try.underlying42 hiR hzR0 hzR1 hzR2 rfl (by decide) (.slice aa k ac) k _ rfl C33'.out.a.own (some ⟨bB, 0, none⟩) 1 1 [.slice (some ⟨gB, 0, none⟩) 256 256] rfl sB33'.out (by simp [Value.oneCell']) (by omega) (by decide) hsz ?_; intro a34 c34 w34 ho hg hk ; have Ho34 := Lib.hid ho; have Hg34 := Lib.hid hg; have Hk34 := Lib.hid hk; clear ho hg hk)
                have f2 : ∀ (i : Nat) x, (LD ++ [(gA, z256)])[i]? = some x → gB ≠ x.1 := by
                  first
                    | exact fun i x hx => (fB'.out.2.1 i x hx).symm
                    | exact fresh_snoc fB'.out.2.1 qB'.out
                    | exact fresh_snoc fB'.out.2.1 qA'.out.symm
                have Cn := (C33'.out.turn.appD rfl fB'.out.1 pB33'.out (fun i x hx e => fB'.out.2.2 i x hx e.symm) f2 Ho34.out Hg34.out Hk34.out).turn; have HSn := Lib.hid (hsurj'.out w34 Cn.b7); have e0 : w34.cell? ⟨g7, 0, none⟩ = some (.slice da k dc) := Cn.b7.cell rfl; have e1 : w34.cell? ⟨g7, 1, none⟩ = some (.slice aa k ac) := Cn.b7.cell rfl; have z0 := Cn.b7.frozen 0; have z1 := Cn.b7.frozen 1; clear f2 Ho34 Hg34 Hk34 hsz; have Cn' := Lib.hid Cn; clear Cn; refine Mid.mk ⟨fun _ => HSn.out, ?_⟩; refine till_one 11 2 (by kernel_rfl) (by kernel_rfl) ?_; simp only [pickL, List.map_cons, List.map_nil, List.getD_cons_succ, List.getD_cons_zero]
                go_wp2_with fail
                refine Mid.mk ⟨fun h => Bool.noConfusion (show true = false from h), ?_⟩; refine till_one 12 1 (by kernel_rfl) (by kernel_rfl) ?_; simp only [pickL, List.map_cons, List.map_nil, List.getD_cons_succ, List.getD_cons_zero]
                go_wp2_with fail
                refine Mid.mk ⟨fun h => Bool.noConfusion (show true = false from h), ?_⟩; refine till_one 13 0 (by kernel_rfl) (by kernel_rfl) ?_; simp only [pickL, List.map_cons, List.map_nil, List.getD_cons_succ, List.getD_cons_zero]
                go_wp2_with fail
                refine ⟨fun h => Bool.noConfusion (show true = false from h), ⟨by kernel_rfl, noP_normal ?_⟩⟩
                go_wp2
                go_roundw
                case rel => exact ⟨k + 1, _, _, _, _, _, _, by omega, by go_num, Lib.hid (Cn'.out.put2 hg7'.out _ _)⟩
                case measure => simp [intOf]; omega
            case refine_2 =>
              have hal := (Below.refl w27.heap.size w27).alloc (Nat.le_refl _) (.cells #[.slice (some ⟨gB, 0, none⟩) 256 256] 35); have sB35 := Sl.new w27 35 1 1 #[.slice (some ⟨gB, 0, none⟩) 256 256] (0, 0) (by decide) rfl; obtain ⟨w35, hw35⟩ : ∃ W, w27.alloc (.cells #[.slice (some ⟨gB, 0, none⟩) 256 256] 35) = W := ⟨_, rfl⟩; have nB : ∀ j, (Value.slice da k dc).ownBlock = some j → j ≠ w27.heap.size := fun j hj => by have := (C27'.out.d.own.lt j hj).2; omega
              obtain ⟨bB, hbB⟩ : ∃ g, w27.heap.size = g := ⟨_, rfl⟩; rw [hw35] at hal sB35; rw [hbB] at sB35 nB; have C35 := C27'.out.late hal; have pA35 := pA27'.out.late hal; have pB35 := pB27'.out.late hal; have HS35 := Lib.hid (hsurj'.out w35 C35.b7); clear hal; have hw35' := Lib.hid hw35; have hbB' := Lib.hid hbB; have C35' := Lib.hid C35; have sB35' := Lib.hid sB35; have nB' := Lib.hid nB; have pA35' := Lib.hid pA35; have pB35' := Lib.hid pB35; clear hw35 hbB C35 sB35 nB pA35 pB35
              go_wp2_with fail
              rw [hw35'.out, hbB'.out]; refine Mid.mk ⟨fun _ => HS35.out, ?_⟩; refine till_one 3 6 (by kernel_rfl) (by kernel_rfl) ?_; simp only [pickL, List.map_cons, List.map_nil, List.getD_cons_succ, List.getD_cons_zero]; have hal := (Below.refl w35.heap.size w35).alloc (Nat.le_refl _) (.cells #[.slice (some ⟨gA, 0, none⟩) 256 256] 35); have sA36 := Sl.new w35 35 1 1 #[.slice (some ⟨gA, 0, none⟩) 256 256] (0, 0) (by decide) rfl; obtain ⟨w36, hw36⟩ : ∃ W, w35.alloc (.cells #[.slice (some ⟨gA, 0, none⟩) 256 256] 35) = W := ⟨_, rfl⟩; obtain ⟨bA, hbA⟩ : ∃ g, w35.heap.size = g := ⟨_, rfl⟩; rw [hw36] at hal sA36; rw [hbA] at sA36; have C36 := C35'.out.late hal; have pA36 := pA35'.out.late hal; have pB36 := pB35'.out.late hal; have sB36 := sB35'.out.mono hal; have HS36 := Lib.hid (hsurj'.out w36 C36.b7); clear hal; have hw36' := Lib.hid hw36; have hbA' := Lib.hid hbA; have C36' := Lib.hid C36; have sA36' := Lib.hid sA36; have pA36' := Lib.hid pA36; have pB36' := Lib.hid pB36; have sB36' := Lib.hid sB36; clear hw36 hbA C36 sA36 pA36 pB36 sB36
              go_wp2_with fail
              rw [hw36'.out, hbA'.out]; refine Mid.mk ⟨fun _ => HS36.out, ?_⟩; refine till_one 4 5 (by kernel_rfl) (by kernel_rfl) ?_; simp only [pickL, List.map_cons, List.map_nil, List.getD_cons_succ, List.getD_cons_zero]; have hsz := C36'.out.bel.size
              go_wp2_with (at_builtin; refine wpList_app3 rfl _ _ 42 rfl w0.heap.size 35 iR _ 1 24 Try.underlying42 hiR hzR0 hzR1 hzR2 rfl (by decide) (.slice da k dc) k _ rfl C36'.out.d.own (some ⟨bA, 0, none⟩) 1 1 [.slice (some ⟨gA, 0, none⟩) 256 256] rfl sA36'.out (by simp [Value.oneCell']) (by omega) (by decide) hsz ?_; intro a37 c37 w37 ho hg hk ; have Ho37 := Lib.hid ho; have Hg37 := Lib.hid hg; have Hk37 := Lib.hid hk; clear ho hg hk)
              have hmg := Mo.of_grown (S := fun j => (Value.slice da k dc).ownBlock = some j) Hg37.out fun j hj => hj; have C37 := C36'.out.appD rfl fA'.out.1 pA36'.out fA'.out.2.1 fA'.out.2.2 Ho37.out Hg37.out Hk37.out; have pB37 := pB36'.out.mo hmg (own_neB C36'.out.d.own pB36'.out (by decide)); have sB37 := sB36'.out.mo hmg (fun x hx hs => nB'.out _ hs (by injection hx with hx; rw [← hx])); have lA37 := Nat.lt_of_lt_of_le pA36'.out.lt hmg.size; have HS37 := Lib.hid (hsurj'.out w37 C37.b7); clear hmg Ho37 Hg37 Hk37 hsz; have C37' := Lib.hid C37; have pB37' := Lib.hid pB37; have sB37' := Lib.hid sB37; have lA37' := Lib.hid lA37; clear C37 pB37 sB37 lA37; refine Mid.mk ⟨fun _ => HS37.out, ?_⟩; have HS := HS37; refine till_free [10] 4 (by kernel_rfl) noP_put (by kernel_rfl) (by kernel_rfl) (by kernel_rfl) HS.out ?_; simp only [pickL, List.map_cons, List.map_nil, List.getD_cons_succ, List.getD_cons_zero]
              iterate 1 (go_big_quiet_step (fail))
              refine wpQuiet_nil ?_; refine till_one 9 3 (by kernel_rfl) (by kernel_rfl) ?_; simp only [pickL, List.map_cons, List.map_nil, List.getD_cons_succ, List.getD_cons_zero]; have hsz := C37'.out.bel.size
              go_wp2_with (at_builtin; refine wpList_app3 rfl _ _ 42 rfl w0.heap.size 35 iR _ 1 24 Try.underlying42 hiR hzR0 hzR1 hzR2 rfl (by decide) (.slice aa k ac) k _ rfl C37'.out.a.own (some ⟨bB, 0, none⟩) 1 1 [.slice (some ⟨gB, 0, none⟩) 256 256] rfl sB37'.out (by simp [Value.oneCell']) (by omega) (by decide) hsz ?_; intro a38 c38 w38 ho hg hk ; have Ho38 := Lib.hid ho; have Hg38 := Lib.hid hg; have Hk38 := Lib.hid hk; clear ho hg hk)
              have f2 : ∀ (i : Nat) x, (LD ++ [(gA, z256)])[i]? = some x → gB ≠ x.1 := by
                first
                  | exact fun i x hx => (fB'.out.2.1 i x hx).symm
                  | exact fresh_snoc fB'.out.2.1 qB'.out
                  | exact fresh_snoc fB'.out.2.1 qA'.out.symm
              have Cn := (C37'.out.turn.appD rfl fB'.out.1 pB37'.out (fun i x hx e => fB'.out.2.2 i x hx e.symm) f2 Ho38.out Hg38.out Hk38.out).turn; have HSn := Lib.hid (hsurj'.out w38 Cn.b7); have e0 : w38.cell? ⟨g7, 0, none⟩ = some (.slice da k dc) := Cn.b7.cell rfl; have e1 : w38.cell? ⟨g7, 1, none⟩ = some (.slice aa k ac) := Cn.b7.cell rfl; have z0 := Cn.b7.frozen 0; have z1 := Cn.b7.frozen 1; clear f2 Ho38 Hg38 Hk38 hsz; have Cn' := Lib.hid Cn; clear Cn; refine Mid.mk ⟨fun _ => HSn.out, ?_⟩; refine till_one 11 2 (by kernel_rfl) (by kernel_rfl) ?_; simp only [pickL, List.map_cons, List.map_nil, List.getD_cons_succ, List.getD_cons_zero]
              go_wp2_with fail
              refine Mid.mk ⟨fun h => Bool.noConfusion (show true = false from h), ?_⟩; refine till_one 12 1 (by kernel_rfl) (by kernel_rfl) ?_; simp only [pickL, List.map_cons, List.map_nil, List.getD_cons_succ, List.getD_cons_zero]
              go_wp2_with fail
              refine Mid.mk ⟨fun h => Bool.noConfusion (show true = false from h), ?_⟩; refine till_one 13 0 (by kernel_rfl) (by kernel_rfl) ?_; simp only [pickL, List.map_cons, List.map_nil, List.getD_cons_succ, List.getD_cons_zero]
              go_wp2_with fail
              refine ⟨fun h => Bool.noConfusion (show true = false from h), ⟨by kernel_rfl, noP_normal ?_⟩⟩
              go_wp2
              go_roundw
              case rel => exact ⟨k + 1, _, _, _, _, _, _, by omega, by go_num, Lib.hid (Cn'.out.put2 hg7'.out _ _)⟩
              case measure => simp [intOf]; omega
          case refine_2 =>
            have hal := (Below.refl w26.heap.size w26).alloc (Nat.le_refl _) (.cells #[.slice (some ⟨gB, 0, none⟩) 256 256] 35); have sB39 := Sl.new w26 35 1 1 #[.slice (some ⟨gB, 0, none⟩) 256 256] (0, 0) (by decide) rfl; obtain ⟨w39, hw39⟩ : ∃ W, w26.alloc (.cells #[.slice (some ⟨gB, 0, none⟩) 256 256] 35) = W := ⟨_, rfl⟩; have nB : ∀ j, (Value.slice da k dc).ownBlock = some j → j ≠ w26.heap.size := fun j hj => by have := (C26'.out.d.own.lt j hj).2; omega
            obtain ⟨bB, hbB⟩ : ∃ g, w26.heap.size = g := ⟨_, rfl⟩; rw [hw39] at hal sB39; rw [hbB] at sB39 nB; have C39 := C26'.out.late hal; have pB39 := pB26'.out.late hal; have HS39 := Lib.hid (hsurj'.out w39 C39.b7); clear hal; have hw39' := Lib.hid hw39; have hbB' := Lib.hid hbB; have C39' := Lib.hid C39; have sB39' := Lib.hid sB39; have nB' := Lib.hid nB; have pB39' := Lib.hid pB39; clear hw39 hbB C39 sB39 nB pB39
            go_wp2_with fail
            rw [hw39'.out, hbB'.out]; refine Mid.mk ⟨fun _ => HS39.out, ?_⟩; refine till_one 2 7 (by kernel_rfl) (by kernel_rfl) ?_; simp only [pickL, List.map_cons, List.map_nil, List.getD_cons_succ, List.getD_cons_zero]; have hal := (Below.refl w39.heap.size w39).alloc (Nat.le_refl _) (.cells (ints .i64 z256).toArray 3); have pA40 : Blk (w39.alloc (.cells (ints .i64 z256).toArray 3)) w39.heap.size 3 (ints .i64 z256).toArray := Blk.new w39 3 (ints .i64 z256).toArray; obtain ⟨w40, hw40⟩ : ∃ W, w39.alloc (.cells (ints .i64 z256).toArray 3) = W := ⟨_, rfl⟩; have fA := C39'.out.fresh; have qA : gB ≠ w39.heap.size := by have := pB39'.out.lt; omega
            obtain ⟨gA, hgA⟩ : ∃ g, w39.heap.size = g := ⟨_, rfl⟩; rw [hw40] at hal pA40; rw [hgA] at pA40 fA qA; have C40 := C39'.out.late hal; have pB40 := pB39'.out.late hal; have sB40 := sB39'.out.mono hal; have HS40 := Lib.hid (hsurj'.out w40 C40.b7); clear hal; have hw40' := Lib.hid hw40; have hgA' := Lib.hid hgA; have C40' := Lib.hid C40; have pA40' := Lib.hid pA40; have fA' := Lib.hid fA; have qA' := Lib.hid qA; have pB40' := Lib.hid pB40; have sB40' := Lib.hid sB40; clear hw40 hgA C40 pA40 fA qA pB40 sB40
            go_wp2_with (at_make; refine wpList_make_row _ rfl _ _ 35 rfl 3 i1 (.int .i64 0) Try.underlying35 hi hz0 hz1 rfl .i64 .i64 256 rfl rfl (by rw [hz2]; omega) (by omega) ?_; rw [made_ints, show List.replicate 256 (0 : Int) = z256 from rfl])
            rw [hw40'.out, hgA'.out]; refine Mid.mk ⟨fun _ => HS40.out, ?_⟩; refine till_one 3 6 (by kernel_rfl) (by kernel_rfl) ?_; simp only [pickL, List.map_cons, List.map_nil, List.getD_cons_succ, List.getD_cons_zero]; have hal := (Below.refl w40.heap.size w40).alloc (Nat.le_refl _) (.cells #[.slice (some ⟨gA, 0, none⟩) 256 256] 35); have sA41 := Sl.new w40 35 1 1 #[.slice (some ⟨gA, 0, none⟩) 256 256] (0, 0) (by decide) rfl; obtain ⟨w41, hw41⟩ : ∃ W, w40.alloc (.cells #[.slice (some ⟨gA, 0, none⟩) 256 256] 35) = W := ⟨_, rfl⟩; obtain ⟨bA, hbA⟩ : ∃ g, w40.heap.size = g := ⟨_, rfl⟩; rw [hw41] at hal sA41; rw [hbA] at sA41; have C41 := C40'.out.late hal; have pA41 := pA40'.out.late hal; have pB41 := pB40'.out.late hal; have sB41 := sB40'.out.mono hal; have HS41 := Lib.hid (hsurj'.out w41 C41.b7); clear hal; have hw41' := Lib.hid hw41; have hbA' := Lib.hid hbA; have C41' := Lib.hid C41; have sA41' := Lib.hid sA41; have pA41' := Lib.hid pA41; have pB41' := Lib.hid pB41; have sB41' := Lib.hid sB41; clear hw41 hbA C41 sA41 pA41 pB41 sB41
            go_wp2_with fail
            rw [hw41'.out, hbA'.out]; refine Mid.mk ⟨fun _ => HS41.out, ?_⟩; refine till_one 4 5 (by kernel_rfl) (by kernel_rfl) ?_; simp only [pickL, List.map_cons, List.map_nil, List.getD_cons_succ, List.getD_cons_zero]; have hsz := C41'.out.bel.size
            go_wp2_with (at_builtin; refine wpList_app3 rfl _ _ 42 rfl w0.heap.size 35 iR _ 1 24 Try.underlying42 hiR hzR0 hzR1 hzR2 rfl (by decide) (.slice da k dc) k _ rfl C41'.out.d.own (some ⟨bA, 0, none⟩) 1 1 [.slice (some ⟨gA, 0, none⟩) 256 256] rfl sA41'.out (by simp [Value.oneCell']) (by omega) (by decide) hsz ?_; intro a42 c42 w42 ho hg hk ; have Ho42 := Lib.hid ho; have Hg42 := Lib.hid hg; have Hk42 := Lib.hid hk; clear ho hg hk)
            have hmg := Mo.of_grown (S := fun j => (Value.slice da k dc).ownBlock = some j) Hg42.out fun j hj => hj; have C42 := C41'.out.appD rfl fA'.out.1 pA41'.out fA'.out.2.1 fA'.out.2.2 Ho42.out Hg42.out Hk42.out; have pB42 := pB41'.out.mo hmg (own_neB C41'.out.d.own pB41'.out (by decide)); have sB42 := sB41'.out.mo hmg (fun x hx hs => nB'.out _ hs (by injection hx with hx; rw [← hx])); have lA42 := Nat.lt_of_lt_of_le pA41'.out.lt hmg.size; have HS42 := Lib.hid (hsurj'.out w42 C42.b7); clear hmg Ho42 Hg42 Hk42 hsz; have C42' := Lib.hid C42; have pB42' := Lib.hid pB42; have sB42' := Lib.hid sB42; have lA42' := Lib.hid lA42; clear C42 pB42 sB42 lA42; refine Mid.mk ⟨fun _ => HS42.out, ?_⟩; have HS := HS42; refine till_free [10] 4 (by kernel_rfl) noP_put (by kernel_rfl) (by kernel_rfl) (by kernel_rfl) HS.out ?_; simp only [pickL, List.map_cons, List.map_nil, List.getD_cons_succ, List.getD_cons_zero]
            iterate 1 (go_big_quiet_step (fail))
            refine wpQuiet_nil ?_; refine till_one 9 3 (by kernel_rfl) (by kernel_rfl) ?_; simp only [pickL, List.map_cons, List.map_nil, List.getD_cons_succ, List.getD_cons_zero]; have hsz := C42'.out.bel.size
            go_wp2_with (at_builtin; refine wpList_app3 rfl _ _ 42 rfl w0.heap.size 35 iR _ 1 24 Try.underlying42 hiR hzR0 hzR1 hzR2 rfl (by decide) (.slice aa k ac) k _ rfl C42'.out.a.own (some ⟨bB, 0, none⟩) 1 1 [.slice (some ⟨gB, 0, none⟩) 256 256] rfl sB42'.out (by simp [Value.oneCell']) (by omega) (by decide) hsz ?_; intro a43 c43 w43 ho hg hk ; have Ho43 := Lib.hid ho; have Hg43 := Lib.hid hg; have Hk43 := Lib.hid hk; clear ho hg hk)
            have f2 : ∀ (i : Nat) x, (LD ++ [(gA, z256)])[i]? = some x → gB ≠ x.1 := by
              first
                | exact fun i x hx => (fB'.out.2.1 i x hx).symm
                | exact fresh_snoc fB'.out.2.1 qB'.out
                | exact fresh_snoc fB'.out.2.1 qA'.out.symm
            have Cn := (C42'.out.turn.appD rfl fB'.out.1 pB42'.out (fun i x hx e => fB'.out.2.2 i x hx e.symm) f2 Ho43.out Hg43.out Hk43.out).turn; have HSn := Lib.hid (hsurj'.out w43 Cn.b7); have e0 : w43.cell? ⟨g7, 0, none⟩ = some (.slice da k dc) := Cn.b7.cell rfl; have e1 : w43.cell? ⟨g7, 1, none⟩ = some (.slice aa k ac) := Cn.b7.cell rfl; have z0 := Cn.b7.frozen 0; have z1 := Cn.b7.frozen 1; clear f2 Ho43 Hg43 Hk43 hsz; have Cn' := Lib.hid Cn; clear Cn; refine Mid.mk ⟨fun _ => HSn.out, ?_⟩; refine till_one 11 2 (by kernel_rfl) (by kernel_rfl) ?_; simp only [pickL, List.map_cons, List.map_nil, List.getD_cons_succ, List.getD_cons_zero]
            go_wp2_with fail
            refine Mid.mk ⟨fun h => Bool.noConfusion (show true = false from h), ?_⟩; refine till_one 12 1 (by kernel_rfl) (by kernel_rfl) ?_; simp only [pickL, List.map_cons, List.map_nil, List.getD_cons_succ, List.getD_cons_zero]
            go_wp2_with fail
            refine Mid.mk ⟨fun h => Bool.noConfusion (show true = false from h), ?_⟩; refine till_one 13 0 (by kernel_rfl) (by kernel_rfl) ?_; simp only [pickL, List.map_cons, List.map_nil, List.getD_cons_succ, List.getD_cons_zero]
            go_wp2_with fail
            refine ⟨fun h => Bool.noConfusion (show true = false from h), ⟨by kernel_rfl, noP_normal ?_⟩⟩
            go_wp2
            go_roundw
            case rel => exact ⟨k + 1, _, _, _, _, _, _, by omega, by go_num, Lib.hid (Cn'.out.put2 hg7'.out _ _)⟩
            case measure => simp [intOf]; omega
    · obtain rfl : k = pn := by omega
      have hbe := C.out.bel; have hbwr := hbw0'.out.trans (hbe.mono hbw0'.out.size); have br := b0'.out.late hbe; have hJ := countJ w0.heap.size g7 k wr.heap.size s.iv hbe.size; have HT := tellK_any (CJ w0.heap.size g7 k wr.heap.size) w0.heap.size 4000000 List.length 109 110 (.pointer (some ⟨g7, 0, none⟩)) putC againC s bs pa ba k pc bn bc wr rfl rfl hJ (fun W h => hs'.out.mono (hbwr.trans (h.mono hbw0'.out.size))) (fun W h => hbs'.out.mono (hbwr.trans (h.mono hbw0'.out.size))) hbe.size hmay'.out hQ'.out (plB LD LA) (fun j hj => (C.out.start.bd j hj).2.1) [] C.out.start (by have := hfew'.out hmay'.out; simp; omega); obtain ⟨k0, k1, k2, k3⟩ := hcs'.out wr br; clear hJ hbe hlt; have HT' := Lib.hid HT; have hbwr' := Lib.hid hbwr; have br' := Lib.hid br; clear HT hbwr br
      go_wp2_with fail
      refine HT'.out.mono ?_; rintro e w9 ⟨hres, hb9⟩; have hbw9 := hbwr'.out.trans (hb9.mono hbw0'.out.size); clear k0 k1 k2 k3 hb9
      rcases hres with ⟨t, l, S2, htl, rfl, hJ2, _⟩ | ⟨er, htl, her, rfl⟩
      · obtain ⟨da2, dc2, aa2, ac2, LD2, LA2, h1, h2, h3, h4, h5, h6, h7, h8⟩ := hJ2.ex
        have e0 : w9.cell? ⟨g7, 0, none⟩ = some (.slice da2 k dc2) := h1.cell rfl; have e1 : w9.cell? ⟨g7, 1, none⟩ = some (.slice aa2 k ac2) := h1.cell rfl; have hle := hbw0'.out.size; have hd : OutI w.heap.size w9 da2 k dc2 LD2 := h2.base hle; have ha : OutI w.heap.size w9 aa2 k ac2 LA2 := h3.base hle; have hcd : ∀ (i : Nat) x, LD2[i]? = some x → x.2 = cntL t i 0 := fun i x hx => (h4 i x hx).2; have hca : ∀ (i : Nat) x, LA2[i]? = some x → x.2 = cntL t i 1 := fun i x hx => (h5 i x hx).2; clear h1 h2 h3 h4 h5 h6 h7 h8 hJ2 hle; have htl' := Lib.hid htl; have hd' := Lib.hid hd; have ha' := Lib.hid ha; have hcd' := Lib.hid hcd; have hca' := Lib.hid hca; have hbw9' := Lib.hid hbw9; clear htl hd ha hcd hca hbw9
        go_wp2
        go_quiet (fail)
        go_wp2
        go_ret3
        have hq := Qt.below (⟨nq, rfl⟩ : Qt w9 (w9.drewN nq)) w9.heap.size; exact ⟨.inr ⟨hQ'.out, .inr ⟨t, l, da2, dc2, aa2, ac2, LD2, LA2, htl'.out, rfl, hd'.out.late hq, ha'.out.late hq, hcd'.out, hca'.out⟩⟩, hbw9'.out.trans (hq.mono hbw9'.out.size)⟩
      · have hne : (er != 0) = true := by simpa using her
        clear her; have htl' := Lib.hid htl; have hbw9' := Lib.hid hbw9; clear htl hbw9
        go_wp2
        go_ret3
        exact ⟨.inr ⟨hQ'.out, .inl ⟨er, htl'.out, rfl⟩⟩, hbw9'.out⟩
end Go.Proofs.Ytpjopeojeglogaa
