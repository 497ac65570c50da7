/- Chapter 12: all symbols told: for closures of one box and of none, as Count gives them. -/
import Derived.Test.YtpjopeojeglogaaCs26
namespace Go.Proofs.Ytpjopeojeglogaa
open Go.RowKit Tt
set_option linter.unusedVariables false
set_option linter.unusedSimpArgs false

section
variable {T : Type}
/-- what the functions that are given must do: S are the blocks that they may turn, E bounds the others that they look at -/
structure TellK (J : (Nat → Prop) → T → World → Prop) (E B0 most : Nat) (size : T → Nat) (np : Nat) (iv : Int) (fp fa : FuncId) (c1 : Value) (put : T → Nat → Cod → Except Int T) (again : T → Nat → T) : Prop where
  low : ∀ (S : Nat → Prop) (t : T) (w : World), J S t w → ∀ k, S k → B0 ≤ k
  high : ∀ (S : Nat → Prop) (t : T) (w : World), J S t w → ∀ k, S k → k < w.heap.size
  late : ∀ (S : Nat → Prop) (t : T) (w w' : World), J S t w → Below w.heap.size w w' → J S t w'
  but : ∀ (S : Nat → Prop) (t : T) (w w' : World) (g : Nat), J S t w → But g w w' → E ≤ g → ¬ S g → J S t w'
  grow : ∀ (t t' : T) (part : Nat) (x : Cod), CodOk x → put t part x = .ok t' → size t' ≤ size t + 32
  less : ∀ (t : T) (n : Nat), size (again t n) ≤ size t + 4
  put : ∀ (S : Nat → Prop) (t : T) (w : World) (part : Nat) (x : Cod) (A : Array Value), (ints .i64 (cdL x)).toArray = A → J S t w → part < np → size t ≤ most → CodOk x →
    Calls Try.prog fp #[.int .i64 part, .agg A, c1] w fun e w' => ((∃ t', put t part x = .ok t' ∧ e = .returned (.int .i64 0) ∧ J (Sx S w w') t' w') ∨ ∃ er, put t part x = .error er ∧ ¬ er = 0 ∧ e = .returned (.int .i64 er)) ∧ Mo S w w'
  again : ∀ (S : Nat → Prop) (t : T) (w : World) (n : Nat), J S t w → resS iv n = true → n ≤ 262144 → size t ≤ most →
    Calls Try.prog fa #[.int .i64 n] w fun e w' => e = .returned (.tuple #[]) ∧ J (Sx S w w') (again t n) w' ∧ Mo S w w'
end
set_option maxRecDepth 100000 in
set_option maxHeartbeats 4000000 in
theorem tellK_any {T : Type} (J : (Nat → Prop) → T → World → Prop) (B0 most : Nat) (size : T → Nat) (fp fa : FuncId) (c1 : Value) (put : T → Nat → Cod → Except Int T) (again : T → Nat → T)
    (s : ScT) (bs : List BpM) (pa ba : Option Addr) (pn pc bn bc : Nat) (w : World) (hfp : fp = 109) (hfa : fa = 110) (hJ : TellK J w.heap.size B0 most size pn s.iv fp fa c1 put again)
    (hs : ∀ W, Below B0 w W → PtsR W pa pn pc s.ps) (hbs : ∀ W, Below B0 w W → BpsR W ba bn bc bs) (hB0 : B0 ≤ w.heap.size) (hmay : mayS s = true) (hwh : wholeS s (bs.map (·.1)) = true) (S : Nat → Prop) (hS : ∀ k, S k → k < w.heap.size) (t : T) (ht : J S t w)
    (hmost : size t + (s.ax * s.dn).toNat * 150000 ≤ most) :
    Calls Try.prog 94 #[.agg #[.int .i64 s.ax, .int .i64 s.dn, .slice pa pn pc, .int .i64 s.iv], .slice ba bn bc, .func (.func fp) #[] #[c1], .func (.func fa) #[] #[]] w fun e w' =>
      ((∃ t' l S', tellS put again s (bs.map (·.1)) t = .ok (t', l) ∧ e = .returned (.int .i64 0) ∧ J S' t' w' ∧ size t' ≤ size t + (s.ax * s.dn).toNat * 150000) ∨ ∃ er, tellS put again s (bs.map (·.1)) t = .error er ∧ ¬ er = 0 ∧ e = .returned (.int .i64 er)) ∧ Below B0 w w' := by
  subst hfp; subst hfa; obtain ⟨i1, hi, hz0, hz1, hz2⟩ := info_parts infoI; have hl := (hs w (Below.refl _ _)).ilen; obtain ⟨htop, hpts, hsum⟩ := mayS_parts hmay; have HU := fun W (h : Below B0 w W) (m : Nat) (hm : m ≤ 262144) => unit_any s pa pn pc m W (hs W h) hmay hm; obtain ⟨U, hU⟩ : ∃ U, stepU put again s (bs.map (·.1)) = U := ⟨_, rfl⟩; unfold tellS; rw [hU]; obtain ⟨ax, dn, iv, ps⟩ := s; simp only at hs hl htop hpts hsum HU hmost hJ ⊢; obtain ⟨a, rfl⟩ : ∃ a : Nat, ax = a := ⟨ax.toNat, by omega⟩; obtain ⟨d, rfl⟩ : ∃ a : Nat, dn = a := ⟨dn.toNat, by omega⟩; obtain ⟨N, hN⟩ : ∃ N, a * d = N := ⟨_, rfl⟩; have hN2 : N ≤ 262144 := by rw [← hN]; exact Nat.le_trans (Nat.mul_le_mul (show a ≤ 512 by omega) (show d ≤ 512 by omega)) (by omega)
  have eN : IntKind.i64.wrap ((a : Int) * d) = N := by rw [← Int.natCast_mul, hN]; exact wrapN (by omega)
  have eN2 : ((a : Int) * d).toNat = N := by rw [← Int.natCast_mul, hN]; rfl
  rw [eN2] at hmost ⊢; rw [Int.toNat_natCast] at HU; have hp4 : pn ≤ 4 ∧ 1 ≤ pn := by omega
  have b1 := Blk.new w 24 #[.int .i64 a, .int .i64 d, .slice pa pn pc, .int .i64 iv]; have hb1 := (Below.refl w.heap.size w).alloc (Nat.le_refl _) (.cells #[.int .i64 a, .int .i64 d, .slice pa pn pc, .int .i64 iv] 24); obtain ⟨W1, hW1⟩ : ∃ W1, w.alloc (.cells #[.int .i64 a, .int .i64 d, .slice pa pn pc, .int .i64 iv] 24) = W1 := ⟨_, rfl⟩; have hsz1 : W1.heap.size = w.heap.size + 1 := by rw [← hW1]; exact Array.size_push _
  rw [hW1] at b1 hb1; have hcs : ∀ W, Blk W w.heap.size 24 #[.int .i64 a, .int .i64 d, .slice pa pn pc, .int .i64 iv] → W.cell? ⟨w.heap.size, 0, none⟩ = some (.int .i64 a) ∧ W.cell? ⟨w.heap.size, 1, none⟩ = some (.int .i64 d) ∧ W.cell? ⟨w.heap.size, 2, none⟩ = some (.slice pa pn pc) ∧ W.cell? ⟨w.heap.size, 3, none⟩ = some (.int .i64 iv) := fun W b => ⟨b.cell rfl, b.cell rfl, b.cell rfl, b.cell rfl⟩; have hj1 := hJ.late S t w W1 ht hb1; obtain ⟨W2, hW2⟩ : ∃ W2, W1.alloc (.cells (madeCells #[.int .i64 0] pn) 3) = W2 := ⟨_, rfl⟩; have hal2 := (Below.refl W1.heap.size W1).alloc (Nat.le_refl _) (.cells (madeCells #[.int .i64 0] pn) 3); have bl2 := Blk.new W1 3 (madeCells #[.int .i64 0] pn); rw [hW2] at hal2 bl2; have hj2 := hJ.late S t W1 W2 hj1 hal2; have b2 := b1.late hal2; have hb2 := hb1.trans (hal2.mono hb1.size); rw [hsz1, made_ints] at bl2; have hb2 := hb2.mono hB0; have hnS : ¬ S w.heap.size ∧ ¬ S (w.heap.size + 1) := ⟨fun h => by have := hS _ h; omega, fun h => by have := hS _ h; omega⟩; have k2 := (hcs W1 b1).2.2.1; clear hal2; have hs' := Lib.hid hs; have hbs' := Lib.hid hbs; have hl' := Lib.hid hl; have b1' := Lib.hid b1; have hb1' := Lib.hid hb1; have hW1' := Lib.hid hW1; have hpts' := Lib.hid hpts; have htop' := Lib.hid htop; have hsum' := Lib.hid hsum; have hcs' := Lib.hid hcs; have hj1' := Lib.hid hj1; have hW2' := Lib.hid hW2; have bl2' := Lib.hid bl2; have hj2' := Lib.hid hj2; have b2' := Lib.hid b2; have hb2' := Lib.hid hb2; have hJ' := Lib.hid hJ; have hS' := Lib.hid hS; have ht' := Lib.hid ht; have hU' := Lib.hid hU; have HU' := Lib.hid HU; have hN' := Lib.hid hN; have hmay' := Lib.hid hmay; have hwh' := Lib.hid hwh; have hnS' := Lib.hid hnS; clear hs hbs hl b1 hb1 hW1 hpts htop hsum hcs hj1 hW2 bl2 hj2 b2 hb2 hJ hS ht hU HU hN hmay hwh hnS
  go_enter Try.func94, Try.ntmps94
  go_upto_region 1 with fail
  rw [hW1'.out]
  go_upto_region 2 with (at_make; refine wpList_make_row _ rfl _ _ 35 rfl 3 i1 (.int .i64 0) Try.underlying35 hi hz0 hz1 rfl .i64 .i64 pn rfl rfl (by rw [hz2]; omega) (by omega) ?_)
  rw [hW2'.out]; obtain ⟨k0, k1, k2b, k3⟩ := hcs'.out W2 b2'.out; clear k2 k2b k3
  go_wp2
  clear k0 k1
  go_loopw [10, 12, 13, 14, 15, 17, 18, 28] (fun _ _ _ _ _ _ _ xv wr => ∃ (n : Nat) (S1 : Nat → Prop) (t1 : T) (la : List Int), n ≤ N ∧ xv = .int .i64 n ∧ Hid ((List.range n).foldlM U (t, List.replicate ps.length 0) = .ok (t1, la)) ∧ Hid (la.length = pn ∧ ∀ y ∈ la, (Lit.int .i64 y).wf = true) ∧ Hid (size t1 ≤ size t + n * 150000) ∧ Hid (J S1 t1 wr) ∧ Hid (¬ S1 w.heap.size ∧ ¬ S1 (w.heap.size + 1)) ∧ Hid (Blk wr w.heap.size 24 #[.int .i64 a, .int .i64 d, .slice pa pn pc, .int .i64 iv]) ∧ Hid (Blk wr (w.heap.size + 1) 3 (ints .i64 la).toArray) ∧ Hid (Below B0 w wr)) (fun _ _ _ _ _ _ _ xv _ => N - (intOf xv).toNat)
  case atStart => exact ⟨0, S, t, List.replicate pn 0, by omega, rfl, Lib.hid (by rw [hl'.out]; rfl), Lib.hid ⟨List.length_replicate, fun y hy => by rw [List.eq_of_mem_replicate hy]; rfl⟩, Lib.hid (by omega), hj2', hnS', b2', bl2', hb2'⟩
  case round =>
    rename World => wo
    obtain ⟨n, S1, t1, la, hn, rfl, hfold, hla, hsz, hJ1, hnS1, hbk, hbl, hbel⟩ := hrel; have htop := htop'.out
    by_cases hlt : n < N
    · obtain ⟨k0, k1, k2, k3⟩ := hcs'.out wo hbk.out
      have HR := restarts_any a d iv pa pn pc n wo (by omega) (by omega) (by omega); obtain ⟨r, hr⟩ : ∃ r, resS iv n = r := ⟨_, rfl⟩; rw [hr] at HR; have HR' := Lib.hid HR; have hr' := Lib.hid hr; have htop' := Lib.hid htop; clear HR hr htop
      go_wp2_with fail
      refine HR'.out.mono ?_; rintro e w3 ⟨rfl, hb3⟩; have hJ3 := hJ'.out.late _ _ _ _ hJ1.out hb3; have hbk3 := hbk.out.late hb3; have hbl3 := hbl.out.late hb3; have hbel3 := hbel.out.trans (hb3.mono (Nat.le_trans hB0 (show w.heap.size ≤ wo.heap.size by have := hbk.out.lt; omega))); clear k0 k1 k2 k3 hb3; have hJ3' := Lib.hid hJ3; have hbk3' := Lib.hid hbk3; have hbl3' := Lib.hid hbl3; have hbel3' := Lib.hid hbel3; clear hJ3 hbk3 hbl3 hbel3
      go_upto_if 33 with fail
      go_cut [] from 31 (fun wx => ∃ (S2 : Nat → Prop) (t2 : T) (la2 : List Int), Hid ((t2, la2) = if r then (again t1 n, List.replicate ps.length 0) else (t1, la)) ∧ Hid (la2.length = pn ∧ ∀ y ∈ la2, (Lit.int .i64 y).wf = true) ∧ Hid (size t2 ≤ size t + n * 150000 + 4) ∧ Hid (J S2 t2 wx) ∧ Hid (¬ S2 w.heap.size ∧ ¬ S2 (w.heap.size + 1)) ∧ Hid (Blk wx w.heap.size 24 #[.int .i64 a, .int .i64 d, .slice pa pn pc, .int .i64 iv]) ∧ Hid (Blk wx (w.heap.size + 1) 3 (ints .i64 la2).toArray) ∧ Hid (Below B0 w wx))
      case first =>
        cases r with
        | false =>
          go_wp2
          go_meet
          case rel => exact ⟨S1, t1, la, Lib.hid rfl, hla, Lib.hid (by have := hsz.out; omega), hJ3', hnS1, hbk3', hbl3', hbel3'⟩
        | true =>
          have hnp : 0 < n := by
            have h := hr'.out; unfold resS at h; rw [decide_eq_true_eq] at h; exact h.2.1
          have hlasz : (ints .i64 la).toArray.size = pn := by rw [List.size_toArray, ints_len]; exact hla.out.1
          have hpn0 : 0 < pn := by have h1 := hl'.out; have h2 := htop'.out; omega
          go_wp2_with (refine wpList_clear_blk rfl (.tmp 34) 35 rfl rfl 3 (.int .i64 0) Try.underlying35 zeroI rfl rfl (w.heap.size + 1) pn (ints .i64 la).toArray rfl hbl3'.out hlasz hpn0 ?_; intro w4 hbt4 hbl4; have Hbt4 := Lib.hid hbt4; have Hbl4 := Lib.hid hbl4; clear hbt4 hbl4)
          have hlt4 := hbk3'.out.lt; have hJ4 := hJ'.out.but _ _ _ _ _ hJ3'.out Hbt4.out (Nat.le_succ _) hnS1.out.2; have hbk4 := hbk3'.out.but Hbt4.out (by omega); have hbl4 := Hbl4.out; rw [repl_ints] at hbl4; have hbel4 := hbel3'.out.trans (Hbt4.out.below (show B0 ≤ w.heap.size + 1 by omega) (by have := hbel3'.out.size; omega)); have HA := hJ'.out.again S1 t1 w4 n hJ4 hr'.out (by omega) (by have h1 := hsz.out; have h2 : n * 150000 ≤ N * 150000 := Nat.mul_le_mul_right _ hn; omega); clear hlasz hnp hpn0; have hlt4' := Lib.hid hlt4; have hJ4' := Lib.hid hJ4; have hbk4' := Lib.hid hbk4; have hbl4' := Lib.hid hbl4; have hbel4' := Lib.hid hbel4; have HA' := Lib.hid HA; clear hlt4 hJ4 hbk4 hbl4 hbel4 HA
          go_wp2_with fail
          refine HA'.out.mono ?_; rintro e w5 ⟨rfl, hJ5, hmo5⟩; have hbk5 := hbk4'.out.mo hmo5 hnS1.out.1; have hbl5 := hbl4'.out.mo hmo5 hnS1.out.2; have hbel5 := hbel4'.out.trans (Mo.below hmo5 (Nat.le_trans hB0 (Nat.le_of_lt hbk4'.out.lt)) (fun k hk h => by have := hJ'.out.low _ _ _ hJ4'.out k h; omega)); have hnS5 : ¬ Sx S1 w4 w5 w.heap.size ∧ ¬ Sx S1 w4 w5 (w.heap.size + 1) := ⟨fun h => h.elim hnS1.out.1 (fun h => by have := hbk4'.out.lt; omega), fun h => h.elim hnS1.out.2 (fun h => by have := hbl4'.out.lt; omega)⟩; have hsz5 : size (again t1 n) ≤ size t + n * 150000 + 4 := by have h1 := hJ'.out.less t1 n; have h2 := hsz.out; omega
          clear hmo5; have hJ5' := Lib.hid hJ5; have hbk5' := Lib.hid hbk5; have hbl5' := Lib.hid hbl5; have hbel5' := Lib.hid hbel5; have hnS5' := Lib.hid hnS5; have hsz5' := Lib.hid hsz5; clear hJ5 hbk5 hbl5 hbel5 hnS5 hsz5
          go_wp2
          go_meet
          case rel => exact ⟨Sx S1 w4 w5, again t1 n, List.replicate pn 0, Lib.hid (by rw [hl'.out]; rfl), Lib.hid ⟨List.length_replicate, fun y hy => by rw [List.eq_of_mem_replicate hy]; rfl⟩, hsz5', hJ5', hnS5', hbk5', hbl5', hbel5'⟩
      case rest =>
        clear hJ3' hbk3' hbl3' hbel3' hla hsz hJ1 hnS1 hbk hbl hbel HR'; obtain ⟨S2, t2, la2, hst2, hla2, hsz2, hJ2, hnS2, hbk2, hbl2, hbel2⟩ := hcut; obtain ⟨k0, k1, k2, k3⟩ := hcs'.out wc hbk2.out; have HUn := HU'.out wc hbel2.out n (by omega); obtain ⟨L, hL⟩ : ∃ L, unitS a ps n = L := ⟨_, rfl⟩; rw [hL] at HUn
        have hstep : (List.range (n + 1)).foldlM U (t, List.replicate ps.length 0) = L.foldlM (stepB put (bs.map (·.1))) (t2, la2) := by
          rw [List.range_succ, List.foldlM_append, hfold.out]
          show ([n].foldlM U (t1, la)) = _
          rw [List.foldlM_cons]
          have e1 : U (t1, la) n = L.foldlM (stepB put (bs.map (·.1))) (t2, la2) := by
            rw [← hU'.out, hst2.out, ← hL, ← hr'.out]
            rfl
          rw [e1]
          cases L.foldlM (stepB put (bs.map (·.1))) (t2, la2) <;> rfl
        have HUn' := Lib.hid HUn; have hL' := Lib.hid hL; have hstep' := Lib.hid hstep; clear HUn hL hstep
        go_wp2_with fail
        refine HUn'.out.mono ?_; rintro e w3 ⟨a5, m5, c5, rfl, hb3, ho3⟩; have hJ3 := hJ'.out.late _ _ _ _ hJ2.out hb3; have hbk3 := hbk2.out.late hb3; have hbl3 := hbl2.out.late hb3; have hbel3 := hbel2.out.trans (hb3.mono (Nat.le_trans hB0 (show w.heap.size ≤ wc.heap.size by have := hbk2.out.lt; omega))); have hs5 := (Sl.of_own ho3).1
        have hlL : L.length = m5 := by
          have h1 := hs5.len; rw [placesC_len] at h1; omega
        have hm5 : m5 ≤ 64 := by
          have h1 := unitS_len (a := a) hpts'.out (by have := htop'.out; omega) n; rw [hL'.out] at h1; omega
        have ha5 : ∀ x, a5 = some x → ¬ S2 x.block := fun x hx h => by
          have h1 := (ho3.lt x.block (by rw [hx]; rfl)).1; have h2 := hJ'.out.high _ _ _ hJ2.out _ h
          omega
        have ha5b : ∀ x, a5 = some x → w.heap.size + 2 ≤ x.block := fun x hx => by
          have h1 := (ho3.lt x.block (by rw [hx]; rfl)).1; have h2 := hbl2.out.lt
          omega
        clear k0 k1 k2 k3 hb3 ho3; have hJ3' := Lib.hid hJ3; have hbk3' := Lib.hid hbk3; have hbl3' := Lib.hid hbl3; have hbel3' := Lib.hid hbel3; have hs5' := Lib.hid hs5; have hlL' := Lib.hid hlL; have ha5' := Lib.hid ha5; have ha5b' := Lib.hid ha5b; clear hJ3 hbk3 hbl3 hbel3 hs5 hlL ha5 ha5b
        go_wp2
        go_loopw [12, 13, 14, 15, 17, 18, 42] (fun _ _ _ _ _ _ xv wr => ∃ (j : Nat) (S3 : Nat → Prop) (t3 : T) (la3 : List Int), j ≤ m5 ∧ xv = .int .i64 j ∧ Hid ((L.take j).foldlM (stepB put (bs.map (·.1))) (t2, la2) = .ok (t3, la3)) ∧ Hid (la3.length = pn ∧ ∀ y ∈ la3, (Lit.int .i64 y).wf = true) ∧ Hid (size t3 ≤ size t + n * 150000 + 4 + j * 2250) ∧ Hid (J S3 t3 wr) ∧ Hid (¬ S3 w.heap.size ∧ ¬ S3 (w.heap.size + 1) ∧ ∀ x, a5 = some x → ¬ S3 x.block) ∧ Hid (Sl wr a5 m5 c5 2 (placesC L)) ∧ Hid (Blk wr w.heap.size 24 #[.int .i64 a, .int .i64 d, .slice pa pn pc, .int .i64 iv]) ∧ Hid (Blk wr (w.heap.size + 1) 3 (ints .i64 la3).toArray) ∧ Hid (Below B0 w wr)) (fun _ _ _ _ _ _ xv _ => m5 - (intOf xv).toNat)
        case atStart => exact ⟨0, S2, t2, la2, by omega, rfl, Lib.hid rfl, hla2, Lib.hid (by have := hsz2.out; omega), hJ3', Lib.hid ⟨hnS2.out.1, hnS2.out.2, ha5'.out⟩, hs5', hbk3', hbl3', hbel3'⟩
        case round =>
          rename World => wi
          obtain ⟨j, S3, t3, la3, hj, rfl, hfold3, hla3, hsz3, hJ4, hnS3, hs4, hbk4, hbl4, hbel4⟩ := hrel
          by_cases hjt : j < m5
          · obtain ⟨y, hy⟩ : ∃ y, L[j]? = some y := ⟨_, List.getElem?_eq_getElem (by rw [hlL'.out]; exact hjt)⟩
            obtain ⟨bb, o, rfl, hbb, f0, f1⟩ := place_elem hs4.out hy; obtain ⟨p, hp, hyn⟩ := unit_in (d := d) (by have := htop'.out; omega) hpts'.out (by rw [hN'.out]; exact hlt) (show y ∈ unitS a ps n by rw [hL'.out]; exact List.mem_of_getElem? hy); obtain ⟨bl0, hbl0, hlen0⟩ := wholeS_at hwh'.out hpts'.out rfl rfl hp; rw [List.getElem?_map] at hbl0; obtain ⟨bm, hbm, rfl⟩ := Option.map_eq_some_iff.1 hbl0; have hBs := hbs'.out wi hbel4.out; obtain ⟨gb, ob, hba, hgb, fb⟩ := hBs.elem hbm; have hbok := hBs.ok bm (List.mem_of_getElem? hbm); have hil := hbok.ilen; have hyt : y.2 < bm.1.length := by rw [hlen0]; exact hyn
            obtain ⟨b, hb⟩ : ∃ b, bm.1[y.2]? = some b := ⟨_, List.getElem?_eq_getElem hyt⟩; have hb64 := hbok.len b (List.mem_of_getElem? hb); have hbwf := hbok.wf b (List.mem_of_getElem? hb); obtain ⟨gt, ot, hta, hgt, _, ft⟩ := hbok.sl.elem (i := y.2) (by omega); rw [flat_elem (ints .i64) 64 bm.1 (fun z hz => by rw [ints_len]; exact hbok.len z hz) y.2 b hb] at ft
            have hblk : blkB (bs.map (·.1)) y = b := by
              have e1 : (bs.map (·.1)).getD y.1 [] = bm.1 := by rw [List.getD_eq_getElem?_getD, List.getElem?_map, hbm]; rfl
              unfold blkB; rw [e1, List.getD_eq_getElem?_getD, hb]; rfl
            have hpk : y.1 < pn := by rw [← hl'.out]; exact (List.getElem?_eq_some_iff.1 hp).1
            obtain ⟨bml, ta, tn, tc⟩ := bm; simp only at hil hyt hb hta ft; subst hta; subst hba; unfold bpV at fb; simp only at fb; obtain ⟨y0, y1⟩ := y; simp only at f0 f1 hbm hpk hyt hb ft fb; have hyn2 : y1 < tn := by omega
            have hpb : y0 < bn := by have := hBs.ilen; have := (List.getElem?_eq_some_iff.1 hbm).1; omega
            have hal := (Below.refl wi.heap.size wi).alloc (Nat.le_refl _) (.cells #[.int .i64 y0, .int .i64 y1] 142); have bq := Blk.new wi 142 #[.int .i64 y0, .int .i64 y1]; obtain ⟨x, hx⟩ : ∃ X, wi.alloc (.cells #[.int .i64 y0, .int .i64 y1] 142) = X := ⟨_, rfl⟩; rw [hx] at hal bq; have hwix : wi.heap.size < x.heap.size := bq.lt; have hD := hal.trans ((Below.refl x.heap.size x).drew.mono hal.size); obtain ⟨wD, hwD⟩ : ∃ W, x.drew = W := ⟨_, rfl⟩; have hxD := (Below.refl x.heap.size x).drew; rw [hwD] at hD hxD; obtain ⟨Ty, ff, hnn, hbelf, hsurj⟩ := later_worlds x; have HS := Lib.hid (hsurj wD hxD); have hlater : ∀ u, Below wi.heap.size wi (ff u) := fun u => hal.trans ((hbelf u).mono hal.size); have z0 : ∀ u, (ff u).cell? ⟨wi.heap.size, 0, none⟩ = some (.int .i64 y0) := fun u => (bq.late (hbelf u)).cell rfl; have z1 : ∀ u, (ff u).cell? ⟨wi.heap.size, 1, none⟩ = some (.int .i64 y1) := fun u => (bq.late (hbelf u)).cell rfl; have z2 : ∀ u, (ff u).cell? ⟨gb, ob + y0, none⟩ = some (.slice (some ⟨gt, ot, none⟩) tn tc) := fun u => ((hlater u).cell (p := ⟨gb, ob + y0, none⟩) hgb).trans fb
            have z3 : ∀ W, (∃ u, W = ff u) → ∀ j v, (ints .i64 b)[j]? = some v → W.cell? ⟨gt, ot + y1 * 64 + j, none⟩ = some v := fun W hW j v hv => by
              obtain ⟨u, rfl⟩ := hW; exact ((hlater u).cell (p := ⟨gt, ot + y1 * 64 + j, none⟩) hgt).trans (ft j v hv)
            obtain ⟨BB, hBB⟩ : ∃ BB, (ints .i64 b).toArray = BB := ⟨_, rfl⟩; have hib : (ints .i64 b).length = 64 := by rw [ints_len]; exact hb64
            have hone : BB.all (·.oneCell') = true := by
              rw [← hBB, Array.all_eq_true_iff_forall_mem]; exact fun z hz => ints_one z (by simpa using hz)
            have hBs64 : BB.size = 64 := by rw [← hBB]; simpa using hib
            clear fb ft; have hy' := Lib.hid hy; have hp' := Lib.hid hp; have hyn' := Lib.hid hyn; have hlen0' := Lib.hid hlen0; have hbm' := Lib.hid hbm; have hBs' := Lib.hid hBs; have hgb' := Lib.hid hgb; have hbok' := Lib.hid hbok; have hil' := Lib.hid hil; have hyt' := Lib.hid hyt; have hb' := Lib.hid hb; have hb64' := Lib.hid hb64; have hbwf' := Lib.hid hbwf; have hgt' := Lib.hid hgt; have hblk' := Lib.hid hblk; have hal' := Lib.hid hal; have bq' := Lib.hid bq; have hx' := Lib.hid hx; have hwix' := Lib.hid hwix; have hD' := Lib.hid hD; have hwD' := Lib.hid hwD; have hxD' := Lib.hid hxD; have hbelf' := Lib.hid hbelf; have hsurj' := Lib.hid hsurj; have hlater' := Lib.hid hlater; have z3' := Lib.hid z3; have hBB' := Lib.hid hBB; have hib' := Lib.hid hib; have hone' := Lib.hid hone; have hBs64' := Lib.hid hBs64; clear hy hp hyn hlen0 hbm hBs hgb hbok hil hyt hb hb64 hbwf hgt hblk hal bq hx hwix hD hwD hxD hbelf hsurj hlater z3 hBB hib hone hBs64
            go_upto_region 11 with fail
            rw [hx'.out]; refine held_begin (S := fun W => ∃ s, W = ff s) (by kernel_rfl) 11 rfl ?_; rw [hwD'.out]; refine held_take [0, 1, 2, 3, 4, 5, 6, 7, 8] 2 (by kernel_rfl) (fun d _ _ _ _ h => by cases d <;> exact h) (by kernel_rfl) (by kernel_rfl) (by kernel_rfl) HS.out ?_; simp only [pickL, List.map_cons, List.map_nil, List.getD_cons_succ, List.getD_cons_zero]
            iterate 8 (go_big_quiet_step (fail))
            refine wpQuiet_load_at rfl 129 (.tmp 53) rfl gt (ot + y1 * 64) rfl (ints .i64 b) BB hBB'.out _ z3'.out Try.underlying129 rfl 64 infoB64 hib'.out ?_; simp only [Act.put, List.setIfInBounds_toArray, List.set_cons_succ, List.set_cons_zero]; refine wpQuiet_nil ?_; clear z0 z1 z2; refine held_one 9 1 (by kernel_rfl) (by kernel_rfl) ?_; simp only [pickL, List.map_cons, List.map_nil, List.getD_cons_succ, List.getD_cons_zero]
            go_wp2_with fail
            refine Mid.mk ⟨hsurj'.out _ (hxD'.out.trans (((Below.refl wD.heap.size wD).alloc (Nat.le_refl _) _).mono hxD'.out.size)), ?_⟩; refine held_one 10 0 (by kernel_rfl) (by kernel_rfl) ?_; simp only [pickL, List.map_cons, List.map_nil, List.getD_cons_succ, List.getD_cons_zero]
            go_wp2_with (refine wpList_store_row rfl 129 (.tmp 13) (.tmp 54) rfl wD.heap.size BB rfl rfl 129 _ (heap_new _ _) (by rw [hBs64'.out]; exact infoB64) (by rw [hBs64'.out]; rfl) hone'.out ?_)
            rw [setRow_alloc]
            first | refine Mid.mk ⟨hsurj'.out _ (hxD'.out.trans (((Below.refl wD.heap.size wD).alloc (Nat.le_refl _) _).mono hxD'.out.size)), ?_⟩ | refine Mid.mk ?_
            refine held_last (by kernel_rfl) ?_; obtain ⟨gB, hgB⟩ : ∃ g, wD.heap.size = g := ⟨_, rfl⟩; have hD2 := hD'.out.trans (((Below.refl wD.heap.size wD).alloc (Nat.le_refl _) (.cells BB 129)).mono hD'.out.size); have bB := Blk.new wD 129 BB; obtain ⟨x2, hx2⟩ : ∃ W, wD.alloc (.cells BB 129) = W := ⟨_, rfl⟩; rw [hx2] at hD2 bB ⊢
            have bq2 : Blk x2 wi.heap.size 142 #[.int .i64 y0, .int .i64 y1] := by
              rw [← hx2]; exact (bq'.out.late hxD'.out).late ((Below.refl wD.heap.size wD).alloc (Nat.le_refl _) _)
            rw [hgB] at bB ⊢; obtain ⟨wE, hwE⟩ : ∃ W, x2.drew = W := ⟨_, rfl⟩; have hxE := (Below.refl x2.heap.size x2).drew; rw [hwE] at hxE; obtain ⟨Tz, f2, hnn2, hbelf2, hsurj2⟩ := later_worlds x2; have HS2 := Lib.hid (hsurj2 wE hxE); have hbl5 := hbl4.out.late hD2; have hbk5 := hbk4.out.late hD2; have hyl : y0 < la3.length := by rw [hla3.out.1]; omega
            obtain ⟨last, hlast⟩ : ∃ l, la3.getD y0 0 = l := ⟨_, rfl⟩
            have hlv : la3[y0]? = some last := by
              rw [← hlast, List.getD_eq_getElem?_getD, List.getElem?_eq_getElem hyl]; rfl
            have v0 : ∀ W, (∃ u, W = f2 u) → ∀ j v, (ints .i64 b)[j]? = some v → W.cell? ⟨gB, 0 + j, none⟩ = some v := fun W hW j v hv => by
              obtain ⟨u, rfl⟩ := hW; exact (bB.late (hbelf2 u)).cell (by rw [Nat.zero_add, ← hBB'.out, List.getElem?_toArray]; exact hv)
            have v1 : ∀ u, (f2 u).cell? ⟨wi.heap.size, 0, none⟩ = some (.int .i64 y0) := fun u => (bq2.late (hbelf2 u)).cell rfl; have v2 : ∀ u, (f2 u).cell? ⟨w.heap.size + 1, y0, none⟩ = some (.int .i64 last) := fun u => (hbl5.late (hbelf2 u)).cell (by rw [List.getElem?_toArray]; unfold ints; rw [List.getElem?_map, hlv]; rfl); have hlwf := hla3.out.2 last (List.mem_of_getElem? hlv); have HC := ccode_any b BB hBB'.out last wE hb64'.out hbwf'.out hlwf; clear HS hbelf' hsurj'; have hgB' := Lib.hid hgB; have hD2' := Lib.hid hD2; have bB' := Lib.hid bB; have hx2' := Lib.hid hx2; have bq2' := Lib.hid bq2; have hwE' := Lib.hid hwE; have hxE' := Lib.hid hxE; have hbelf2' := Lib.hid hbelf2; have hsurj2' := Lib.hid hsurj2; have hbl5' := Lib.hid hbl5; have hbk5' := Lib.hid hbk5; have hyl' := Lib.hid hyl; have hlast' := Lib.hid hlast; have hlv' := Lib.hid hlv; have v0' := Lib.hid v0; have hlwf' := Lib.hid hlwf; have HC' := Lib.hid HC; clear hgB hD2 bB hx2 bq2 hwE hxE hbelf2 hsurj2 hbl5 hbk5 hyl hlast hlv v0 hlwf HC
            go_upto_region 12 with fail
            refine held_begin (S := fun W => ∃ s, W = f2 s) (by kernel_rfl) 12 rfl ?_; rw [hwE'.out]; refine held_take [0, 1, 2, 3, 4, 5] 6 (by kernel_rfl) (fun d _ _ _ _ h => by cases d <;> exact h) (by kernel_rfl) (by kernel_rfl) (by kernel_rfl) HS2.out ?_; simp only [pickL, List.map_cons, List.map_nil, List.getD_cons_succ, List.getD_cons_zero]; refine wpQuiet_load_at rfl 129 (.tmp 13) rfl gB 0 rfl (ints .i64 b) BB hBB'.out _ v0'.out Try.underlying129 rfl 64 infoB64 hib'.out ?_; simp only [Act.put, List.setIfInBounds_toArray, List.set_cons_succ, List.set_cons_zero]
            iterate 5 (go_big_quiet_step (fail))
            refine wpQuiet_nil ?_; clear v1 v2; refine held_one 6 5 (by kernel_rfl) (by kernel_rfl) ?_; simp only [pickL, List.map_cons, List.map_nil, List.getD_cons_succ, List.getD_cons_zero]
            go_wp2_with fail
            refine HC'.out.mono ?_; rintro e w7 ⟨hC, hb7⟩; have hE7 := hxE'.out.trans (hb7.mono hxE'.out.size); have HS7 := Lib.hid (hsurj2'.out _ hE7); have hD7 := hD2'.out.trans (hE7.mono hD2'.out.size); have hB0i : B0 ≤ wi.heap.size := Nat.le_trans hB0 (by have := hbk4.out.lt; omega); have hbel7 := hbel4.out.trans (hD7.mono hB0i)
            have hst := fun (r : Except Int (T × List Int)) (h : stepB put (bs.map (·.1)) (t3, la3) (y0, y1) = r) => show (L.take (j + 1)).foldlM (stepB put (bs.map (·.1))) (t2, la2) = r by
              rw [ex_snoc hy'.out, hfold3.out]; exact h
            have hcd : codeB (blkB (bs.map (·.1)) (y0, y1)) (la3.getD y0 0) = codeB b last := by rw [hblk'.out, hlast'.out]
            clear HS2
            rcases hC with ⟨hcn, rfl⟩ | ⟨l, al, cl, hcl, rfl, hol⟩
            · have her := range_err (g := fun r => r) rfl hlt hstep'.out (hst _ (stepB_none (hcd.trans hcn)))
              clear hst hcd hcn; have hE7' := Lib.hid hE7; have hD7' := Lib.hid hD7; have hbel7' := Lib.hid hbel7; have her' := Lib.hid her; have hb7' := Lib.hid hb7; clear hE7 hD7 hbel7 her hb7
              go_wp2_with fail
              refine Mid.mk ⟨HS7.out, ?_⟩; refine held_take [7, 8, 9, 10] 1 (by kernel_rfl) (fun d _ _ _ _ h => by cases d <;> exact h) (by kernel_rfl) (by kernel_rfl) (by kernel_rfl) HS7.out ?_; simp only [pickL, List.map_cons, List.map_nil, List.getD_cons_succ, List.getD_cons_zero]
              iterate 4 (go_big_quiet_step (fail))
              refine wpQuiet_nil ?_; refine held_one 11 0 (by kernel_rfl) (by kernel_rfl) ?_; simp only [pickL, List.map_cons, List.map_nil, List.getD_cons_succ, List.getD_cons_zero]
              go_wp2_with fail
              refine Mid.mk ⟨HS7.out, ?_⟩; refine held_last (by kernel_rfl) ?_
              go_wp2
              go_ret
              exact ⟨.inr ⟨7, her'.out, by decide, rfl⟩, hbel7'.out⟩
            · have hgo := fun t4 (h : putL put y0 t3 l = .ok t4) => hst _ (stepB_ok (hcd.trans hcl) h)
              have hbad := fun er (h : putL put y0 t3 l = .error er) => range_err (g := fun r => r) rfl hlt hstep'.out (hst _ (stepB_err (hcd.trans hcl) h)); rw [hblk'.out] at hgo; have hl70 := codeB_len hb64'.out hcl; have hcok := codeB_ok hcl; have hsl := (Sl.of_own hol).1; have hwE7 : wi.heap.size ≤ wE.heap.size := Nat.le_trans hD2'.out.size hxE'.out.size
              have hal7 : ∀ x, al = some x → wi.heap.size ≤ x.block := fun x hx => by
                have h1 := (hol.lt x.block (by rw [hx]; rfl)).1
                omega
              obtain ⟨b0, hb0⟩ : ∃ v, b.getD 0 0 = v := ⟨_, rfl⟩
              have hbv : (ints .i64 b)[0]? = some (.int .i64 b0) := by
                have h1 := hb64'.out; unfold ints; rw [List.getElem?_map, List.getElem?_eq_getElem (by omega), ← hb0, List.getD_eq_getElem?_getD, List.getElem?_eq_getElem (by omega)]; rfl
              rw [hb0] at hgo; have hb0w : (Lit.int .i64 b0).wf = true := hbwf'.out b0 (by rw [← hb0, List.getD_eq_getElem?_getD, List.getElem?_eq_getElem (by have := hb64'.out; omega)]; exact List.getElem_mem _); have hbl7 := hbl4.out.late hD7; have hbk7 := hbk4.out.late hD7; have hs7 := hs4.out.mono hD7; have hJ7 := hJ'.out.late _ _ _ _ hJ4.out hD7; have bq7 := bq2'.out.late hE7; have p0 : w7.cell? ⟨wi.heap.size, 0, none⟩ = some (.int .i64 y0) := bq7.cell rfl; have p1 : w7.cell? ⟨gB, 0, none⟩ = some (.int .i64 b0) := (bB'.out.late hE7).cell (by rw [← hBB'.out, List.getElem?_toArray]; exact hbv); have p2 : w7.cell? ⟨w.heap.size + 1, y0, none⟩ = some (.int .i64 last) := hbl7.cell (by rw [List.getElem?_toArray]; unfold ints; rw [List.getElem?_map, hlv'.out]; rfl); have p3 := hbl7.frozen y0; clear hst hcd hol hcl; have hE7' := Lib.hid hE7; have hD7' := Lib.hid hD7; have hbel7' := Lib.hid hbel7; have hb7' := Lib.hid hb7; have hgo' := Lib.hid hgo; have hbad' := Lib.hid hbad; have hl70' := Lib.hid hl70; have hcok' := Lib.hid hcok; have hsl' := Lib.hid hsl; have hwE7' := Lib.hid hwE7; have hal7' := Lib.hid hal7; have hbv' := Lib.hid hbv; have hb0w' := Lib.hid hb0w; have hbl7' := Lib.hid hbl7; have hbk7' := Lib.hid hbk7; have hs7' := Lib.hid hs7; have hJ7' := Lib.hid hJ7; have bq7' := Lib.hid bq7; have hb0' := Lib.hid hb0; clear hE7 hD7 hbel7 hb7 hgo hbad hl70 hcok hsl hwE7 hal7 hbv hb0w hbl7 hbk7 hs7 hJ7 bq7 hb0
              go_wp2_with fail
              refine Mid.mk ⟨HS7.out, ?_⟩; refine held_take [7, 8, 9, 10] 1 (by kernel_rfl) (fun d _ _ _ _ h => by cases d <;> exact h) (by kernel_rfl) (by kernel_rfl) (by kernel_rfl) HS7.out ?_; simp only [pickL, List.map_cons, List.map_nil, List.getD_cons_succ, List.getD_cons_zero]
              iterate 4 (go_big_quiet_step (fail))
              refine wpQuiet_nil ?_; refine held_one 11 0 (by kernel_rfl) (by kernel_rfl) ?_; simp only [pickL, List.map_cons, List.map_nil, List.getD_cons_succ, List.getD_cons_zero]
              go_wp2_with fail
              refine Mid.mk ⟨HS7.out, ?_⟩; refine held_last (by kernel_rfl) ?_
              go_upto_region 16 with fail
              clear p0 p1 p2 p3; have hwlt : w.heap.size + 1 < wi.heap.size := hbl4.out.lt; have hbt8 := (But.refl (w.heap.size + 1) w7).set y0 (.int .i64 b0); have hbl8 := hbl7'.out.set y0 (.int .i64 b0)
              have e8 : (ints .i64 la3).toArray.setIfInBounds y0 (.int .i64 b0) = (ints .i64 (la3.set y0 b0)).toArray := by
                unfold ints; rw [List.setIfInBounds_toArray, List.map_set]
              rw [e8] at hbl8; obtain ⟨w8, hw8⟩ : ∃ W, w7.setCell ⟨w.heap.size + 1, y0, none⟩ (.int .i64 b0) = W := ⟨_, rfl⟩; rw [hw8] at hbt8 hbl8 ⊢; have hJ8 := hJ'.out.but _ _ _ _ _ hJ7'.out hbt8 (Nat.le_succ _) hnS3.out.2.1; have hbk8 := hbk7'.out.but hbt8 (by omega); have bq8 := bq7'.out.but hbt8 (by omega); have hs8 := hs7'.out.but hbt8 (fun x hx => by have := ha5b'.out x hx; omega); have hl8 := hsl'.out.but hbt8 (fun x hx => by have := hal7'.out x hx; omega); have hbel8 := hbel7'.out.trans (hbt8.below (show B0 ≤ w.heap.size + 1 by omega) (by have := hbel7'.out.size; omega)); have hla8 : (la3.set y0 b0).length = pn ∧ ∀ z ∈ la3.set y0 b0, (Lit.int .i64 z).wf = true := ⟨by rw [List.length_set]; exact hla3.out.1, fun z hz => (List.mem_or_eq_of_mem_set hz).elim (hla3.out.2 z) (fun e => e ▸ hb0w'.out)⟩; have hS8 : ∀ k, S3 k → k < wi.heap.size := hJ'.out.high _ _ _ hJ4.out; have hwi8 : wi.heap.size < w8.heap.size := bq8.lt; clear hbt8 e8 hw8; have hwlt' := Lib.hid hwlt; have hbl8' := Lib.hid hbl8; have hJ8' := Lib.hid hJ8; have hbk8' := Lib.hid hbk8; have bq8' := Lib.hid bq8; have hs8' := Lib.hid hs8; have hl8' := Lib.hid hl8; have hbel8' := Lib.hid hbel8; have hla8' := Lib.hid hla8; have hS8' := Lib.hid hS8; have hwi8' := Lib.hid hwi8; clear hwlt hbl8 hJ8 hbk8 bq8 hs8 hl8 hbel8 hla8 hS8 hwi8
              go_wp2
              go_loopw [17, 18, 76] (fun _ _ xv wr => ∃ (i : Nat) (S4 : Nat → Prop) (t4 : T), i ≤ l.length ∧ xv = .int .i64 i ∧ Hid (putL put y0 t3 (l.take i) = .ok t4) ∧ Hid (size t4 ≤ size t3 + i * 32) ∧ Hid (J S4 t4 wr) ∧ Hid (∀ k, S4 k → k < w8.heap.size → S3 k) ∧ Hid (Sl wr al l.length cl 4 (codC l)) ∧ Hid (Sl wr (some ⟨bb, o, none⟩) m5 c5 2 (placesC L)) ∧ Hid (Blk wr wi.heap.size 142 #[.int .i64 y0, .int .i64 y1]) ∧ Hid (Blk wr w.heap.size 24 #[.int .i64 a, .int .i64 d, .slice pa pn pc, .int .i64 iv]) ∧ Hid (Blk wr (w.heap.size + 1) 3 (ints .i64 (la3.set y0 b0)).toArray) ∧ Hid (Below B0 w wr) ∧ Hid (w8.heap.size ≤ wr.heap.size)) (fun _ _ xv _ => l.length - (intOf xv).toNat)
              case atStart => exact ⟨0, S3, t3, by omega, rfl, Lib.hid rfl, Lib.hid (by omega), hJ8', Lib.hid (fun k h _ => h), hl8', hs8', bq8', hbk8', hbl8', hbel8', Lib.hid (Nat.le_refl _)⟩
              case round =>
                rename World => wl
                obtain ⟨i, S4, t4, hi4, rfl, hput4, hsz4, hJ9, hS9, hl9, hs9, bq9, hbk9, hbl9, hbel9, hwz⟩ := hrel
                by_cases hilt : i < l.length
                · obtain ⟨x, hx⟩ : ∃ x, l[i]? = some x := ⟨_, List.getElem?_eq_getElem hilt⟩
                  obtain ⟨gl, ol, rfl, hgl, _, hc⟩ := hl9.out.elem hilt; unfold codC at hc; rw [flat_elem (fun x : Cod => ints .i64 (cdL x)) 4 l (fun q hq => rfl) i x hx] at hc; have hxok := hcok'.out x (List.mem_of_getElem? hx)
                  have hsnp : putL put y0 t3 (l.take (i + 1)) = put t4 y0 x := by
                    have h1 := hput4.out; unfold putL at h1 ⊢; rw [ex_snoc hx, h1]; rfl
                  have hzm : size t4 ≤ most := by
                    have h1 := hsz4.out; have h2 := hsz3.out; have h3 := hl70'.out; have h4 : (n + 1) * 150000 ≤ N * 150000 := Nat.mul_le_mul_right _ hlt
                    omega
                  have hal := (Below.refl wl.heap.size wl).alloc (Nat.le_refl _) (.cells (ints .i64 (cdL x)).toArray 133); have bx := Blk.new wl 133 (ints .i64 (cdL x)).toArray; have hJu := hJ'.out.late _ _ _ _ hJ9.out hal; have hP := hJ'.out.put S4 t4 _ y0 x _ rfl hJu hpk hzm hxok; have l10 := hl9.out.mono hal; have s10 := hs9.out.mono hal; have q10 := bq9.out.late hal; have k10 := hbk9.out.late hal; have b10 := hbl9.out.late hal; have d10 := hbel9.out.trans (hal.mono (Nat.le_trans hB0 (by have := hbk9.out.lt; omega))); have hgr := fun t' h => hJ'.out.grow t4 t' y0 x hxok h; have hlow := hJ'.out.low _ _ _ hJu; obtain ⟨x0, x1, x2, x3⟩ := x; have f0 : wl.cell? ⟨gl, ol + i * 4, none⟩ = some (.int .i64 x0) := hc 0 _ rfl; have f1 : wl.cell? ⟨gl, ol + i * 4 + 1, none⟩ = some (.int .i64 x1) := hc 1 _ rfl; have f2 : wl.cell? ⟨gl, ol + i * 4 + 2, none⟩ = some (.int .i64 x2) := hc 2 _ rfl; have f3 : wl.cell? ⟨gl, ol + i * 4 + 3, none⟩ = some (.int .i64 x3) := hc 3 _ rfl; rw [show (ints .i64 (cdL (x0, x1, x2, x3))).toArray = #[.int .i64 x0, .int .i64 x1, .int .i64 x2, .int .i64 x3] from rfl] at hP bx l10 s10 q10 k10 b10 d10 hal; obtain ⟨u, hu⟩ : ∃ W, wl.alloc (.cells #[.int .i64 x0, .int .i64 x1, .int .i64 x2, .int .i64 x3] 133) = W := ⟨_, rfl⟩; rw [hu] at hP bx l10 s10 q10 k10 b10 d10 hal; have g0 : u.cell? ⟨wl.heap.size, 0, none⟩ = some (.int .i64 x0) := bx.cell rfl; have g1 : u.cell? ⟨wl.heap.size, 1, none⟩ = some (.int .i64 x1) := bx.cell rfl; have g2 : u.cell? ⟨wl.heap.size, 2, none⟩ = some (.int .i64 x2) := bx.cell rfl; have g3 : u.cell? ⟨wl.heap.size, 3, none⟩ = some (.int .i64 x3) := bx.cell rfl; have g4 : u.cell? ⟨wi.heap.size, 0, none⟩ = some (.int .i64 y0) := q10.cell rfl; have hwz10 := Nat.le_trans hwz.out hal.size; clear hc hal bx hJu; have hx' := Lib.hid hx; have hxok' := Lib.hid hxok; have hsnp' := Lib.hid hsnp; have hzm' := Lib.hid hzm; have hP' := Lib.hid hP; have l10' := Lib.hid l10; have s10' := Lib.hid s10; have q10' := Lib.hid q10; have k10' := Lib.hid k10; have b10' := Lib.hid b10; have d10' := Lib.hid d10; have hu' := Lib.hid hu; have hgr' := Lib.hid hgr; have hlow' := Lib.hid hlow; have hwz10' := Lib.hid hwz10; clear hx hxok hsnp hzm hP l10 s10 q10 k10 b10 d10 hu hgr hlow hwz10
                  go_upto_region 19 with fail
                  rw [hu'.out]
                  go_wp2_with fail
                  refine hP'.out.mono ?_; rintro e w9 ⟨hres, hmo⟩; have d11 := d10'.out.trans (Mo.below hmo (Nat.le_trans hB0 (by have := k10'.out.lt; omega)) (fun k hk h => by have := hlow'.out k h; omega)); clear g0 g1 g2 g3 g4 f0 f1 f2 f3
                  rcases hres with ⟨t', hok, rfl, hJn⟩ | ⟨er, her, hne, rfl⟩
                  · have nS : ∀ k, k < w8.heap.size → ¬ S3 k → ¬ S4 k := fun k h1 h2 h3 => h2 (hS9.out k h3 h1)
                    have hglz : gl < w8.heap.size := by
                      obtain ⟨b', o', e', h', _⟩ := hl8'.out.elem hilt; injection e' with e'; injection e' with e1 _ _
                      omega
                    have k11 := k10'.out.mo hmo (nS _ (by have h1 := hwlt'.out; have h2 := hwi8'.out; omega) hnS3.out.1); have b11 := b10'.out.mo hmo (nS _ (by have h1 := hwlt'.out; have h2 := hwi8'.out; omega) hnS3.out.2.1); have q11 := q10'.out.mo hmo (nS _ hwi8'.out (fun h => by have := hS8'.out _ h; omega))
                    have s11 := s10'.out.mo hmo (fun z hz => nS _ (by
                      injection hz with hz; rw [← hz]
                      show bb < _
                      have h2 := hwi8'.out
                      omega) (hnS3.out.2.2 z hz))
                    have l11 := l10'.out.mo hmo (fun z hz => nS _ (by
                      injection hz with hz; rw [← hz]; exact hglz) (fun h => by
                      have h1 := hS8'.out _ h; have h2 := hal7'.out z hz
                      omega))
                    have hS11 : ∀ k, Sx S4 u w9 k → k < w8.heap.size → S3 k := fun k h hk => h.elim (fun h => hS9.out k h hk) (fun h => by have := hwz10'.out; omega); have hz11 := Nat.le_trans hwz10'.out hmo.size; have hput11 := hsnp'.out.trans hok; have hsz11 : size t' ≤ size t3 + (i + 1) * 32 := by have h1 := hgr'.out t' hok; have h2 := hsz4.out; omega
                    have hi70 : i ≤ 70 := by have := hl70'.out; omega
                    clear hmo nS; have d11' := Lib.hid d11; have hJn' := Lib.hid hJn; have k11' := Lib.hid k11; have b11' := Lib.hid b11; have q11' := Lib.hid q11; have s11' := Lib.hid s11; have l11' := Lib.hid l11; have hS11' := Lib.hid hS11; have hz11' := Lib.hid hz11; have hput11' := Lib.hid hput11; have hsz11' := Lib.hid hsz11; clear d11 hJn k11 b11 q11 s11 l11 hS11 hz11 hput11 hsz11
                    go_wp2
                    go_roundw
                    case rel => exact ⟨i + 1, Sx S4 u w9, t', by omega, by go_num, hput11', hsz11', hJn', hS11', l11', s11', q11', k11', b11', d11', hz11'⟩
                    case measure => simp [intOf]; omega
                  · have hpe : putL put y0 t3 l = .error er := ex_err (j := i + 1) (hsnp'.out.trans her)
                    have hbe := hbad'.out er hpe; clear hmo hpe; have d11' := Lib.hid d11; have hbe' := Lib.hid hbe; clear d11 hbe
                    go_wp2
                    go_ret
                    exact ⟨.inr ⟨er, hbe'.out, hne, rfl⟩, d11'.out⟩
                · have hil2 : i = l.length := by omega
                  subst hil2; have hpl := hput4.out; rw [List.take_length] at hpl; have hfin := hgo'.out t4 hpl; have hsz5 : size t4 ≤ size t + n * 150000 + 4 + (j + 1) * 2250 := by have h1 := hsz4.out; have h2 := hsz3.out; have h3 := hl70'.out; omega
                  have hnS9 : ¬ S4 w.heap.size ∧ ¬ S4 (w.heap.size + 1) ∧ ∀ x, some (⟨bb, o, none⟩ : Addr) = some x → ¬ S4 x.block := ⟨fun h => hnS3.out.1 (hS9.out _ h (by have h1 := hwlt'.out; have h2 := hwi8'.out; omega)), fun h => hnS3.out.2.1 (hS9.out _ h (by have h1 := hwlt'.out; have h2 := hwi8'.out; omega)), fun x hx h => by
                    have h3 := hnS3.out.2.2 x hx; refine h3 (hS9.out _ h ?_); injection hx with hx; rw [← hx]
                    show bb < w8.heap.size
                    have h2 := hwi8'.out
                    omega⟩
                  have hfin' := Lib.hid hfin; have hsz5' := Lib.hid hsz5; have hnS9' := Lib.hid hnS9; clear hfin hsz5 hnS9
                  go_wp2
                  go_roundw
                  case rel => exact ⟨j + 1, S4, t4, la3.set y0 b0, by omega, by go_num, hfin', hla8', hsz5', hJ9, hnS9', hs9, hbk9, hbl9, hbel9⟩
                  case measure => simp [intOf]; omega
          · have hjk : j = m5 := by omega
            subst hjk; have hf := hfold3.out; rw [List.take_of_length_le (Nat.le_of_eq hlL'.out), ← hstep'.out] at hf; have hnS4 := And.intro hnS3.out.1 hnS3.out.2.1; have hsz4 : size t3 ≤ size t + (n + 1) * 150000 := by have := hsz3.out; omega
            have hf' := Lib.hid hf; have hnS4' := Lib.hid hnS4; have hsz4' := Lib.hid hsz4; clear hf hnS4 hsz4
            go_wp2
            go_roundw
            case rel => exact ⟨n + 1, S3, t3, la3, by omega, by go_num, hf', hla3, hsz4', hJ4, hnS4', hbk4, hbl4, hbel4⟩
            case measure => simp [intOf]; omega
    · have hkn : n = N := by omega
      subst hkn
      go_wp2
      go_ret
      exact ⟨.inl ⟨t1, la, S1, hfold.out, rfl, hJ1.out, hsz.out⟩, hbel.out⟩
end Go.Proofs.Ytpjopeojeglogaa
