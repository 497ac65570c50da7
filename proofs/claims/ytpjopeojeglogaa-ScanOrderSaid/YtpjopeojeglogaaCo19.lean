/- Chapter 12: the blocks of a unit: the program. -/
import Derived.Test.YtpjopeojeglogaaCo18
namespace Go.Proofs.Ytpjopeojeglogaa
open Go.RowKit Tt
set_option linter.unusedVariables false
set_option linter.unusedSimpArgs false

/-- where the j-th block of a plane lies, of the n-th unit -/
def atU (a h v n j : Nat) : Nat := ((n / a * v + j / h) * a) * h + (n % a * h + j % h)
def plU (a n k : Nat) (p : PtM) (j : Nat) : Nat × Nat := (k, atU a p.1.toNat p.2.1.toNat n j)
def unitP (a n k : Nat) (p : PtM) : List (Nat × Nat) := (List.range (p.1.toNat * p.2.1.toNat)).map (plU a n k p)
def unitS (a : Nat) (ps : List PtM) (n : Nat) : List (Nat × Nat) := (ps.zipIdx.map fun x => unitP a n x.2 x.1).flatten
theorem unitS_snoc {a n k : Nat} {ps : List PtM} {p : PtM} (h : ps[k]? = some p) : unitS a (ps.take (k + 1)) n = unitS a (ps.take k) n ++ unitP a n k p := by
  have hk := (List.getElem?_eq_some_iff.1 h).1; unfold unitS; rw [List.take_add_one, h]; simp only [Option.toList_some, List.zipIdx_append, List.map_append, List.flatten_append, List.length_take, Nat.min_eq_left (Nat.le_of_lt hk), Nat.zero_add, List.zipIdx_cons, List.zipIdx_nil, List.map_cons, List.map_nil, List.flatten_cons, List.flatten_nil, List.append_nil]
def placeC (x : Nat × Nat) : List Value := [.int .i64 x.1, .int .i64 x.2]
def placesC (l : List (Nat × Nat)) : List Value := (l.map placeC).flatten
theorem placesC_app (l m : List (Nat × Nat)) : placesC (l ++ m) = placesC l ++ placesC m := by unfold placesC; rw [List.map_append, List.flatten_append]
theorem range_snoc (f : Nat → Nat × Nat) (j : Nat) : (List.range (j + 1)).map f = (List.range j).map f ++ [f j] := by rw [List.range_succ, List.map_append]; rfl
theorem mayS_parts {s : ScT} (h : mayS s = true) : (1 ≤ s.ax ∧ s.ax ≤ 512 ∧ 1 ≤ s.dn ∧ s.dn ≤ 512 ∧ 1 ≤ s.ps.length ∧ s.ps.length ≤ 4 ∧ 0 ≤ s.iv ∧ s.iv ≤ 65535) ∧ (∀ (k : Nat) p, s.ps[k]? = some p → mayPt p = true) ∧ sumPt s.ps ≤ 10 := by
  unfold mayS mayTop at h; simp only [Bool.and_eq_true, decide_eq_true_eq, List.all_eq_true] at h; exact ⟨h.1.1, fun k p hp => h.1.2 p (List.mem_of_getElem? hp), h.2⟩
theorem wrapN {n : Nat} (h : n ≤ 9000000000000000000) : IntKind.i64.wrap (n : Int) = n := by rw [IntKind.wrap_i64]; omega
theorem unit_steps {a h v n j : Nat} (ha : 1 ≤ a ∧ a ≤ 512) (hh : 1 ≤ h ∧ h ≤ 4) (hv : 1 ≤ v ∧ v ≤ 4) (hn : n ≤ 262144) (hj : j ≤ 16) :
    ∃ q qv jq row r rh jr col ra rah at' : Nat, at' = atU a h v n j ∧ at' ≤ 9000000000 ∧
      (Int.tdiv (n : Int) (a : Int) = (q : Int) ∧ IntKind.i64.wrap (q : Int) = q ∧ IntKind.i64.wrap ((q : Int) * v) = qv) ∧
      (Int.tdiv (j : Int) (h : Int) = (jq : Int) ∧ IntKind.i64.wrap (jq : Int) = jq ∧ IntKind.i64.wrap ((qv : Int) + jq) = row) ∧
      (Int.tmod (n : Int) (a : Int) = (r : Int) ∧ IntKind.i64.wrap (r : Int) = r ∧ IntKind.i64.wrap ((r : Int) * h) = rh) ∧
      (Int.tmod (j : Int) (h : Int) = (jr : Int) ∧ IntKind.i64.wrap (jr : Int) = jr ∧ IntKind.i64.wrap ((rh : Int) + jr) = col) ∧
      (IntKind.i64.wrap ((row : Int) * a) = ra ∧ IntKind.i64.wrap ((ra : Int) * h) = rah ∧ IntKind.i64.wrap ((rah : Int) + col) = at') := by
  have b1 : n / a ≤ 262144 := Nat.le_trans (Nat.div_le_self _ _) hn; have b2 : n / a * v ≤ 262144 * 4 := Nat.mul_le_mul b1 hv.2; have b3 : j / h ≤ 16 := Nat.le_trans (Nat.div_le_self _ _) hj; have b4 : n % a < 512 := Nat.lt_of_lt_of_le (Nat.mod_lt _ ha.1) ha.2; have b5 : n % a * h ≤ 512 * 4 := Nat.mul_le_mul (by omega) hh.2; have b6 : j % h < 4 := Nat.lt_of_lt_of_le (Nat.mod_lt _ hh.1) hh.2; have b7 : (n / a * v + j / h) * a ≤ 1048592 * 512 := Nat.mul_le_mul (by omega) ha.2; have b8 : (n / a * v + j / h) * a * h ≤ 1048592 * 512 * 4 := Nat.mul_le_mul b7 hh.2; refine ⟨n / a, n / a * v, j / h, n / a * v + j / h, n % a, n % a * h, j % h, n % a * h + j % h, (n / a * v + j / h) * a, (n / a * v + j / h) * a * h, atU a h v n j, rfl, by unfold atU; omega, ⟨(Int.ofNat_tdiv n a).symm, ?_, ?_⟩, ⟨(Int.ofNat_tdiv j h).symm, ?_, ?_⟩, ⟨(Int.ofNat_tmod n a).symm, ?_, ?_⟩, ⟨(Int.ofNat_tmod j h).symm, ?_, ?_⟩, ?_, ?_, ?_⟩
  · exact wrapN (by omega)
  · rw [← Int.natCast_mul]; exact wrapN (by omega)
  · exact wrapN (by omega)
  · rw [← Int.natCast_add]; exact wrapN (by omega)
  · exact wrapN (by omega)
  · rw [← Int.natCast_mul]; exact wrapN (by omega)
  · exact wrapN (by omega)
  · rw [← Int.natCast_add]; exact wrapN (by omega)
  · rw [← Int.natCast_mul]; exact wrapN (by omega)
  · rw [← Int.natCast_mul]; exact wrapN (by omega)
  · unfold atU; rw [← Int.natCast_add]; exact wrapN (by omega)
theorem infoPl : (Try.prog.info? 142).map (fun i => (i.zero, i.size, i.bytes)) = some (some (.agg #[.int .i64 0, .int .i64 0]), 2, 16) := by kernel_rfl
set_option maxRecDepth 100000 in
set_option maxHeartbeats 4000000 in
theorem unit_any (s : ScT) (pa : Option Addr) (pn pc m : Nat) (w : World) (hs : PtsR w pa pn pc s.ps) (hmay : mayS s = true) (hm : m ≤ 262144) :
    Calls Try.prog 95 #[.agg #[.int .i64 s.ax, .int .i64 s.dn, .slice pa pn pc, .int .i64 s.iv], .int .i64 m] w fun e w' => ∃ a n c, e = .returned (.slice a n c) ∧ Below w.heap.size w w' ∧ w'.ownsRow w.heap.size 142 2 (.slice a n c) n (placesC (unitS s.ax.toNat s.ps m)) := by
  obtain ⟨i1, hi, hz0, hz1, hz2⟩ := info_parts infoPl; have hl := hs.ilen; obtain ⟨htop, hpts, hsum⟩ := mayS_parts hmay; obtain ⟨ax, dn, iv, ps⟩ := s; simp only at hs hl htop hpts hsum ⊢; obtain ⟨a, rfl⟩ : ∃ a : Nat, ax = a := ⟨ax.toNat, by omega⟩; have ha : 1 ≤ a ∧ a ≤ 512 := by omega
  rw [Int.toNat_natCast]; have b1 := Blk.new w 24 #[.int .i64 a, .int .i64 dn, .slice pa pn pc, .int .i64 iv]; have hb1 := (Below.refl w.heap.size w).alloc (Nat.le_refl _) (.cells #[.int .i64 a, .int .i64 dn, .slice pa pn pc, .int .i64 iv] 24); obtain ⟨W1, hW1⟩ : ∃ W1, w.alloc (.cells #[.int .i64 a, .int .i64 dn, .slice pa pn pc, .int .i64 iv] 24) = W1 := ⟨_, rfl⟩; rw [hW1] at b1 hb1; have k2 : W1.cell? ⟨w.heap.size, 2, none⟩ = some (.slice pa pn pc) := b1.cell rfl; have hp4 : pn ≤ 4 := by omega
  have hs' := Lib.hid hs; have hl' := Lib.hid hl; have b1' := Lib.hid b1; have hb1' := Lib.hid hb1; have hW1' := Lib.hid hW1; have hpts' := Lib.hid hpts; have htop' := Lib.hid htop; have hsum' := Lib.hid hsum; clear hs hl b1 hb1 hW1 hpts htop hsum
  go_enter Try.func95, Try.ntmps95
  go_upto_region 1 with fail
  rw [hW1'.out]
  go_wp2
  clear k2
  go_loopw [5, 6, 7, 8, 9, 10, 14] (fun ov _ _ _ _ _ xv wr => ∃ (k n : Nat) (a3 : Option Addr) (c3 : Nat), k ≤ pn ∧ n ≤ 16 * k ∧ xv = .int .i64 k ∧ ov = .slice a3 n c3 ∧ Hid (Blk wr w.heap.size 24 #[.int .i64 a, .int .i64 dn, .slice pa pn pc, .int .i64 iv]) ∧ Hid (wr.ownsRow (w.heap.size + 1) 142 2 (.slice a3 n c3) n (placesC (unitS a (ps.take k) m))) ∧ Hid (Below w.heap.size w wr)) (fun _ _ _ _ _ _ xv _ => pn - (intOf xv).toNat)
  case atStart => exact ⟨0, 0, none, 0, by omega, by omega, rfl, rfl, b1', Lib.hid (own_nil _ _ _ _), hb1'⟩
  case round =>
    rename World => wo
    obtain ⟨k, n, a3, c3, hk, hn, rfl, rfl, hbk, Ob, hbel⟩ := hrel
    by_cases hlt : k < pn
    · obtain ⟨p, hp⟩ : ∃ p, ps[k]? = some p := ⟨_, List.getElem?_eq_getElem (by rw [hl'.out]; exact hlt)⟩
      obtain ⟨bb, o, rfl, hbb, f⟩ := (hs'.out.mono hbel.out).elem hp; have hpk := (hs'.out.ok p (List.mem_of_getElem? hp)).mono hbel.out; have hpm := mayPt_bd (hpts'.out k p hp); obtain ⟨x, y, hdc, hac⟩ := p; simp only at hpm; obtain ⟨h, rfl⟩ : ∃ h : Nat, x = h := ⟨x.toNat, by omega⟩; obtain ⟨v, rfl⟩ : ∃ h : Nat, y = h := ⟨y.toNat, by omega⟩; have hh : 1 ≤ h ∧ h ≤ 4 := by omega
      have hv : 1 ≤ v ∧ v ≤ 4 := by omega
      clear hpm; obtain ⟨B, hB⟩ : ∃ B, (pC ((h : Int), (v : Int), hdc, hac)).toArray = B := ⟨_, rfl⟩; have hcl := pC_len hpk; have hone := pC_one (p := ((h : Int), (v : Int), hdc, hac)); have hB36 : B.size = 36 := by rw [← hB]; simpa using hcl
      rw [hB] at hone; obtain ⟨W2, hW2⟩ : ∃ W2, wo.alloc (.cells B 47) = W2 := ⟨_, rfl⟩; have hal := (Below.refl wo.heap.size wo).alloc (Nat.le_refl _) (.cells B 47); have hqb : Blk W2 wo.heap.size 47 B := by rw [← hW2]; exact Blk.new wo 47 B
      rw [hW2] at hal; have hbw := hbel.out.trans (hal.mono hbel.out.size); have hfields := fun W (b : Blk W wo.heap.size 47 B) => pB_cells (p := ((h : Int), (v : Int), hdc, hac)) hpk.dc.len (hB ▸ b); have hfx : ∀ W, Blk W wo.heap.size 47 B → W.cell? ⟨wo.heap.size, 0, none⟩ = some (.int .i64 (h : Int)) := fun W b => (hfields W b).1; have hfy : ∀ W, Blk W wo.heap.size 47 B → W.cell? ⟨wo.heap.size, 1, none⟩ = some (.int .i64 (v : Int)) := fun W b => (hfields W b).2.1; clear hfields; have k0 := hfx W2 hqb; have k1 := hfy W2 hqb; have hbk2 := hbk.out.late hal; have Ob2 := own_later Ob.out hal; have hsn := unitS_snoc (a := a) (n := m) hp; have hhv : h * v ≤ 16 := Nat.mul_le_mul hh.2 hv.2; obtain ⟨hv2, hhv2⟩ : ∃ z, h * v = z := ⟨_, rfl⟩; rw [hhv2] at hhv; have ew : IntKind.i64.wrap ((h : Int) * v) = hv2 := by rw [← Int.natCast_mul, hhv2]; exact wrapN (by omega)
      have hstep := fun j (hj : j ≤ 16) => unit_steps ha hh hv hm hj; have f' := Lib.hid f; have hpk' := Lib.hid hpk; have hB' := Lib.hid hB; have hcl' := Lib.hid hcl; have hp' := Lib.hid hp; have hone' := Lib.hid hone; have hB36' := Lib.hid hB36; have hal' := Lib.hid hal; have hqb' := Lib.hid hqb; have hW2' := Lib.hid hW2; have hbw' := Lib.hid hbw; have hfx' := Lib.hid hfx; have hfy' := Lib.hid hfy; have hbk2' := Lib.hid hbk2; have Ob2' := Lib.hid Ob2; have hsn' := Lib.hid hsn; have hhv2' := Lib.hid hhv2; have hstep' := Lib.hid hstep; have ha' := Lib.hid ha; have hh' := Lib.hid hh; have hv' := Lib.hid hv; have hm' := Lib.hid hm; clear f hpk hB hcl hp hone hB36 hal hqb hW2 hbw hfx hfy hbk2 Ob2 hsn hhv2 hstep ha hh hv hm
      go_upto_region 5 with (first
        | (refine wpList_load_at rfl 47 (.tmp 17) rfl bb (o + k * 36) rfl (pC ((h : Int), (v : Int), hdc, hac)) B hB'.out _ f'.out Try.underlying47 rfl 36 infoP hcl'.out ?_)
        | (refine wpList_store_row rfl 47 (.tmp 7) (.tmp 18) rfl wo.heap.size B rfl rfl 47 _ (heap_new _ _) (by rw [hB36'.out]; exact infoP) (by rw [hB36'.out]; rfl) hone'.out ?_))
      rw [setRow_alloc, hW2'.out]
      go_wp2
      clear k0 k1
      go_loopw [5, 8, 9, 10, 24] (fun ov _ _ _ xv wi => ∃ (j : Nat) (a4 : Option Addr) (c4 : Nat), j ≤ hv2 ∧ xv = .int .i64 j ∧ ov = .slice a4 (n + j) c4 ∧ Hid (Blk wi w.heap.size 24 #[.int .i64 a, .int .i64 dn, .slice (some ⟨bb, o, none⟩) pn pc, .int .i64 iv]) ∧ Hid (Blk wi wo.heap.size 47 B) ∧ Hid (wi.ownsRow (w.heap.size + 1) 142 2 (.slice a4 (n + j) c4) (n + j) (placesC (unitS a (ps.take k) m ++ (List.range j).map (plU a m k ((h : Int), (v : Int), hdc, hac))))) ∧ Hid (Below w.heap.size w wi)) (fun _ _ _ _ xv _ => hv2 - (intOf xv).toNat)
      case atStart => exact ⟨0, a3, c3, by omega, rfl, rfl, hbk2', hqb', Lib.hid (by simpa using Ob2'.out), hbw'⟩
      case round =>
        obtain ⟨j, a4, c4, hj, rfl, rfl, hb3, hq3, O3, hbel3⟩ := hrel
        by_cases hjt : j < hv2
        · have hj16 : j ≤ 16 := by omega
          obtain ⟨q, qv, jq, row, r, rh, jr, col, ra, rah, at', hat, hat9, ⟨e1, e2, e3⟩, ⟨e4, e5, e6⟩, ⟨e7, e8, e9⟩, ⟨e10, e11, e12⟩, ⟨e13, e14, e15⟩⟩ := hstep'.out j hj16; obtain ⟨Ty, ff, hnn, hbel2, hsurj⟩ := later_worlds wr; have HS := Lib.hid (hsurj wr.drew ((Below.refl wr.heap.size wr).drew)); have y0 : ∀ s, (ff s).cell? ⟨w.heap.size, 0, none⟩ = some (.int .i64 a) := fun s => (hb3.out.late (hbel2 s)).cell rfl; have y1 : ∀ s, (ff s).cell? ⟨wo.heap.size, 0, none⟩ = some (.int .i64 h) := fun s => hfx'.out _ (hq3.out.late (hbel2 s)); have y2 : ∀ s, (ff s).cell? ⟨wo.heap.size, 1, none⟩ = some (.int .i64 v) := fun s => hfy'.out _ (hq3.out.late (hbel2 s)); have ane : ¬ (a : Int) = 0 := by have := ha'.out; omega
          have hne : ¬ (h : Int) = 0 := by have := hh'.out; omega
          have hat' := Lib.hid hat; have hat9' := Lib.hid hat9; have hbel2' := Lib.hid hbel2; have hsurj' := Lib.hid hsurj; clear hat hat9 hbel2 hsurj
          go_upto_region 8 with fail
          refine wp_quiet_in ff (by kernel_rfl) (by kernel_rfl) HS.out ?_
          iterate 26 (go_big_quiet_step (fail))
          refine wpQuiet_nil ?_; clear y0 y1 y2; intro u; have hdr := hbel2'.out u; have b4 := hb3.out.late hdr; have q4 := hq3.out.late hdr; have o4 := own_later O3.out hdr; have d4 := hbel3.out.trans (hdr.mono hbel3.out.size); have f0 : (ff u).cell? ⟨w.heap.size, 0, none⟩ = some (.int .i64 a) := b4.cell rfl; have f1 := hfx'.out _ q4; obtain ⟨x, hx⟩ : ∃ X, ff u = X := ⟨_, rfl⟩; rw [hx] at b4 q4 o4 d4 f0 f1 ⊢; have hal := (Below.refl x.heap.size x).alloc (Nat.le_refl _) (.cells #[.int .i64 k, .int .i64 at'] 142); have b5 := b4.late hal; have q5 := q4.late hal; have o5 := own_later o4 hal; have d5 := d4.trans (hal.mono d4.size); have s5 := Sl.new x 142 2 1 #[.int .i64 k, .int .i64 at'] (0, 0) (by decide) rfl; have hsz : w.heap.size + 1 ≤ (x.alloc (.cells #[.int .i64 k, .int .i64 at'] 142)).heap.size := Nat.lt_of_lt_of_le b4.lt hal.size
          have hrow : placesC (unitS a (ps.take k) m ++ (List.range j).map (plU a m k ((h : Int), (v : Int), hdc, hac))) ++ [.int .i64 k, .int .i64 at'] = placesC (unitS a (ps.take k) m ++ (List.range (j + 1)).map (plU a m k ((h : Int), (v : Int), hdc, hac))) := by
            rw [range_snoc, ← List.append_assoc, placesC_app _ [_]]; unfold plU; rw [Int.toNat_natCast, Int.toNat_natCast, ← hat'.out]
            rfl
          clear hal; clear hx; have b4' := Lib.hid b4; have q4' := Lib.hid q4; have o4' := Lib.hid o4; have d4' := Lib.hid d4; have b5' := Lib.hid b5; have q5' := Lib.hid q5; have o5' := Lib.hid o5; have d5' := Lib.hid d5; have s5' := Lib.hid s5; have hrow' := Lib.hid hrow; have hsz' := Lib.hid hsz; clear b4 q4 o4 d4 b5 q5 o5 d5 s5 hrow hsz
          go_wp2_with (at_builtin; refine wpList_app2 rfl _ _ 139 rfl (w.heap.size + 1) 142 i1 _ 2 16 Try.underlying139 hi hz0 hz1 hz2 rfl (by decide) _ (n + j) _ rfl o5'.out ⟨x.heap.size, 0, none⟩ 1 1 [.int .i64 k, .int .i64 at'] rfl s5'.out (by simp [Value.oneCell']) (by omega) (by decide) (by have h1 := hsz'.out; omega) ?_; intro a5 c5 w5 ho5 hg5 hn5; have g5 : Mo (fun j' => (Value.slice a4 (n + j) c4).ownBlock = some j') _ w5 := Mo.of_grown hg5 (fun _ e => e); have B5 := Lib.hid (b5'.out.mo g5 (own_neB o5'.out b5'.out (by decide))); have Q5 := Lib.hid (q5'.out.mo g5 (own_neB o5'.out q5'.out (by decide))); have Hd5 := Lib.hid (d5'.out.trans (Mo.below (S := fun j' => j' ≥ w.heap.size + 1 ∧ True) (Mo.of_grown hg5 (fun k e => ⟨(o5'.out.lt k e).1, trivial⟩)) d5'.out.size (fun k hk h => by omega))); have Ho5 := Lib.hid ho5; clear ho5 hg5 hn5 g5)
          go_roundw
          case rel => exact ⟨j + 1, a5, c5, by omega, by go_num, rfl, B5, Q5, Lib.hid (by rw [← hrow'.out]; exact Ho5.out), Hd5⟩
          case measure => simp [intOf]; omega
        · have hjk : j = hv2 := by omega
          subst hjk; have O5 := O3.out
          have e5 : (List.range j).map (plU a m k ((h : Int), (v : Int), hdc, hac)) = unitP a m k ((h : Int), (v : Int), hdc, hac) := by
            unfold unitP; rw [Int.toNat_natCast, Int.toNat_natCast, hhv2'.out]
          rw [e5, ← hsn'.out] at O5; clear e5; have O5' := Lib.hid O5; clear O5
          go_wp2
          go_roundw
          case rel => exact ⟨k + 1, n + j, a4, c4, by omega, by omega, by go_num, rfl, hb3, O5', hbel3⟩
          case measure => simp [intOf]; omega
    · have hkn : k = pn := by omega
      subst hkn; have O5 := Ob.out; rw [List.take_of_length_le (Nat.le_of_eq hl'.out)] at O5; have O5' := Lib.hid O5; clear O5
      go_wp2
      go_ret
      exact ⟨a3, n, c3, rfl, hbel.out, own_mono O5'.out (Nat.le_succ _)⟩
end Go.Proofs.Ytpjopeojeglogaa
