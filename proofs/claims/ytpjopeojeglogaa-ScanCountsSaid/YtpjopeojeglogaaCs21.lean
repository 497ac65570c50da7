/- Chapter 11: a block from its symbols: the program. -/
import Derived.Test.YtpjopeojeglogaaCs20
import Derived.Test.YtpjopeojeglogaaCs08
namespace Go
theorem results_cell_tmp2 {fn : Func} {p u v : Tmp} {ty : TypeId} (h : fn.results = #[.cell p ty, .tmp u, .tmp v]) (tmps : Array Value) (P : Program) (w : World) :
    (results fn tmps).run P w =
      ((asAddr (tmps.getD p undef)).run P w).andThen fun a w₁ => ((loadVar ty a).run P w₁).andThen fun x w₂ => .ok (.tuple #[x, tmps.getD u undef, tmps.getD v undef]) w₂ := by
  simp only [results, h]
  simp [Sem.run_bind, Result.andThen]
end Go
namespace Tt
open Go
theorem results_blk_tmp2 {P : Program} {fn : Func} {p u v : Tmp} {ty : TypeId} (h : fn.results = #[.cell p ty, .tmp u, .tmp v]) (tmps : Array Value) (w : World) (g : Nat) (t : TypeId) (cs : Array Value) (d : TypeDesc)
    (hp : tmps.getD p undef = .pointer (some ⟨g, 0, none⟩)) (hg : Blk w g t cs)
    (hu : P.underlying ty = some d) (hd : (match d with | .struct _ | .array _ _ => true | _ => false) = true) (hi : (P.info? ty).map (·.size) = some cs.size) :
    (results fn tmps).run P w = .ok (.tuple #[.agg cs, tmps.getD u undef, tmps.getD v undef]) w := by
  rw [results_cell_tmp2 h, hp]
  simp [asAddr, Result.andThen, run_loadVar_row w g t ty cs (0, 0) d hg hu hd hi]
end Tt
namespace Go.Proofs.Ytpjopeojeglogaa
open Go.RowKit Tt
set_option linter.unusedVariables false
set_option linter.unusedSimpArgs false

def blkV : Except Int (List Int × Nat) → Value
  | .ok x => .tuple #[.agg (ints .i64 x.1).toArray, .int .i64 x.2, .int .i64 0]
  | .error e => .tuple #[.agg z64, .int .i64 0, .int .i64 e]
theorem nextC_cases (l : List Cod) (u : Nat) (ac most : Int) : (l.length ≤ u ∧ nextC l u ac most = (0, 0, 3)) ∨ (∃ x, l[u]? = some x ∧ symV x ac most = none ∧ nextC l u ac most = (0, 0, 2)) ∨ ∃ x v, l[u]? = some x ∧ symV x ac most = some v ∧ nextC l u ac most = (x.2.1 / 16, v, 0) := by
  cases hx : l[u]? with
  | none => exact .inl ⟨List.getElem?_eq_none_iff.1 hx, by unfold nextC; rw [hx]⟩
  | some x =>
    cases hv : symV x ac most with
    | none => exact .inr (.inl ⟨x, rfl, hv, nextC_no hx hv⟩)
    | some v => exact .inr (.inr ⟨x, v, rfl, hv, nextC_ok hx hv⟩)
theorem blockS_arg {l : List Cod} {last : Int} (h : sizeS last < 0) : blockS l last = .error 1 := by unfold blockS; rw [if_pos h]
theorem blockS_nil {last : Int} (h : 0 ≤ sizeS last) {l : List Cod} (hl : l.length ≤ 0) : blockS l last = .error 3 := by
  obtain rfl : l = [] := List.eq_nil_of_length_eq_zero (by omega); unfold blockS; rw [if_neg (by omega)]
theorem cons_of {l : List Cod} {x : Cod} (h : l[0]? = some x) : l = x :: l.drop 1 := by
  have := drop_at h
  rwa [List.drop_zero] at this
theorem blockS_no {last : Int} (h : 0 ≤ sizeS last) {l : List Cod} {x : Cod} (hx : l[0]? = some x) (hv : symV x 0 11 = none) : blockS l last = .error 2 := by
  rw [cons_of hx]; unfold blockS; rw [if_neg (by omega)]; simp only [hv]
theorem blockS_run {last v : Int} (h : 0 ≤ sizeS last) {l : List Cod} {x : Cod} (hx : l[0]? = some x) (hv : symV x 0 11 = some v) (hr : ¬ x.2.1 / 16 = 0) : blockS l last = .error 2 := by
  rw [cons_of hx]; unfold blockS; rw [if_neg (by omega)]; simp only [hv]; rw [if_neg hr]
theorem blockS_go {last v : Int} (h : 0 ≤ sizeS last) {l : List Cod} {x : Cod} (hx : l[0]? = some x) (hv : symV x 0 11 = some v) (hr : x.2.1 / 16 = 0) : blockS l last = blkL (l.drop 1) 1 ((List.replicate 64 0).set 0 (last + v)) 1 := by
  conv => lhs; rw [cons_of hx]
  unfold blockS; rw [if_neg (by omega)]; simp only [hv]; rw [if_pos hr]
set_option maxRecDepth 20000 in
set_option maxHeartbeats 4000000 in
theorem cblock_any (a : Option Addr) (n c : Nat) (l : List Cod) (last : Int) (w : World) (hs : Sl w a n c 4 (codC l)) (hl : l.length = n) (hlt : ∀ x, a = some x → x.block < w.heap.size) (hwf : ∀ x ∈ l, ∀ y ∈ cdL x, (Lit.int .i64 y).wf = true) (hn : n ≤ 1000000) (hlast : (Lit.int .i64 last).wf = true) :
    Calls Try.prog 151 #[.slice a n c, .int .i64 last] w fun e w' => e = .returned (blkV (blockS l last)) ∧ Below w.heap.size w w' := by
  have hal := (Below.refl w.heap.size w).alloc (Nat.le_refl _) (.cells z64 129); have bl := Blk.new w 129 z64; obtain ⟨W1, hW1⟩ : ∃ W, w.alloc (.cells z64 129) = W := ⟨_, rfl⟩; rw [hW1] at hal bl; have hZ : B64 W1 w.heap.size 129 (List.replicate 64 0) := ⟨List.length_replicate, bl⟩; have hSz := csize_any last W1 hlast; unfold z64 at hW1; clear bl; have hs' := Lib.hid hs; have hl' := Lib.hid hl; have hlt' := Lib.hid hlt; have hwf' := Lib.hid hwf; have hn' := Lib.hid hn; have hal' := Lib.hid hal; have hZ' := Lib.hid hZ; have hSz' := Lib.hid hSz; have hW1' := Lib.hid hW1; have hlast' := Lib.hid hlast; clear hs hl hlt hwf hn hal hZ hSz hW1 hlast
  go_enter Try.func151, Try.ntmps151
  go_upto_region 1 with fail
  rw [hW1'.out]
  go_wp2_with fail
  refine hSz'.out.mono ?_; rintro e w2 ⟨rfl, hq2⟩; have hdw2' := Lib.hid (hal'.out.trans ((hq2.below _).mono hal'.out.size)); have hzw2' := Lib.hid (hZ'.out.late (hq2.below _)); clear hq2; obtain ⟨sz, hsz⟩ : ∃ sz, sizeS last = sz := ⟨_, rfl⟩; rw [hsz]
  by_cases c1 : sz < 0
  · have hres := blockS_arg (l := l) (last := last) (by omega)
    have hsz' := Lib.hid hsz; have hres' := Lib.hid hres; clear hsz hres; have hrz := rowBelow hdw2'.out (g := w.heap.size) (Nat.le_refl _) z64
    go_wp2_with (refine wpList_store_row rfl 129 (.tmp 4) (.tmp 17) rfl w.heap.size z64 rfl rfl 129 _ hzw2'.out.2 (by kernel_rfl) (by first | (rw [ints_size hzw2'.out.1]; rfl) | rfl) (by kernel_rfl) ?_)
    go_wp2
    refine bodyPost_ret (results_blk_tmp2 rfl _ _ w.heap.size 129 z64 _ rfl (Blk.rowH hzw2'.out.2 _) Try.underlying129 rfl (by kernel_rfl)) rfl ?_; exact ⟨by rw [hres'.out]; rfl, hrz⟩
  · have hnn : 0 ≤ sizeS last := by omega
    have hsl := size_ok (v := last) (by omega); have hal3 := (Below.refl w2.heap.size w2).alloc (Nat.le_refl _) (.cells #[.slice a n c, .int .i64 0] 250); have br3 := Blk.new w2 250 #[.slice a n c, .int .i64 0]; obtain ⟨w3, hw3⟩ : ∃ W, w2.alloc (.cells #[.slice a n c, .int .i64 0] 250) = W := ⟨_, rfl⟩; obtain ⟨rr, hrr⟩ : ∃ g, w2.heap.size = g := ⟨_, rfl⟩; rw [hw3, hrr] at br3; rw [hw3] at hal3; have hd3 := hdw2'.out.trans (hal3.mono hdw2'.out.size); have hz3 := hzw2'.out.late hal3; have hrg : w.heap.size < rr := by rw [← hrr]; exact hzw2'.out.2.lt
    have hne : ∀ x, a = some x → x.block ≠ rr := fun x hx => by have := hlt'.out x hx; omega
    have HN3 := cnext_any rr a n c l 0 0 11 w3 br3 (hs'.out.mono hd3) hl'.out hne hwf'.out (Nat.zero_le _) hn'.out; clear hal3 hsz; have hnn' := Lib.hid hnn; have hsl' := Lib.hid hsl; have hw3' := Lib.hid hw3; have hrr' := Lib.hid hrr; have br3' := Lib.hid br3; have hd3' := Lib.hid hd3; have hz3' := Lib.hid hz3; have hrg' := Lib.hid hrg; have hne' := Lib.hid hne; have HN3' := Lib.hid HN3; clear hnn hsl hw3 hrr br3 hd3 hz3 hrg hne HN3
    go_wp2_with fail
    rw [hrr'.out, hw3'.out]
    go_wp2_with fail
    refine HN3'.out.mono ?_; rintro e w4 ⟨r4, v4, er4, hnx, rfl, hbr4, hbt4⟩; have hdw4' := Lib.hid (hd3'.out.trans (hbt4.below (by have := hrg'.out; omega) hd3'.out.size)); have hzw4' := Lib.hid (show B64 w4 w.heap.size 129 (List.replicate 64 0) from ⟨hz3'.out.1, hz3'.out.2.but hbt4 (by have := hrg'.out; omega)⟩); clear hbt4
    rcases nextC_cases l 0 0 11 with ⟨hc, hq⟩ | ⟨x, hx, hv, hq⟩ | ⟨x, v, hx, hv, hq⟩
    · rw [hq] at hnx
      injection hnx with e1 e2; injection e2 with e2 e3; subst e1 e2 e3; have hres := blockS_nil hnn'.out hc; clear hbr4 hq hc; have hres' := Lib.hid hres; clear hres; have hrz := rowBelow hdw4'.out (g := w.heap.size) (Nat.le_refl _) z64
      go_wp2_with (refine wpList_store_row rfl 129 (.tmp 4) (.tmp 33) rfl w.heap.size z64 rfl rfl 129 _ hzw4'.out.2 (by kernel_rfl) (by first | (rw [ints_size hzw4'.out.1]; rfl) | rfl) (by kernel_rfl) ?_)
      go_wp2
      refine bodyPost_ret (results_blk_tmp2 rfl _ _ w.heap.size 129 z64 _ rfl (Blk.rowH hzw4'.out.2 _) Try.underlying129 rfl (by kernel_rfl)) rfl ?_; exact ⟨by rw [hres'.out]; rfl, hrz⟩
    · rw [hq] at hnx
      injection hnx with e1 e2; injection e2 with e2 e3; subst e1 e2 e3; have hres := blockS_no hnn'.out hx hv; clear hbr4 hq hx hv; have hres' := Lib.hid hres; clear hres; have hrz := rowBelow hdw4'.out (g := w.heap.size) (Nat.le_refl _) z64
      go_wp2_with (refine wpList_store_row rfl 129 (.tmp 4) (.tmp 33) rfl w.heap.size z64 rfl rfl 129 _ hzw4'.out.2 (by kernel_rfl) (by first | (rw [ints_size hzw4'.out.1]; rfl) | rfl) (by kernel_rfl) ?_)
      go_wp2
      refine bodyPost_ret (results_blk_tmp2 rfl _ _ w.heap.size 129 z64 _ rfl (Blk.rowH hzw4'.out.2 _) Try.underlying129 rfl (by kernel_rfl)) rfl ?_; exact ⟨by rw [hres'.out]; rfl, hrz⟩
    · rw [hq] at hnx
      injection hnx with e1 e2; injection e2 with e2 e3; subst e1 e2 e3; have hbr := hbr4 rfl; obtain ⟨hxo, hxv⟩ := symV_some hv
      by_cases hr : x.2.1 / 16 = 0
      · have hres := blockS_go hnn'.out hx hv hr
        rw [hr]; have hrange := valueS_range hxv; have h11 : x.2.1 % 16 ≤ 11 := hxo.2.2.2.1; have hN11 : x.2.2.2 = x.2.1 % 16 := hxo.2.2.2.2
        have hvr : -2048 < v ∧ v < 2048 := by
          have h1 : (2 : Int) ^ x.2.2.2.toNat ≤ 2 ^ 11 := by exact_mod_cast Nat.pow_le_pow_right (by decide : 0 < 2) (show x.2.2.2.toNat ≤ 11 by omega)
          omega
        have hsum : wrap64 (last + v) = last + v := by have := hsl'.out; unfold wrap64; omega
        obtain ⟨s, hs0⟩ : ∃ s, last + v = s := ⟨_, rfl⟩; rw [hs0] at hres hsum; have k0 : w4.cell? ⟨w.heap.size, 0, none⟩ = some (.int .i64 ((List.replicate 64 (0 : Int)).getD 0 0)) := hzw4'.out.cell (by decide); have k1 := hzw4'.out.frozen 0; have hb0 := hzw4'.out.set 0 s; have hd0 := hdw4'.out.setCell (p := ⟨w.heap.size, 0, none⟩) (Nat.le_refl _) (.int .i64 s); have hr0 := hbr.but ((But.refl w.heap.size w4).set 0 (.int .i64 s)) (by have := hrg'.out; omega); have hln : 1 ≤ n := by have := (List.getElem?_eq_some_iff.1 hx).1; have := hl'.out; omega
        clear hbr4 hq hbr hxo hxv hrange h11 hN11 hvr hx hv hr; have hres' := Lib.hid hres; have hb0' := Lib.hid hb0; have hd0' := Lib.hid hd0; have hr0' := Lib.hid hr0; have hln' := Lib.hid hln; clear hres hb0 hd0 hr0 hln
        go_upto_region 8 with fail
        obtain ⟨w5, hw5⟩ : ∃ W, w4.setCell ⟨w.heap.size, 0, none⟩ (.int .i64 s) = W := ⟨_, rfl⟩; rw [hw5] at hb0' hd0' hr0' ⊢; clear k0 k1 hw5; obtain ⟨RES, hRES⟩ : ∃ R, blkL (l.drop 1) 1 ((List.replicate 64 0).set 0 s) 1 = R := ⟨_, rfl⟩; rw [hRES] at hres'; have hRES' := Lib.hid hRES; clear hRES hs0 hsum
        go_wp2
        go_loopw [10, 11, 12, 13] (fun kv _ _ _ wr => ∃ (k u : Nat) (b : List Int), 1 ≤ k ∧ k ≤ 64 ∧ u ≤ n ∧ kv = .int .i64 k ∧ Hid (blkL (l.drop u) k b u = RES) ∧ Hid (B64 wr w.heap.size 129 b) ∧ Hid (Blk wr rr 250 #[.slice a n c, .int .i64 (u : Int)]) ∧ Hid (Below w.heap.size w wr)) (fun kv _ _ _ _ => 64 - (intOf kv).toNat)
        case atStart => exact ⟨1, 1, _, by omega, by omega, by have := hln'.out; omega, rfl, hRES', hb0', hr0', hd0'⟩
        case round =>
          obtain ⟨k, u, b, hk1, hk64, hu, rfl, hrun, hzwr', hrwr', hdwr'⟩ := hrel
          by_cases hlt : k < 64
          · have HN := cnext_any rr a n c l u 1 10 wr hrwr'.out (hs'.out.mono hdwr'.out) hl'.out hne'.out hwf'.out hu hn'.out
            have HN' := Lib.hid HN; clear HN
            go_wp2_with fail
            refine HN'.out.mono ?_; rintro e wq ⟨r4, v4, er4, hnx, rfl, hbr5, hbt5⟩; have hdwq' := Lib.hid (hdwr'.out.trans (hbt5.below (by have := hrg'.out; omega) hdwr'.out.size)); have hzwq' := Lib.hid (show B64 wq w.heap.size 129 b from ⟨hzwr'.out.1, hzwr'.out.2.but hbt5 (by have := hrg'.out; omega)⟩); clear hbt5
            rcases nextC_cases l u 1 10 with ⟨hc, hq⟩ | ⟨x, hx, hv, hq⟩ | ⟨x, v, hx, hv, hq⟩
            · rw [hq] at hnx
              injection hnx with e1 e2; injection e2 with e2 e3; subst e1 e2 e3; have hfin : blockS l last = .error 3 := by rw [hres'.out, ← hrun.out]; exact blkL_end hlt hc
              clear hbr5 hq hc; have hfin' := Lib.hid hfin; clear hfin; have hrz := rowBelow hdwq'.out (g := w.heap.size) (Nat.le_refl _) z64
              go_wp2_with (refine wpList_store_row rfl 129 (.tmp 4) (.tmp 52) rfl w.heap.size z64 rfl rfl 129 _ hzwq'.out.2 (by kernel_rfl) (by first | (rw [ints_size hzwq'.out.1]; rfl) | rfl) (by kernel_rfl) ?_)
              go_wp2
              refine bodyPost_ret (results_blk_tmp2 rfl _ _ w.heap.size 129 z64 _ rfl (Blk.rowH hzwq'.out.2 _) Try.underlying129 rfl (by kernel_rfl)) rfl ?_; exact ⟨by rw [hfin'.out]; rfl, hrz⟩
            · rw [hq] at hnx
              injection hnx with e1 e2; injection e2 with e2 e3; subst e1 e2 e3; have hfin : blockS l last = .error 2 := by rw [hres'.out, ← hrun.out]; exact blkL_no hlt hx hv
              clear hbr5 hq hx hv; have hfin' := Lib.hid hfin; clear hfin; have hrz := rowBelow hdwq'.out (g := w.heap.size) (Nat.le_refl _) z64
              go_wp2_with (refine wpList_store_row rfl 129 (.tmp 4) (.tmp 52) rfl w.heap.size z64 rfl rfl 129 _ hzwq'.out.2 (by kernel_rfl) (by first | (rw [ints_size hzwq'.out.1]; rfl) | rfl) (by kernel_rfl) ?_)
              go_wp2
              refine bodyPost_ret (results_blk_tmp2 rfl _ _ w.heap.size 129 z64 _ rfl (Blk.rowH hzwq'.out.2 _) Try.underlying129 rfl (by kernel_rfl)) rfl ?_; exact ⟨by rw [hfin'.out]; rfl, hrz⟩
            · rw [hq] at hnx
              injection hnx with e1 e2; injection e2 with e2 e3; subst e1 e2 e3; have hrwq' := Lib.hid (hbr5 rfl); obtain ⟨hxo, hxv⟩ := symV_some hv; have h0 := hxo.2.1; have h255 := hxo.2.2.1; have hu1 : u + 1 ≤ n := by have := (List.getElem?_eq_some_iff.1 hx).1; have := hl'.out; omega
              have hstop := fun hs => blkL_stop (k := k) (b := b) hlt hx hv hs; have hbad := fun hs hb => blkL_bad (k := k) (b := b) hlt hx hv hs hb; have hstep := fun hs hb => blkL_step (k := k) (b := b) hlt hx hv hs hb; rw [hrun.out] at hstop hbad hstep; obtain ⟨R, hR⟩ : ∃ R : Nat, x.2.1 / 16 = R := ⟨(x.2.1 / 16).toNat, by omega⟩; have hR15 : R ≤ 15 := by omega
              rw [hR] at hstop hbad hstep ⊢; rw [Int.toNat_natCast] at hbad hstep; obtain ⟨m, hm⟩ : ∃ m, k + R = m := ⟨_, rfl⟩; have hkr : wrap64 ((k : Int) + R) = (m : Int) := by unfold wrap64; omega
              rw [hm] at hbad hstep; clear hbr5 hq hx hv hxo hxv h0 h255 hR hrun hzwr' hrwr' hdwr'
              by_cases cv : v = 0
              · subst cv
                by_cases cr : R = 0
                · subst cr
                  have hfin : blockS l last = .ok (b, u + 1) := by rw [hres'.out, hstop ⟨rfl, rfl⟩]
                  clear hstop hbad hstep; have hfin' := Lib.hid hfin; clear hfin; obtain ⟨A, hA⟩ : ∃ A, (ints .i64 b).toArray = A := ⟨_, rfl⟩; have hbA := hzwq'.out.2; have hb64 := hzwq'.out.1; rw [hA] at hbA; have hAs : A.size = 64 := by rw [← hA]; exact ints_size hb64
                  have hone : A.all (·.oneCell') = true := by rw [← hA]; exact ints_one'
                  obtain ⟨Ty, ff, hnn2, hpr, hsurj⟩ := pr_worlds (fun W => Below w.heap.size w W ∧ Blk W w.heap.size 129 A ∧ Blk W rr 250 #[.slice a n c, .int .i64 ((u + 1) : Int)]) wq ⟨hdwq'.out, hbA, hrwq'.out⟩; have hDq := (Below.refl (wq).heap.size wq).drew; obtain ⟨wD, hwD⟩ : ∃ W, (wq).drew = W := ⟨_, rfl⟩; rw [hwD] at hDq; have hCD := And.intro (hdwq'.out.trans (hDq.mono hdwq'.out.size)) (And.intro (hbA.late hDq) (hrwq'.out.late hDq)); have HS := Lib.hid (hsurj wD hCD); have z0 : ∀ s, (ff s).cell? ⟨rr, 1, none⟩ = some (.int .i64 ((u + 1) : Int)) := fun s => (hpr s).2.2.cell rfl
                  have z1 : ∀ W, (∃ u, W = ff u) → ∀ j v, (ints .i64 b)[j]? = some v → W.cell? ⟨w.heap.size, 0 + j, none⟩ = some v := fun W hW j v hv => by
                    obtain ⟨u, rfl⟩ := hW; exact (hpr u).2.1.cell (by rw [Nat.zero_add, ← hA, List.getElem?_toArray]; exact hv)
                  have hbi : (ints .i64 b).length = 64 := by rw [ints_len]; exact hb64
                  have hCE := And.intro (rowBelow hCD.1 (g := w.heap.size) (Nat.le_refl _) A) (And.intro (Blk.rowH hCD.2.1 A) (hCD.2.2.but (but_rowH (b := w.heap.size) wD A) (by have := hrg'.out; omega))); have HS2 := Lib.hid (hsurj (wD.setRow w.heap.size A) hCE); clear hpr hsurj hDq hbA; have hA' := Lib.hid hA; have hb64' := Lib.hid hb64; have hAs' := Lib.hid hAs; have hone' := Lib.hid hone; have hwD' := Lib.hid hwD; have hCD' := Lib.hid hCD; have hCE' := Lib.hid hCE; have z1' := Lib.hid z1; have hbi' := Lib.hid hbi; clear hA hb64 hAs hone hwD hCD hCE z1 hbi
                  go_upto_region 19 with fail
                  refine held_begin (S := fun W => ∃ s, W = ff s) (by kernel_rfl) 8 rfl ?_; rw [hwD'.out]; refine held_take [0, 1, 2, 3, 4] 3 (by kernel_rfl) (fun d _ _ _ _ h => by cases d <;> exact h) (by kernel_rfl) (by kernel_rfl) (by kernel_rfl) HS.out ?_; simp only [pickL, List.map_cons, List.map_nil, List.getD_cons_succ, List.getD_cons_zero]; refine wpQuiet_load_at rfl 129 (.tmp 4) rfl w.heap.size 0 rfl (ints .i64 b) A hA'.out _ z1'.out Try.underlying129 rfl 64 infoB64 hbi'.out ?_; simp only [Act.put, List.setIfInBounds_toArray, List.set_cons_succ, List.set_cons_zero]
                  iterate 4 (go_big_quiet_step (fail))
                  refine wpQuiet_nil ?_; refine held_one 5 2 (by kernel_rfl) (by kernel_rfl) ?_; simp only [pickL, List.map_cons, List.map_nil, List.getD_cons_succ, List.getD_cons_zero]
                  go_wp2_with (refine wpList_store_row rfl 129 (.tmp 4) (.tmp 78) rfl w.heap.size A rfl rfl 129 _ hCD'.out.2.1 (by rw [hAs'.out]; exact infoB64) rfl hone'.out ?_)
                  refine Mid.mk ⟨HS2.out, ?_⟩; refine held_one 6 1 (by kernel_rfl) (by kernel_rfl) ?_; simp only [pickL, List.map_cons, List.map_nil, List.getD_cons_succ, List.getD_cons_zero]
                  go_wp2_with fail
                  refine Mid.mk ⟨HS2.out, ?_⟩; refine held_one 7 0 (by kernel_rfl) (by kernel_rfl) ?_; simp only [pickL, List.map_cons, List.map_nil, List.getD_cons_succ, List.getD_cons_zero]
                  go_wp2_with fail
                  refine Mid.mk ⟨HS2.out, ?_⟩; refine held_last (by kernel_rfl) ?_
                  go_wp2
                  refine bodyPost_ret (results_blk_tmp2 rfl _ _ w.heap.size 129 A _ rfl hCE'.out.2.1 Try.underlying129 rfl (by rw [hAs'.out]; exact infoB64)) rfl ?_; exact ⟨by rw [hfin'.out, ← hA'.out]; rfl, hCE'.out.1⟩
                · have cr0 : ((R : Int) == 0) = false := by simp; omega
                  by_cases cf : R = 15
                  · have cf0 : ((R : Int) != 15) = false := by simp; omega
                    by_cases ck : 64 ≤ m
                    · have hfin : blockS l last = .error 2 := by rw [hres'.out, hbad (by omega) (.inr ck)]
                      have ck0 : (64 : Int) ≤ (m : Int) := by omega
                      clear hstop hbad hstep; have hfin' := Lib.hid hfin; clear hfin; have hrz := rowBelow hdwq'.out (g := w.heap.size) (Nat.le_refl _) z64
                      go_wp2_with (refine wpList_store_row rfl 129 (.tmp 4) (.tmp 73) rfl w.heap.size z64 rfl rfl 129 _ hzwq'.out.2 (by kernel_rfl) (by first | (rw [ints_size hzwq'.out.1]; rfl) | rfl) (by kernel_rfl) ?_)
                      go_wp2
                      refine bodyPost_ret (results_blk_tmp2 rfl _ _ w.heap.size 129 z64 _ rfl (Blk.rowH hzwq'.out.2 _) Try.underlying129 rfl (by kernel_rfl)) rfl ?_; exact ⟨by rw [hfin'.out]; rfl, hrz⟩
                    · have hst := hstep (by omega) (by omega)
                      clear hstop hbad hstep; subst cf; have ck0 : ¬ (64 : Int) ≤ ((k : Int) + 15) := by omega
                      have hmx : ((m : Nat) : Int) = ((k : Int) + 15) := by omega
                      obtain ⟨idx, hidx⟩ : ∃ i, zzL.getD m 0 = i := ⟨_, rfl⟩; have hilt : idx < 64 := by rw [← hidx]; exact (zz_lt m (by omega)).1
                      have HA := zat_any m wq (by omega); rw [hidx] at hst HA; rw [hmx] at HA; clear hidx hmx; have hst := hst.symm; have hm := hm; have hst' := Lib.hid hst; have HA' := Lib.hid HA; clear hst HA
                      go_wp2_with fail
                      refine HA'.out.mono ?_; rintro e wz ⟨rfl, hbz⟩; have hzz := hzwq'.out.late hbz; have hrz := hrwq'.out.late hbz; have hdz := hdwq'.out.trans (hbz.mono hdwq'.out.size); have k0 := hzz.cell hilt; have k1 := hzz.frozen idx; have n1 := hzz.set idx 0; have n2 := hrz.but ((But.refl w.heap.size wz).set idx (.int .i64 0)) (by have := hrg'.out; omega); have n3 := hdz.setCell (p := ⟨w.heap.size, idx, none⟩) (Nat.le_refl _) (.int .i64 0); clear hbz hzz hrz hdz; have n1' := Lib.hid n1; have n2' := Lib.hid n2; have n3' := Lib.hid n3; clear n1 n2 n3
                      go_wp2
                      go_roundw
                      case rel => exact ⟨m + 1, u + 1, _, by omega, by omega, hu1, by first | go_num | (congr 1; unfold wrap64; omega) | (simp [wrap64]; omega), hst', n1', n2', n3'⟩
                      case measure => simp [intOf]; omega
                  · have hfin : blockS l last = .error 2 := by rw [hres'.out, hbad (by omega) (.inl ⟨rfl, by omega⟩)]
                    have cf0 : ((R : Int) != 15) = true := by simp; omega
                    clear hstop hbad hstep; have hfin' := Lib.hid hfin; clear hfin; have hrz := rowBelow hdwq'.out (g := w.heap.size) (Nat.le_refl _) z64
                    go_wp2_with (refine wpList_store_row rfl 129 (.tmp 4) (.tmp 73) rfl w.heap.size z64 rfl rfl 129 _ hzwq'.out.2 (by kernel_rfl) (by first | (rw [ints_size hzwq'.out.1]; rfl) | rfl) (by kernel_rfl) ?_)
                    go_wp2
                    refine bodyPost_ret (results_blk_tmp2 rfl _ _ w.heap.size 129 z64 _ rfl (Blk.rowH hzwq'.out.2 _) Try.underlying129 rfl (by kernel_rfl)) rfl ?_; exact ⟨by rw [hfin'.out]; rfl, hrz⟩
              · have cv0 : (v == 0) = false := by simpa using cv
                by_cases ck : 64 ≤ m
                · have hfin : blockS l last = .error 2 := by rw [hres'.out, hbad (fun h => cv h.1) (.inr ck)]
                  have ck0 : (64 : Int) ≤ (m : Int) := by omega
                  clear hstop hbad hstep; have hfin' := Lib.hid hfin; clear hfin; have hrz := rowBelow hdwq'.out (g := w.heap.size) (Nat.le_refl _) z64
                  go_wp2_with (refine wpList_store_row rfl 129 (.tmp 4) (.tmp 73) rfl w.heap.size z64 rfl rfl 129 _ hzwq'.out.2 (by kernel_rfl) (by first | (rw [ints_size hzwq'.out.1]; rfl) | rfl) (by kernel_rfl) ?_)
                  go_wp2
                  refine bodyPost_ret (results_blk_tmp2 rfl _ _ w.heap.size 129 z64 _ rfl (Blk.rowH hzwq'.out.2 _) Try.underlying129 rfl (by kernel_rfl)) rfl ?_; exact ⟨by rw [hfin'.out]; rfl, hrz⟩
                · have hst := hstep (fun h => cv h.1) (by omega)
                  clear hstop hbad hstep; have ck0 : ¬ (64 : Int) ≤ ((k : Int) + R) := by omega
                  have hmx : ((m : Nat) : Int) = ((k : Int) + R) := by omega
                  obtain ⟨idx, hidx⟩ : ∃ i, zzL.getD m 0 = i := ⟨_, rfl⟩; have hilt : idx < 64 := by rw [← hidx]; exact (zz_lt m (by omega)).1
                  have HA := zat_any m wq (by omega); rw [hidx] at hst HA; rw [hmx] at HA; clear hidx hmx; have hst := hst.symm; have hm := hm; have hst' := Lib.hid hst; have HA' := Lib.hid HA; clear hst HA
                  go_wp2_with fail
                  refine HA'.out.mono ?_; rintro e wz ⟨rfl, hbz⟩; have hzz := hzwq'.out.late hbz; have hrz := hrwq'.out.late hbz; have hdz := hdwq'.out.trans (hbz.mono hdwq'.out.size); have k0 := hzz.cell hilt; have k1 := hzz.frozen idx; have n1 := hzz.set idx v; have n2 := hrz.but ((But.refl w.heap.size wz).set idx (.int .i64 v)) (by have := hrg'.out; omega); have n3 := hdz.setCell (p := ⟨w.heap.size, idx, none⟩) (Nat.le_refl _) (.int .i64 v); clear hbz hzz hrz hdz; have n1' := Lib.hid n1; have n2' := Lib.hid n2; have n3' := Lib.hid n3; clear n1 n2 n3
                  go_wp2
                  go_roundw
                  case rel => exact ⟨m + 1, u + 1, _, by omega, by omega, hu1, by first | go_num | (congr 1; unfold wrap64; omega) | (simp [wrap64]; omega), hst', n1', n2', n3'⟩
                  case measure => simp [intOf]; omega
          · obtain rfl : k = 64 := by omega
            have hfin : blockS l last = .ok (b, u) := by rw [hres'.out, ← hrun.out]; exact blkL_full _ _ _ (Nat.le_refl _)
            have hfin' := Lib.hid hfin; clear hfin; obtain ⟨A, hA⟩ : ∃ A, (ints .i64 b).toArray = A := ⟨_, rfl⟩; have hbA := hzwr'.out.2; have hb64 := hzwr'.out.1; rw [hA] at hbA; have hAs : A.size = 64 := by rw [← hA]; exact ints_size hb64
            have hone : A.all (·.oneCell') = true := by rw [← hA]; exact ints_one'
            obtain ⟨Ty, ff, hnn2, hpr, hsurj⟩ := pr_worlds (fun W => Below w.heap.size w W ∧ Blk W w.heap.size 129 A ∧ Blk W rr 250 #[.slice a n c, .int .i64 (u : Int)]) wr ⟨hdwr'.out, hbA, hrwr'.out⟩; have hDq := (Below.refl (wr).heap.size wr).drew; obtain ⟨wD, hwD⟩ : ∃ W, (wr).drew = W := ⟨_, rfl⟩; rw [hwD] at hDq; have hCD := And.intro (hdwr'.out.trans (hDq.mono hdwr'.out.size)) (And.intro (hbA.late hDq) (hrwr'.out.late hDq)); have HS := Lib.hid (hsurj wD hCD); have z0 : ∀ s, (ff s).cell? ⟨rr, 1, none⟩ = some (.int .i64 (u : Int)) := fun s => (hpr s).2.2.cell rfl
            have z1 : ∀ W, (∃ u, W = ff u) → ∀ j v, (ints .i64 b)[j]? = some v → W.cell? ⟨w.heap.size, 0 + j, none⟩ = some v := fun W hW j v hv => by
              obtain ⟨u, rfl⟩ := hW; exact (hpr u).2.1.cell (by rw [Nat.zero_add, ← hA, List.getElem?_toArray]; exact hv)
            have hbi : (ints .i64 b).length = 64 := by rw [ints_len]; exact hb64
            have hCE := And.intro (rowBelow hCD.1 (g := w.heap.size) (Nat.le_refl _) A) (And.intro (Blk.rowH hCD.2.1 A) (hCD.2.2.but (but_rowH (b := w.heap.size) wD A) (by have := hrg'.out; omega))); have HS2 := Lib.hid (hsurj (wD.setRow w.heap.size A) hCE); clear hpr hsurj hDq hbA; have hA' := Lib.hid hA; have hb64' := Lib.hid hb64; have hAs' := Lib.hid hAs; have hone' := Lib.hid hone; have hwD' := Lib.hid hwD; have hCD' := Lib.hid hCD; have hCE' := Lib.hid hCE; have z1' := Lib.hid z1; have hbi' := Lib.hid hbi; clear hA hb64 hAs hone hwD hCD hCE z1 hbi
            go_upto_region 19 with fail
            refine held_begin (S := fun W => ∃ s, W = ff s) (by kernel_rfl) 8 rfl ?_; rw [hwD'.out]; refine held_take [0, 1, 2, 3, 4] 3 (by kernel_rfl) (fun d _ _ _ _ h => by cases d <;> exact h) (by kernel_rfl) (by kernel_rfl) (by kernel_rfl) HS.out ?_; simp only [pickL, List.map_cons, List.map_nil, List.getD_cons_succ, List.getD_cons_zero]; refine wpQuiet_load_at rfl 129 (.tmp 4) rfl w.heap.size 0 rfl (ints .i64 b) A hA'.out _ z1'.out Try.underlying129 rfl 64 infoB64 hbi'.out ?_; simp only [Act.put, List.setIfInBounds_toArray, List.set_cons_succ, List.set_cons_zero]
            iterate 4 (go_big_quiet_step (fail))
            refine wpQuiet_nil ?_; refine held_one 5 2 (by kernel_rfl) (by kernel_rfl) ?_; simp only [pickL, List.map_cons, List.map_nil, List.getD_cons_succ, List.getD_cons_zero]
            go_wp2_with (refine wpList_store_row rfl 129 (.tmp 4) (.tmp 78) rfl w.heap.size A rfl rfl 129 _ hCD'.out.2.1 (by rw [hAs'.out]; exact infoB64) rfl hone'.out ?_)
            refine Mid.mk ⟨HS2.out, ?_⟩; refine held_one 6 1 (by kernel_rfl) (by kernel_rfl) ?_; simp only [pickL, List.map_cons, List.map_nil, List.getD_cons_succ, List.getD_cons_zero]
            go_wp2_with fail
            refine Mid.mk ⟨HS2.out, ?_⟩; refine held_one 7 0 (by kernel_rfl) (by kernel_rfl) ?_; simp only [pickL, List.map_cons, List.map_nil, List.getD_cons_succ, List.getD_cons_zero]
            go_wp2_with fail
            refine Mid.mk ⟨HS2.out, ?_⟩; refine held_last (by kernel_rfl) ?_
            go_wp2
            refine bodyPost_ret (results_blk_tmp2 rfl _ _ w.heap.size 129 A _ rfl hCE'.out.2.1 Try.underlying129 rfl (by rw [hAs'.out]; exact infoB64)) rfl ?_; exact ⟨by rw [hfin'.out, ← hA'.out]; rfl, hCE'.out.1⟩
      · have hres := blockS_run hnn'.out hx hv hr
        have hr0 : 0 < x.2.1 / 16 := by have := hxo.2.1; omega
        obtain ⟨rn, hrn⟩ : ∃ z, x.2.1 / 16 = z := ⟨_, rfl⟩; rw [hrn] at hr0 ⊢; clear hbr4 hq hx hv hr hbr hxo hxv hrn; have hres' := Lib.hid hres; clear hres; have hrz := rowBelow hdw4'.out (g := w.heap.size) (Nat.le_refl _) z64
        go_wp2_with (refine wpList_store_row rfl 129 (.tmp 4) (.tmp 33) rfl w.heap.size z64 rfl rfl 129 _ hzw4'.out.2 (by kernel_rfl) (by first | (rw [ints_size hzw4'.out.1]; rfl) | rfl) (by kernel_rfl) ?_)
        go_wp2
        refine bodyPost_ret (results_blk_tmp2 rfl _ _ w.heap.size 129 z64 _ rfl (Blk.rowH hzw4'.out.2 _) Try.underlying129 rfl (by kernel_rfl)) rfl ?_; exact ⟨by rw [hres'.out]; rfl, hrz⟩
end Go.Proofs.Ytpjopeojeglogaa
