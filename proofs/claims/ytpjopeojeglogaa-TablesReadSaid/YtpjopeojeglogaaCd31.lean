/- Chapter 14: tables of codes read one behind the other: the program. -/
import Derived.Test.YtpjopeojeglogaaCd30
namespace Go.Proofs.Ytpjopeojeglogaa
open Go.RowKit Tt
set_option linter.unusedVariables false
set_option linter.unusedSimpArgs false

/-- tables whose symbols lie in rows of their own -/
def SymsOk (w : World) (B : Nat) (ms : List CdM) : Prop := ∀ x ∈ ms, x.1.2.2.1.length = 16 ∧ w.ownsRow B 3 1 (.slice x.2.1 x.2.2.1 x.2.2.2) x.2.2.1 (ints .i64 x.1.2.2.2)
theorem SymsOk.nil (w : World) (B : Nat) : SymsOk w B [] := fun x h => by cases h
theorem SymsOk.late {w w' : World} {B : Nat} {ms : List CdM} (h : SymsOk w B ms) (hb : Below w.heap.size w w') : SymsOk w' B ms := fun x hx => ⟨(h x hx).1, own_later (h x hx).2 hb⟩
theorem SymsOk.but {w w' : World} {B g : Nat} {ms : List CdM} {cs : Array Value} {T : TypeId} (h : SymsOk w B ms) (hb : But g w w') (hg : Blk w g T cs) (hT : 3 ≠ T) : SymsOk w' B ms := fun x hx => ⟨(h x hx).1, own_but (h x hx).2 hb (own_neB (h x hx).2 hg hT)⟩
theorem SymsOk.grown {w w' : World} {B B2 : Nat} {ms : List CdM} {E : TypeId} {sz n : Nat} {v : Value} {xs : List Value} (h : SymsOk w B ms) (ho : w.ownsRow B2 E sz v n xs) (hg : w.grownBy w' v.ownBlock) (hE : 3 ≠ E) : SymsOk w' B ms := fun x hx => ⟨(h x hx).1, (h x hx).2.kept hg (own_apart (h x hx).2 ho hE)⟩
theorem SymsOk.snoc {w : World} {B B2 : Nat} {ms : List CdM} {m : CdM} (h : SymsOk w B ms) (hl : m.1.2.2.1.length = 16) (hm : w.ownsRow B2 3 1 (.slice m.2.1 m.2.2.1 m.2.2.2) m.2.2.1 (ints .i64 m.1.2.2.2)) (hB : B ≤ B2) : SymsOk w B (ms ++ [m]) := fun x hx => by
  rcases List.mem_append.1 hx with hx | hx
  · exact h x hx
  · rw [List.mem_singleton.1 hx]; exact ⟨hl, own_mono hm hB⟩
/-- what rows that are read hand back -/
def ReadCR (t : Int × List Cdr) (w : World) (e : Ending) (w' : World) : Prop :=
  Below w.heap.size w w' ∧ ∃ a m c ms, e = .returned (.tuple #[.slice a m c, .int .i64 t.1]) ∧ w'.ownsRow (w.heap.size + 1) 165 19 (.slice a m c) m ((ms.map cMC).flatten) ∧ ms.map (·.1) = t.2 ∧ m = ms.length ∧ SymsOk w' w.heap.size ms
theorem infoC2 : (Try.prog.info? 165).map (fun i => (i.size, i.bytes)) = some (19, 168) := by kernel_rfl
theorem infoC3 : (Try.prog.info? 165).map (fun i => i.zero.map (fun z => z.cells.size)) = some (some 19) := by kernel_rfl
theorem zeroC19 : ((#[.int .i64 0, .int .i64 0, .int .i64 0, .int .i64 0, .int .i64 0, .int .i64 0, .int .i64 0, .int .i64 0, .int .i64 0, .int .i64 0, .int .i64 0, .int .i64 0, .int .i64 0, .int .i64 0, .int .i64 0, .int .i64 0, .int .i64 0, .int .i64 0, .slice none 0 0] : Array Value)).size = 19 := rfl
set_option maxRecDepth 100000 in
set_option maxHeartbeats 4000000 in
theorem preadC_any (a : Option Addr) (n c : Nat) (z : List Int) (w : World) (hs : Sl w a n c 1 (ints .u8 z)) (hlt : ∀ x, a = some x → x.block < w.heap.size) (hz : Byt z) (hn : n ≤ 100000) :
    Calls Try.prog 128 #[.slice a n c, .func (.func 129) #[] #[]] w (ReadCR (readAll takeC (n + 1) z) w) := by
  obtain ⟨i0, zq, hi, hiz, hq1, hq2, hq3⟩ := info_ofz infoC2 infoC3; have hzl := hs.ilen; obtain ⟨T, hT⟩ : ∃ T, readAll takeC (n + 1) z = T := ⟨_, rfl⟩; rw [hT]; have b1 := Blk.new w 189 #[.slice a n c]; have hb1 := (Below.refl w.heap.size w).alloc (Nat.le_refl _) (.cells #[.slice a n c] 189); obtain ⟨W1, hW1⟩ : ∃ W1, w.alloc (.cells #[.slice a n c] 189) = W1 := ⟨_, rfl⟩; rw [hW1] at b1 hb1; have hrd1 : Rd W1 w.heap.size a n c z := ⟨b1, hs.mono hb1, fun x hx => Nat.ne_of_lt (hlt x hx)⟩; clear b1; have hs' := Lib.hid hs; have hlt' := Lib.hid hlt; have hz' := Lib.hid hz; have hzl' := Lib.hid hzl; have hT' := Lib.hid hT; have hb1' := Lib.hid hb1; have hrd1' := Lib.hid hrd1; have hW1' := Lib.hid hW1; clear hs hlt hz hzl hT hb1 hrd1 hW1
  go_enter Try.func128, Try.ntmps128
  go_upto_region 2 with fail
  rw [hW1'.out]
  go_wp2
  go_loopw [7, 8, 9] (fun bv _ _ wr => ∃ (m nn : Nat) (a3 : Option Addr) (c3 : Nat) (a2 : Option Addr) (c2 : Nat) (ms : List CdM) (z2 : List Int), m + nn ≤ n ∧ bv = .slice a3 m c3 ∧ Hid (m = ms.length) ∧ Hid (wr.ownsRow (w.heap.size + 1) 165 19 (.slice a3 m c3) m ((ms.map cMC).flatten)) ∧ Hid (SymsOk wr w.heap.size ms) ∧ Hid (Rd wr w.heap.size a2 nn c2 z2) ∧ Hid (∀ x, a2 = some x → x.block < w.heap.size) ∧ Hid (Byt z2) ∧ Hid (ReadSt takeC T (ms.map (·.1)) m z2) ∧ Hid (Below w.heap.size w wr)) (fun bv _ _ _ => n + 1 - sliceLen bv)
  case atStart => exact ⟨0, n, none, 0, a, c, [], z, by omega, rfl, Lib.hid rfl, Lib.hid (own_nil _ _ _ _), Lib.hid (SymsOk.nil _ _), hrd1', hlt', hz', Lib.hid ⟨fun _ => ⟨n, by rw [hzl'.out]; exact Nat.le_refl _, by rw [List.map_nil, goOn_nil, hT'.out]⟩, fun h => absurd rfl h.1, fun _ => ⟨n, by rw [hzl'.out]; exact Nat.le_refl _, by rw [List.map_nil, goOn_nil, hT'.out]⟩⟩, hb1'⟩
  case round =>
    obtain ⟨m, nn, a3, c3, a2, c2, ms, z2, hmn, rfl, hml, Ob, hsy, hrd, hl2, hz2, hst3, hbel⟩ := hrel; have k0 : wr.cell? ⟨w.heap.size, 0, none⟩ = some (.slice a2 nn c2) := hrd.out.blk.cell rfl; have hz2l := hrd.out.sl.ilen
    by_cases hm0 : m = 0
    · have d1 : ((m : Int) == 0) = true := by simp; omega
      have hst := hst3.out.1 hm0; clear hm0; have hz2l' := Lib.hid hz2l; have hst3' := Lib.hid hst3; clear hz2l hst3; have HT := coderOf_any w.heap.size a2 nn c2 z2 wr hrd.out (fun x hx => Nat.lt_of_lt_of_le (hl2.out x hx) hbel.out.size) hz2.out (by omega); have HT' := Lib.hid HT; clear HT
      go_wp2_with fail
      refine HT'.out.mono ?_; intro e w2 h2; obtain ⟨mm, rfl, h16, bt, hok⟩ := h2; obtain ⟨cs, hcs⟩ : ∃ cs, (cMC mm).toArray = cs := ⟨_, rfl⟩; rw [hcs]; have hcsz : cs.size = 19 := by rw [← hcs]; simpa using cMC_len h16
      have hone : cs.all (·.oneCell') = true := by rw [← hcs]; exact cMC_one
      have hb2 := bt.below (B := w.heap.size) (Nat.le_refl _) (Nat.le_of_lt hrd.out.blk.lt); have hbw2 := hbel.out.trans hb2; have Ob2 := own_but Ob.out bt (own_neB Ob.out hrd.out.blk (by decide)); have So2 := hsy.out.but bt hrd.out.blk (by decide); have hwrs := hbel.out.size; have hsz2 : w.heap.size < w2.heap.size := Nat.lt_of_lt_of_le hrd.out.blk.lt bt.size; have hal := (Below.refl w2.heap.size w2).alloc (Nat.le_refl _) (.cells cs 165); obtain ⟨W3, hW3⟩ : ∃ W3, w2.alloc (.cells cs 165) = W3 := ⟨_, rfl⟩; have bQ := Blk.new w2 165 cs; rw [hW3] at hal bQ; have hbw3 := hbw2.trans (hal.mono (Nat.le_of_lt hsz2)); have Ob3 := own_later Ob2 hal; have So3 := So2.late hal; clear hb2; have bt' := Lib.hid bt; have hok' := Lib.hid hok; have hbw2' := Lib.hid hbw2; have Ob2' := Lib.hid Ob2; have So2' := Lib.hid So2; have hsz2' := Lib.hid hsz2; have hal' := Lib.hid hal; have hW3' := Lib.hid hW3; have bQ' := Lib.hid bQ; have hbw3' := Lib.hid hbw3; have Ob3' := Lib.hid Ob3; have So3' := Lib.hid So3; have hone' := Lib.hid hone; have hcsz' := Lib.hid hcsz; have hcs' := Lib.hid hcs; have h16' := Lib.hid h16; have hwrs' := Lib.hid hwrs; clear bt hok hbw2 Ob2 So2 hsz2 hal hW3 bQ hbw3 Ob3 So3 hone hcsz hcs h16 hwrs
      go_upto_region 5 with (refine wpList_store_row rfl 165 (.tmp 8) (.tmp 28) rfl w2.heap.size cs rfl rfl 165 #[.int .i64 0, .int .i64 0, .int .i64 0, .int .i64 0, .int .i64 0, .int .i64 0, .int .i64 0, .int .i64 0, .int .i64 0, .int .i64 0, .int .i64 0, .int .i64 0, .int .i64 0, .int .i64 0, .int .i64 0, .int .i64 0, .int .i64 0, .int .i64 0, .slice none 0 0] (heap_new _ _) (by rw [hcsz'.out]; exact infoC) (by rw [hcsz'.out]; exact zeroC19) hone'.out ?_)
      rw [setRow_alloc, hW3'.out]
      by_cases h0 : (takeC z2).1 = 0
      · obtain ⟨hx, hown, hk, a4, c4, hrd2, i4⟩ := hok'.out h0
        rw [h0]; obtain ⟨kk, hkk⟩ : ∃ kk, (takeC z2).2.2 = kk := ⟨_, rfl⟩; rw [hkk] at hk hrd2; have hk0 : 0 < kk := by rw [← hkk]; exact (takeC_ok z2 h0).1
        have hxl : (cMC mm).length = 19 := cMC_len h16'.out; have fcs : ∀ j v, (cMC mm)[j]? = some v → W3.cell? ⟨w2.heap.size, 0 + j, none⟩ = some v := fun j v hv => bQ'.out.cell (by rw [← hcs'.out, Nat.zero_add, List.getElem?_toArray]; exact hv); have hl4 := in_lt i4 hl2.out; have hrd3 : Rd W3 w.heap.size a4 (nn - kk) c4 (z2.drop kk) := ⟨hrd2.blk.late hal'.out, hrd2.sl.mono hal'.out, hrd2.ne⟩; have hown3 := own_later hown hal'.out; have hal5 := (Below.refl W3.heap.size W3).alloc (Nat.le_refl _) (.cells cs 165); have sl5 := Sl.new W3 165 19 1 cs (0, 0) (by omega) (by rw [hcsz'.out]); obtain ⟨W4, hW4⟩ : ∃ W4, W3.alloc (.cells cs 165) = W4 := ⟨_, rfl⟩; rw [hW4] at hal5 sl5; have hrd5 : Rd W4 w.heap.size a4 (nn - kk) c4 (z2.drop kk) := ⟨hrd3.blk.late hal5, hrd3.sl.mono hal5, hrd3.ne⟩; have hbw5 := hbw3'.out.trans (hal5.mono hbw3'.out.size); have Ob5 := own_later Ob3'.out hal5; have So5 := (So3'.out.late hal5).snoc h16'.out (own_later hown3 hal5) hwrs'.out; have hsz5 : w.heap.size + 1 ≤ W4.heap.size := hrd5.blk.lt; have hone2 : ∀ u ∈ cs.toList, u.oneCell' = true := fun u hu => Array.all_eq_true_iff_forall_mem.1 hone'.out u (by simpa using hu); have hzl2 := hrd.out.sl.ilen; clear hrd2 hrd3 hown hown3; have hx' := Lib.hid hx; have hkk' := Lib.hid hkk; have hxl' := Lib.hid hxl; have fcs' := Lib.hid fcs; have hl4' := Lib.hid hl4; have hal5' := Lib.hid hal5; have sl5' := Lib.hid sl5; have hW4' := Lib.hid hW4; have hrd5' := Lib.hid hrd5; have hbw5' := Lib.hid hbw5; have Ob5' := Lib.hid Ob5; have So5' := Lib.hid So5; have hone2' := Lib.hid hone2; have hzl2' := Lib.hid hzl2; clear hx hkk hxl fcs hl4 hal5 sl5 hW4 hrd5 hbw5 Ob5 So5 hone2 hzl2
        go_wp2_with (first
          | (refine wpList_load_at rfl 165 (.tmp 8) rfl w2.heap.size 0 rfl (cMC mm) cs hcs'.out _ fcs'.out Try.underlying165 rfl 19 infoC hxl'.out ?_)
          | (refine wpList_buildOne rfl 53 165 (.tmp 34) rfl cs rfl i0 zq 19 Try.underlying53 hi hiz hq1 (by decide) (by decide) hcsz'.out ?_; rw [hW4'.out])
          | (at_builtin; go_loud (refine wpList_app rfl _ _ 53 rfl (w.heap.size + 1) 165 i0 _ 19 168 Try.underlying53 hi hiz hq1 hq2 hq3 (by decide) _ m _ rfl Ob5'.out _ 1 1 _ rfl sl5'.out hone2'.out (by omega) (by decide) hsz5 ?_); intro a6 c6 w6 ob6 hb6 hg6; have Ob6 := Lib.hid ob6; have Hb6 := Lib.hid hb6; have So6 := Lib.hid (So5'.out.grown Ob5'.out hg6 (by decide)); clear ob6 hb6 hg6))
        have hbw6 := hbw5'.out.trans (Hb6.out.mono (Nat.le_succ _)); have hrd6 : Rd w6 w.heap.size a4 (nn - kk) c4 (z2.drop kk) := ⟨hrd5'.out.blk.mono Hb6.out (Nat.lt_succ_self _), sl_monoB hrd5'.out.sl (fun x hx => Nat.lt_succ_of_lt (hl4'.out x hx)) Hb6.out, hrd5'.out.ne⟩; have hz6 : Byt (z2.drop kk) := hz2.out.drop _
        have Ob7 : w6.ownsRow (w.heap.size + 1) 165 19 (.slice a6 (m + 1) c6) (m + 1) (((ms ++ [mm]).map cMC).flatten) := by
          have h := Ob6.out; rw [← hcs'.out, List.toList_toArray] at h
          simpa using h
        have hmap : (ms ++ [mm]).map (·.1) = ms.map (·.1) ++ [(takeC z2).2.1] := by rw [List.map_append, ← hx'.out]; rfl
        have hst6 : (z2.drop kk = [] → T = (0, (ms ++ [mm]).map (·.1))) ∧ (z2.drop kk ≠ [] → ∃ f, (z2.drop kk).length ≤ f ∧ T = goOn ((ms ++ [mm]).map (·.1)) (readAll takeC (f + 1) (z2.drop kk))) := by
          obtain ⟨f, hf, hT⟩ := hst; rw [hmap]
          constructor
          · intro h
            have hle : z2.length ≤ kk := List.drop_eq_nil_iff.1 h; exact goOn_end hT h0 (by rw [hkk'.out]; exact hle)
          · intro h
            have hle : ¬ z2.length ≤ kk := fun h1 => h (List.drop_eq_nil_iff.2 h1); have hT2 := goOn_on hT h0 (by rw [hkk'.out]; exact hle); rw [hkk'.out] at hT2
            cases f with
            | zero => omega
            | succ f => exact ⟨f, by rw [List.length_drop]; omega, hT2⟩
        have hlt6 : m + 1 + (nn - kk) ≤ n := by omega
        have hml6 : m + 1 = (ms ++ [mm]).length := by simp; exact hml.out
        have hbw6' := Lib.hid hbw6; have hrd6' := Lib.hid hrd6; have hz6' := Lib.hid hz6; have Ob7' := Lib.hid Ob7; have hst6' := Lib.hid hst6; have hml6' := Lib.hid hml6; clear hbw6 hrd6 hz6 Ob7 hst6 hml6
        go_roundw
        case rel => exact ⟨m + 1, nn - kk, a6, c6, a4, c4, ms ++ [mm], z2.drop kk, hlt6, rfl, hml6', Ob7', So6, hrd6', hl4', hz6', Lib.hid ⟨fun h => absurd h (Nat.succ_ne_zero m), fun h => hst6'.out.1 h.2, fun h => hst6'.out.2 h⟩, hbw6'⟩
        case measure => simp [sliceLen]; omega
      · have hnb : ((takeC z2).1 != 0) = true := by simpa using h0
        obtain ⟨f, hf, hT⟩ := hst; have hTe := goOn_err hT h0; clear hT; have hTe' := Lib.hid hTe; clear hTe
        go_wp2
        go_ret2
        exact ⟨hbw3'.out, none, 0, 0, [], by rw [hTe'.out]; rfl, own_nil _ _ _ _, by rw [hTe'.out]; rfl, rfl, SymsOk.nil _ _⟩
    · have d1 : ((m : Int) == 0) = false := by simp; omega
      by_cases hn0 : nn = 0
      · have d2 : decide ((0 : Int) < nn) = false := by simp; omega
        have hTe := hst3.out.2.1 ⟨hm0, List.eq_nil_of_length_eq_zero (by rw [hz2l, hn0])⟩; have hz2l' := Lib.hid hz2l; have hTe' := Lib.hid hTe; clear hz2l hTe
        go_wp2
        go_ret2
        exact ⟨hbel.out, a3, m, c3, ms, by rw [hTe'.out]; rfl, Ob.out, by rw [hTe'.out], hml.out, hsy.out⟩
      · have d2 : decide ((0 : Int) < nn) = true := by simp; omega
        have hst := hst3.out.2.2 (fun h => hn0 (by rw [← hz2l, h]; rfl)); have hz2l' := Lib.hid hz2l; have hst3' := Lib.hid hst3; clear hz2l hst3; have HT := coderOf_any w.heap.size a2 nn c2 z2 wr hrd.out (fun x hx => Nat.lt_of_lt_of_le (hl2.out x hx) hbel.out.size) hz2.out (by omega); have HT' := Lib.hid HT; clear HT
        go_wp2_with fail
        refine HT'.out.mono ?_; intro e w2 h2; obtain ⟨mm, rfl, h16, bt, hok⟩ := h2; obtain ⟨cs, hcs⟩ : ∃ cs, (cMC mm).toArray = cs := ⟨_, rfl⟩; rw [hcs]; have hcsz : cs.size = 19 := by rw [← hcs]; simpa using cMC_len h16
        have hone : cs.all (·.oneCell') = true := by rw [← hcs]; exact cMC_one
        have hb2 := bt.below (B := w.heap.size) (Nat.le_refl _) (Nat.le_of_lt hrd.out.blk.lt); have hbw2 := hbel.out.trans hb2; have Ob2 := own_but Ob.out bt (own_neB Ob.out hrd.out.blk (by decide)); have So2 := hsy.out.but bt hrd.out.blk (by decide); have hwrs := hbel.out.size; have hsz2 : w.heap.size < w2.heap.size := Nat.lt_of_lt_of_le hrd.out.blk.lt bt.size; have hal := (Below.refl w2.heap.size w2).alloc (Nat.le_refl _) (.cells cs 165); obtain ⟨W3, hW3⟩ : ∃ W3, w2.alloc (.cells cs 165) = W3 := ⟨_, rfl⟩; have bQ := Blk.new w2 165 cs; rw [hW3] at hal bQ; have hbw3 := hbw2.trans (hal.mono (Nat.le_of_lt hsz2)); have Ob3 := own_later Ob2 hal; have So3 := So2.late hal; clear hb2; have bt' := Lib.hid bt; have hok' := Lib.hid hok; have hbw2' := Lib.hid hbw2; have Ob2' := Lib.hid Ob2; have So2' := Lib.hid So2; have hsz2' := Lib.hid hsz2; have hal' := Lib.hid hal; have hW3' := Lib.hid hW3; have bQ' := Lib.hid bQ; have hbw3' := Lib.hid hbw3; have Ob3' := Lib.hid Ob3; have So3' := Lib.hid So3; have hone' := Lib.hid hone; have hcsz' := Lib.hid hcsz; have hcs' := Lib.hid hcs; have h16' := Lib.hid h16; have hwrs' := Lib.hid hwrs; clear bt hok hbw2 Ob2 So2 hsz2 hal hW3 bQ hbw3 Ob3 So3 hone hcsz hcs h16 hwrs
        go_upto_region 5 with (refine wpList_store_row rfl 165 (.tmp 8) (.tmp 28) rfl w2.heap.size cs rfl rfl 165 #[.int .i64 0, .int .i64 0, .int .i64 0, .int .i64 0, .int .i64 0, .int .i64 0, .int .i64 0, .int .i64 0, .int .i64 0, .int .i64 0, .int .i64 0, .int .i64 0, .int .i64 0, .int .i64 0, .int .i64 0, .int .i64 0, .int .i64 0, .int .i64 0, .slice none 0 0] (heap_new _ _) (by rw [hcsz'.out]; exact infoC) (by rw [hcsz'.out]; exact zeroC19) hone'.out ?_)
        rw [setRow_alloc, hW3'.out]
        by_cases h0 : (takeC z2).1 = 0
        · obtain ⟨hx, hown, hk, a4, c4, hrd2, i4⟩ := hok'.out h0
          rw [h0]; obtain ⟨kk, hkk⟩ : ∃ kk, (takeC z2).2.2 = kk := ⟨_, rfl⟩; rw [hkk] at hk hrd2; have hk0 : 0 < kk := by rw [← hkk]; exact (takeC_ok z2 h0).1
          have hxl : (cMC mm).length = 19 := cMC_len h16'.out; have fcs : ∀ j v, (cMC mm)[j]? = some v → W3.cell? ⟨w2.heap.size, 0 + j, none⟩ = some v := fun j v hv => bQ'.out.cell (by rw [← hcs'.out, Nat.zero_add, List.getElem?_toArray]; exact hv); have hl4 := in_lt i4 hl2.out; have hrd3 : Rd W3 w.heap.size a4 (nn - kk) c4 (z2.drop kk) := ⟨hrd2.blk.late hal'.out, hrd2.sl.mono hal'.out, hrd2.ne⟩; have hown3 := own_later hown hal'.out; have hal5 := (Below.refl W3.heap.size W3).alloc (Nat.le_refl _) (.cells cs 165); have sl5 := Sl.new W3 165 19 1 cs (0, 0) (by omega) (by rw [hcsz'.out]); obtain ⟨W4, hW4⟩ : ∃ W4, W3.alloc (.cells cs 165) = W4 := ⟨_, rfl⟩; rw [hW4] at hal5 sl5; have hrd5 : Rd W4 w.heap.size a4 (nn - kk) c4 (z2.drop kk) := ⟨hrd3.blk.late hal5, hrd3.sl.mono hal5, hrd3.ne⟩; have hbw5 := hbw3'.out.trans (hal5.mono hbw3'.out.size); have Ob5 := own_later Ob3'.out hal5; have So5 := (So3'.out.late hal5).snoc h16'.out (own_later hown3 hal5) hwrs'.out; have hsz5 : w.heap.size + 1 ≤ W4.heap.size := hrd5.blk.lt; have hone2 : ∀ u ∈ cs.toList, u.oneCell' = true := fun u hu => Array.all_eq_true_iff_forall_mem.1 hone'.out u (by simpa using hu); have hzl2 := hrd.out.sl.ilen; clear hrd2 hrd3 hown hown3; have hx' := Lib.hid hx; have hkk' := Lib.hid hkk; have hxl' := Lib.hid hxl; have fcs' := Lib.hid fcs; have hl4' := Lib.hid hl4; have hal5' := Lib.hid hal5; have sl5' := Lib.hid sl5; have hW4' := Lib.hid hW4; have hrd5' := Lib.hid hrd5; have hbw5' := Lib.hid hbw5; have Ob5' := Lib.hid Ob5; have So5' := Lib.hid So5; have hone2' := Lib.hid hone2; have hzl2' := Lib.hid hzl2; clear hx hkk hxl fcs hl4 hal5 sl5 hW4 hrd5 hbw5 Ob5 So5 hone2 hzl2
          go_wp2_with (first
            | (refine wpList_load_at rfl 165 (.tmp 8) rfl w2.heap.size 0 rfl (cMC mm) cs hcs'.out _ fcs'.out Try.underlying165 rfl 19 infoC hxl'.out ?_)
            | (refine wpList_buildOne rfl 53 165 (.tmp 34) rfl cs rfl i0 zq 19 Try.underlying53 hi hiz hq1 (by decide) (by decide) hcsz'.out ?_; rw [hW4'.out])
            | (at_builtin; go_loud (refine wpList_app rfl _ _ 53 rfl (w.heap.size + 1) 165 i0 _ 19 168 Try.underlying53 hi hiz hq1 hq2 hq3 (by decide) _ m _ rfl Ob5'.out _ 1 1 _ rfl sl5'.out hone2'.out (by omega) (by decide) hsz5 ?_); intro a6 c6 w6 ob6 hb6 hg6; have Ob6 := Lib.hid ob6; have Hb6 := Lib.hid hb6; have So6 := Lib.hid (So5'.out.grown Ob5'.out hg6 (by decide)); clear ob6 hb6 hg6))
          have hbw6 := hbw5'.out.trans (Hb6.out.mono (Nat.le_succ _)); have hrd6 : Rd w6 w.heap.size a4 (nn - kk) c4 (z2.drop kk) := ⟨hrd5'.out.blk.mono Hb6.out (Nat.lt_succ_self _), sl_monoB hrd5'.out.sl (fun x hx => Nat.lt_succ_of_lt (hl4'.out x hx)) Hb6.out, hrd5'.out.ne⟩; have hz6 : Byt (z2.drop kk) := hz2.out.drop _
          have Ob7 : w6.ownsRow (w.heap.size + 1) 165 19 (.slice a6 (m + 1) c6) (m + 1) (((ms ++ [mm]).map cMC).flatten) := by
            have h := Ob6.out; rw [← hcs'.out, List.toList_toArray] at h
            simpa using h
          have hmap : (ms ++ [mm]).map (·.1) = ms.map (·.1) ++ [(takeC z2).2.1] := by rw [List.map_append, ← hx'.out]; rfl
          have hst6 : (z2.drop kk = [] → T = (0, (ms ++ [mm]).map (·.1))) ∧ (z2.drop kk ≠ [] → ∃ f, (z2.drop kk).length ≤ f ∧ T = goOn ((ms ++ [mm]).map (·.1)) (readAll takeC (f + 1) (z2.drop kk))) := by
            obtain ⟨f, hf, hT⟩ := hst; rw [hmap]
            constructor
            · intro h
              have hle : z2.length ≤ kk := List.drop_eq_nil_iff.1 h; exact goOn_end hT h0 (by rw [hkk'.out]; exact hle)
            · intro h
              have hle : ¬ z2.length ≤ kk := fun h1 => h (List.drop_eq_nil_iff.2 h1); have hT2 := goOn_on hT h0 (by rw [hkk'.out]; exact hle); rw [hkk'.out] at hT2
              cases f with
              | zero => omega
              | succ f => exact ⟨f, by rw [List.length_drop]; omega, hT2⟩
          have hlt6 : m + 1 + (nn - kk) ≤ n := by omega
          have hml6 : m + 1 = (ms ++ [mm]).length := by simp; exact hml.out
          have hbw6' := Lib.hid hbw6; have hrd6' := Lib.hid hrd6; have hz6' := Lib.hid hz6; have Ob7' := Lib.hid Ob7; have hst6' := Lib.hid hst6; have hml6' := Lib.hid hml6; clear hbw6 hrd6 hz6 Ob7 hst6 hml6
          go_roundw
          case rel => exact ⟨m + 1, nn - kk, a6, c6, a4, c4, ms ++ [mm], z2.drop kk, hlt6, rfl, hml6', Ob7', So6, hrd6', hl4', hz6', Lib.hid ⟨fun h => absurd h (Nat.succ_ne_zero m), fun h => hst6'.out.1 h.2, fun h => hst6'.out.2 h⟩, hbw6'⟩
          case measure => simp [sliceLen]; omega
        · have hnb : ((takeC z2).1 != 0) = true := by simpa using h0
          obtain ⟨f, hf, hT⟩ := hst; have hTe := goOn_err hT h0; clear hT; have hTe' := Lib.hid hTe; clear hTe
          go_wp2
          go_ret2
          exact ⟨hbw3'.out, none, 0, 0, [], by rw [hTe'.out]; rfl, own_nil _ _ _ _, by rw [hTe'.out]; rfl, rfl, SymsOk.nil _ _⟩
theorem readCoders_any (a : Option Addr) (n c : Nat) (z : List Int) (w : World) (hs : Sl w a n c 1 (ints .u8 z)) (hlt : ∀ x, a = some x → x.block < w.heap.size) (hz : Byt z) (hn : n ≤ 100000) :
    Calls Try.prog 49 #[.slice a n c] w (ReadCR (readAll takeC (n + 1) z) w) := by
  have HP := preadC_any a n c z w hs hlt hz hn; obtain ⟨T, hT⟩ : ∃ T, readAll takeC (n + 1) z = T := ⟨_, rfl⟩; rw [hT] at HP ⊢; have HP' := Lib.hid HP; have hT' := Lib.hid hT; have hs' := Lib.hid hs; have hlt' := Lib.hid hlt; have hz' := Lib.hid hz; clear HP hT hs hlt hz
  go_enter Try.func49, Try.ntmps49
  go_wp2_with fail
  refine HP'.out.mono ?_; intro e w2 h2; obtain ⟨hb, a2, m2, c2, ms, rfl, ho, hm, hl, hsy⟩ := h2; have hb' := Lib.hid hb; have ho' := Lib.hid ho; have hm' := Lib.hid hm; have hl' := Lib.hid hl; have hsy' := Lib.hid hsy; clear hb ho hm hl hsy
  go_wp2
  go_ret2
  exact ⟨hb'.out, a2, m2, c2, ms, rfl, ho'.out, hm'.out, hl'.out, hsy'.out⟩
end Go.Proofs.Ytpjopeojeglogaa
