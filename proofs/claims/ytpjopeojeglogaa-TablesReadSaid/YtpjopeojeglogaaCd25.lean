/- Chapter 14: tables read one behind the other: the program. -/
import Derived.Great.BuildSlice
import Derived.Test.YtpjopeojeglogaaCd23
import Derived.Test.YtpjopeojeglogaaCd24
namespace Tt
open Go Go.RowKit
set_option linter.unusedVariables false
set_option linter.unusedSimpArgs false
theorem fill_one (sz : Nat) (Z B : Array Value) (hZ : Z.size = sz) (hB : B.size = sz) : Instr.fill (fun i => some (i * sz, sz)) Z [(0, .agg B)] = some B := by
  simp only [Instr.fill, Value.cells, Nat.zero_mul, Nat.zero_add]; rw [if_neg (by simp [hZ, hB])]
  congr 1
  apply Array.ext'
  have hF : Array.foldl (fun cs (x : Value × Nat) => cs.setIfInBounds x.snd x.fst) Z B.zipIdx = List.foldl (fun cs (x : Value × Nat) => cs.setIfInBounds (0 + x.snd) x.fst) Z (B.toList.zipIdx) := by
    rw [← Array.foldl_toList]
    simp
  rw [hF, fold_set 0 B.toList 0 Z (by simp [hZ, hB])]
  simp [hZ, hB]
section
variable {P : Program} {ops : Array Oper} {rest : List Oper} {o : Oper} {a : Act} {w : World} {Q : Exit → Act → World → Prop}
theorem wpList_buildOne (hg : o.guard = none) (t e : TypeId) (x : Operand) (ho : o.op = .buildSlice t 1 #[(0, x)]) (B : Array Value) (hx : a.eval x = .agg B) (ie : TypeInfo) (z : Value) (sz : Nat) (hu : P.underlying t = some (.slice e)) (hie : P.info? e = some ie) (hz : ie.zero = some z) (hsz : ie.size = sz) (h0 : 0 < sz) (h1 : sz ≤ 1000) (hB : B.size = sz)
    (h : wpList P ops Q rest (a.put o.dst (.slice (some ⟨w.heap.size, 0, none⟩) 1 1)) (w.alloc (.cells B e))) : wpList P ops Q (o :: rest) a w := by
  subst hsz; refine wpList_buildSlice hg t e 1 #[(0, x)] ho B ie z hu hie hz (by omega) (by omega) ?_ h; have e1 : (#[(0, x)].map fun (i, x) => (i, a.eval x)).toList = [(0, Value.agg B)] := by simp [hx]
  rw [e1]; exact fill_one ie.size _ B (by simp) hB
end
end Tt
namespace Go.Proofs.Ytpjopeojeglogaa
open Go.RowKit Tt
set_option linter.unusedVariables false
set_option linter.unusedSimpArgs false

def goOn {α : Type} (l : List α) (t : Int × List α) : Int × List α := if t.1 = 0 then (0, l ++ t.2) else (t.1, [])
theorem readAll_step {α : Type} (take : List Int → Int × α × Nat) (f : Nat) (b : List Int) : readAll take (f + 1) b = if (take b).1 = 0 then (if b.length ≤ (take b).2.2 then (0, [(take b).2.1]) else (if (readAll take f (b.drop (take b).2.2)).1 = 0 then (0, (take b).2.1 :: (readAll take f (b.drop (take b).2.2)).2) else ((readAll take f (b.drop (take b).2.2)).1, []))) else ((take b).1, []) := rfl
theorem goOn_err {α : Type} {take : List Int → Int × α × Nat} {f : Nat} {l : List α} {z : List Int} {T : Int × List α} (h : T = goOn l (readAll take (f + 1) z)) (h0 : (take z).1 ≠ 0) : T = ((take z).1, []) := by
  rw [h, readAll_step, if_neg h0]; unfold goOn; rw [if_neg h0]
theorem goOn_end {α : Type} {take : List Int → Int × α × Nat} {f : Nat} {l : List α} {z : List Int} {T : Int × List α} (h : T = goOn l (readAll take (f + 1) z)) (h0 : (take z).1 = 0) (hk : z.length ≤ (take z).2.2) : T = (0, l ++ [(take z).2.1]) := by
  rw [h, readAll_step, if_pos h0, if_pos hk]
  rfl
theorem goOn_on {α : Type} {take : List Int → Int × α × Nat} {f : Nat} {l : List α} {z : List Int} {T : Int × List α} (h : T = goOn l (readAll take (f + 1) z)) (h0 : (take z).1 = 0) (hk : ¬ z.length ≤ (take z).2.2) : T = goOn (l ++ [(take z).2.1]) (readAll take f (z.drop (take z).2.2)) := by
  rw [h, readAll_step, if_pos h0, if_neg hk]
  generalize readAll take f (z.drop (take z).2.2) = r
  unfold goOn
  by_cases h1 : r.1 = 0
  · rw [if_pos h1, if_pos rfl, if_pos h1, List.append_assoc]
    rfl
  · rw [if_neg h1, if_neg h1, if_neg h1]
theorem readAll_err {α : Type} {take : List Int → Int × α × Nat} : ∀ (f : Nat) (b : List Int), (readAll take f b).1 ≠ 0 → (readAll take f b).2 = []
  | 0, _, _ => rfl
  | f + 1, b, h => by
    rw [readAll_step] at h ⊢
    split at h
    · split at h
      · exact absurd rfl h
      · split at h
        · exact absurd rfl h
        · rename_i h1 h2 h3
          rw [if_pos h1, if_neg h2, if_neg h3]
    · rename_i h1
      rw [if_neg h1]
theorem goOn_nil {α : Type} (take : List Int → Int × α × Nat) (f : Nat) (b : List Int) : goOn [] (readAll take f b) = readAll take f b := by
  unfold goOn
  by_cases h : (readAll take f b).1 = 0
  · rw [if_pos h, List.nil_append]
    exact Prod.ext h.symm rfl
  · rw [if_neg h]
    exact Prod.ext rfl (readAll_err f b h).symm
/-- how far the rows are read -/
def ReadSt {α : Type} (take : List Int → Int × α × Nat) (T : Int × List α) (l : List α) (m : Nat) (z : List Int) : Prop :=
  (m = 0 → ∃ f, z.length ≤ f ∧ T = goOn l (readAll take (f + 1) z)) ∧ (m ≠ 0 ∧ z = [] → T = (0, l)) ∧ (z ≠ [] → ∃ f, z.length ≤ f ∧ T = goOn l (readAll take (f + 1) z))
/-- what rows that are read hand back -/
def ReadR {α : Type} (E : TypeId) (sz : Nat) (C : α → List Value) (t : Int × List α) (w : World) (e : Ending) (w' : World) : Prop :=
  Below w.heap.size w w' ∧ ∃ a m c, e = .returned (.tuple #[.slice a m c, .int .i64 t.1]) ∧ w'.ownsRow (w.heap.size + 1) E sz (.slice a m c) m ((t.2.map C).flatten) ∧ m = t.2.length
def sliceLen : Value → Nat
  | .slice _ m _ => m
  | _ => 0
theorem infoQ2 : (Try.prog.info? 172).map (fun i => (i.size, i.bytes)) = some (65, 520) := by kernel_rfl
theorem infoQ3 : (Try.prog.info? 172).map (fun i => i.zero.map (fun z => z.cells.size)) = some (some 65) := by kernel_rfl
theorem info_ofz {T : TypeId} {sz by_ : Nat} (h1 : (Try.prog.info? T).map (fun i => (i.size, i.bytes)) = some (sz, by_)) (h2 : (Try.prog.info? T).map (fun i => i.zero.map (fun z => z.cells.size)) = some (some sz)) :
    ∃ (i : TypeInfo) (z : Value), Try.prog.info? T = some i ∧ i.zero = some z ∧ i.size = sz ∧ i.bytes = by_ ∧ z.cells.size = sz := by
  cases hi : Try.prog.info? T with
  | none => rw [hi] at h1; cases h1
  | some i =>
    rw [hi] at h1 h2; simp only [Option.map_some, Option.some.injEq, Prod.mk.injEq] at h1 h2
    cases hz : i.zero with
    | none => rw [hz] at h2; cases h2
    | some z =>
      rw [hz] at h2; simp only [Option.map_some, Option.some.injEq] at h2; exact ⟨i, z, rfl, hz, h1.1, h1.2, h2⟩
theorem takeQ_ok (z : List Int) (h : (takeQ z).1 = 0) : 0 < (takeQ z).2.2 ∧ (qC (takeQ z).2.1).length = 65 := by
  unfold takeQ at h ⊢
  by_cases h1 : z.length < 65
  · rw [if_pos h1] at h; cases h
  · rw [if_neg h1] at h ⊢
    by_cases h2 : qOk (z.getD 0 0, frZ ((z.drop 1).take 64)) = true
    · rw [if_pos h2]
      exact ⟨Nat.succ_pos 64, qC_len (frZ_len _)⟩
    · rw [if_neg h2] at h; cases h
set_option maxRecDepth 100000 in
set_option maxHeartbeats 4000000 in
theorem preadQ_any (a : Option Addr) (n c : Nat) (z : List Int) (w : World) (hs : Sl w a n c 1 (ints .u8 z)) (hlt : ∀ x, a = some x → x.block < w.heap.size) (hz : Byt z) (hn : n ≤ 100000) :
    Calls Try.prog 125 #[.slice a n c, .func (.func 126) #[] #[]] w (ReadR 172 65 qC (readAll takeQ (n + 1) z) w) := by
  obtain ⟨i0, zq, hi, hiz, hq1, hq2, hq3⟩ := info_ofz infoQ2 infoQ3; have hzl := hs.ilen; obtain ⟨T, hT⟩ : ∃ T, readAll takeQ (n + 1) z = T := ⟨_, rfl⟩; rw [hT]; have b1 := Blk.new w 189 #[.slice a n c]; have hb1 := (Below.refl w.heap.size w).alloc (Nat.le_refl _) (.cells #[.slice a n c] 189); obtain ⟨W1, hW1⟩ : ∃ W1, w.alloc (.cells #[.slice a n c] 189) = W1 := ⟨_, rfl⟩; rw [hW1] at b1 hb1; have hrd1 : Rd W1 w.heap.size a n c z := ⟨b1, hs.mono hb1, fun x hx => Nat.ne_of_lt (hlt x hx)⟩; clear b1; have hs' := Lib.hid hs; have hlt' := Lib.hid hlt; have hz' := Lib.hid hz; have hzl' := Lib.hid hzl; have hT' := Lib.hid hT; have hb1' := Lib.hid hb1; have hrd1' := Lib.hid hrd1; have hW1' := Lib.hid hW1; clear hs hlt hz hzl hT hb1 hrd1 hW1
  go_enter Try.func125, Try.ntmps125
  go_upto_region 2 with fail
  rw [hW1'.out]
  go_wp2
  go_loopw [7, 8, 9] (fun bv _ _ wr => ∃ (m nn : Nat) (a3 : Option Addr) (c3 : Nat) (a2 : Option Addr) (c2 : Nat) (l : List Qt64) (z2 : List Int), m + nn ≤ n ∧ bv = .slice a3 m c3 ∧ Hid (m = l.length) ∧ Hid (wr.ownsRow (w.heap.size + 1) 172 65 (.slice a3 m c3) m ((l.map qC).flatten)) ∧ Hid (Rd wr w.heap.size a2 nn c2 z2) ∧ Hid (∀ x, a2 = some x → x.block < w.heap.size) ∧ Hid (Byt z2) ∧ Hid (ReadSt takeQ T l m z2) ∧ Hid (Below w.heap.size w wr)) (fun bv _ _ _ => n + 1 - sliceLen bv)
  case atStart => exact ⟨0, n, none, 0, a, c, [], z, by omega, rfl, Lib.hid rfl, Lib.hid (own_nil _ _ _ _), hrd1', hlt', hz', Lib.hid ⟨fun _ => ⟨n, by rw [hzl'.out]; exact Nat.le_refl _, by rw [goOn_nil, hT'.out]⟩, fun h => absurd rfl h.1, fun _ => ⟨n, by rw [hzl'.out]; exact Nat.le_refl _, by rw [goOn_nil, hT'.out]⟩⟩, hb1'⟩
  case round =>
    obtain ⟨m, nn, a3, c3, a2, c2, l, z2, hmn, rfl, hml, Ob, hrd, hl2, hz2, hst3, hbel⟩ := hrel; have k0 : wr.cell? ⟨w.heap.size, 0, none⟩ = some (.slice a2 nn c2) := hrd.out.blk.cell rfl; have hz2l := hrd.out.sl.ilen
    by_cases hm0 : m = 0
    · have d1 : ((m : Int) == 0) = true := by simp; omega
      have hst := hst3.out.1 hm0; clear hm0; have hz2l' := Lib.hid hz2l; have hst3' := Lib.hid hst3; clear hz2l hst3; have HT := quantOf_any w.heap.size a2 nn c2 z2 wr hrd.out (fun x hx => Nat.lt_of_lt_of_le (hl2.out x hx) hbel.out.size) hz2.out (by omega); have HT' := Lib.hid HT; clear HT
      go_wp2_with fail
      refine HT'.out.mono ?_; rintro e w2 ⟨cs, rfl, hcsz, hone, bt, hok⟩; have hb2 := bt.below (B := w.heap.size) (Nat.le_refl _) (Nat.le_of_lt hrd.out.blk.lt); have hbw2 := hbel.out.trans hb2; have Ob2 := own_but Ob.out bt (own_neB Ob.out hrd.out.blk (by decide)); have hsz2 : w.heap.size < w2.heap.size := Nat.lt_of_lt_of_le hrd.out.blk.lt bt.size; have hal := (Below.refl w2.heap.size w2).alloc (Nat.le_refl _) (.cells cs 172); obtain ⟨W3, hW3⟩ : ∃ W3, w2.alloc (.cells cs 172) = W3 := ⟨_, rfl⟩; have bQ := Blk.new w2 172 cs; rw [hW3] at hal bQ; have hbw3 := hbw2.trans (hal.mono (Nat.le_of_lt hsz2)); have Ob3 := own_later Ob2 hal; clear hb2; have bt' := Lib.hid bt; have hok' := Lib.hid hok; have hbw2' := Lib.hid hbw2; have Ob2' := Lib.hid Ob2; have hsz2' := Lib.hid hsz2; have hal' := Lib.hid hal; have hW3' := Lib.hid hW3; have bQ' := Lib.hid bQ; have hbw3' := Lib.hid hbw3; have Ob3' := Lib.hid Ob3; have hone' := Lib.hid hone; have hcsz' := Lib.hid hcsz; clear bt hok hbw2 Ob2 hsz2 hal hW3 bQ hbw3 Ob3 hone hcsz
      go_upto_region 5 with (refine wpList_store_row rfl 172 (.tmp 8) (.tmp 28) rfl w2.heap.size cs rfl rfl 172 Try.zeroCells172 (heap_new _ _) (by rw [hcsz'.out]; exact infoQ) (by rw [hcsz'.out]; exact zeroQ) hone'.out ?_)
      rw [setRow_alloc, hW3'.out]
      by_cases h0 : (takeQ z2).1 = 0
      · obtain ⟨hcs, hk, a4, c4, hrd2, i4⟩ := hok'.out h0
        rw [h0]; obtain ⟨x, hx⟩ : ∃ x, (takeQ z2).2.1 = x := ⟨_, rfl⟩; obtain ⟨kk, hkk⟩ : ∃ kk, (takeQ z2).2.2 = kk := ⟨_, rfl⟩; rw [hx] at hcs; rw [hkk] at hk hrd2; have hk0 : 0 < kk := by rw [← hkk]; exact (takeQ_ok z2 h0).1
        have hxl : (qC x).length = 65 := by rw [← hx]; exact (takeQ_ok z2 h0).2
        have fcs : ∀ j v, (qC x)[j]? = some v → W3.cell? ⟨w2.heap.size, 0 + j, none⟩ = some v := fun j v hv => bQ'.out.cell (by rw [hcs, Nat.zero_add, List.getElem?_toArray]; exact hv); have hl4 := in_lt i4 hl2.out; have hrd3 : Rd W3 w.heap.size a4 (nn - kk) c4 (z2.drop kk) := ⟨hrd2.blk.late hal'.out, hrd2.sl.mono hal'.out, hrd2.ne⟩; have hal5 := (Below.refl W3.heap.size W3).alloc (Nat.le_refl _) (.cells cs 172); have sl5 := Sl.new W3 172 65 1 cs (0, 0) (by omega) (by rw [hcsz'.out]); obtain ⟨W4, hW4⟩ : ∃ W4, W3.alloc (.cells cs 172) = W4 := ⟨_, rfl⟩; rw [hW4] at hal5 sl5; have hrd5 : Rd W4 w.heap.size a4 (nn - kk) c4 (z2.drop kk) := ⟨hrd3.blk.late hal5, hrd3.sl.mono hal5, hrd3.ne⟩; have hbw5 := hbw3'.out.trans (hal5.mono hbw3'.out.size); have Ob5 := own_later Ob3'.out hal5; have hsz5 : w.heap.size + 1 ≤ W4.heap.size := hrd5.blk.lt; have hone2 : ∀ u ∈ cs.toList, u.oneCell' = true := fun u hu => Array.all_eq_true_iff_forall_mem.1 hone'.out u (by simpa using hu); have hzl2 := hrd.out.sl.ilen; clear hrd2 hrd3; have hcs' := Lib.hid hcs; have hx' := Lib.hid hx; have hkk' := Lib.hid hkk; have hxl' := Lib.hid hxl; have fcs' := Lib.hid fcs; have hl4' := Lib.hid hl4; have hal5' := Lib.hid hal5; have sl5' := Lib.hid sl5; have hW4' := Lib.hid hW4; have hrd5' := Lib.hid hrd5; have hbw5' := Lib.hid hbw5; have Ob5' := Lib.hid Ob5; have hone2' := Lib.hid hone2; have hzl2' := Lib.hid hzl2; clear hcs hx hkk hxl fcs hl4 hal5 sl5 hW4 hrd5 hbw5 Ob5 hone2 hzl2
        go_wp2_with (first
          | (refine wpList_load_at rfl 172 (.tmp 8) rfl w2.heap.size 0 rfl (qC x) cs hcs'.out.symm _ fcs'.out Try.underlying172 rfl 65 infoQ hxl'.out ?_)
          | (refine wpList_buildOne rfl 52 172 (.tmp 34) rfl cs rfl i0 zq 65 Try.underlying52 hi hiz hq1 (by decide) (by decide) hcsz'.out ?_; rw [hW4'.out])
          | (at_builtin; go_loud (refine wpList_app rfl _ _ 52 rfl (w.heap.size + 1) 172 i0 _ 65 520 Try.underlying52 hi hiz hq1 hq2 hq3 (by decide) _ m _ rfl Ob5'.out _ 1 1 _ rfl sl5'.out hone2'.out (by omega) (by decide) hsz5 ?_); intro a6 c6 w6 ob6 hb6 hg6; have Ob6 := Lib.hid ob6; have Hb6 := Lib.hid hb6; clear ob6 hb6 hg6))
        have hbw6 := hbw5'.out.trans (Hb6.out.mono (Nat.le_succ _)); have hrd6 : Rd w6 w.heap.size a4 (nn - kk) c4 (z2.drop kk) := ⟨hrd5'.out.blk.mono Hb6.out (Nat.lt_succ_self _), sl_monoB hrd5'.out.sl (fun x hx => Nat.lt_succ_of_lt (hl4'.out x hx)) Hb6.out, hrd5'.out.ne⟩; have hz6 : Byt (z2.drop kk) := hz2.out.drop _
        have Ob7 : w6.ownsRow (w.heap.size + 1) 172 65 (.slice a6 (m + 1) c6) (m + 1) (((l ++ [x]).map qC).flatten) := by
          have h := Ob6.out; rw [hcs'.out, List.toList_toArray] at h
          simpa using h
        have hst6 : (z2.drop kk = [] → T = (0, l ++ [x])) ∧ (z2.drop kk ≠ [] → ∃ f, (z2.drop kk).length ≤ f ∧ T = goOn (l ++ [x]) (readAll takeQ (f + 1) (z2.drop kk))) := by
          obtain ⟨f, hf, hT⟩ := hst
          constructor
          · intro h
            have hle : z2.length ≤ kk := List.drop_eq_nil_iff.1 h; rw [← hx'.out]; exact goOn_end hT h0 (by rw [hkk'.out]; exact hle)
          · intro h
            have hle : ¬ z2.length ≤ kk := fun h1 => h (List.drop_eq_nil_iff.2 h1); have hT2 := goOn_on hT h0 (by rw [hkk'.out]; exact hle); rw [hx'.out, hkk'.out] at hT2
            cases f with
            | zero => omega
            | succ f => exact ⟨f, by rw [List.length_drop]; omega, hT2⟩
        have hlt6 : m + 1 + (nn - kk) ≤ n := by omega
        have hml6 : m + 1 = (l ++ [x]).length := by simp; exact hml.out
        have hbw6' := Lib.hid hbw6; have hrd6' := Lib.hid hrd6; have hz6' := Lib.hid hz6; have Ob7' := Lib.hid Ob7; have hst6' := Lib.hid hst6; have hml6' := Lib.hid hml6; clear hbw6 hrd6 hz6 Ob7 hst6 hml6
        go_roundw
        case rel => exact ⟨m + 1, nn - kk, a6, c6, a4, c4, l ++ [x], z2.drop kk, hlt6, rfl, hml6', Ob7', hrd6', hl4', hz6', Lib.hid ⟨fun h => absurd h (Nat.succ_ne_zero m), fun h => hst6'.out.1 h.2, fun h => hst6'.out.2 h⟩, hbw6'⟩
        case measure => simp [sliceLen]; omega
      · have hnb : ((takeQ z2).1 != 0) = true := by simpa using h0
        obtain ⟨f, hf, hT⟩ := hst; have hTe := goOn_err hT h0; clear hT; have hTe' := Lib.hid hTe; clear hTe
        go_wp2
        go_ret2
        exact ⟨hbw3'.out, none, 0, 0, by rw [hTe'.out]; rfl, by rw [hTe'.out]; exact own_nil _ _ _ _, by rw [hTe'.out]; rfl⟩
    · have d1 : ((m : Int) == 0) = false := by simp; omega
      by_cases hn0 : nn = 0
      · have d2 : decide ((0 : Int) < nn) = false := by simp; omega
        have hTe := hst3.out.2.1 ⟨hm0, List.eq_nil_of_length_eq_zero (by rw [hz2l, hn0])⟩; have hz2l' := Lib.hid hz2l; have hTe' := Lib.hid hTe; clear hz2l hTe
        go_wp2
        go_ret2
        exact ⟨hbel.out, a3, m, c3, by rw [hTe'.out]; rfl, by rw [hTe'.out]; exact Ob.out, by rw [hTe'.out]; exact hml.out⟩
      · have d2 : decide ((0 : Int) < nn) = true := by simp; omega
        have hst := hst3.out.2.2 (fun h => hn0 (by rw [← hz2l, h]; rfl)); have hz2l' := Lib.hid hz2l; have hst3' := Lib.hid hst3; clear hz2l hst3; have HT := quantOf_any w.heap.size a2 nn c2 z2 wr hrd.out (fun x hx => Nat.lt_of_lt_of_le (hl2.out x hx) hbel.out.size) hz2.out (by omega); have HT' := Lib.hid HT; clear HT
        go_wp2_with fail
        refine HT'.out.mono ?_; rintro e w2 ⟨cs, rfl, hcsz, hone, bt, hok⟩; have hb2 := bt.below (B := w.heap.size) (Nat.le_refl _) (Nat.le_of_lt hrd.out.blk.lt); have hbw2 := hbel.out.trans hb2; have Ob2 := own_but Ob.out bt (own_neB Ob.out hrd.out.blk (by decide)); have hsz2 : w.heap.size < w2.heap.size := Nat.lt_of_lt_of_le hrd.out.blk.lt bt.size; have hal := (Below.refl w2.heap.size w2).alloc (Nat.le_refl _) (.cells cs 172); obtain ⟨W3, hW3⟩ : ∃ W3, w2.alloc (.cells cs 172) = W3 := ⟨_, rfl⟩; have bQ := Blk.new w2 172 cs; rw [hW3] at hal bQ; have hbw3 := hbw2.trans (hal.mono (Nat.le_of_lt hsz2)); have Ob3 := own_later Ob2 hal; clear hb2; have bt' := Lib.hid bt; have hok' := Lib.hid hok; have hbw2' := Lib.hid hbw2; have Ob2' := Lib.hid Ob2; have hsz2' := Lib.hid hsz2; have hal' := Lib.hid hal; have hW3' := Lib.hid hW3; have bQ' := Lib.hid bQ; have hbw3' := Lib.hid hbw3; have Ob3' := Lib.hid Ob3; have hone' := Lib.hid hone; have hcsz' := Lib.hid hcsz; clear bt hok hbw2 Ob2 hsz2 hal hW3 bQ hbw3 Ob3 hone hcsz
        go_upto_region 5 with (refine wpList_store_row rfl 172 (.tmp 8) (.tmp 28) rfl w2.heap.size cs rfl rfl 172 Try.zeroCells172 (heap_new _ _) (by rw [hcsz'.out]; exact infoQ) (by rw [hcsz'.out]; exact zeroQ) hone'.out ?_)
        rw [setRow_alloc, hW3'.out]
        by_cases h0 : (takeQ z2).1 = 0
        · obtain ⟨hcs, hk, a4, c4, hrd2, i4⟩ := hok'.out h0
          rw [h0]; obtain ⟨x, hx⟩ : ∃ x, (takeQ z2).2.1 = x := ⟨_, rfl⟩; obtain ⟨kk, hkk⟩ : ∃ kk, (takeQ z2).2.2 = kk := ⟨_, rfl⟩; rw [hx] at hcs; rw [hkk] at hk hrd2; have hk0 : 0 < kk := by rw [← hkk]; exact (takeQ_ok z2 h0).1
          have hxl : (qC x).length = 65 := by rw [← hx]; exact (takeQ_ok z2 h0).2
          have fcs : ∀ j v, (qC x)[j]? = some v → W3.cell? ⟨w2.heap.size, 0 + j, none⟩ = some v := fun j v hv => bQ'.out.cell (by rw [hcs, Nat.zero_add, List.getElem?_toArray]; exact hv); have hl4 := in_lt i4 hl2.out; have hrd3 : Rd W3 w.heap.size a4 (nn - kk) c4 (z2.drop kk) := ⟨hrd2.blk.late hal'.out, hrd2.sl.mono hal'.out, hrd2.ne⟩; have hal5 := (Below.refl W3.heap.size W3).alloc (Nat.le_refl _) (.cells cs 172); have sl5 := Sl.new W3 172 65 1 cs (0, 0) (by omega) (by rw [hcsz'.out]); obtain ⟨W4, hW4⟩ : ∃ W4, W3.alloc (.cells cs 172) = W4 := ⟨_, rfl⟩; rw [hW4] at hal5 sl5; have hrd5 : Rd W4 w.heap.size a4 (nn - kk) c4 (z2.drop kk) := ⟨hrd3.blk.late hal5, hrd3.sl.mono hal5, hrd3.ne⟩; have hbw5 := hbw3'.out.trans (hal5.mono hbw3'.out.size); have Ob5 := own_later Ob3'.out hal5; have hsz5 : w.heap.size + 1 ≤ W4.heap.size := hrd5.blk.lt; have hone2 : ∀ u ∈ cs.toList, u.oneCell' = true := fun u hu => Array.all_eq_true_iff_forall_mem.1 hone'.out u (by simpa using hu); have hzl2 := hrd.out.sl.ilen; clear hrd2 hrd3; have hcs' := Lib.hid hcs; have hx' := Lib.hid hx; have hkk' := Lib.hid hkk; have hxl' := Lib.hid hxl; have fcs' := Lib.hid fcs; have hl4' := Lib.hid hl4; have hal5' := Lib.hid hal5; have sl5' := Lib.hid sl5; have hW4' := Lib.hid hW4; have hrd5' := Lib.hid hrd5; have hbw5' := Lib.hid hbw5; have Ob5' := Lib.hid Ob5; have hone2' := Lib.hid hone2; have hzl2' := Lib.hid hzl2; clear hcs hx hkk hxl fcs hl4 hal5 sl5 hW4 hrd5 hbw5 Ob5 hone2 hzl2
          go_wp2_with (first
            | (refine wpList_load_at rfl 172 (.tmp 8) rfl w2.heap.size 0 rfl (qC x) cs hcs'.out.symm _ fcs'.out Try.underlying172 rfl 65 infoQ hxl'.out ?_)
            | (refine wpList_buildOne rfl 52 172 (.tmp 34) rfl cs rfl i0 zq 65 Try.underlying52 hi hiz hq1 (by decide) (by decide) hcsz'.out ?_; rw [hW4'.out])
            | (at_builtin; go_loud (refine wpList_app rfl _ _ 52 rfl (w.heap.size + 1) 172 i0 _ 65 520 Try.underlying52 hi hiz hq1 hq2 hq3 (by decide) _ m _ rfl Ob5'.out _ 1 1 _ rfl sl5'.out hone2'.out (by omega) (by decide) hsz5 ?_); intro a6 c6 w6 ob6 hb6 hg6; have Ob6 := Lib.hid ob6; have Hb6 := Lib.hid hb6; clear ob6 hb6 hg6))
          have hbw6 := hbw5'.out.trans (Hb6.out.mono (Nat.le_succ _)); have hrd6 : Rd w6 w.heap.size a4 (nn - kk) c4 (z2.drop kk) := ⟨hrd5'.out.blk.mono Hb6.out (Nat.lt_succ_self _), sl_monoB hrd5'.out.sl (fun x hx => Nat.lt_succ_of_lt (hl4'.out x hx)) Hb6.out, hrd5'.out.ne⟩; have hz6 : Byt (z2.drop kk) := hz2.out.drop _
          have Ob7 : w6.ownsRow (w.heap.size + 1) 172 65 (.slice a6 (m + 1) c6) (m + 1) (((l ++ [x]).map qC).flatten) := by
            have h := Ob6.out; rw [hcs'.out, List.toList_toArray] at h
            simpa using h
          have hst6 : (z2.drop kk = [] → T = (0, l ++ [x])) ∧ (z2.drop kk ≠ [] → ∃ f, (z2.drop kk).length ≤ f ∧ T = goOn (l ++ [x]) (readAll takeQ (f + 1) (z2.drop kk))) := by
            obtain ⟨f, hf, hT⟩ := hst
            constructor
            · intro h
              have hle : z2.length ≤ kk := List.drop_eq_nil_iff.1 h; rw [← hx'.out]; exact goOn_end hT h0 (by rw [hkk'.out]; exact hle)
            · intro h
              have hle : ¬ z2.length ≤ kk := fun h1 => h (List.drop_eq_nil_iff.2 h1); have hT2 := goOn_on hT h0 (by rw [hkk'.out]; exact hle); rw [hx'.out, hkk'.out] at hT2
              cases f with
              | zero => omega
              | succ f => exact ⟨f, by rw [List.length_drop]; omega, hT2⟩
          have hlt6 : m + 1 + (nn - kk) ≤ n := by omega
          have hml6 : m + 1 = (l ++ [x]).length := by simp; exact hml.out
          have hbw6' := Lib.hid hbw6; have hrd6' := Lib.hid hrd6; have hz6' := Lib.hid hz6; have Ob7' := Lib.hid Ob7; have hst6' := Lib.hid hst6; have hml6' := Lib.hid hml6; clear hbw6 hrd6 hz6 Ob7 hst6 hml6
          go_roundw
          case rel => exact ⟨m + 1, nn - kk, a6, c6, a4, c4, l ++ [x], z2.drop kk, hlt6, rfl, hml6', Ob7', hrd6', hl4', hz6', Lib.hid ⟨fun h => absurd h (Nat.succ_ne_zero m), fun h => hst6'.out.1 h.2, fun h => hst6'.out.2 h⟩, hbw6'⟩
          case measure => simp [sliceLen]; omega
        · have hnb : ((takeQ z2).1 != 0) = true := by simpa using h0
          obtain ⟨f, hf, hT⟩ := hst; have hTe := goOn_err hT h0; clear hT; have hTe' := Lib.hid hTe; clear hTe
          go_wp2
          go_ret2
          exact ⟨hbw3'.out, none, 0, 0, by rw [hTe'.out]; rfl, by rw [hTe'.out]; exact own_nil _ _ _ _, by rw [hTe'.out]; rfl⟩
end Go.Proofs.Ytpjopeojeglogaa
