/- Chapter 14: tables of codes' bytes, one behind the other: the program. -/
import Derived.Test.YtpjopeojeglogaaCd18
namespace Go.Proofs.Ytpjopeojeglogaa
open Go.RowKit Tt
set_option linter.unusedVariables false
set_option linter.unusedSimpArgs false

structure CdsR (w : World) (a : Option Addr) (n c : Nat) (ms : List CdM) : Prop where
  sl : Sl w a n c 19 ((ms.map cMC).flatten)
  ok : ∀ m ∈ ms, CdOk w m
theorem CdsR.mono {w w' : World} {a : Option Addr} {n c : Nat} {ms : List CdM} (h : CdsR w a n c ms) (hb : Below w.heap.size w w') : CdsR w' a n c ms := ⟨h.sl.mono hb, fun m hm => (h.ok m hm).mono hb⟩
theorem CdsR.ilen {w : World} {a : Option Addr} {n c : Nat} {ms : List CdM} (h : CdsR w a n c ms) : ms.length = n := by
  have h1 := h.sl.len; rw [flat_len cMC 19 ms (fun q hq => cMC_len (h.ok q hq).len)] at h1; exact Nat.eq_of_mul_eq_mul_right (by omega) h1
theorem CdsR.elem {w : World} {a : Option Addr} {n c : Nat} {ms : List CdM} (h : CdsR w a n c ms) {k : Nat} {q : CdM} (hq : ms[k]? = some q) : ∃ b o, a = some ⟨b, o, none⟩ ∧ b < w.heap.size ∧ ∀ j v, (cMC q)[j]? = some v → w.cell? ⟨b, o + k * 19 + j, none⟩ = some v := by
  have hk : k < n := by rw [← h.ilen]; exact (List.getElem?_eq_some_iff.1 hq).1
  obtain ⟨b, o, e, hb, _, hc⟩ := h.sl.elem hk; rw [flat_elem cMC 19 ms (fun q hq => cMC_len (h.ok q hq).len) k q hq] at hc; exact ⟨b, o, e, hb, hc⟩
theorem infoC : (Try.prog.info? 165).map (·.size) = some 19 := by kernel_rfl
theorem cMC_one {m : CdM} : (cMC m).toArray.all (·.oneCell') = true := by
  rw [Array.all_eq_true_iff_forall_mem]; intro x hx; have hx : x ∈ cMC m := by simpa using hx
  rcases List.mem_cons.1 hx with rfl | hx
  · rfl
  · rcases List.mem_cons.1 hx with rfl | hx
    · rfl
    · rcases List.mem_append.1 hx with hx | hx
      · exact ints_one x hx
      · rw [List.mem_singleton.1 hx]; rfl
set_option maxRecDepth 100000 in
set_option maxHeartbeats 2000000 in
theorem payC_any (a : Option Addr) (n c : Nat) (ms : List CdM) (w : World) (hs : CdsR w a n c ms) (hn : n ≤ 60) :
    Calls Try.prog 115 #[.slice a n c, .func (.func 116) #[] #[]] w (PayR w (allW cOk cW (ms.map (·.1)))) := by
  obtain ⟨i0, hi, hz0, hz1, hz2⟩ := info_parts info8; have hl := hs.ilen; obtain ⟨R, hR⟩ : ∃ R, allW cOk cW (ms.map (·.1)) = R := ⟨_, rfl⟩; rw [hR]; have hs' := Lib.hid hs; have hl' := Lib.hid hl; have hR' := Lib.hid hR; clear hs hl hR
  go_enter Try.func115, Try.ntmps115
  go_wp2
  go_loopw [6, 8, 9, 10, 13, 17] (fun bv _ _ _ iv _ wr => ∃ (k m : Nat) (a3 : Option Addr) (c3 : Nat), k ≤ n ∧ m ≤ 1017 * k ∧ iv = .int .i64 k ∧ bv = .slice a3 m c3 ∧ Hid (∀ j x, j < k → ms[j]? = some x → cOk x.1 = true) ∧ Hid (wr.ownsRow w.heap.size 5 1 (.slice a3 m c3) m (ints .u8 (flatW cW (ms.map (·.1)) k))) ∧ Hid (Below w.heap.size w wr)) (fun _ _ _ _ iv _ _ => n - (intOf iv).toNat)
  case atStart => exact ⟨0, 0, none, 0, by omega, by omega, rfl, rfl, Lib.hid (fun j x h => by omega), Lib.hid (own_nil _ _ _ _), Lib.hid (Below.refl _ _)⟩
  case round =>
    obtain ⟨k, m, a3, c3, hk, hm, rfl, rfl, hall, Ob, hbel⟩ := hrel; have hmb : m ≤ 61020 := by omega
    have hm' := Lib.hid hm; clear hm
    by_cases hlt : k < n
    · obtain ⟨q, hq⟩ : ∃ q, ms[k]? = some q := ⟨_, List.getElem?_eq_getElem (by rw [hl'.out]; exact hlt)⟩
      obtain ⟨bb, o, rfl, hbb, f⟩ := (hs'.out.mono hbel.out).elem hq; have hql := (hs'.out.ok q (List.mem_of_getElem? hq)).mono hbel.out; obtain ⟨B, hB⟩ : ∃ B, (cMC q).toArray = B := ⟨_, rfl⟩; have hcl := cMC_len hql.len; have hone := cMC_one (m := q); have hB65 : B.size = 19 := by rw [← hB]; simpa using hcl
      rw [hB] at hone; have HQ := fun W (h : Below wr.heap.size wr W) => cbytes_any q B hB W (hql.mono h); obtain ⟨W1, hW1⟩ : ∃ W1, wr.alloc (.cells B 165) = W1 := ⟨_, rfl⟩; have hal := (Below.refl wr.heap.size wr).alloc (Nat.le_refl _) (.cells B 165); have hqb : Blk W1 wr.heap.size 165 B := by rw [← hW1]; exact Blk.new wr 165 B
      have hcs : ∀ j v, (cMC q)[j]? = some v → W1.cell? ⟨wr.heap.size, 0 + j, none⟩ = some v := fun j v hv => hqb.cell (by rw [← hB, List.getElem?_toArray, Nat.zero_add]; exact hv); rw [hW1] at hal; have hfl := flatW_snoc (f := cW) (l := ms.map (·.1)) (x := q.1) (k := k) (by rw [List.getElem?_map, hq]; rfl); obtain ⟨ok, hok⟩ : ∃ ok, cOk q.1 = ok := ⟨_, rfl⟩; rw [hok] at HQ; have f' := Lib.hid f; have hql' := Lib.hid hql; have hB' := Lib.hid hB; have hcl' := Lib.hid hcl; have hq' := Lib.hid hq; have hone' := Lib.hid hone; have hB65' := Lib.hid hB65; have HQ' := Lib.hid HQ; have hal' := Lib.hid hal; have hqb' := Lib.hid hqb; have hcs' := Lib.hid hcs; have hW1' := Lib.hid hW1; have hfl' := Lib.hid hfl; have hok' := Lib.hid hok; clear f hql hB hcl hq hone hB65 HQ hal hqb hcs hW1 hfl hok
      go_upto_region 5 with (first
        | (refine wpList_load_at rfl 165 (.tmp 15) rfl bb (o + k * 19) rfl (cMC q) B hB'.out _ f'.out Try.underlying165 rfl 19 infoC hcl'.out ?_)
        | (refine wpList_store_row rfl 165 (.tmp 8) (.tmp 16) rfl wr.heap.size B rfl rfl 165 _ (heap_new _ _) (by rw [hB65'.out]; exact infoC) (by rw [hB65'.out]; rfl) hone'.out ?_))
      rw [setRow_alloc, hW1'.out]
      go_wp2_with (refine wpList_load_at rfl 165 (.tmp 8) rfl wr.heap.size 0 rfl (cMC q) B hB'.out _ hcs'.out Try.underlying165 rfl 19 infoC hcl'.out ?_)
      refine (HQ'.out _ hal'.out).mono ?_; rintro e w2 ⟨a2, n2, c2, rfl, hb2, ho2⟩; have hb12 := hal'.out.trans (hb2.mono hal'.out.size); have hbw := hbel.out.trans (hb12.mono hbel.out.size); have Ob2 := own_later Ob.out hb12
      cases ok with
      | false =>
        obtain rfl : R = none := by rw [← hR'.out]; exact allW_no (k := k) (x := q.1) (by rw [List.getElem?_map, hq'.out]; rfl) hok'.out
        clear ho2 hb2; have hb12' := Lib.hid hb12; have hbw' := Lib.hid hbw; have Ob2' := Lib.hid Ob2; clear hb12 hbw Ob2
        go_wp2
        go_ret2
        exact ⟨hbw'.out, rfl⟩
      | true =>
        have ho3 := ho2 rfl; clear ho2; obtain ⟨h65, ho2⟩ := ho3; have hn2 : n2 ≤ 1017 := by have h := hql'.out.few; have h2 := hql'.out.sl.ilen; omega
        have hs2 := (Sl.of_own ho2).1; have hsz := hbel.out.size; have hsz2 := hbw.size
        have hall2 : ∀ (j : Nat) (x : CdM), j < k + 1 → ms[j]? = some x → cOk x.1 = true := fun j x hj hx => by
          rcases Nat.lt_or_ge j k with h | h
          · exact hall.out j x h hx
          · obtain rfl : j = k := by omega
            rw [hq'.out] at hx; injection hx with hx; rw [← hx]; exact hok'.out
        clear ho2 hb2 hb12; have hbw' := Lib.hid hbw; have Ob2' := Lib.hid Ob2; have hs2' := Lib.hid hs2; have hall2' := Lib.hid hall2; have hsz' := Lib.hid hsz; have hsz2' := Lib.hid hsz2; have h65' := Lib.hid h65; clear hbw Ob2 hs2 hall2 hsz hsz2 h65
        go_wp2_with (at_builtin; refine wpList_app rfl _ _ 30 rfl w.heap.size 5 i0 _ 1 1 Try.underlying30 hi hz0 hz1 hz2 rfl (by decide) _ m _ rfl Ob2'.out a2 n2 c2 _ rfl hs2'.out ints_one (by omega) (by decide) hsz2'.out ?_; intro a6 c6 w6 ob6 hb6 hg6; have Ob6 := Lib.hid ob6; have Hb6 := Lib.hid (hbw'.out.trans hb6); clear ob6 hb6 hg6)
        go_roundw
        case rel => exact ⟨k + 1, m + n2, a6, c6, by omega, by have := hm'.out; omega, by go_num, rfl, hall2', Lib.hid (by rw [hfl'.out, ints_append]; exact Ob6.out), Hb6⟩
        case measure => simp [intOf]; omega
    · have hkn : k = n := by omega
      have Ob2 := Ob.out
      have hall2 : ∀ (j : Nat) (x : Cdr), (ms.map fun m : CdM => m.1)[j]? = some x → cOk x = true := fun j x hx => by
        rw [List.getElem?_map] at hx
        cases hy : ms[j]? with
        | none => rw [hy] at hx; cases hx
        | some y =>
          rw [hy] at hx; injection hx with hx; subst hx; exact hall.out j y (by rw [hkn, ← hl'.out]; exact (List.getElem?_eq_some_iff.1 hy).1) hy
      rw [hkn, ← hl'.out] at Ob2
      by_cases hn0 : n = 0
      · obtain rfl : R = none := by
          rw [← hR'.out]; have : ms = [] := List.eq_nil_of_length_eq_zero (by rw [hl'.out, hn0]); rw [this]; rfl
        subst hn0; have Ob2' := Lib.hid Ob2; have hall2' := Lib.hid hall2; have hkn' := Lib.hid hkn; clear Ob2 hall2 hkn
        go_wp2
        go_ret2
        exact ⟨hbel.out, rfl⟩
      · obtain rfl : R = some (flatW cW (ms.map (·.1)) ms.length) := by
          have hlm : (ms.map (fun x : CdM => x.1)).length = ms.length := List.length_map _; rw [← hR'.out, ← hlm]; exact allW_yes hall2 (fun h => hn0 (by rw [← hl'.out, List.map_eq_nil_iff.1 h]; rfl))
        have hnb : ((n : Int) == 0) = false := by simp; omega
        have Ob2' := Lib.hid Ob2; have hall2' := Lib.hid hall2; have hkn' := Lib.hid hkn; clear Ob2 hall2 hkn; clear hn0
        go_wp2
        go_ret2
        exact ⟨hbel.out, a3, m, c3, rfl, Ob2'.out⟩
theorem coders_any (a : Option Addr) (n c : Nat) (ms : List CdM) (w : World) (hs : CdsR w a n c ms) (hn : n ≤ 60) : Calls Try.prog 37 #[.slice a n c] w (PayR w (allW cOk cW (ms.map (·.1)))) := by
  have HP := payC_any a n c ms w hs hn; clear hs; obtain ⟨R, hR⟩ : ∃ R, allW cOk cW (ms.map (·.1)) = R := ⟨_, rfl⟩; rw [hR] at HP ⊢; have HP' := Lib.hid HP; have hR' := Lib.hid hR; clear HP hR
  go_enter Try.func37, Try.ntmps37
  go_wp2_with fail
  refine HP'.out.mono ?_; rintro e w2 ⟨hb, hr⟩
  cases R with
  | none =>
    obtain rfl := hr; have hb' := Lib.hid hb; clear hb
    go_wp2
    go_ret2
    exact ⟨hb'.out, rfl⟩
  | some b =>
    obtain ⟨a2, n2, c2, rfl, ho⟩ := hr; have hb' := Lib.hid hb; have ho' := Lib.hid ho; clear hb ho
    go_wp2
    go_ret2
    exact ⟨hb'.out, a2, n2, c2, rfl, ho'.out⟩
end Go.Proofs.Ytpjopeojeglogaa
