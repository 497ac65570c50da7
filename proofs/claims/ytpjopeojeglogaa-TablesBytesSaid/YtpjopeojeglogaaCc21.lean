/- Chapter 14: quantisation tables' bytes, one behind the other: the program. -/
import Derived.Test.YtpjopeojeglogaaCc20
namespace Go.Proofs.Ytpjopeojeglogaa
open Go.RowKit Tt
set_option linter.unusedVariables false
set_option linter.unusedSimpArgs false

/-- a row of tables that is read -/
structure QsR (w : World) (a : Option Addr) (n c : Nat) (qs : List Qt64) : Prop where
  sl : Sl w a n c 65 ((qs.map qC).flatten)
  len : ∀ q ∈ qs, q.2.length = 64
theorem QsR.mono {w w' : World} {a : Option Addr} {n c : Nat} {qs : List Qt64} (h : QsR w a n c qs) (hb : Below w.heap.size w w') : QsR w' a n c qs := ⟨h.sl.mono hb, h.len⟩
theorem QsR.ilen {w : World} {a : Option Addr} {n c : Nat} {qs : List Qt64} (h : QsR w a n c qs) : qs.length = n := by
  have h1 := h.sl.len; rw [flat_len qC 65 qs (fun q hq => qC_len (h.len q hq))] at h1; exact Nat.eq_of_mul_eq_mul_right (by omega) h1
theorem QsR.elem {w : World} {a : Option Addr} {n c : Nat} {qs : List Qt64} (h : QsR w a n c qs) {k : Nat} {q : Qt64} (hq : qs[k]? = some q) : ∃ b o, a = some ⟨b, o, none⟩ ∧ b < w.heap.size ∧ ∀ j v, (qC q)[j]? = some v → w.cell? ⟨b, o + k * 65 + j, none⟩ = some v := by
  have hk : k < n := by rw [← h.ilen]; exact (List.getElem?_eq_some_iff.1 hq).1
  obtain ⟨b, o, e, hb, _, hc⟩ := h.sl.elem hk; rw [flat_elem qC 65 qs (fun q hq => qC_len (h.len q hq)) k q hq] at hc; exact ⟨b, o, e, hb, hc⟩
theorem infoQ : (Try.prog.info? 172).map (·.size) = some 65 := by kernel_rfl
theorem qC_one {q : Qt64} : (qC q).toArray.all (·.oneCell') = true := by
  rw [Array.all_eq_true_iff_forall_mem]; intro x hx; have hx : x ∈ qC q := by simpa using hx
  rcases List.mem_cons.1 hx with rfl | hx
  · rfl
  · exact ints_one x hx
theorem zeroQ : Try.zeroCells172.size = 65 := by kernel_rfl
def flatW {α : Type} (f : α → List Int) (l : List α) (k : Nat) : List Int := ((l.take k).map f).flatten
theorem flatW_snoc {α : Type} {f : α → List Int} {l : List α} {k : Nat} {x : α} (h : l[k]? = some x) : flatW f l (k + 1) = flatW f l k ++ f x := by
  unfold flatW; rw [List.take_add_one, h]
  simp
theorem allW_no {α : Type} {ok : α → Bool} {f : α → List Int} {l : List α} {k : Nat} {x : α} (h : l[k]? = some x) (hx : ok x = false) : allW ok f l = none := by
  unfold allW; rw [if_neg]; rintro ⟨h1, _⟩; have := List.all_eq_true.1 h1 x (List.mem_of_getElem? h); rw [hx] at this
  cases this
theorem allW_yes {α : Type} {ok : α → Bool} {f : α → List Int} {l : List α} (h : ∀ (k : Nat) (x : α), l[k]? = some x → ok x = true) (h0 : l ≠ []) : allW ok f l = some (flatW f l l.length) := by
  unfold allW flatW; rw [if_pos, List.take_length]; refine ⟨List.all_eq_true.2 fun x hx => ?_, h0⟩; obtain ⟨k, hk, rfl⟩ := List.mem_iff_getElem.1 hx; exact h k _ (List.getElem?_eq_getElem hk)
/-- what payloads come out as -/
def PayR (w : World) (r : Option (List Int)) (e : Ending) (w' : World) : Prop :=
  Below w.heap.size w w' ∧ match r with
  | none => e = .returned (.tuple #[.slice none 0 0, .int .i64 1])
  | some b => ∃ a n c, e = .returned (.tuple #[.slice a n c, .int .i64 0]) ∧ w'.ownsRow w.heap.size 5 1 (.slice a n c) n (ints .u8 b)
set_option maxRecDepth 100000 in
set_option maxHeartbeats 2000000 in
theorem payQ_any (a : Option Addr) (n c : Nat) (qs : List Qt64) (w : World) (hs : QsR w a n c qs) (hn : n ≤ 100) :
    Calls Try.prog 111 #[.slice a n c, .func (.func 112) #[] #[]] w (PayR w (allW qOk qW qs)) := by
  obtain ⟨i0, hi, hz0, hz1, hz2⟩ := info_parts info8; have hl := hs.ilen; obtain ⟨R, hR⟩ : ∃ R, allW qOk qW qs = R := ⟨_, rfl⟩; rw [hR]; have hs' := Lib.hid hs; have hl' := Lib.hid hl; have hR' := Lib.hid hR; clear hs hl hR
  go_enter Try.func111, Try.ntmps111
  go_wp2
  go_loopw [6, 8, 9, 10, 13, 17] (fun bv _ _ _ iv _ wr => ∃ (k m : Nat) (a3 : Option Addr) (c3 : Nat), k ≤ n ∧ m = 65 * k ∧ iv = .int .i64 k ∧ bv = .slice a3 m c3 ∧ Hid (∀ j x, j < k → qs[j]? = some x → qOk x = true) ∧ Hid (wr.ownsRow w.heap.size 5 1 (.slice a3 m c3) m (ints .u8 (flatW qW qs k))) ∧ Hid (Below w.heap.size w wr)) (fun _ _ _ _ iv _ _ => n - (intOf iv).toNat)
  case atStart => exact ⟨0, 0, none, 0, by omega, by omega, rfl, rfl, Lib.hid (fun j x h => by omega), Lib.hid (own_nil _ _ _ _), Lib.hid (Below.refl _ _)⟩
  case round =>
    obtain ⟨k, m, a3, c3, hk, hm, rfl, rfl, hall, Ob, hbel⟩ := hrel; have hmb : m ≤ 6500 := by omega
    have hm' := Lib.hid hm; clear hm
    by_cases hlt : k < n
    · obtain ⟨q, hq⟩ : ∃ q, qs[k]? = some q := ⟨_, List.getElem?_eq_getElem (by rw [hl'.out]; exact hlt)⟩
      obtain ⟨bb, o, rfl, hbb, f⟩ := (hs'.out.mono hbel.out).elem hq; have hql := hs'.out.len q (List.mem_of_getElem? hq); obtain ⟨B, hB⟩ : ∃ B, (qC q).toArray = B := ⟨_, rfl⟩; have hcl := qC_len hql; have hone := qC_one (q := q); have hB65 : B.size = 65 := by rw [← hB]; simpa using hcl
      rw [hB] at hone; have HQ := fun W => qbytes_any q B hB W hql; obtain ⟨W1, hW1⟩ : ∃ W1, wr.alloc (.cells B 172) = W1 := ⟨_, rfl⟩; have hal := (Below.refl wr.heap.size wr).alloc (Nat.le_refl _) (.cells B 172); have hqb : QB W1 wr.heap.size q := ⟨hql, by rw [← hW1, hB]; exact Blk.new wr 172 B⟩; have hcs : ∀ j v, (qC q)[j]? = some v → W1.cell? ⟨wr.heap.size, 0 + j, none⟩ = some v := fun j v hv => hqb.blk.cell (by rw [List.getElem?_toArray, Nat.zero_add]; exact hv); rw [hW1] at hal; have hfl := flatW_snoc (f := qW) hq; obtain ⟨ok, hok⟩ : ∃ ok, qOk q = ok := ⟨_, rfl⟩; rw [hok] at HQ; have f' := Lib.hid f; have hql' := Lib.hid hql; have hB' := Lib.hid hB; have hcl' := Lib.hid hcl; have hq' := Lib.hid hq; have hone' := Lib.hid hone; have hB65' := Lib.hid hB65; have HQ' := Lib.hid HQ; have hal' := Lib.hid hal; have hqb' := Lib.hid hqb; have hcs' := Lib.hid hcs; have hW1' := Lib.hid hW1; have hfl' := Lib.hid hfl; have hok' := Lib.hid hok; clear f hql hB hcl hq hone hB65 HQ hal hqb hcs hW1 hfl hok
      go_upto_region 5 with (first
        | (refine wpList_load_at rfl 172 (.tmp 15) rfl bb (o + k * 65) rfl (qC q) B hB'.out _ f'.out Try.underlying172 rfl 65 infoQ hcl'.out ?_)
        | (refine wpList_store_row rfl 172 (.tmp 8) (.tmp 16) rfl wr.heap.size B rfl rfl 172 Try.zeroCells172 (heap_new _ _) (by rw [hB65'.out]; exact infoQ) (by rw [hB65'.out]; exact zeroQ) hone'.out ?_))
      rw [setRow_alloc, hW1'.out]
      go_wp2_with (refine wpList_load_at rfl 172 (.tmp 8) rfl wr.heap.size 0 rfl (qC q) B hB'.out _ hcs'.out Try.underlying172 rfl 65 infoQ hcl'.out ?_)
      refine (HQ'.out _).mono ?_; rintro e w2 ⟨a2, n2, c2, rfl, hb2, ho2⟩; have hb12 := hal'.out.trans (hb2.mono hal'.out.size); have hbw := hbel.out.trans (hb12.mono hbel.out.size); have Ob2 := own_later Ob.out hb12
      cases ok with
      | false =>
        obtain rfl : R = none := by rw [← hR'.out]; exact allW_no hq'.out hok'.out
        clear ho2 hb2; have hb12' := Lib.hid hb12; have hbw' := Lib.hid hbw; have Ob2' := Lib.hid Ob2; clear hb12 hbw Ob2
        go_wp2
        go_ret2
        exact ⟨hbw'.out, rfl⟩
      | true =>
        have ho3 := ho2 rfl; clear ho2; obtain ⟨h65, ho2⟩ := ho3; have hn2 : n2 ≤ 65 := by omega
        have hs2 := (Sl.of_own ho2).1; have hsz := hbel.out.size; have hsz2 := hbw.size
        have hall2 : ∀ j x, j < k + 1 → qs[j]? = some x → qOk x = true := fun j x hj hx => by
          rcases Nat.lt_or_ge j k with h | h
          · exact hall.out j x h hx
          · obtain rfl : j = k := by omega
            rw [hq'.out] at hx; injection hx with hx; rw [← hx]; exact hok'.out
        clear ho2 hb2 hb12; have hbw' := Lib.hid hbw; have Ob2' := Lib.hid Ob2; have hs2' := Lib.hid hs2; have hall2' := Lib.hid hall2; have hsz' := Lib.hid hsz; have hsz2' := Lib.hid hsz2; have h65' := Lib.hid h65; clear hbw Ob2 hs2 hall2 hsz hsz2 h65
        go_wp2_with (at_builtin; refine wpList_app rfl _ _ 30 rfl w.heap.size 5 i0 _ 1 1 Try.underlying30 hi hz0 hz1 hz2 rfl (by decide) _ m _ rfl Ob2'.out a2 n2 c2 _ rfl hs2'.out ints_one (by omega) (by decide) hsz2'.out ?_; intro a6 c6 w6 ob6 hb6 hg6; have Ob6 := Lib.hid ob6; have Hb6 := Lib.hid (hbw'.out.trans hb6); clear ob6 hb6 hg6)
        go_roundw
        case rel => exact ⟨k + 1, m + n2, a6, c6, by omega, by have := hm'.out; have := h65'.out; omega, by go_num, rfl, hall2', Lib.hid (by rw [hfl'.out, ints_append]; exact Ob6.out), Hb6⟩
        case measure => simp [intOf]; omega
    · have hkn : k = n := by omega
      have Ob2 := Ob.out; have hall2 : ∀ j x, qs[j]? = some x → qOk x = true := fun j x hx => hall.out j x (by rw [hkn, ← hl'.out]; exact (List.getElem?_eq_some_iff.1 hx).1) hx; rw [hkn, ← hl'.out] at Ob2
      by_cases hn0 : n = 0
      · obtain rfl : R = none := by
          rw [← hR'.out]; have : qs = [] := List.eq_nil_of_length_eq_zero (by rw [hl'.out, hn0]); rw [this]; rfl
        subst hn0; have Ob2' := Lib.hid Ob2; have hall2' := Lib.hid hall2; have hkn' := Lib.hid hkn; clear Ob2 hall2 hkn
        go_wp2
        go_ret2
        exact ⟨hbel.out, rfl⟩
      · obtain rfl : R = some (flatW qW qs qs.length) := by
          rw [← hR'.out]; exact allW_yes hall2 (fun h => hn0 (by rw [← hl'.out, h]; rfl))
        have hnb : ((n : Int) == 0) = false := by simp; omega
        have Ob2' := Lib.hid Ob2; have hall2' := Lib.hid hall2; have hkn' := Lib.hid hkn; clear Ob2 hall2 hkn; clear hn0
        go_wp2
        go_ret2
        exact ⟨hbel.out, a3, m, c3, rfl, Ob2'.out⟩
theorem quants_any (a : Option Addr) (n c : Nat) (qs : List Qt64) (w : World) (hs : QsR w a n c qs) (hn : n ≤ 100) : Calls Try.prog 35 #[.slice a n c] w (PayR w (allW qOk qW qs)) := by
  have HP := payQ_any a n c qs w hs hn; clear hs; obtain ⟨R, hR⟩ : ∃ R, allW qOk qW qs = R := ⟨_, rfl⟩; rw [hR] at HP ⊢; have HP' := Lib.hid HP; have hR' := Lib.hid hR; clear HP hR
  go_enter Try.func35, Try.ntmps35
  go_wp2_with fail
  refine HP'.out.mono ?_; rintro e w2 ⟨hb, hr⟩
  cases R with
  | none =>
    obtain rfl := hr; have hb' := Lib.hid hb; clear hb
    go_wp2
    go_ret2
    exact ⟨hb'.out, rfl⟩
  | some b =>
    obtain ⟨a2, n2, c2, rfl, ho⟩ := hr; have hb' := Lib.hid hb; have ho' := Lib.hid ho; clear hb ho
    go_wp2
    go_ret2
    exact ⟨hb'.out, a2, n2, c2, rfl, ho'.out⟩
end Go.Proofs.Ytpjopeojeglogaa
