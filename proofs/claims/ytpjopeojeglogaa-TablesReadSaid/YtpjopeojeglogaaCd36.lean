/- Chapter 14: rows of tables of codes that are the same: the document. -/
import Derived.Test.YtpjopeojeglogaaCd35
namespace Tt
open Go Go.RowKit Go.BigFrame
set_option linter.unusedVariables false
section
variable {P : Program} {ops : Array Oper} {rest : List Oper} {o : Oper} {a : Act} {C : World → Prop} {Q : Act → Prop}
theorem wpQuiet_load_atW (hg : Region.wanted o (yielded ops a.tmps) = true) (ty : TypeId) (x : Operand) (ho : o.op = .load ty x) (g f : Nat) (hx : a.eval x = .pointer (some ⟨g, f, none⟩)) (cs : List Value) (A : Array Value) (hA : cs.toArray = A) (d : TypeDesc) (hc : ∀ w, C w → ∀ j v, cs[j]? = some v → w.cell? ⟨g, f + j, none⟩ = some v)
    (hu : P.underlying ty = some d) (hd : isAggD d = true) (z : Nat) (hi : (P.info? ty).map (·.size) = some z) (hz : cs.length = z) (h : wpQuiet P ops C Q rest (a.put o.dst (.agg A))) : wpQuiet P ops C Q (o :: rest) a :=
  wpQuiet_want hg fun K hK => quiet_load_at ty x ho g f hx cs A hA d hc hu hd z hi hz (hK _ h)
end
end Tt
namespace Go.Proofs.Ytpjopeojeglogaa
open Go.RowKit Tt
set_option linter.unusedVariables false
set_option linter.unusedSimpArgs false

set_option maxRecDepth 20000 in
set_option maxHeartbeats 4000000 in
theorem rsameC_eq (a b : Option Addr) (n c d : Nat) (ms ns : List CdM) (w : World) (ha : CdsB w a n c ms) (hb : CdsB w b n d ns) (he : ms.map (·.1) = ns.map (·.1)) :
    Calls Try.prog 51 #[.slice a n c, .slice b n d] w fun e w' => e = .returned (.bool true) ∧ Below w.heap.size w w' := by
  have hl := ha.ilen; have hl2 := hb.ilen; have hmx := ha.sl.max; have hle := ha.sl.le; have hq0 := Below.refl w.heap.size w; have hnb : ((n : Int) != n) = false := by simp
  have ha' := Lib.hid ha; have hb' := Lib.hid hb; have hl' := Lib.hid hl; have hl2' := Lib.hid hl2; have hq0' := Lib.hid hq0; have he' := Lib.hid he; clear ha hb hl hl2 hq0 he
  go_enter Try.func51, Try.ntmps51
  go_wp2
  go_loopw [5] (fun iv wr => ∃ (k : Nat), k ≤ n ∧ iv = .int .i64 k ∧ Hid (Below w.heap.size w wr)) (fun iv _ => n - (intOf iv).toNat)
  case atStart => exact ⟨0, by omega, rfl, hq0'⟩
  case round =>
    obtain ⟨k, hk, rfl, hq⟩ := hrel
    by_cases hlt : k < n
    · obtain ⟨x, hx⟩ : ∃ x, ms[k]? = some x := ⟨_, List.getElem?_eq_getElem (by rw [hl'.out]; exact hlt)⟩
      obtain ⟨y, hy⟩ : ∃ y, ns[k]? = some y := ⟨_, List.getElem?_eq_getElem (by rw [hl2'.out]; exact hlt)⟩
      have hxy : x.1 = y.1 := by
        have h := congrArg (fun l => l[k]?) he'.out; simp only [List.getElem?_map, hx, hy, Option.map_some, Option.some.injEq] at h; exact h
      have kx := ha'.out.ok x (List.mem_of_getElem? hx); have ky := hb'.out.ok y (List.mem_of_getElem? hy); obtain ⟨ba, oa, rfl, hba, fa⟩ := ha'.out.elem hx; obtain ⟨bb, ob, rfl, hbb, fb⟩ := hb'.out.elem hy; obtain ⟨⟨cl, id, cnt, ss⟩, sa, sn, sc⟩ := x; obtain ⟨yc, ta, tn, tc⟩ := y; obtain rfl : (cl, id, cnt, ss) = yc := hxy; have h16 : cnt.length = 16 := kx.len; have lx : ss.length = sn := kx.sl.ilen; have ly : ss.length = tn := ky.sl.ilen; obtain rfl : sn = tn := lx.symm.trans ly; obtain ⟨A, hA⟩ : ∃ A, (ints .i64 cnt ++ [Value.slice sa sn sc]).toArray = A := ⟨_, rfl⟩; obtain ⟨B, hB⟩ : ∃ B, (ints .i64 cnt ++ [Value.slice ta sn tc]).toArray = B := ⟨_, rfl⟩; obtain ⟨Ty, ff, hne, hbel, hsurj⟩ := later_worlds wr; have hbw := fun s => hq.out.trans ((hbel s).mono hq.out.size); have HQ := Lib.hid (hsurj _ ((Below.refl _ _).drew)); have f0 : ∀ s, (ff s).cell? ⟨ba, oa + k * 19, none⟩ = some (.int .i64 cl) := fun s => ((hbw s).cell (p := ⟨ba, oa + k * 19, none⟩) hba).trans (fa 0 _ rfl); have f1 : ∀ s, (ff s).cell? ⟨ba, oa + k * 19 + 1, none⟩ = some (.int .i64 id) := fun s => ((hbw s).cell (p := ⟨ba, oa + k * 19 + 1, none⟩) hba).trans (fa 1 _ rfl); have e0 : ∀ s, (ff s).cell? ⟨bb, ob + k * 19, none⟩ = some (.int .i64 cl) := fun s => ((hbw s).cell (p := ⟨bb, ob + k * 19, none⟩) hbb).trans (fb 0 _ rfl); have e1 : ∀ s, (ff s).cell? ⟨bb, ob + k * 19 + 1, none⟩ = some (.int .i64 id) := fun s => ((hbw s).cell (p := ⟨bb, ob + k * 19 + 1, none⟩) hbb).trans (fb 1 _ rfl)
      have fA : ∀ W, (∃ s, W = ff s) → ∀ j v, (ints .i64 cnt ++ [Value.slice sa sn sc])[j]? = some v → W.cell? ⟨ba, oa + k * 19 + 2 + j, none⟩ = some v := fun W h j v hv => by
        obtain ⟨s, rfl⟩ := h; rw [Nat.add_assoc (oa + k * 19) 2 j]; exact ((hbw s).cell (p := ⟨ba, oa + k * 19 + (2 + j), none⟩) hba).trans (fa (2 + j) v (by rw [Nat.add_comm 2 j]; exact hv))
      have fB : ∀ W, (∃ s, W = ff s) → ∀ j v, (ints .i64 cnt ++ [Value.slice ta sn tc])[j]? = some v → W.cell? ⟨bb, ob + k * 19 + 2 + j, none⟩ = some v := fun W h j v hv => by
        obtain ⟨s, rfl⟩ := h; rw [Nat.add_assoc (ob + k * 19) 2 j]; exact ((hbw s).cell (p := ⟨bb, ob + k * 19 + (2 + j), none⟩) hbb).trans (fb (2 + j) v (by rw [Nat.add_comm 2 j]; exact hv))
      have hlA : (ints .i64 cnt ++ [Value.slice sa sn sc]).length = 17 := by simp [ints_len, h16]
      have hlB : (ints .i64 cnt ++ [Value.slice ta sn tc]).length = 17 := by simp [ints_len, h16]
      have HH := fun s => rsameH_eq cnt ss sa ta sn sc tc A B hA hB (ff s) h16 (kx.sl.mono (hbw s)) (ky.sl.mono (hbw s)); have b1 : (cl != cl) = false := by simp
      have b2 : (id != id) = false := by simp
      clear fa fb; have hx' := Lib.hid hx; have hy' := Lib.hid hy; have kx' := Lib.hid kx; have ky' := Lib.hid ky; have h16' := Lib.hid h16; have lx' := Lib.hid lx; have ly' := Lib.hid ly; have hA' := Lib.hid hA; have hB' := Lib.hid hB; have hbel' := Lib.hid hbel; have hsurj' := Lib.hid hsurj; have hbw' := Lib.hid hbw; have fA' := Lib.hid fA; have fB' := Lib.hid fB; have hlA' := Lib.hid hlA; have hlB' := Lib.hid hlB; have HH' := Lib.hid HH; clear hx hy kx ky h16 lx ly hA hB hbel hsurj hbw fA fB hlA hlB HH
      go_wp2
      refine wp_quiet_in ff (by kernel_rfl) (by kernel_rfl) HQ.out ?_
      iterate 29 (go_big_quiet_step (fail))
      refine wpQuiet_load_atW rfl 45 (.tmp 45) rfl ba (oa + k * 19 + 2) rfl (ints .i64 cnt ++ [Value.slice sa sn sc]) A hA'.out _ fA'.out Try.underlying45 rfl 17 infoH17 hlA'.out ?_; simp only [Act.put, List.setIfInBounds_toArray, List.set_cons_succ, List.set_cons_zero]
      iterate 4 (go_big_quiet_step (fail))
      refine wpQuiet_load_atW rfl 45 (.tmp 50) rfl bb (ob + k * 19 + 2) rfl (ints .i64 cnt ++ [Value.slice ta sn tc]) B hB'.out _ fB'.out Try.underlying45 rfl 17 infoH17 hlB'.out ?_; simp only [Act.put, List.setIfInBounds_toArray, List.set_cons_succ, List.set_cons_zero]
      iterate 1 (go_big_quiet_step ((go_at_call 67; refine (HH'.out _).mono ?_; rintro e w3 ⟨rfl, hb3⟩; exact ⟨rfl, hsurj'.out _ ((hbel'.out _).trans (hb3.mono (hbel'.out _).size))⟩)))
      iterate 2 (go_big_quiet_step (fail))
      refine wpQuiet_nil ?_; intro s; have hbd := hbw'.out s; clear f0 f1 e0 e1 hne HQ; have hbd' := Lib.hid hbd; clear hbd
      go_wp2
      go_roundw
      case rel => exact ⟨k + 1, by omega, by go_num, hbd'⟩
      case measure => simp [intOf]; omega
    · go_wp2
      go_ret
      exact ⟨rfl, hq.out⟩
end Go.Proofs.Ytpjopeojeglogaa
