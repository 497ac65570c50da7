/- Frames: tables and heads that came in (chapter 14). -/
import Derived.Lib.SmallJoins
import Derived.Test.YtpjopeojeglogaaCb02
import Derived.Test.YtpjopeojeglogaaCb28
namespace Go.Proofs.Ytpjopeojeglogaa
open Go.ChangeShapes Go.WideShapes Go.ChangeAt Go.RowKit Go.Deep Tt
set_option linter.unusedVariables false
set_option linter.unusedSimpArgs false

section
variable {H : Type} {enc : TypeId × Value → H} {W : World} {base : Nat} {held : Bool}
theorem nums_of {k : IntKind} {m : Nat} {cs : List Value} (hl : cs.length = m) (each : ∀ i, i < m → ∃ z : Int, cs[i]? = some (.int k z) ∧ (Lit.int k z).wf = true) :
    ∃ zs : List Int, zs.length = m ∧ cs = ints k zs ∧ ∀ z ∈ zs, (Lit.int k z).wf = true := by
  have hex : ∀ i, ∃ z : Int, i < m → cs[i]? = some (.int k z) ∧ (Lit.int k z).wf = true := fun i => by
    by_cases hi : i < m
    · obtain ⟨z, hz⟩ := each i hi; exact ⟨z, fun _ => hz⟩
    · exact ⟨0, fun h0 => absurd h0 hi⟩
  obtain ⟨q, hq⟩ := Classical.axiomOfChoice hex; refine ⟨(List.range m).map q, by simp, ?_, ?_⟩
  · apply List.ext_getElem?
    intro i
    by_cases hi : i < m
    · rw [(hq i hi).1]
      simp [ints, hi]
    · rw [List.getElem?_eq_none (by omega), List.getElem?_eq_none (by simp [ints]; omega)]
  · intro z hz
    obtain ⟨i, hi, rfl⟩ := List.mem_map.1 hz; exact (hq i (by simpa using hi)).2
/-- an array of numbers -/
theorem array_nums {t e : TypeId} {k : IntKind} {n fuel : Nat} {cs : List Value} {x : DataW H × List MemPlace} (ht : Try.prog.underlying t = some (.array n e)) (he : Try.prog.underlying e = some (.int k)) (hc : Program.cellsOf Try.prog e = 1) (hn : Program.cellsOf Try.prog t = n)
    (h : DataW.trod enc Try.prog W base (fun _ => true) held fuel t cs = some x) : ∃ zs : List Int, zs.length = n ∧ cs = ints k zs ∧ ∀ z ∈ zs, (Lit.int k z).wf = true := by
  obtain ⟨xs, m, _, _, hl, hxl, hall⟩ := DataW.trod_array ht h; rw [hn] at hl; refine nums_of hl fun i hi => ?_; have h4 := hall i hi; rw [hc, Nat.mul_one, List.getElem?_eq_getElem (show i < xs.length by omega)] at h4; obtain ⟨z, e0, _, hw⟩ := DataW.trod_int he h4; refine ⟨z, ?_, hw⟩; have h5 : ((cs.drop i).take 1)[0]? = some (.int k z) := by rw [e0]; rfl
  rw [List.getElem?_take, if_pos (by decide), List.getElem?_drop, Nat.add_zero] at h5; exact h5
/-- a field of a struct -/
theorem field_of {t : TypeId} {fs : Array Field} {fuel : Nat} {cs : List Value} {x : DataW H × List MemPlace} (ht : Try.prog.underlying t = some (.struct fs)) (h : DataW.trod enc Try.prog W base (fun _ => true) held fuel t cs = some x) (i : Nat) (T : TypeId) (o k : Nat)
    (hf : (fs[i]?).map (fun f => (f.type, f.offset)) = some (T, o)) (hk : Program.cellsOf Try.prog T = k) : ∃ n y, DataW.trod enc Try.prog W base (fun _ => true) held n T ((cs.drop o).take k) = some y := by
  obtain ⟨xs, n, _, _, hl, hxl, hall⟩ := DataW.trod_struct ht h; obtain ⟨f, hf1, hf2⟩ := Option.map_eq_some_iff.1 hf; injection hf2 with e1 e2; have h4 := hall i f hf1
  have hil : i < xs.length := by
    rw [hxl]; exact (Array.getElem?_eq_some_iff.1 hf1).1
  rw [e1, e2, hk, List.getElem?_eq_getElem hil] at h4; exact ⟨n, _, h4⟩
theorem struct_len {t : TypeId} {fs : Array Field} {fuel : Nat} {cs : List Value} {x : DataW H × List MemPlace} (ht : Try.prog.underlying t = some (.struct fs)) (h : DataW.trod enc Try.prog W base (fun _ => true) held fuel t cs = some x) : cs.length = Program.cellsOf Try.prog t := by
  obtain ⟨xs, n, _, _, hl, _⟩ := DataW.trod_struct ht h; exact hl
theorem open_rowv {α : Type} (z0 : α) (k : Nat) (hk : 0 < k) (f : α → List Value) (R : α → Prop) (hf : ∀ x, R x → (f x).length = k) {T E : TypeId} (hT : Program.underlying Try.prog T = some (.slice E)) (hc : Program.cellsOf Try.prog E = k) {fuel : Nat} {a : Option Addr} {n cp : Nat} {x : DataW H × List MemPlace}
    (h : DataW.trod enc Try.prog W base (fun _ => true) held fuel T (Value.slice a n cp).cells.toList = some x) (each : ∀ m cs y, DataW.trod enc Try.prog W base (fun _ => true) held m E cs = some y → ∃ z, cs = f z ∧ R z) :
    ∃ zs : List α, Sl W a n cp k ((zs.map f).flatten) ∧ ∀ z ∈ zs, R z := by
  rcases DataW.trod_slice hT h with ⟨hcs, _⟩ | ⟨ad, len, cap, elems, rest, m, hfu, hcs, _, hb, hl, hm, hlen, hel, _, _⟩
  · simp [Value.cells] at hcs
    obtain ⟨rfl, rfl, rfl⟩ := hcs; exact ⟨[], Sl.nil _ _, fun z hz => by cases hz⟩
  · simp [Value.cells] at hcs
    obtain ⟨rfl, rfl, rfl⟩ := hcs; rw [hc] at hel
    have each2 : ∀ i, i < n → ∃ z : α, (∀ j v, (f z)[j]? = some v → W.cell? (ad.add (i * k + j)) = some v) ∧ R z := fun i hi => by
      have h1 := hel i hi; rw [List.getElem?_eq_getElem (by omega)] at h1; obtain ⟨cs', hcc, ht⟩ := Option.bind_eq_some_iff.1 h1; obtain ⟨z, rfl, hs⟩ := each m _ _ ht; refine ⟨z, fun j v hj => ?_, hs⟩; obtain ⟨_, hcl, hcc⟩ := World.cells?_some hcc; have hj4 : j < k := by have := (List.getElem?_eq_some_iff.1 hj).1; rwa [hf z hs] at this
      rw [← hj, ← hcc j hj4, Addr.add_add]
    have hex : ∀ i, ∃ z : α, i < n → (∀ j v, (f z)[j]? = some v → W.cell? (ad.add (i * k + j)) = some v) ∧ R z := fun i => by
      by_cases hi : i < n
      · obtain ⟨z, h1⟩ := each2 i hi
        exact ⟨z, fun _ => h1⟩
      · exact ⟨z0, fun h0 => absurd h0 hi⟩
    obtain ⟨q, hq⟩ := Classical.axiomOfChoice hex; have hql : ∀ i, i < n → (f (q i)).length = k := fun i hi => hf _ (hq i hi).2
    have e : (((List.range n).map q).map f).flatten = (List.range n).flatMap fun i => f (q i) := by
      rw [List.map_map]
      rfl
    refine ⟨(List.range n).map q, ?_, fun z hz => ?_⟩
    · rw [e]
      refine ⟨flatm_len k _ n hql, hl, hm, fun i hi => ?_, fun he => by cases he⟩; obtain ⟨v0, hv0⟩ : ∃ v0, (f (q 0))[0]? = some v0 := ⟨_, List.getElem?_eq_getElem (by rw [hql 0 (by omega)]; exact hk)⟩; have h0 := (hq 0 (by omega)).1 0 _ hv0; rw [Nat.zero_mul, Nat.zero_add, add_zero_addr] at h0; obtain ⟨ea, hlt⟩ := cell_spot h0; refine ⟨ad.block, ad.off, by rw [← ea], hlt, fun j v hj => ?_⟩
      have hjn : j < n * k := by
        have := (List.getElem?_eq_some_iff.1 hj).1
        rwa [flatm_len k _ n hql] at this
      have hdv : j / k * k + j % k = j := by rw [Nat.mul_comm]; exact Nat.div_add_mod j k
      have hjk : j / k < n := (Nat.div_lt_iff_lt_mul hk).2 hjn; have hj2 := flatm_get k (fun i => f (q i)) n hql (j / k) (j % k) hjk (Nat.mod_lt _ hk); rw [hdv] at hj2; have h1 := (hq (j / k) hjk).1 (j % k) v (hj2.symm.trans hj); rw [hdv] at h1; rw [ea, mk_add] at h1; exact h1
    · obtain ⟨i, hi, rfl⟩ := List.mem_map.1 hz
      exact (hq i (List.mem_range.1 hi)).2
theorem cut1 {l : List Value} {o : Nat} {v : Value} (h : (l.drop o).take 1 = [v]) : l.drop o = v :: l.drop (o + 1) := by
  have := List.take_append_drop 1 (l.drop o); rw [h, List.drop_drop] at this; exact this.symm
theorem cutk {l r : List Value} {o k : Nat} (h : (l.drop o).take k = r) : l.drop o = r ++ l.drop (o + k) := by
  have := List.take_append_drop k (l.drop o); rw [h, List.drop_drop] at this; exact this.symm
theorem cint : Program.cellsOf Try.prog 3 = 1 := by kernel_rfl
theorem quant_cells {fuel : Nat} {cs : List Value} {x : DataW H × List MemPlace} (h : DataW.trod enc Try.prog W base (fun _ => true) held fuel 172 cs = some x) : ∃ q : Qt64, cs = qC q ∧ q.2.length = 64 := by
  have hl := struct_len Try.underlying172 h; rw [show Program.cellsOf Try.prog 172 = 65 by kernel_rfl] at hl; obtain ⟨n0, y0, h0⟩ := field_of Try.underlying172 h 0 3 0 1 rfl cint; obtain ⟨n1, y1, h1⟩ := field_of Try.underlying172 h 1 129 1 64 rfl (by kernel_rfl); obtain ⟨z, e0, _, _⟩ := DataW.trod_int Try.underlying3 h0; obtain ⟨t, ht, e1, _⟩ := array_nums (n := 64) Try.underlying129 Try.underlying3 cint (by kernel_rfl) h1; refine ⟨(z, t), ?_, ht⟩; have e2 := cut1 e0; have e3 := cutk e1; rw [List.drop_zero] at e2; rw [e2, e3, List.drop_of_length_le (by omega), List.append_nil]
  rfl
theorem coder_cells {fuel : Nat} {cs : List Value} {x : DataW H × List MemPlace} (h : DataW.trod enc Try.prog W base (fun _ => true) held fuel 165 cs = some x) : ∃ m : CdM, cs = cMC m ∧ CdB W m := by
  have hl := struct_len Try.underlying165 h; rw [show Program.cellsOf Try.prog 165 = 19 by kernel_rfl] at hl; obtain ⟨n0, y0, h0⟩ := field_of Try.underlying165 h 0 3 0 1 rfl cint; obtain ⟨n1, y1, h1⟩ := field_of Try.underlying165 h 1 3 1 1 rfl cint; obtain ⟨n2, y2, h2⟩ := field_of Try.underlying165 h 2 45 2 17 rfl (by kernel_rfl); obtain ⟨cl, e0, _, _⟩ := DataW.trod_int Try.underlying3 h0; obtain ⟨id, e1, _, _⟩ := DataW.trod_int Try.underlying3 h1; obtain ⟨hs, hhs⟩ : ∃ hs, (cs.drop 2).take 17 = hs := ⟨_, rfl⟩; rw [hhs] at h2; have hhl := struct_len Try.underlying45 h2; rw [show Program.cellsOf Try.prog 45 = 17 by kernel_rfl] at hhl; obtain ⟨n3, y3, h3⟩ := field_of Try.underlying45 h2 0 43 0 16 rfl (by kernel_rfl); obtain ⟨n4, y4, h4⟩ := field_of Try.underlying45 h2 1 35 16 1 rfl (by kernel_rfl); obtain ⟨cnt, hc16, e3, _⟩ := array_nums (n := 16) Try.underlying43 Try.underlying3 cint (by kernel_rfl) h3; obtain ⟨a, l, p, e4⟩ := Go.Joins.slice_form Try.underlying35 h4; rw [e4] at h4; obtain ⟨ss, hsl, hw⟩ := open_nums Try.underlying35 Try.underlying3 cint (show DataW.trod enc Try.prog W base (fun _ => true) held n4 35 (Value.slice a l p).cells.toList = some y4 from h4) rfl; refine ⟨((cl, id, cnt, ss), a, l, p), ?_, ⟨hc16, hsl, hw⟩⟩; have f0 := cut1 e0; have f1 := cut1 e1; have f2 := cutk hhs; have f3 := cutk e3; have f4 := cut1 e4; rw [List.drop_zero] at f0 f3; rw [f0, f1, f2, f3, f4, List.drop_of_length_le (show hs.length ≤ _ by omega), List.drop_of_length_le (show cs.length ≤ _ by omega), List.append_nil]
  rfl
theorem list4 {l : List Int} (h : l.length = 4) : l = [l.getD 0 0, l.getD 1 0, l.getD 2 0, l.getD 3 0] := by
  match l, h with
  | [a, b, c, d], _ => rfl
theorem list3 {l : List Int} (h : l.length = 3) : l = [l.getD 0 0, l.getD 1 0, l.getD 2 0] := by
  match l, h with
  | [a, b, c], _ => rfl
theorem flat_same {α β : Type} (f g : α → List β) : ∀ (l : List α), (∀ x ∈ l, f x = g x) → l.flatMap f = l.flatMap g
  | [], _ => rfl
  | x :: r, h => by rw [List.flatMap_cons, List.flatMap_cons, h x (List.mem_cons_self ..), flat_same f g r (fun y hy => h y (List.mem_cons_of_mem _ hy))]
theorem wf_Wf {x : Int} (h : (Lit.int .i64 x).wf = true) : Wf x := by
  simp [Lit.wf, IntKind.min, IntKind.max, IntKind.signed, IntKind.bits] at h
  unfold Wf
  omega
theorem open_comps {fuel : Nat} {a : Option Addr} {n c : Nat} {x : DataW H × List MemPlace} (h : DataW.trod enc Try.prog W base (fun _ => true) held fuel 54 (Value.slice a n c).cells.toList = some x) :
    ∃ l : List Cmp4, StR cmpL 4 W a n c l ∧ ∀ x ∈ l, CmpWf x := by
  obtain ⟨q, hq, hs⟩ := open_structs (m := 4) (by decide) Try.underlying54 Try.underlying167 Try.underlying3 cint (by kernel_rfl) (fun i hi => by
    have : i = 0 ∨ i = 1 ∨ i = 2 ∨ i = 3 := by omega
    rcases this with rfl | rfl | rfl | rfl <;> exact ⟨_, rfl, rfl, rfl⟩) h
  refine ⟨(List.range n).map fun i => ((q i).getD 0 0, (q i).getD 1 0, (q i).getD 2 0, (q i).getD 3 0), ⟨?_, by simp⟩, fun x hx => ?_⟩
  · rw [ints_flat, List.map_map]
    have e : ((List.range n).flatMap fun i => ints .i64 (q i)) = (List.map ((fun x => ints .i64 (cmpL x)) ∘ fun i => ((q i).getD 0 0, (q i).getD 1 0, (q i).getD 2 0, (q i).getD 3 0)) (List.range n)).flatten := by
      show List.flatMap _ _ = List.flatMap _ _
      refine flat_same _ _ _ fun i hi => ?_; have h4 := list4 (hq i (List.mem_range.1 hi)).1
      show ints .i64 (q i) = ints .i64 [_, _, _, _]
      rw [← h4]
    rw [← e]; exact hs
  · obtain ⟨i, hi, rfl⟩ := List.mem_map.1 hx
    obtain ⟨h1, h2⟩ := hq i (List.mem_range.1 hi); exact ⟨wf_Wf (h2 _ (get_mem (by omega))), wf_Wf (h2 _ (get_mem (by omega)))⟩
theorem open_uses {fuel : Nat} {a : Option Addr} {n c : Nat} {x : DataW H × List MemPlace} (h : DataW.trod enc Try.prog W base (fun _ => true) held fuel 57 (Value.slice a n c).cells.toList = some x) :
    ∃ l : List Use3, StR useL 3 W a n c l := by
  obtain ⟨q, hq, hs⟩ := open_structs (m := 3) (by decide) Try.underlying57 Try.underlying169 Try.underlying3 cint (by kernel_rfl) (fun i hi => by
    have : i = 0 ∨ i = 1 ∨ i = 2 := by omega
    rcases this with rfl | rfl | rfl <;> exact ⟨_, rfl, rfl, rfl⟩) h
  refine ⟨(List.range n).map fun i => ((q i).getD 0 0, (q i).getD 1 0, (q i).getD 2 0), ⟨?_, by simp⟩⟩; rw [ints_flat, List.map_map]
  have e : ((List.range n).flatMap fun i => ints .i64 (q i)) = (List.map ((fun x => ints .i64 (useL x)) ∘ fun i => ((q i).getD 0 0, (q i).getD 1 0, (q i).getD 2 0)) (List.range n)).flatten := by
    show List.flatMap _ _ = List.flatMap _ _
    refine flat_same _ _ _ fun i hi => ?_; have h4 := list3 (hq i (List.mem_range.1 hi)).1
    show ints .i64 (q i) = ints .i64 [_, _, _]
    rw [← h4]
  rw [← e]; exact hs
set_option maxRecDepth 100000 in
theorem open_all {r : Reach} {v : Value} {d : DataW H} {p : List MemPlace} {b0 : Nat} (hv : Value.okWide Try.prog W r b0 59 v) (h : DataW.Trod enc Try.prog W base (fun _ => true) held 59 v d p) :
    ∃ (qa ca pa ua : Option Addr) (qn qc cn cc pn pc un uc : Nat) (fw fh iv : Int) (qs : List Qt64) (ms : List CdM) (cs : List Cmp4) (us : List Use3), v = .agg #[.slice qa qn qc, .slice ca cn cc, .int .i64 fw, .int .i64 fh, .slice pa pn pc, .slice ua un uc, .int .i64 iv] ∧
      QsR W qa qn qc qs ∧ CdsB W ca cn cc ms ∧ StR cmpL 4 W pa pn pc cs ∧ StR useL 3 W ua un uc us ∧ (∀ x ∈ cs, CmpWf x) ∧ Wf fw ∧ Wf fh ∧ Wf iv := by
  obtain ⟨cs, rfl, hsz⟩ := okWide_struct Try.underlying59 hv; obtain ⟨fuel, hf⟩ := h; rw [show (Value.agg cs).cells.toList = cs.toList from rfl] at hf; have hl := struct_len Try.underlying59 hf; rw [show Program.cellsOf Try.prog 59 = 7 by kernel_rfl] at hl; obtain ⟨n0, y0, h0⟩ := field_of Try.underlying59 hf 0 52 0 1 rfl (by kernel_rfl); obtain ⟨n1, y1, h1⟩ := field_of Try.underlying59 hf 1 53 1 1 rfl (by kernel_rfl); obtain ⟨n2, y2, h2⟩ := field_of Try.underlying59 hf 2 56 2 3 rfl (by kernel_rfl); obtain ⟨n3, y3, h3⟩ := field_of Try.underlying59 hf 3 57 5 1 rfl (by kernel_rfl); obtain ⟨n4, y4, h4⟩ := field_of Try.underlying59 hf 4 3 6 1 rfl cint; obtain ⟨fs, hfs⟩ : ∃ fs, (cs.toList.drop 2).take 3 = fs := ⟨_, rfl⟩; rw [hfs] at h2; have hfl := struct_len Try.underlying56 h2; rw [show Program.cellsOf Try.prog 56 = 3 by kernel_rfl] at hfl; obtain ⟨n5, y5, h5⟩ := field_of Try.underlying56 h2 0 3 0 1 rfl cint; obtain ⟨n6, y6, h6⟩ := field_of Try.underlying56 h2 1 3 1 1 rfl cint; obtain ⟨n7, y7, h7⟩ := field_of Try.underlying56 h2 2 54 2 1 rfl (by kernel_rfl); obtain ⟨qa, qn, qc, e0⟩ := Go.Joins.slice_form Try.underlying52 h0; obtain ⟨ca, cn, cc, e1⟩ := Go.Joins.slice_form Try.underlying53 h1; obtain ⟨ua, un, uc, e3⟩ := Go.Joins.slice_form Try.underlying57 h3; obtain ⟨pa, pn, pc, e7⟩ := Go.Joins.slice_form Try.underlying54 h7; obtain ⟨iv, e4, _, w4⟩ := DataW.trod_int Try.underlying3 h4; obtain ⟨fw, e5, _, w5⟩ := DataW.trod_int Try.underlying3 h5; obtain ⟨fh, e6, _, w6⟩ := DataW.trod_int Try.underlying3 h6; rw [e0] at h0; rw [e1] at h1; rw [e3] at h3; rw [e7] at h7; obtain ⟨qs, sq, rq⟩ := open_rowv ((0, []) : Qt64) 65 (by decide) qC (fun q => q.2.length = 64) (fun q hq => qC_len hq) Try.underlying52 (by kernel_rfl) (show DataW.trod enc Try.prog W base (fun _ => true) held n0 52 (Value.slice qa qn qc).cells.toList = some y0 from h0) (fun m cs y hy => quant_cells hy); obtain ⟨ms, sm, rm⟩ := open_rowv (((0, 0, [], []), none, 0, 0) : CdM) 19 (by decide) cMC (CdB W) (fun q hq => cMC_len hq.len) Try.underlying53 (by kernel_rfl) (show DataW.trod enc Try.prog W base (fun _ => true) held n1 53 (Value.slice ca cn cc).cells.toList = some y1 from h1) (fun m cs y hy => coder_cells hy); obtain ⟨cps, sp, rp⟩ := open_comps (show DataW.trod enc Try.prog W base (fun _ => true) held n7 54 (Value.slice pa pn pc).cells.toList = some y7 from h7); obtain ⟨us, su⟩ := open_uses (show DataW.trod enc Try.prog W base (fun _ => true) held n3 57 (Value.slice ua un uc).cells.toList = some y3 from h3); refine ⟨qa, ca, pa, ua, qn, qc, cn, cc, pn, pc, un, uc, fw, fh, iv, qs, ms, cps, us, ?_, ⟨sq, rq⟩, ⟨sm, rm⟩, sp, su, rp, wf_Wf w5, wf_Wf w6, wf_Wf w4⟩; have f0 := cut1 e0; have f1 := cut1 e1; have f2 := cutk hfs; have f3 := cut1 e3; have f4 := cut1 e4; have f5 := cut1 e5; have f6 := cut1 e6; have f7 := cut1 e7; rw [List.drop_zero] at f0 f5
  congr 1
  apply Array.toList_inj.1
  rw [f0, f1, f2, f3, f4, f5, f6, f7, List.drop_of_length_le (show fs.length ≤ _ by omega), List.drop_of_length_le (show cs.toList.length ≤ _ by omega)]
  rfl
end
end Go.Proofs.Ytpjopeojeglogaa
