/- Chapter 12: a marker of a restart written: the program's second closure. -/
import Derived.Test.YtpjopeojeglogaaCs22
namespace Tt
open Go
section
variable {P : Program} {w : World} {ops : Array Oper} {rest : List Oper} {o : Oper} {a : Act} {Q : Exit → Act → World → Prop}
/-- append onto an owned row: whose block the new row lies in -/
theorem wpList_app3 (hgd : o.guard = none) (s x : Operand) (t : TypeId)
    (ho : o.op = .call { callee := .builtin .append, args := #[s, x], argTypes := #[t, t] })
    (base : Nat) (e : TypeId) (i : TypeInfo) (z : Value) (size bytes : Nat) (ht : P.underlying t = some (.slice e)) (hi : P.info? e = some i) (hz : i.zero = some z)
    (hsize : i.size = size) (hby : i.bytes = bytes) (hzs : z.cells.size = size) (hsz : 0 < size)
    (v : Value) (n : Nat) (xs : List Value) (hs : a.eval s = v) (hown : w.ownsRow base e size v n xs)
    (xa : Option Addr) (m c : Nat) (news : List Value) (hx : a.eval x = .slice xa m c) (hS : Sl w xa m c size news) (h1 : ∀ u ∈ news, u.oneCell' = true)
    (hbytes : (n + m) * bytes ≤ 140737488355328) (hb0 : 0 < bytes) (hbase : base ≤ w.heap.size)
    (h : ∀ (a' : Option Addr) (c' : Nat) (w' : World), w'.ownsRow base e size (.slice a' (n + m) c') (n + m) (xs ++ news) → w.grownBy w' v.ownBlock → (∀ k, (Value.slice a' (n + m) c').ownBlock = some k → v.ownBlock = some k ∨ w.heap.size ≤ k) → wpList P ops Q rest (a.put o.dst (.slice a' (n + m) c')) w') : wpList P ops Q (o :: rest) a w := by
  cases xa with
  | some ad => exact wpList_app2 hgd s x t ho base e i z size bytes ht hi hz hsize hby hzs hsz v n xs hs hown ad m c news hx hS h1 hbytes hb0 hbase h
  | none =>
    have hc := hS.fit rfl; subst hc; have hm : m = 0 := by have := hS.le; omega
    subst hm; have hn0 : news = [] := List.eq_nil_of_length_eq_zero (by rw [hS.len]; simp); subst hn0; rw [Nat.add_zero, List.append_nil] at h; refine wpList_append_own_none hgd s x t ho base e i size ht hi v n xs hs hown hx ?_
    obtain ⟨a', c', rfl⟩ : ∃ (a' : Option Addr) (c' : Nat), v = .slice a' n c' := by
      rcases hown.2 with ⟨rfl, h0⟩ | ⟨g, cap, cur, rfl, _⟩
      · exact ⟨none, 0, by rw [h0]⟩
      · exact ⟨_, _, rfl⟩
    exact h _ _ w hown (World.grownBy.refl _ _) (fun k hk => .inl hk)
end
section
variable {P : Program} {ops : Array Oper} {Q : Exit → Act → World → Prop} {t : Nat} {C : World → Prop}
/-- two operations may come next -/
theorem till_two {l : List Oper} {listed : Array Bool} {a : Act} {w : World} (i j fuel : Nat) (hb : (decide (i < l.length) && decide (j < l.length)) = true) (hr : Region.ready .any l.toArray listed = [i, j])
    (h : wpList P l.toArray (Mid (fun a' w' => ((listed.setIfInBounds i true).getD t true = false → C w') ∧ wpAnyT P l.toArray Q t C fuel (listed.setIfInBounds i true) a' w') Q) (pickL l [i]) a w)
    (h2 : wpList P l.toArray (Mid (fun a' w' => ((listed.setIfInBounds j true).getD t true = false → C w') ∧ wpAnyT P l.toArray Q t C fuel (listed.setIfInBounds j true) a' w') Q) (pickL l [j]) a w) : wpAnyT P l.toArray Q t C (fuel + 1) listed a w := by
  simp only [Bool.and_eq_true, decide_eq_true_eq] at hb
  have key : ∀ k (o : Oper), l.toArray[k]? = some o → wpList P l.toArray (Mid (fun a' w' => ((listed.setIfInBounds k true).getD t true = false → C w') ∧ wpAnyT P l.toArray Q t C fuel (listed.setIfInBounds k true) a' w') Q) [o] a w → wpOp P l.toArray Q k (fun a' w' => ((listed.setIfInBounds k true).getD t true = false → C w') ∧ wpAnyT P l.toArray Q t C fuel (listed.setIfInBounds k true) a' w') a w := fun k o ho h => by
    unfold wpOp; simp only [ho]; unfold wpList at h
    split
    · rename_i hw
      rw [if_pos hw] at h
      rcases h with h | ⟨h1, a2, w2, h2⟩
      · exact .inl (upon_mid h)
      · exact .inr ⟨h1, a2, w2, h2⟩
    · rename_i hw
      rw [if_neg hw] at h; exact h
  refine ⟨fun h0 => (by rw [hr] at h0; cases h0), fun k hk => ?_⟩; rw [hr] at hk; simp only [List.mem_cons, List.not_mem_nil, or_false] at hk
  rcases hk with rfl | rfl
  · exact key _ (l.getD k noOp) (by rw [List.getD_eq_getElem?_getD, List.getElem?_eq_getElem hb.1]; simp [hb.1]) h
  · exact key _ (l.getD k noOp) (by rw [List.getD_eq_getElem?_getD, List.getElem?_eq_getElem hb.2]; simp [hb.2]) h2
end
end Tt
namespace Go.Proofs.Ytpjopeojeglogaa
open Go.RowKit Tt
set_option linter.unusedVariables false
set_option linter.unusedSimpArgs false

theorem mo_sub {S S' : Nat → Prop} {w w' : World} (h : Mo S w w') (hS : ∀ k, S k → S' k) : Mo S' w w' := ⟨h.os, h.tape, h.output, h.size, fun k hk hn => h.block k hk fun e => hn (hS k e)⟩
theorem rst_steps {iv : Int} {n : Nat} (h : resS iv n = true) (hiv : iv ≤ 65535) (hn : n ≤ 262144) :
    ∃ i q q1 r R : Nat, iv = i ∧ ¬ (i : Int) = 0 ∧ rstS iv n = R ∧ (Int.tdiv (n : Int) (i : Int) = (q : Int) ∧ IntKind.i64.wrap (q : Int) = q) ∧ IntKind.i64.wrap ((q : Int) - 1) = q1 ∧
      (Int.tmod (q1 : Int) 8 = (r : Int) ∧ IntKind.i64.wrap (r : Int) = r) ∧ IntKind.i64.wrap (208 + (r : Int)) = R ∧ IntKind.u8.wrap (R : Int) = R ∧ (R : Int) % 256 = R ∧ R < 256 := by
  unfold resS at h; rw [decide_eq_true_eq] at h; obtain ⟨h1, h2, h3⟩ := h; obtain ⟨i, rfl⟩ : ∃ i : Nat, iv = i := ⟨iv.toNat, by omega⟩; rw [Int.toNat_natCast] at h3
  have hq : 1 ≤ n / i := by
    have := Nat.div_add_mod n i
    rcases Nat.eq_zero_or_pos (n / i) with e | e
    · rw [e, h3] at this; omega
    · exact e
  have hq2 : n / i ≤ n := Nat.div_le_self _ _; have hr : (n / i - 1) % 8 < 8 := Nat.mod_lt _ (by decide); refine ⟨i, n / i, n / i - 1, (n / i - 1) % 8, 208 + (n / i - 1) % 8, rfl, by omega, by unfold rstS; rw [Int.toNat_natCast], ⟨(Int.ofNat_tdiv n i).symm, ?_⟩, ?_, ⟨(Int.ofNat_tmod _ 8).symm, ?_⟩, ?_, ?_, by omega, by omega⟩
  · exact wrapN (by omega)
  · rw [show ((n / i : Nat) : Int) - 1 = ((n / i - 1 : Nat) : Int) by omega]; exact wrapN (by omega)
  · exact wrapN (by omega)
  · rw [show (208 : Int) + (((n / i - 1) % 8 : Nat) : Int) = ((208 + (n / i - 1) % 8 : Nat) : Int) by omega]; exact wrapN (by omega)
  · rw [IntKind.wrap_u8]; omega
set_option maxRecDepth 20000 in
set_option maxHeartbeats 4000000 in
theorem wagain_any (Sw : Nat → Prop) (g2 g7 g8 wb : Nat) (ao : Option Addr) (no co : Nat) (O L : List Int) (ax dn iv : Int) (pa : Option Addr) (pn pc n : Nat) (w : World)
    (b7 : Blk w g7 30 #[.slice ao no co]) (ho : w.ownsRow 0 5 1 (.slice ao no co) no (ints .u8 O)) (b8 : Blk w g8 123 #[.pointer (some ⟨wb, 0, none⟩)]) (hw : Wl Sw w wb L)
    (b2 : Blk w g2 24 #[.int .i64 ax, .int .i64 dn, .slice pa pn pc, .int .i64 iv]) (hSo : ∀ k, Sw k → ¬ (Value.slice ao no co).ownBlock = some k) (n7 : ¬ (Value.slice ao no co).ownBlock = some g7) (n8 : ¬ (Value.slice ao no co).ownBlock = some g8) (n2 : ¬ (Value.slice ao no co).ownBlock = some g2)
    (h78 : g8 ≠ g7) (hsz : O.length + L.length ≤ 4000000) (hres : resS iv n = true) (hiv : iv ≤ 65535) (hn : n ≤ 262144) :
    Calls Try.prog 93 #[.int .i64 n, .pointer (some ⟨g7, 0, none⟩), .pointer (some ⟨g8, 0, none⟩), .pointer (some ⟨g2, 0, none⟩)] w fun e w' => e = .returned (.tuple #[]) ∧
      ∃ a' n' c' wb', Blk w' g7 30 #[.slice a' n' c'] ∧ w'.ownsRow 0 5 1 (.slice a' n' c') n' (ints .u8 (O ++ bytesS L ++ [255, rstS iv n])) ∧ Blk w' g8 123 #[.pointer (some ⟨wb', 0, none⟩)] ∧ Wl (fun k => k = wb') w' wb' [] ∧ w.heap.size ≤ wb' ∧
        (∀ k, (Value.slice a' n' c').ownBlock = some k → (Value.slice ao no co).ownBlock = some k ∨ w.heap.size ≤ k) ∧ ¬ (Value.slice a' n' c').ownBlock = some wb' ∧ Mo (fun k => (Value.slice ao no co).ownBlock = some k ∨ k = g7 ∨ k = g8) w w' := by
  obtain ⟨i0, hi, hz0, hz1, hz2⟩ := info_parts info8; obtain ⟨i, q, q1, r, R, rfl, hi0, hrst, ⟨e1, e2⟩, e3, ⟨e4, e5⟩, e6, e7, e8, hR⟩ := rst_steps hres hiv hn; rw [hrst]; have hno : no = O.length := by have := (Sl.of_own ho).1.ilen; omega
  obtain ⟨OB, hOB⟩ : ∃ OB : Nat → Prop, (fun k => (Value.slice ao no co).ownBlock = some k) = OB := ⟨_, rfl⟩; have hOBk : ∀ k, (Value.slice ao no co).ownBlock = some k ↔ OB k := fun k => by rw [← hOB]
  have hSz : ∀ k, OB k → k < w.heap.size := fun k hk => by
    rw [← hOBk] at hk; exact (ho.lt k hk).2
  simp only [hOBk] at hSo n7 n8 n2 ⊢; have hD := (Below.refl w.heap.size w).drew; have mwD' := Lib.hid (Mo.of_below (S := OB) hD); have owD' := Lib.hid (own_later ho hD); obtain ⟨Ty, ff, hne, hpr, hsurj⟩ := fact_worlds (fun W => W.cell? ⟨g7, 0, none⟩ = some (.slice ao no co) ∧ W.cell? ⟨g8, 0, none⟩ = some (.pointer (some ⟨wb, 0, none⟩)) ∧ W.cell? ⟨g2, 3, none⟩ = some (.int .i64 (i : Int))) w ⟨b7.cell rfl, b8.cell rfl, b2.cell rfl⟩; have hnext : ∀ W, Mo OB w W → ∃ s, W = ff s := fun W m => hsurj W ⟨(b7.mo m n7).cell rfl, (b8.mo m n8).cell rfl, (b2.mo m n2).cell rfl⟩; have HS := Lib.hid (hnext w.drew mwD'.out); have z0 := fun s => (hpr s).1; have z1 := fun s => (hpr s).2.1; have z2 := fun s => (hpr s).2.2; clear hpr hD hsurj hres hrst; obtain ⟨wD, hwD⟩ : ∃ W, w.drew = W := ⟨_, rfl⟩; rw [hwD] at mwD' owD' HS; have b7' := Lib.hid b7; have ho' := Lib.hid ho; have b8' := Lib.hid b8; have hw' := Lib.hid hw; have b2' := Lib.hid b2; have hSo' := Lib.hid hSo; have n7' := Lib.hid n7; have n8' := Lib.hid n8; have n2' := Lib.hid n2; have h78' := Lib.hid h78; have hno' := Lib.hid hno; have hSz' := Lib.hid hSz; have hnext' := Lib.hid hnext; have hwD' := Lib.hid hwD; have hOBk' := Lib.hid hOBk; have hOB' := Lib.hid hOB; clear b7 ho b8 hw b2 hSo n7 n8 n2 h78 hno hSz hnext hwD hOBk hOB
  go_enter Try.func93, Try.ntmps93
  go_upto_region 0 with fail
  refine wp_noP ?_; refine till_begin (t := 14) (C := fun W => ∃ s, W = ff s) (by kernel_rfl) 15 rfl ?_; rw [hwD'.out]; refine till_take [0, 1, 4, 5, 6, 7, 8, 9, 10, 11] 5 (by kernel_rfl) noP_put (by kernel_rfl) (by kernel_rfl) (by kernel_rfl) HS.out ?_; simp only [pickL, List.map_cons, List.map_nil, List.getD_cons_succ, List.getD_cons_zero]
  iterate 10 (go_big_quiet_step (fail))
  refine wpQuiet_nil ?_; refine till_two 2 12 4 (by kernel_rfl) (by kernel_rfl) ?_ ?_
  · simp only [pickL, List.map_cons, List.map_nil, List.getD_cons_succ, List.getD_cons_zero]
    go_wp2_with fail
    refine (wdone_any Sw wb L wD (hw'.out.mo mwD'.out hSo'.out) (by omega)).mono ?_; rintro e w1 ⟨a2, m, c2, rfl, hm, ho, hb⟩; have mw1' := Lib.hid (mwD'.out.trans (S' := OB) (Mo.of_below hb) fun _ _ e => e); have dw1' := Lib.hid (own_mono ho mwD'.out.size); have ow1' := Lib.hid (own_later owD'.out hb)
    try have lw1' := Lib.hid (lwD'.out.mono hb)
    have HS := Lib.hid (hnext'.out w1 mw1'.out); have hm' := Lib.hid hm; have ho' := Lib.hid ho; have hb' := Lib.hid hb; clear hm ho hb
    go_wp2_with fail
    refine Mid.mk ⟨fun _ => HS.out, ?_⟩; refine till_two 3 12 3 (by kernel_rfl) (by kernel_rfl) ?_ ?_
    · simp only [pickL, List.map_cons, List.map_nil, List.getD_cons_succ, List.getD_cons_zero]
      go_wp2_with (at_builtin; refine wpList_app3 rfl _ _ 30 rfl 0 5 i0 _ 1 1 Try.underlying30 hi hz0 hz1 hz2 rfl (by decide) (.slice ao no co) no (ints .u8 O) rfl ow1'.out a2 m c2 (ints .u8 (bytesS L)) rfl (Sl.of_own dw1'.out).1 (fun u hu => ints_one u hu) (by have h1 := hm'.out; have h2 := bytesS_le L; have h3 : no = O.length := hno'.out; omega) (by decide) (Nat.zero_le _) ?_; intro a5 c5 w2 ho5 hg5 hk5; have Ho5 := Lib.hid ho5; have Hg5 := Lib.hid hg5; have Hk5 := Lib.hid hk5; clear ho5 hg5 hk5)
      have hmg : Mo OB w1 w2 := Mo.of_grown Hg5.out fun k hk => (hOBk'.out k).1 hk; have mw2' := Lib.hid (mw1'.out.trans (S' := OB) hmg fun _ _ e => e); have pw2' := Lib.hid Ho5.out; have kw2' := Lib.hid (show ∀ k, (Value.slice a5 (no + m) c5).ownBlock = some k → OB k ∨ w.heap.size ≤ k from fun k hk => (Hk5.out k hk).elim (fun h => .inl ((hOBk'.out k).1 h)) fun h => .inr (Nat.le_trans mw1'.out.size h))
      try have lw2' := Lib.hid (lw1'.out.mo hmg fun y hy h => by
        have h1 := hSz'.out _ h; have h2 := hgw'.out; injection hy with hy; rw [← hy] at h1; have h3 : gl < w.heap.size := h1
        omega)
      have HS := Lib.hid (hnext'.out w2 mw2'.out); clear hmg; refine Mid.mk ⟨fun _ => HS.out, ?_⟩; refine till_one 12 2 (by kernel_rfl) (by kernel_rfl) ?_; simp only [pickL, List.map_cons, List.map_nil, List.getD_cons_succ, List.getD_cons_zero]; have hal := (Below.refl w2.heap.size w2).alloc (Nat.le_refl _) (.cells #[.int .u8 255, .int .u8 (R : Int)] 5); have s2 := Sl.new w2 5 1 2 #[.int .u8 255, .int .u8 (R : Int)] (0, 0) (by decide) rfl; have hgw : w.heap.size ≤ w2.heap.size := mw2'.out.size; obtain ⟨w3, hw2⟩ : ∃ x, w2.alloc (.cells #[.int .u8 255, .int .u8 (R : Int)] 5) = x := ⟨_, rfl⟩; rw [hw2] at hal s2; have mw3' := Lib.hid (mw2'.out.trans (S' := OB) (Mo.of_below hal) fun _ _ e => e); have lw3' := Lib.hid s2
      try have dw3' := Lib.hid (own_later dw2'.out hal)
      try have ow3' := Lib.hid (own_later ow2'.out hal)
      try have pw3' := Lib.hid (own_later pw2'.out hal)
      try have kw3' := kw2'
      obtain ⟨gl, hgl⟩ : ∃ x, w2.heap.size = x := ⟨_, rfl⟩; rw [hgl] at hgw lw3'; have HS := Lib.hid (hnext'.out w3 mw3'.out); clear hal s2; have hw2' := Lib.hid hw2; have hgl' := Lib.hid hgl; have hgw' := Lib.hid hgw; clear hw2 hgl hgw
      go_wp2_with fail
      rw [hgl'.out, hw2'.out]; clear hgl' hw2'; refine Mid.mk ⟨fun _ => HS.out, ?_⟩; refine till_one 13 1 (by kernel_rfl) (by kernel_rfl) ?_; simp only [pickL, List.map_cons, List.map_nil, List.getD_cons_succ, List.getD_cons_zero]
      go_wp2_with (at_builtin; refine wpList_app3 rfl _ _ 30 rfl 0 5 i0 _ 1 1 Try.underlying30 hi hz0 hz1 hz2 rfl (by decide) (.slice a5 (no + m) c5) (no + m) (ints .u8 O ++ ints .u8 (bytesS L)) rfl pw3'.out (some ⟨gl, 0, none⟩) 2 2 [.int .u8 255, .int .u8 (R : Int)] rfl lw3'.out (by simp [Value.oneCell']) (by have h1 := hm'.out; have h2 := bytesS_le L; have h3 : no = O.length := hno'.out; omega) (by decide) (Nat.zero_le _) ?_; intro a6 c6 w4 ho6 hg6 hk6; have Ho6 := Lib.hid ho6; have Hg6 := Lib.hid hg6; have Hk6 := Lib.hid hk6; clear ho6 hg6 hk6)
      have hmg : Mo (fun k => (Value.slice a5 (no + m) c5).ownBlock = some k) w3 w4 := Mo.of_grown Hg6.out fun k hk => hk; have mw4' := Lib.hid (mw3'.out.trans hmg fun i hi e => (kw3'.out i e).elim id fun h => by omega); have kw4' := Lib.hid (show ∀ k, (Value.slice a6 (no + m + 2) c6).ownBlock = some k → OB k ∨ w.heap.size ≤ k from fun k hk => (Hk6.out k hk).elim (kw3'.out k) fun h => .inr (Nat.le_trans mw3'.out.size h)); have HS := Lib.hid (hnext'.out w4 mw4'.out); clear hmg; refine Mid.mk ⟨fun _ => HS.out, ?_⟩; have b7 := b7'.out.mo mw4'.out n7'.out; have b8 := b8'.out.mo mw4'.out n8'.out; have y6 : w4.cell? ⟨g7, 0, none⟩ = some (.slice ao no co) := b7.cell rfl; have y7 := b7.frozen 0; refine till_one 14 0 (by kernel_rfl) (by kernel_rfl) ?_; simp only [pickL, List.map_cons, List.map_nil, List.getD_cons_succ, List.getD_cons_zero]
      go_wp2_with fail
      refine ⟨fun h => Bool.noConfusion (show true = false from h), ⟨by kernel_rfl, noP_normal ?_⟩⟩; clear y6 y7; have hbt7 := (But.refl g7 w4).set 0 (.slice a6 (no + m + 2) c6); have c7 : Blk (w4.setCell ⟨g7, 0, none⟩ (.slice a6 (no + m + 2) c6)) g7 30 #[.slice a6 (no + m + 2) c6] := b7.set 0 (.slice a6 (no + m + 2) c6); have c8 := b8.but hbt7 h78'.out; have hg7 : g7 < w.heap.size := b7'.out.lt; have hg8 : g8 < w.heap.size := b8'.out.lt; have hno7 : (Value.slice a6 (no + m + 2) c6).ownBlock ≠ some g7 := fun e => (kw4'.out g7 e).elim n7'.out fun h => by omega
      have hno8 : (Value.slice a6 (no + m + 2) c6).ownBlock ≠ some g8 := fun e => (kw4'.out g8 e).elim n8'.out fun h => by omega
      have hro := own_but Ho6.out hbt7 hno7; have hmo5 := (mo_sub mw4'.out (S' := fun k => OB k ∨ k = g7 ∨ k = g8) fun i h => .inl h).trans (S' := fun k => k = g7) (Mo.of_but hbt7 rfl) (S := fun k => OB k ∨ k = g7 ∨ k = g8) (fun i hi e => .inr (.inl e)); obtain ⟨u, hu⟩ : ∃ W, w4.setCell ⟨g7, 0, none⟩ (.slice a6 (no + m + 2) c6) = W := ⟨_, rfl⟩; rw [hu] at hbt7 c7 c8 hro hmo5 ⊢; have hal := (Below.refl u.heap.size u).alloc (Nat.le_refl _) (.cells #[.slice none 0 0, .int .u32 0, .int .i64 0] 121); have bw := Blk.new u 121 #[.slice none 0 0, .int .u32 0, .int .i64 0]; obtain ⟨u2, hu2⟩ : ∃ W, u.alloc (.cells #[.slice none 0 0, .int .u32 0, .int .i64 0] 121) = W := ⟨_, rfl⟩; rw [hu2] at hal bw; have d7 := c7.late hal; have d8 := c8.late hal; have hro2 := own_later hro hal; have hmo6 := hmo5.trans (S' := OB) (Mo.of_below hal) fun _ _ e => .inl e; have hwu : w.heap.size ≤ u.heap.size := hmo5.size; have hlt := hro.lt; have y6 : u2.cell? ⟨g8, 0, none⟩ = some (.pointer (some ⟨wb, 0, none⟩)) := d8.cell rfl; have y7 := d8.frozen 0; rw [← hu2] at y6 y7; clear c7 c8 hro hmo5 hal b7 b8 hbt7; have hu2' := Lib.hid hu2; have bw' := Lib.hid bw; have d7' := Lib.hid d7; have d8' := Lib.hid d8; have hro2' := Lib.hid hro2; have hmo6' := Lib.hid hmo6; have hwu' := Lib.hid hwu; have hg7' := Lib.hid hg7; have hg8' := Lib.hid hg8; have hno7' := Lib.hid hno7; have hno8' := Lib.hid hno8; have hu' := Lib.hid hu; have hlt' := Lib.hid hlt; clear hu2 bw d7 d8 hro2 hmo6 hwu hg7 hg8 hno7 hno8 hu hlt
      go_wp2
      rw [hu2'.out]; clear y6 y7; have hbt8 := (But.refl g8 u2).set 0 (.pointer (some ⟨u.heap.size, 0, none⟩)); refine bodyPost_end (results_none rfl _ _ _) rfl ?_; refine ⟨rfl, a6, no + m + 2, c6, u.heap.size, d7'.out.but hbt8 (Ne.symm h78'.out), ?_, d8'.out.set 0 (.pointer (some ⟨u.heap.size, 0, none⟩)), ⟨⟨none, 0, 0, bw'.out.but hbt8 (by have h1 := hg8'.out; have h2 := hwu'.out; omega), own_nil _ _ _ _, fun k hk => by cases hk⟩, rfl, fun x hx => by cases hx⟩, hwu'.out, kw4'.out, fun h => by have := (hlt'.out _ h).2; omega, hmo6'.out.set (.inl (.inr (.inr rfl))) 0 _⟩; rw [ints_append (x := O ++ bytesS L), ints_append (x := O)]; exact own_but hro2'.out hbt8 hno8'.out
    · simp only [pickL, List.map_cons, List.map_nil, List.getD_cons_succ, List.getD_cons_zero]
      have hal := (Below.refl w1.heap.size w1).alloc (Nat.le_refl _) (.cells #[.int .u8 255, .int .u8 (R : Int)] 5); have s2 := Sl.new w1 5 1 2 #[.int .u8 255, .int .u8 (R : Int)] (0, 0) (by decide) rfl; have hgw : w.heap.size ≤ w1.heap.size := mw1'.out.size; obtain ⟨w2, hw2⟩ : ∃ x, w1.alloc (.cells #[.int .u8 255, .int .u8 (R : Int)] 5) = x := ⟨_, rfl⟩; rw [hw2] at hal s2; have mw2' := Lib.hid (mw1'.out.trans (S' := OB) (Mo.of_below hal) fun _ _ e => e); have lw2' := Lib.hid s2
      try have dw2' := Lib.hid (own_later dw1'.out hal)
      try have ow2' := Lib.hid (own_later ow1'.out hal)
      try have pw2' := Lib.hid (own_later pw1'.out hal)
      try have kw2' := kw1'
      obtain ⟨gl, hgl⟩ : ∃ x, w1.heap.size = x := ⟨_, rfl⟩; rw [hgl] at hgw lw2'; have HS := Lib.hid (hnext'.out w2 mw2'.out); clear hal s2; have hw2' := Lib.hid hw2; have hgl' := Lib.hid hgl; have hgw' := Lib.hid hgw; clear hw2 hgl hgw
      go_wp2_with fail
      rw [hgl'.out, hw2'.out]; clear hgl' hw2'; refine Mid.mk ⟨fun _ => HS.out, ?_⟩; refine till_one 3 2 (by kernel_rfl) (by kernel_rfl) ?_; simp only [pickL, List.map_cons, List.map_nil, List.getD_cons_succ, List.getD_cons_zero]
      go_wp2_with (at_builtin; refine wpList_app3 rfl _ _ 30 rfl 0 5 i0 _ 1 1 Try.underlying30 hi hz0 hz1 hz2 rfl (by decide) (.slice ao no co) no (ints .u8 O) rfl ow2'.out a2 m c2 (ints .u8 (bytesS L)) rfl (Sl.of_own dw2'.out).1 (fun u hu => ints_one u hu) (by have h1 := hm'.out; have h2 := bytesS_le L; have h3 : no = O.length := hno'.out; omega) (by decide) (Nat.zero_le _) ?_; intro a5 c5 w3 ho5 hg5 hk5; have Ho5 := Lib.hid ho5; have Hg5 := Lib.hid hg5; have Hk5 := Lib.hid hk5; clear ho5 hg5 hk5)
      have hmg : Mo OB w2 w3 := Mo.of_grown Hg5.out fun k hk => (hOBk'.out k).1 hk; have mw3' := Lib.hid (mw2'.out.trans (S' := OB) hmg fun _ _ e => e); have pw3' := Lib.hid Ho5.out; have kw3' := Lib.hid (show ∀ k, (Value.slice a5 (no + m) c5).ownBlock = some k → OB k ∨ w.heap.size ≤ k from fun k hk => (Hk5.out k hk).elim (fun h => .inl ((hOBk'.out k).1 h)) fun h => .inr (Nat.le_trans mw2'.out.size h))
      try have lw3' := Lib.hid (lw2'.out.mo hmg fun y hy h => by
        have h1 := hSz'.out _ h; have h2 := hgw'.out; injection hy with hy; rw [← hy] at h1; have h3 : gl < w.heap.size := h1
        omega)
      have HS := Lib.hid (hnext'.out w3 mw3'.out); clear hmg; refine Mid.mk ⟨fun _ => HS.out, ?_⟩; refine till_one 13 1 (by kernel_rfl) (by kernel_rfl) ?_; simp only [pickL, List.map_cons, List.map_nil, List.getD_cons_succ, List.getD_cons_zero]
      go_wp2_with (at_builtin; refine wpList_app3 rfl _ _ 30 rfl 0 5 i0 _ 1 1 Try.underlying30 hi hz0 hz1 hz2 rfl (by decide) (.slice a5 (no + m) c5) (no + m) (ints .u8 O ++ ints .u8 (bytesS L)) rfl pw3'.out (some ⟨gl, 0, none⟩) 2 2 [.int .u8 255, .int .u8 (R : Int)] rfl lw3'.out (by simp [Value.oneCell']) (by have h1 := hm'.out; have h2 := bytesS_le L; have h3 : no = O.length := hno'.out; omega) (by decide) (Nat.zero_le _) ?_; intro a6 c6 w4 ho6 hg6 hk6; have Ho6 := Lib.hid ho6; have Hg6 := Lib.hid hg6; have Hk6 := Lib.hid hk6; clear ho6 hg6 hk6)
      have hmg : Mo (fun k => (Value.slice a5 (no + m) c5).ownBlock = some k) w3 w4 := Mo.of_grown Hg6.out fun k hk => hk; have mw4' := Lib.hid (mw3'.out.trans hmg fun i hi e => (kw3'.out i e).elim id fun h => by omega); have kw4' := Lib.hid (show ∀ k, (Value.slice a6 (no + m + 2) c6).ownBlock = some k → OB k ∨ w.heap.size ≤ k from fun k hk => (Hk6.out k hk).elim (kw3'.out k) fun h => .inr (Nat.le_trans mw3'.out.size h)); have HS := Lib.hid (hnext'.out w4 mw4'.out); clear hmg; refine Mid.mk ⟨fun _ => HS.out, ?_⟩; have b7 := b7'.out.mo mw4'.out n7'.out; have b8 := b8'.out.mo mw4'.out n8'.out; have y6 : w4.cell? ⟨g7, 0, none⟩ = some (.slice ao no co) := b7.cell rfl; have y7 := b7.frozen 0; refine till_one 14 0 (by kernel_rfl) (by kernel_rfl) ?_; simp only [pickL, List.map_cons, List.map_nil, List.getD_cons_succ, List.getD_cons_zero]
      go_wp2_with fail
      refine ⟨fun h => Bool.noConfusion (show true = false from h), ⟨by kernel_rfl, noP_normal ?_⟩⟩; clear y6 y7; have hbt7 := (But.refl g7 w4).set 0 (.slice a6 (no + m + 2) c6); have c7 : Blk (w4.setCell ⟨g7, 0, none⟩ (.slice a6 (no + m + 2) c6)) g7 30 #[.slice a6 (no + m + 2) c6] := b7.set 0 (.slice a6 (no + m + 2) c6); have c8 := b8.but hbt7 h78'.out; have hg7 : g7 < w.heap.size := b7'.out.lt; have hg8 : g8 < w.heap.size := b8'.out.lt; have hno7 : (Value.slice a6 (no + m + 2) c6).ownBlock ≠ some g7 := fun e => (kw4'.out g7 e).elim n7'.out fun h => by omega
      have hno8 : (Value.slice a6 (no + m + 2) c6).ownBlock ≠ some g8 := fun e => (kw4'.out g8 e).elim n8'.out fun h => by omega
      have hro := own_but Ho6.out hbt7 hno7; have hmo5 := (mo_sub mw4'.out (S' := fun k => OB k ∨ k = g7 ∨ k = g8) fun i h => .inl h).trans (S' := fun k => k = g7) (Mo.of_but hbt7 rfl) (S := fun k => OB k ∨ k = g7 ∨ k = g8) (fun i hi e => .inr (.inl e)); obtain ⟨u, hu⟩ : ∃ W, w4.setCell ⟨g7, 0, none⟩ (.slice a6 (no + m + 2) c6) = W := ⟨_, rfl⟩; rw [hu] at hbt7 c7 c8 hro hmo5 ⊢; have hal := (Below.refl u.heap.size u).alloc (Nat.le_refl _) (.cells #[.slice none 0 0, .int .u32 0, .int .i64 0] 121); have bw := Blk.new u 121 #[.slice none 0 0, .int .u32 0, .int .i64 0]; obtain ⟨u2, hu2⟩ : ∃ W, u.alloc (.cells #[.slice none 0 0, .int .u32 0, .int .i64 0] 121) = W := ⟨_, rfl⟩; rw [hu2] at hal bw; have d7 := c7.late hal; have d8 := c8.late hal; have hro2 := own_later hro hal; have hmo6 := hmo5.trans (S' := OB) (Mo.of_below hal) fun _ _ e => .inl e; have hwu : w.heap.size ≤ u.heap.size := hmo5.size; have hlt := hro.lt; have y6 : u2.cell? ⟨g8, 0, none⟩ = some (.pointer (some ⟨wb, 0, none⟩)) := d8.cell rfl; have y7 := d8.frozen 0; rw [← hu2] at y6 y7; clear c7 c8 hro hmo5 hal b7 b8 hbt7; have hu2' := Lib.hid hu2; have bw' := Lib.hid bw; have d7' := Lib.hid d7; have d8' := Lib.hid d8; have hro2' := Lib.hid hro2; have hmo6' := Lib.hid hmo6; have hwu' := Lib.hid hwu; have hg7' := Lib.hid hg7; have hg8' := Lib.hid hg8; have hno7' := Lib.hid hno7; have hno8' := Lib.hid hno8; have hu' := Lib.hid hu; have hlt' := Lib.hid hlt; clear hu2 bw d7 d8 hro2 hmo6 hwu hg7 hg8 hno7 hno8 hu hlt
      go_wp2
      rw [hu2'.out]; clear y6 y7; have hbt8 := (But.refl g8 u2).set 0 (.pointer (some ⟨u.heap.size, 0, none⟩)); refine bodyPost_end (results_none rfl _ _ _) rfl ?_; refine ⟨rfl, a6, no + m + 2, c6, u.heap.size, d7'.out.but hbt8 (Ne.symm h78'.out), ?_, d8'.out.set 0 (.pointer (some ⟨u.heap.size, 0, none⟩)), ⟨⟨none, 0, 0, bw'.out.but hbt8 (by have h1 := hg8'.out; have h2 := hwu'.out; omega), own_nil _ _ _ _, fun k hk => by cases hk⟩, rfl, fun x hx => by cases hx⟩, hwu'.out, kw4'.out, fun h => by have := (hlt'.out _ h).2; omega, hmo6'.out.set (.inl (.inr (.inr rfl))) 0 _⟩; rw [ints_append (x := O ++ bytesS L), ints_append (x := O)]; exact own_but hro2'.out hbt8 hno8'.out
  · simp only [pickL, List.map_cons, List.map_nil, List.getD_cons_succ, List.getD_cons_zero]
    have hal := (Below.refl wD.heap.size wD).alloc (Nat.le_refl _) (.cells #[.int .u8 255, .int .u8 (R : Int)] 5); have s2 := Sl.new wD 5 1 2 #[.int .u8 255, .int .u8 (R : Int)] (0, 0) (by decide) rfl; have hgw : w.heap.size ≤ wD.heap.size := mwD'.out.size; obtain ⟨w1, hw2⟩ : ∃ x, wD.alloc (.cells #[.int .u8 255, .int .u8 (R : Int)] 5) = x := ⟨_, rfl⟩; rw [hw2] at hal s2; have mw1' := Lib.hid (mwD'.out.trans (S' := OB) (Mo.of_below hal) fun _ _ e => e); have lw1' := Lib.hid s2
    try have dw1' := Lib.hid (own_later dwD'.out hal)
    try have ow1' := Lib.hid (own_later owD'.out hal)
    try have pw1' := Lib.hid (own_later pwD'.out hal)
    try have kw1' := kwD'
    obtain ⟨gl, hgl⟩ : ∃ x, wD.heap.size = x := ⟨_, rfl⟩; rw [hgl] at hgw lw1'; have HS := Lib.hid (hnext'.out w1 mw1'.out); clear hal s2; have hw2' := Lib.hid hw2; have hgl' := Lib.hid hgl; have hgw' := Lib.hid hgw; clear hw2 hgl hgw
    go_wp2_with fail
    rw [hgl'.out, hw2'.out]; clear hgl' hw2'; refine Mid.mk ⟨fun _ => HS.out, ?_⟩; refine till_one 2 3 (by kernel_rfl) (by kernel_rfl) ?_; simp only [pickL, List.map_cons, List.map_nil, List.getD_cons_succ, List.getD_cons_zero]
    go_wp2_with fail
    refine (wdone_any Sw wb L w1 (hw'.out.mo mw1'.out hSo'.out) (by omega)).mono ?_; rintro e w2 ⟨a2, m, c2, rfl, hm, ho, hb⟩; have mw2' := Lib.hid (mw1'.out.trans (S' := OB) (Mo.of_below hb) fun _ _ e => e); have dw2' := Lib.hid (own_mono ho mw1'.out.size); have ow2' := Lib.hid (own_later ow1'.out hb)
    try have lw2' := Lib.hid (lw1'.out.mono hb)
    have HS := Lib.hid (hnext'.out w2 mw2'.out); have hm' := Lib.hid hm; have ho' := Lib.hid ho; have hb' := Lib.hid hb; clear hm ho hb
    go_wp2_with fail
    refine Mid.mk ⟨fun _ => HS.out, ?_⟩; refine till_one 3 2 (by kernel_rfl) (by kernel_rfl) ?_; simp only [pickL, List.map_cons, List.map_nil, List.getD_cons_succ, List.getD_cons_zero]
    go_wp2_with (at_builtin; refine wpList_app3 rfl _ _ 30 rfl 0 5 i0 _ 1 1 Try.underlying30 hi hz0 hz1 hz2 rfl (by decide) (.slice ao no co) no (ints .u8 O) rfl ow2'.out a2 m c2 (ints .u8 (bytesS L)) rfl (Sl.of_own dw2'.out).1 (fun u hu => ints_one u hu) (by have h1 := hm'.out; have h2 := bytesS_le L; have h3 : no = O.length := hno'.out; omega) (by decide) (Nat.zero_le _) ?_; intro a5 c5 w3 ho5 hg5 hk5; have Ho5 := Lib.hid ho5; have Hg5 := Lib.hid hg5; have Hk5 := Lib.hid hk5; clear ho5 hg5 hk5)
    have hmg : Mo OB w2 w3 := Mo.of_grown Hg5.out fun k hk => (hOBk'.out k).1 hk; have mw3' := Lib.hid (mw2'.out.trans (S' := OB) hmg fun _ _ e => e); have pw3' := Lib.hid Ho5.out; have kw3' := Lib.hid (show ∀ k, (Value.slice a5 (no + m) c5).ownBlock = some k → OB k ∨ w.heap.size ≤ k from fun k hk => (Hk5.out k hk).elim (fun h => .inl ((hOBk'.out k).1 h)) fun h => .inr (Nat.le_trans mw2'.out.size h))
    try have lw3' := Lib.hid (lw2'.out.mo hmg fun y hy h => by
      have h1 := hSz'.out _ h; have h2 := hgw'.out; injection hy with hy; rw [← hy] at h1; have h3 : gl < w.heap.size := h1
      omega)
    have HS := Lib.hid (hnext'.out w3 mw3'.out); clear hmg; refine Mid.mk ⟨fun _ => HS.out, ?_⟩; refine till_one 13 1 (by kernel_rfl) (by kernel_rfl) ?_; simp only [pickL, List.map_cons, List.map_nil, List.getD_cons_succ, List.getD_cons_zero]
    go_wp2_with (at_builtin; refine wpList_app3 rfl _ _ 30 rfl 0 5 i0 _ 1 1 Try.underlying30 hi hz0 hz1 hz2 rfl (by decide) (.slice a5 (no + m) c5) (no + m) (ints .u8 O ++ ints .u8 (bytesS L)) rfl pw3'.out (some ⟨gl, 0, none⟩) 2 2 [.int .u8 255, .int .u8 (R : Int)] rfl lw3'.out (by simp [Value.oneCell']) (by have h1 := hm'.out; have h2 := bytesS_le L; have h3 : no = O.length := hno'.out; omega) (by decide) (Nat.zero_le _) ?_; intro a6 c6 w4 ho6 hg6 hk6; have Ho6 := Lib.hid ho6; have Hg6 := Lib.hid hg6; have Hk6 := Lib.hid hk6; clear ho6 hg6 hk6)
    have hmg : Mo (fun k => (Value.slice a5 (no + m) c5).ownBlock = some k) w3 w4 := Mo.of_grown Hg6.out fun k hk => hk; have mw4' := Lib.hid (mw3'.out.trans hmg fun i hi e => (kw3'.out i e).elim id fun h => by omega); have kw4' := Lib.hid (show ∀ k, (Value.slice a6 (no + m + 2) c6).ownBlock = some k → OB k ∨ w.heap.size ≤ k from fun k hk => (Hk6.out k hk).elim (kw3'.out k) fun h => .inr (Nat.le_trans mw3'.out.size h)); have HS := Lib.hid (hnext'.out w4 mw4'.out); clear hmg; refine Mid.mk ⟨fun _ => HS.out, ?_⟩; have b7 := b7'.out.mo mw4'.out n7'.out; have b8 := b8'.out.mo mw4'.out n8'.out; have y6 : w4.cell? ⟨g7, 0, none⟩ = some (.slice ao no co) := b7.cell rfl; have y7 := b7.frozen 0; refine till_one 14 0 (by kernel_rfl) (by kernel_rfl) ?_; simp only [pickL, List.map_cons, List.map_nil, List.getD_cons_succ, List.getD_cons_zero]
    go_wp2_with fail
    refine ⟨fun h => Bool.noConfusion (show true = false from h), ⟨by kernel_rfl, noP_normal ?_⟩⟩; clear y6 y7; have hbt7 := (But.refl g7 w4).set 0 (.slice a6 (no + m + 2) c6); have c7 : Blk (w4.setCell ⟨g7, 0, none⟩ (.slice a6 (no + m + 2) c6)) g7 30 #[.slice a6 (no + m + 2) c6] := b7.set 0 (.slice a6 (no + m + 2) c6); have c8 := b8.but hbt7 h78'.out; have hg7 : g7 < w.heap.size := b7'.out.lt; have hg8 : g8 < w.heap.size := b8'.out.lt; have hno7 : (Value.slice a6 (no + m + 2) c6).ownBlock ≠ some g7 := fun e => (kw4'.out g7 e).elim n7'.out fun h => by omega
    have hno8 : (Value.slice a6 (no + m + 2) c6).ownBlock ≠ some g8 := fun e => (kw4'.out g8 e).elim n8'.out fun h => by omega
    have hro := own_but Ho6.out hbt7 hno7; have hmo5 := (mo_sub mw4'.out (S' := fun k => OB k ∨ k = g7 ∨ k = g8) fun i h => .inl h).trans (S' := fun k => k = g7) (Mo.of_but hbt7 rfl) (S := fun k => OB k ∨ k = g7 ∨ k = g8) (fun i hi e => .inr (.inl e)); obtain ⟨u, hu⟩ : ∃ W, w4.setCell ⟨g7, 0, none⟩ (.slice a6 (no + m + 2) c6) = W := ⟨_, rfl⟩; rw [hu] at hbt7 c7 c8 hro hmo5 ⊢; have hal := (Below.refl u.heap.size u).alloc (Nat.le_refl _) (.cells #[.slice none 0 0, .int .u32 0, .int .i64 0] 121); have bw := Blk.new u 121 #[.slice none 0 0, .int .u32 0, .int .i64 0]; obtain ⟨u2, hu2⟩ : ∃ W, u.alloc (.cells #[.slice none 0 0, .int .u32 0, .int .i64 0] 121) = W := ⟨_, rfl⟩; rw [hu2] at hal bw; have d7 := c7.late hal; have d8 := c8.late hal; have hro2 := own_later hro hal; have hmo6 := hmo5.trans (S' := OB) (Mo.of_below hal) fun _ _ e => .inl e; have hwu : w.heap.size ≤ u.heap.size := hmo5.size; have hlt := hro.lt; have y6 : u2.cell? ⟨g8, 0, none⟩ = some (.pointer (some ⟨wb, 0, none⟩)) := d8.cell rfl; have y7 := d8.frozen 0; rw [← hu2] at y6 y7; clear c7 c8 hro hmo5 hal b7 b8 hbt7; have hu2' := Lib.hid hu2; have bw' := Lib.hid bw; have d7' := Lib.hid d7; have d8' := Lib.hid d8; have hro2' := Lib.hid hro2; have hmo6' := Lib.hid hmo6; have hwu' := Lib.hid hwu; have hg7' := Lib.hid hg7; have hg8' := Lib.hid hg8; have hno7' := Lib.hid hno7; have hno8' := Lib.hid hno8; have hu' := Lib.hid hu; have hlt' := Lib.hid hlt; clear hu2 bw d7 d8 hro2 hmo6 hwu hg7 hg8 hno7 hno8 hu hlt
    go_wp2
    rw [hu2'.out]; clear y6 y7; have hbt8 := (But.refl g8 u2).set 0 (.pointer (some ⟨u.heap.size, 0, none⟩)); refine bodyPost_end (results_none rfl _ _ _) rfl ?_; refine ⟨rfl, a6, no + m + 2, c6, u.heap.size, d7'.out.but hbt8 (Ne.symm h78'.out), ?_, d8'.out.set 0 (.pointer (some ⟨u.heap.size, 0, none⟩)), ⟨⟨none, 0, 0, bw'.out.but hbt8 (by have h1 := hg8'.out; have h2 := hwu'.out; omega), own_nil _ _ _ _, fun k hk => by cases hk⟩, rfl, fun x hx => by cases hx⟩, hwu'.out, kw4'.out, fun h => by have := (hlt'.out _ h).2; omega, hmo6'.out.set (.inl (.inr (.inr rfl))) 0 _⟩; rw [ints_append (x := O ++ bytesS L), ints_append (x := O)]; exact own_but hro2'.out hbt8 hno8'.out
end Go.Proofs.Ytpjopeojeglogaa
