/- Chapter 21: a directory is put among bytes: the document. -/
import Derived.Test.YtilennmeiaehnaaGreatCw35
import Derived.Test.YtilennmeiaehnaaGreatCw36
namespace Go.Proofs.YtilennmeiaehnaaGreat
open Go.RowKit Tt
set_option linter.unusedVariables false
set_option linter.unusedSimpArgs false

/-- bytes that are read; they lie below, or are such -/
def Bd (B : Nat) (w : World) (v : Value) (n : Nat) (P : List Int) : Prop :=
  ∃ a c, v = .slice a n c ∧ Sl w a n c 1 (ints .u8 P) ∧ ∀ x, a = some x → x.block < B ∨ ∃ cur fz, w.heap[x.block]? = some (.cells cur 5 fz)
theorem Bd.later {B : Nat} {w w' : World} {v : Value} {n : Nat} {P : List Int} (h : Bd B w v n P) (hb : Below w.heap.size w w') : Bd B w' v n P := by
  obtain ⟨a, c, rfl, hs, hx⟩ := h
  refine ⟨a, c, rfl, hs.mono hb, fun x e => ?_⟩
  rcases hx x e with h | ⟨cur, fz, h⟩
  · exact .inl h
  · exact .inr ⟨cur, fz, by rw [hb.block _ (Array.getElem?_eq_some_iff.1 h).1]; exact h⟩
theorem Bd.of_own {B B' : Nat} {w : World} {a : Option Addr} {n c : Nat} {P : List Int} (h : w.ownsRow B' 5 1 (.slice a n c) n (ints .u8 P)) : Bd B w (.slice a n c) n P := by
  refine ⟨a, c, rfl, (Sl.of_own h).1, fun x e => ?_⟩
  rcases h.2 with ⟨hv, _⟩ | ⟨g, cap, cur, hv, _, hg, _⟩
  · injection hv with h1; rw [h1] at e; cases e
  · injection hv with h1
    rw [h1] at e
    injection e with e
    subst e
    exact .inr ⟨_, _, hg⟩
theorem Bd.grown {B sz m : Nat} {w w' : World} {v u : Value} {n : Nat} {P : List Int} {E : TypeId} {xs : List Value} (h : Bd B w v n P) (hg : w.grownBy w' u.ownBlock) (ho : w.ownsRow B E sz u m xs) (hE : E ≠ 5) : Bd B w' v n P := by
  obtain ⟨a, c, rfl, hs, hx⟩ := h
  have hne : ∀ x, a = some x → u.ownBlock ≠ some x.block := fun x e hk => by
    rcases hx x e with h | ⟨cur, fz, h⟩
    · have := (ho.lt _ hk).1; omega
    · rcases ho.2 with ⟨rfl, _⟩ | ⟨g', cap, cur', rfl, _, hg', _⟩
      · cases hk
      · obtain rfl : g' = x.block := by injection hk
        rw [h] at hg'
        injection hg' with hg'
        injection hg' with h1 h2
        exact hE h2.symm
  refine ⟨a, c, rfl, sl_eqs hs hg.size fun x e hl => hg.block _ hl (fun e2 => hne x e e2.symm), fun x e => ?_⟩
  rcases hx x e with h | ⟨cur, fz, h⟩
  · exact .inl h
  · exact .inr ⟨cur, fz, by rw [hg.block _ (Array.getElem?_eq_some_iff.1 h).1 (fun e2 => hne x e e2.symm)]; exact h⟩
theorem bnx {B : Nat} {w w1 w2 : World} (h : Below B w w1) (hB : B ≤ w.heap.size) (h2 : Below w1.heap.size w1 w2) : Below B w w2 := h.trans (h2.mono (Nat.le_trans hB h.size))
/-- what lies while a directory is put -/
structure PIn (n : Nat) (w wr : World) (dv sv : Array Value) (bv lv : Value) (P : List Int) (es : List Ent) : Prop where
  bel : Below w.heap.size w wr
  bA : Blk wr w.heap.size 42 dv
  bS : Blk wr (w.heap.size + 1) 50 sv
  b : Bd w.heap.size wr bv n P
  l : wr.ownsRow w.heap.size 62 4 lv es.length (fl entC es)
section
variable {n : Nat} {w wr w2 : World} {dv sv : Array Value} {bv lv : Value} {P : List Int} {es : List Ent}
theorem PIn.later (h : PIn n w wr dv sv bv lv P es) (hb : Below wr.heap.size wr w2) : PIn n w w2 dv sv bv lv P es :=
  ⟨h.bel.trans (hb.mono h.bel.size), h.bA.late hb, h.bS.late hb, h.b.later hb, own_later h.l hb⟩
theorem PIn.add {lv2 : Value} {es2 : List Ent} (h : PIn n w wr dv sv bv lv P es) (ho : w2.ownsRow w.heap.size 62 4 lv2 es2.length (fl entC es2)) (hg : wr.grownBy w2 lv.ownBlock) : PIn n w w2 dv sv bv lv2 P es2 :=
  ⟨below_grown h.bel hg h.bel.size h.l, h.bA.grown hg (own_ne_blk0 h.l h.bA (by decide)), h.bS.grown hg (own_ne_blk0 h.l h.bS (by decide)), h.b.grown hg h.l (by decide), ho⟩
theorem PIn.put {a : Option Addr} {c : Nat} {P2 : List Int} (h : PIn n w wr dv sv bv lv P es) (hb : Below wr.heap.size wr w2) (ho : w2.ownsRow wr.heap.size 5 1 (.slice a n c) n (ints .u8 P2)) : PIn n w w2 dv sv (.slice a n c) lv P2 es :=
  have h2 := h.later hb
  ⟨h2.bel, h2.bA, h2.bS, Bd.of_own ho, h2.l⟩
end
theorem entC_one2 (x : Ent) : ∀ u ∈ entC x, u.oneCell' = true := by
  intro u hu
  simp only [entC, List.mem_cons, List.not_mem_nil, or_false] at hu
  rcases hu with rfl | rfl | rfl | rfl <;> rfl
theorem inl_same {x : Tgs} {o : Int} (ho : o = 1 ∨ o = 2) (h : okT x = true) (ht : tagB x.1 = true) : inlV x o = inlB x.2.1 x.2.2.1 := by
  have hm := mayF h ho
  rw [inlV_iff h ho ht]
  unfold outS inlB
  have h1 : (1 : Int) ≤ x.2.2.2.length := by
    rw [hm.len]
    have := Int.mul_le_mul hm.k1 hm.s1 (by decide) (by have := hm.k1; omega)
    omega
  rw [hm.long]
  by_cases h4 : 4 < (x.2.2.2.length : Int)
  · rw [if_pos h4, decide_eq_false (by omega), decide_eq_false (show ¬ (x.2.2.2.length : Int) ≤ 4 by omega), Bool.and_false]
  · rw [if_neg h4, decide_eq_true (show (0 : Int) < x.2.2.2.length by omega), decide_eq_true (show (x.2.2.2.length : Int) ≤ 4 by omega)]
    rfl
set_option maxRecDepth 20000 in
set_option maxHeartbeats 8000000 in
theorem rput_any (f n : Nat) (pa : Option Addr) (pc : Nat) (P : List Int) (spa : Option Addr) (spn spc : Nat) (l : List Spt) (d : DirT (f + 1)) (dv : Dz) (no : Int) (la : Option Addr) (ln lc : Nat) (lks : List Lk) (sat slong snx : Int) (ua : Option Addr) (un uc : Nat) (o : Int) (w : World)
    (hb : Sl w pa n pc 1 (ints .u8 P)) (hsp : Sl w spa spn spc 5 (fl spC l)) (hd : DirR w (f + 1) d dv) (hs : smallD (f + 1) d) (hby : bytD (f + 1) d) (hu : Sl w ua un uc 1 (ints .i64 ((List.range d.2.1.length).map (subN f d.2.1 no))))
    (htg : ∀ x ∈ d.1, tagB x.1 = true ∧ okT x = true) (hn : n ≤ 1000000000000)
    (k1 : ∀ x ∈ d.1, okV l n o no x ∧ x.2.2.2.length ≤ 1000000000) (k3 : 0 < d.2.2.length → Fits l n 4 no 0 d.2.2.length) (k4 : Fits l n 2 no 0 (2 + 12 * (entsD f l o no (lks, sat, slong, snx) d).length))
    (k5 : 1 ≤ (entsD f l o no (lks, sat, slong, snx) d).length) (k6 : (entsD f l o no (lks, sat, slong, snx) d).length ≤ 65535) (k7 : o = 1 ∨ o = 2)
    (k8 : (entsD f l o no (lks, sat, slong, snx) d).Pairwise fun x y => x.1 ≠ y.1) (k9 : ∀ x ∈ entsD f l o no (lks, sat, slong, snx) d, entOk x o = true) :
    Calls Tryz.prog 93 #[.slice pa n pc, .slice spa spn spc, .agg #[dv.1, dv.2.1, dv.2.2], .int .i64 no, .agg #[.slice la ln lc, .int .i64 sat, .int .i64 slong, .int .i64 snx], .slice ua un uc, .int .i64 o] w fun e w' =>
      ∃ a' c', e = .returned (.slice a' n c') ∧ w'.ownsRow w.heap.size 5 1 (.slice a' n c') n (ints .u8 (apP (putP f l o no (lks, sat, slong, snx) d) P)) ∧ Below w.heap.size w w' := by
  obtain ⟨ta, tn, tc, ts, sa, sn, sc, ds, ba, bn, bc, rfl, htr, hdt, hsl, hdl, hsub, hbl⟩ := hd
  obtain ⟨h1, h2, h3, h4⟩ := hs
  obtain ⟨hy1, hy2, hy3⟩ := hby
  have htn : d.1.length = tn := by rw [hdt, List.length_map]; exact htr.len
  have hsn : d.2.1.length = sn := by rw [← hdl]; exact hsl.flen sbC_len (by decide)
  have hbn : d.2.2.length = bn := hbl.ilen
  have htn60 : tn ≤ 60 := by omega
  have hsn6 : sn ≤ 6 := by omega
  have hbn600 : bn ≤ 600 := by omega
  have hPl := hb.ilen
  obtain ⟨W1, hW1, bA, bS, hb1, s1⟩ := two_boxes w 42 #[.slice ta tn tc, .slice sa sn sc, .slice ba bn bc] 50 #[.slice la ln lc, .int .i64 sat, .int .i64 slong, .int .i64 snx]
  obtain ⟨ei, ez, hi0, hz, hz1, hz2, hz3⟩ := info_of infoE infoEz
  have hin0 : PIn n w W1 (dvA ta tn tc sa sn sc ba bn bc) (svA la ln lc sat slong snx) (.slice pa n pc) nilV P [] :=
    ⟨hb1, bA, bS, ⟨pa, pc, rfl, hb.mono hb1, fun x e => by
      have hn2 : 0 < n := by obtain ⟨_, h1, h2⟩ := k4; omega
      obtain ⟨g, off, h1, h2, _⟩ := hb.lies 0 hn2
      rw [e] at h1
      injection h1 with h1
      rw [h1]
      exact .inl h2⟩, own_nil _ _ _ _⟩
  have hb' := Lib.hid hb
  have hsp' := Lib.hid hsp
  have htr' := Lib.hid htr
  have hdt' := Lib.hid hdt
  have hsl' := Lib.hid hsl
  have hdl' := Lib.hid hdl
  have hsub' := Lib.hid hsub
  have hbl' := Lib.hid hbl
  have h4' := Lib.hid h4
  have hy1' := Lib.hid hy1
  have hy2' := Lib.hid hy2
  have hy3' := Lib.hid hy3
  have htn' := Lib.hid htn
  have hsn' := Lib.hid hsn
  have hbn' := Lib.hid hbn
  have hPl' := Lib.hid hPl
  have hW1' := Lib.hid hW1
  have bA' := Lib.hid bA
  have bS' := Lib.hid bS
  have hb1' := Lib.hid hb1
  have s1' := Lib.hid s1
  have hin0' := Lib.hid hin0
  have hu' := Lib.hid hu
  have htg' := Lib.hid htg
  have k1' := Lib.hid k1
  have k3' := Lib.hid k3
  have k4' := Lib.hid k4
  have k5' := Lib.hid k5
  have k6' := Lib.hid k6
  have k8' := Lib.hid k8
  have k9' := Lib.hid k9
  clear hb hsp htr hdt hsl hdl hsub hbl h4 hy1 hy2 hy3 htn hsn hbn hPl hW1 bA bS hb1 s1 hin0 hu htg k1 k3 k4 k5 k6 k8 k9
  go_enter Tryz.func93, Tryz.ntmps93
  go_upto_region 1 with fail
  try rw [hW1'.out]
  go_wp2_with fail
  go_loopw [0, 15, 16] (fun bv lv iv wr => ∃ k : Nat, k ≤ tn ∧ iv = .int .i64 k ∧ Hid (PIn n w wr (dvA ta tn tc sa sn sc ba bn bc) (svA la ln lc sat slong snx) bv lv (apP ((d.1.take k).flatMap (patV l o no)) P) ((d.1.take k).map (entT l o no)))) (fun _ _ iv _ => tn - (intOf iv).toNat)
  case atStart => exact ⟨0, by omega, rfl, hin0'⟩
  case round =>
    obtain ⟨k, hk, rfl, hW⟩ := hrel
    have d0 : wr.cell? ⟨w.heap.size, 0, none⟩ = some (.slice ta tn tc) := hW.out.bA.cell rfl
    by_cases hlt : k < tn
    · have hil : (k : Int) < (tn : Int) := by omega
      have hw1 : IntKind.i64.wrap ((k : Int) + 1) = k + 1 := by rw [IntKind.wrap_i64]; omega
      obtain ⟨b2, o2, rfl, hblt2, f0, f1, f2, f3, hrd⟩ := (htr'.out.mono hW.out.bel).at hlt
      have hkd : k < d.1.length := by rw [htn'.out]; exact hlt
      have hgx : d.1[k] = tagz (ts.getD k tz0) := by
        have h1 : k < ts.length := by rw [htr'.out.len]; exact hlt
        simp only [hdt'.out, List.getElem_map]
        rw [getD_el h1]
      have hpt := patV_step l o no d.1 hkd
      have het := entT_step l o no d.1 hkd
      have hk1 := k1'.out _ (List.getElem_mem hkd)
      have hy1k := hy1'.out _ (List.getElem_mem hkd)
      have htk := htg'.out _ (List.getElem_mem hkd)
      obtain ⟨⟨⟨y, t, cn, xa, xn, xc⟩, dd⟩, hzi⟩ : ∃ z, ts.getD k tz0 = z := ⟨_, rfl⟩
      rw [hzi] at f0 f1 f2 f3 hrd hgx
      simp only [tagz] at f0 f1 f2 f3 hrd hgx
      rw [hgx] at hpt het hk1 hy1k htk
      have hxn : xn ≤ 1000000000 := by have := hrd.ilen; have := hk1.2; simp only at this; omega
      obtain ⟨a0, c0, rfl, hbs, _⟩ := hW.out.b
      have hal := (Below.refl wr.heap.size wr).alloc (Nat.le_refl _) (.cells #[.int .i64 y, .int .i64 t, .int .i64 cn, .slice xa xn xc] 78)
      have bk := Blk.new wr 78 #[.int .i64 y, .int .i64 t, .int .i64 cn, .slice xa xn xc]
      obtain ⟨W5, hW5⟩ : ∃ W5, wr.alloc (.cells #[.int .i64 y, .int .i64 t, .int .i64 cn, .slice xa xn xc] 78) = W5 := ⟨_, rfl⟩
      have hs5 : W5.heap.size = wr.heap.size + 1 := by rw [← hW5]; simp
      rw [hW5] at hal bk
      obtain ⟨g5, hg5⟩ : ∃ g, wr.heap.size = g := ⟨_, rfl⟩
      rw [hg5] at bk hs5 hal
      have hV := reof_any y t cn xa xn xc dd o W5 (hrd.mono (by rw [hg5]; exact hal)) hy1k hxn htk.1 k7 htk.2
      have hri := inl_same k7 htk.2 htk.1
      simp only at hri
      obtain ⟨r, hr⟩ : ∃ r, inlB t cn = r := ⟨_, rfl⟩
      rw [hr] at hV hri
      have e0 : W5.cell? ⟨g5, 0, none⟩ = some (.int .i64 y) := bk.cell rfl
      have e1 : W5.cell? ⟨g5, 1, none⟩ = some (.int .i64 t) := bk.cell rfl
      have e2 : W5.cell? ⟨g5, 2, none⟩ = some (.int .i64 cn) := bk.cell rfl
      have e3 : W5.cell? ⟨g5, 3, none⟩ = some (.slice xa xn xc) := bk.cell rfl
      have het2 : entT l o no (y, t, cn, dd) = (y, t, cn, if r = true then getV (padB (bytesV (y, t, cn, dd) o)) 0 4 o else atS l 3 no y) := by unfold entT; rw [hri]
      have hpt2 : patV l o no (y, t, cn, dd) = if r = true then [] else [((atS l 3 no y).toNat, bytesV (y, t, cn, dd) o)] := by unfold patV; rw [hri]
      have hok2 : r = false → 1 ≤ (bytesV (y, t, cn, dd) o).length ∧ Fits l n 3 no y (bytesV (y, t, cn, dd) o).length := fun e => by
        rcases hk1.1 with h | h
        · rw [hri, e] at h; cases h
        · exact h
      have hesl : ((d.1.take k).map (entT l o no)).length = k := by rw [List.length_map, List.length_take]; omega
      rw [het2] at het
      rw [hpt2] at hpt
      have hrd' := Lib.hid hrd
      have hgx' := Lib.hid hgx
      have hpt' := Lib.hid hpt
      have het' := Lib.hid het
      have hk1' := Lib.hid hk1
      have hy1k' := Lib.hid hy1k
      have htk' := Lib.hid htk
      have hzi' := Lib.hid hzi
      have hal' := Lib.hid hal
      have bk' := Lib.hid bk
      have hV' := Lib.hid hV
      have hri' := Lib.hid hri
      have hr' := Lib.hid hr
      have hW5' := Lib.hid hW5
      have hbs' := Lib.hid hbs
      have het2' := Lib.hid het2
      have hpt2' := Lib.hid hpt2
      have hok2' := Lib.hid hok2
      have hs5' := Lib.hid hs5
      clear hrd hgx hpt het hk1 hy1k htk hzi hal bk hV hri hr hW5 hbs het2 hpt2 hok2 hs5
      go_upto_region 6 with fail
      first | rw [hW5'.out, hg5] | rw [hW5'.out]
      go_wp2_with fail
      refine hV'.out.mono ?_
      rintro e w6 ⟨x0, x1, x2, x3, rfl, hb6, hval⟩
      have hx6 := hal'.out.trans (hb6.mono (by have := hs5'.out; omega))
      have bk6 := bk'.out.late hb6
      have hal7 := (Below.refl w6.heap.size w6).alloc (Nat.le_refl _) (.cells #[.int .i64 x0, .int .i64 x1, .int .i64 x2, .int .i64 x3] 62)
      have bE := Blk.new w6 62 #[.int .i64 x0, .int .i64 x1, .int .i64 x2, .int .i64 x3]
      obtain ⟨W7, hW7⟩ : ∃ W7, w6.alloc (.cells #[.int .i64 x0, .int .i64 x1, .int .i64 x2, .int .i64 x3] 62) = W7 := ⟨_, rfl⟩
      have hs7 : W7.heap.size = w6.heap.size + 1 := by rw [← hW7]; simp
      rw [hW7] at hal7 bE
      have hx7 := hx6.trans (hal7.mono (by have := hx6.size; omega))
      have bk7 := bk6.late hal7
      have hs6 := hx6.size
      obtain ⟨g7, hg7⟩ : ∃ g, w6.heap.size = g := ⟨_, rfl⟩
      rw [hg7] at bE hs7 hs6
      clear e0 e1 e2 e3
      have hb6' := Lib.hid hb6
      have hx6' := Lib.hid hx6
      have bk6' := Lib.hid bk6
      have hal7' := Lib.hid hal7
      have bE' := Lib.hid bE
      have hx7' := Lib.hid hx7
      have bk7' := Lib.hid bk7
      have hW7' := Lib.hid hW7
      have hval' := Lib.hid hval
      have hs7' := Lib.hid hs7
      clear hb6 hx6 bk6 hal7 bE hx7 bk7 hW7 hval hs7
      have hfl : ((d.1.take (k + 1)).map (entT l o no)).length = k + 1 := by rw [het'.out, List.length_append, hesl]; rfl
      have hfl' := Lib.hid hfl
      have hesl' := Lib.hid hesl
      clear hfl hesl
      cases r with
      | true =>
        have hin7 := hW.out.later (by rw [hg5]; exact hx7'.out)
        have hfe : (d.1.take (k + 1)).map (entT l o no) = (d.1.take k).map (entT l o no) ++ [(x0, x1, x2, x3)] := by
          obtain ⟨rfl, rfl, rfl, rfl⟩ := hval'.out (by simp)
          exact het'.out
        have hfP : apP ((d.1.take (k + 1)).flatMap (patV l o no)) P = apP ((d.1.take k).flatMap (patV l o no)) P := by
          rw [hpt'.out, if_pos rfl, List.append_nil]
        have hin7' := Lib.hid hin7
        have hfe' := Lib.hid hfe
        have hfP' := Lib.hid hfP
        clear hin7 hfe hfP
        go_upto_region 10 with fail
        first | rw [hW7'.out, hg7] | rw [hW7'.out]
        have p0 : W7.cell? ⟨g7, 0, none⟩ = some (.int .i64 x0) := bE'.out.cell rfl
        have p1 : W7.cell? ⟨g7, 1, none⟩ = some (.int .i64 x1) := bE'.out.cell rfl
        have p2 : W7.cell? ⟨g7, 2, none⟩ = some (.int .i64 x2) := bE'.out.cell rfl
        have p3 : W7.cell? ⟨g7, 3, none⟩ = some (.int .i64 x3) := bE'.out.cell rfl
        have halx := (Below.refl W7.heap.size W7).alloc (Nat.le_refl _) (.cells #[.int .i64 x0, .int .i64 x1, .int .i64 x2, .int .i64 x3] 62)
        have hinx := hin7'.out.later halx
        have hinl := hinx.l
        rw [hesl'.out] at hinl
        have halx' := Lib.hid halx
        have hinx' := Lib.hid hinx
        have hinl' := Lib.hid hinl
        clear halx hinx hinl
        go_wp2_with (at_builtin; refine wpList_app2 rfl _ _ 136 rfl w.heap.size 62 ei ez 4 32 Tryz.underlying136 hi0 hz hz1 hz2 hz3 (by decide) _ k _ rfl hinl'.out ⟨W7.heap.size, 0, none⟩ 1 1 (entC (x0, x1, x2, x3)) rfl (Sl.new W7 62 4 1 #[.int .i64 x0, .int .i64 x1, .int .i64 x2, .int .i64 x3] (0, 0) (by omega) rfl) (entC_one2 _) (by omega) (by decide) hinx'.out.bel.size ?_; intro a5 c5 wa ob hga hoa; clear hoa; have Ob := Lib.hid ob; have Hga := Lib.hid hga; clear ob hga)
        have hob := Ob.out
        rw [← fl_snoc, ← hfe'.out] at hob
        have hin9 := hinx'.out.add (by rw [hfl'.out]; exact hob) Hga.out
        rw [← hfP'.out] at hin9
        go_roundw
        case rel => exact ⟨k + 1, by omega, by go_num, Lib.hid hin9⟩
        case measure => simp [intOf]; omega
      | false =>
        obtain ⟨hL1, hft⟩ := hok2'.out rfl
        have hfa := fits_at hft
        rw [if_neg (by decide)] at hpt' het'
        obtain ⟨q, hq⟩ : ∃ q : Nat, atS l 3 no y = q := ⟨(atS l 3 no y).toNat, by omega⟩
        have hg57 : g5 < g7 := by have := hb6'.out.size; have := hs5'.out; omega
        have hge5 := Nat.le_of_eq hg5.symm
        obtain ⟨Ty, ff, hne, hcl, hsurj⟩ := pred_worlds (fun W => Blk W g5 78 #[.int .i64 y, .int .i64 t, .int .i64 cn, .slice xa xn xc]) W7 bk7'.out
        have hdr := (Below.refl W7.heap.size W7).drew
        have HS := Lib.hid (hsurj W7.drew (bk7'.out.late hdr))
        have q0 : ∀ s, (ff s).cell? ⟨g5, 0, none⟩ = some (.int .i64 y) := fun s => (hcl s).cell rfl
        have q1 : ∀ s, (ff s).cell? ⟨g5, 1, none⟩ = some (.int .i64 t) := fun s => (hcl s).cell rfl
        have q2 : ∀ s, (ff s).cell? ⟨g5, 2, none⟩ = some (.int .i64 cn) := fun s => (hcl s).cell rfl
        have hxD := bnx hx7'.out hge5 hdr
        have bED := bE'.out.late hdr
        have bkD := bk7'.out.late hdr
        obtain ⟨wD, hwD⟩ : ∃ wD, W7.drew = wD := ⟨_, rfl⟩
        rw [hwD] at HS hxD bED bkD
        have hA := rat_any spa spn spc l 3 no y wD (hsp'.out.mono (bnx hW.out.bel (Nat.le_refl _) (by rw [hg5]; exact hxD)))
        rw [hq] at hA hfa
        have hcl' := Lib.hid hcl
        have hsurj' := Lib.hid hsurj
        have hxD' := Lib.hid hxD
        have bED' := Lib.hid bED
        have bkD' := Lib.hid bkD
        have hA' := Lib.hid hA
        have hL1' := Lib.hid hL1
        have hft' := Lib.hid hft
        have hq' := Lib.hid hq
        have hdr' := Lib.hid hdr
        clear hcl hsurj hxD bED bkD hA hL1 hft hq hdr
        go_upto_region 8 with fail
        first | rw [hW7'.out, hg7] | rw [hW7'.out]
        refine held_begin (S := fun W => ∃ s, W = ff s) (by kernel_rfl) 15 rfl ?_
        rw [hwD]
        refine held_take [0, 1, 2, 3, 4, 5, 6, 7, 8, 9, 10, 11] 3 (by kernel_rfl) (fun d _ _ _ _ h => by cases d <;> exact h) (by kernel_rfl) (by kernel_rfl) (by kernel_rfl) HS.out ?_
        simp only [pickL, List.map_cons, List.map_nil, List.getD_cons_succ, List.getD_cons_zero]
        iterate 12 (go_big_quiet_step (fail))
        refine wpQuiet_nil ?_
        clear q0 q1 q2 hwD
        refine held_one 12 2 (by kernel_rfl) (by kernel_rfl) ?_
        simp only [pickL, List.map_cons, List.map_nil, List.getD_cons_succ, List.getD_cons_zero]
        go_wp2_with fail
        refine hA'.out.mono ?_
        rintro e w8 ⟨rfl, hb8⟩
        have hx8 := bnx hxD'.out hge5 hb8
        have bE8 := bED'.out.late hb8
        have bk8 := bkD'.out.late hb8
        have HS := Lib.hid (hsurj'.out _ bk8)
        have hb8' := Lib.hid hb8
        have hx8' := Lib.hid hx8
        have bE8' := Lib.hid bE8
        have bk8' := Lib.hid bk8
        clear hb8 hx8 bE8 bk8
        go_wp2_with fail
        first | refine Mid.mk ⟨HS.out, ?_⟩ | refine Mid.mk ?_
        refine held_take [13] 1 (by kernel_rfl) (fun d _ _ _ _ h => by cases d <;> exact h) (by kernel_rfl) (by kernel_rfl) (by kernel_rfl) HS.out ?_
        simp only [pickL, List.map_cons, List.map_nil, List.getD_cons_succ, List.getD_cons_zero]
        iterate 1 (go_big_quiet_step (fail))
        refine wpQuiet_nil ?_
        have p0 : w8.cell? ⟨g7, 0, none⟩ = some (.int .i64 x0) := bE8'.out.cell rfl
        have p1 : w8.cell? ⟨g7, 1, none⟩ = some (.int .i64 x1) := bE8'.out.cell rfl
        have p2 : w8.cell? ⟨g7, 2, none⟩ = some (.int .i64 x2) := bE8'.out.cell rfl
        have p3 : w8.cell? ⟨g7, 3, none⟩ = some (.int .i64 x3) := bE8'.out.cell rfl
        have y0 := bE8'.out.frozen 0
        have y1 := bE8'.out.frozen 1
        have y2 := bE8'.out.frozen 2
        have y3 := bE8'.out.frozen 3
        refine held_one 14 0 (by kernel_rfl) (by kernel_rfl) ?_
        simp only [pickL, List.map_cons, List.map_nil, List.getD_cons_succ, List.getD_cons_zero]
        go_wp2_with fail
        have bZ := (((bE8'.out.set 0 (.int .i64 y)).set 1 (.int .i64 t)).set 2 (.int .i64 cn)).set 3 (.int .i64 (q : Int))
        have hbz := ((((Below.refl g7 w8).setCell (p := ⟨g7, 0, none⟩) (Nat.le_refl _) (.int .i64 y)).setCell (p := ⟨g7, 1, none⟩) (Nat.le_refl _) (.int .i64 t)).setCell (p := ⟨g7, 2, none⟩) (Nat.le_refl _) (.int .i64 cn)).setCell (p := ⟨g7, 3, none⟩) (Nat.le_refl _) (.int .i64 (q : Int))
        obtain ⟨wZ, hwZ⟩ : ∃ wZ, (((w8.setCell ⟨g7, 0, none⟩ (.int .i64 y)).setCell ⟨g7, 1, none⟩ (.int .i64 t)).setCell ⟨g7, 2, none⟩ (.int .i64 cn)).setCell ⟨g7, 3, none⟩ (.int .i64 (q : Int)) = wZ := ⟨_, rfl⟩
        rw [hwZ] at bZ hbz ⊢
        have bkZ : Blk wZ g5 78 #[.int .i64 y, .int .i64 t, .int .i64 cn, .slice xa xn xc] := (hbz.block _ hg57).trans bk8'.out
        have hxZ := hx8'.out.trans (hbz.mono (Nat.le_of_lt hg57))
        have HS := Lib.hid (hsurj'.out _ bkZ)
        clear p0 p1 p2 p3 y0 y1 y2 y3 hwZ
        have hbz' := Lib.hid hbz
        clear hbz
        first | refine Mid.mk ⟨HS.out, ?_⟩ | refine Mid.mk ?_
        refine held_last (by kernel_rfl) ?_
        obtain ⟨Ty, ff, hne, hcl, hsurj⟩ := pred_worlds (fun W => Blk W g5 78 #[.int .i64 y, .int .i64 t, .int .i64 cn, .slice xa xn xc] ∧ Blk W g7 62 #[.int .i64 y, .int .i64 t, .int .i64 cn, .int .i64 (q : Int)]) wZ ⟨bkZ, bZ⟩
        have hdr := (Below.refl wZ.heap.size wZ).drew
        have HS := Lib.hid (hsurj wZ.drew ⟨bkZ.late hdr, bZ.late hdr⟩)
        have q1 : ∀ s, (ff s).cell? ⟨g5, 1, none⟩ = some (.int .i64 t) := fun s => (hcl s).1.cell rfl
        have q2 : ∀ s, (ff s).cell? ⟨g5, 2, none⟩ = some (.int .i64 cn) := fun s => (hcl s).1.cell rfl
        have q3 : ∀ s, (ff s).cell? ⟨g5, 3, none⟩ = some (.slice xa xn xc) := fun s => (hcl s).1.cell rfl
        have q4 : ∀ s, (ff s).cell? ⟨g7, 3, none⟩ = some (.int .i64 (q : Int)) := fun s => (hcl s).2.cell rfl
        have hxD := bnx hxZ hge5 hdr
        have bED := bZ.late hdr
        have bkD := bkZ.late hdr
        obtain ⟨wD, hwD⟩ : ∃ wD, wZ.drew = wD := ⟨_, rfl⟩
        rw [hwD] at HS hxD bED bkD
        have hB := rbytes_any y t cn xa xn xc dd o wD (hrd'.out.mono (by rw [hg5]; exact hxD)) hxn
        obtain ⟨R, hR⟩ : ∃ R, bytesV (y, t, cn, dd) o = R := ⟨_, rfl⟩
        rw [hR] at hB hpt' hL1'
        rw [hR] at hfa
        have bZ' := Lib.hid bZ
        have bkZ' := Lib.hid bkZ
        have hxZ' := Lib.hid hxZ
        have hcl' := Lib.hid hcl
        have hsurj' := Lib.hid hsurj
        have hxD' := Lib.hid hxD
        have bED' := Lib.hid bED
        have bkD' := Lib.hid bkD
        have hB' := Lib.hid hB
        have hdr' := Lib.hid hdr
        have hR' := Lib.hid hR
        clear bZ bkZ hxZ hcl hsurj hxD bED bkD hB hdr hR
        go_upto_region 9 with fail
        refine held_begin (S := fun W => ∃ s, W = ff s) (by kernel_rfl) 9 rfl ?_
        rw [hwD]
        refine held_take [0, 1, 2, 3, 4, 5] 3 (by kernel_rfl) (fun d _ _ _ _ h => by cases d <;> exact h) (by kernel_rfl) (by kernel_rfl) (by kernel_rfl) HS.out ?_
        simp only [pickL, List.map_cons, List.map_nil, List.getD_cons_succ, List.getD_cons_zero]
        iterate 6 (go_big_quiet_step (fail))
        refine wpQuiet_nil ?_
        clear q1 q2 q3 q4 hwD
        refine held_one 6 2 (by kernel_rfl) (by kernel_rfl) ?_
        simp only [pickL, List.map_cons, List.map_nil, List.getD_cons_succ, List.getD_cons_zero]
        go_wp2_with fail
        refine hB'.out.mono ?_
        rintro e w9 ⟨a9, m9, c9, rfl, ho9, hb9⟩
        have hx9 := bnx hxD'.out hge5 hb9
        have bE9 := bED'.out.late hb9
        have bk9 := bkD'.out.late hb9
        have hs9 := (Sl.of_own ho9).1
        have hm9 : m9 = R.length := hs9.ilen.symm
        have hO := over_any a0 n c0 _ q a9 m9 c9 R w9 (hbs'.out.mono (by rw [hg5]; exact hx9)) hs9 hn (by omega)
        have HS := Lib.hid (hsurj'.out _ ⟨bk9, bE9⟩)
        have ho9' := Lib.hid ho9
        have hb9' := Lib.hid hb9
        have hx9' := Lib.hid hx9
        have bE9' := Lib.hid bE9
        have bk9' := Lib.hid bk9
        have hs9' := Lib.hid hs9
        have hm9' := Lib.hid hm9
        have hO' := Lib.hid hO
        clear ho9 hb9 hx9 bE9 bk9 hs9 hm9 hO
        go_wp2_with fail
        first | refine Mid.mk ⟨HS.out, ?_⟩ | refine Mid.mk ?_
        refine held_one 7 1 (by kernel_rfl) (by kernel_rfl) ?_
        simp only [pickL, List.map_cons, List.map_nil, List.getD_cons_succ, List.getD_cons_zero]
        go_wp2_with fail
        refine hO'.out.mono ?_
        rintro e w10 ⟨a10, c10, rfl, ho10, hb10⟩
        have hx10 := bnx hx9'.out hge5 hb10
        have bE10 := bE9'.out.late hb10
        have bk10 := bk9'.out.late hb10
        have HS := Lib.hid (hsurj'.out _ ⟨bk10, bE10⟩)
        have ho10' := Lib.hid ho10
        have hb10' := Lib.hid hb10
        have hx10' := Lib.hid hx10
        have bE10' := Lib.hid bE10
        have bk10' := Lib.hid bk10
        clear ho10 hb10 hx10 bE10 bk10
        go_wp2_with fail
        first | refine Mid.mk ⟨HS.out, ?_⟩ | refine Mid.mk ?_
        refine held_one 8 0 (by kernel_rfl) (by kernel_rfl) ?_
        simp only [pickL, List.map_cons, List.map_nil, List.getD_cons_succ, List.getD_cons_zero]
        go_wp2_with fail
        first | refine Mid.mk ⟨HS.out, ?_⟩ | refine Mid.mk ?_
        refine held_last (by kernel_rfl) ?_
        have hin7 := hW.out.put (by rw [hg5]; exact hx10'.out) (own_mono ho10'.out (by rw [hg5]; have := hx9'.out.size; omega))
        have hfe : (d.1.take (k + 1)).map (entT l o no) = (d.1.take k).map (entT l o no) ++ [(y, t, cn, (q : Int))] := by rw [het'.out, hq'.out]
        have hfP : apP ((d.1.take (k + 1)).flatMap (patV l o no)) P = splice (apP ((d.1.take k).flatMap (patV l o no)) P) q R := by
          rw [hpt'.out, apP_append, hq'.out, Int.toNat_natCast]; rfl
        have hin7' := Lib.hid hin7
        have hfe' := Lib.hid hfe
        have hfP' := Lib.hid hfP
        clear hin7 hfe hfP
        have p0 : w10.cell? ⟨g7, 0, none⟩ = some (.int .i64 y) := bE10'.out.cell rfl
        have p1 : w10.cell? ⟨g7, 1, none⟩ = some (.int .i64 t) := bE10'.out.cell rfl
        have p2 : w10.cell? ⟨g7, 2, none⟩ = some (.int .i64 cn) := bE10'.out.cell rfl
        have p3 : w10.cell? ⟨g7, 3, none⟩ = some (.int .i64 (q : Int)) := bE10'.out.cell rfl
        have halx := (Below.refl w10.heap.size w10).alloc (Nat.le_refl _) (.cells #[.int .i64 y, .int .i64 t, .int .i64 cn, .int .i64 (q : Int)] 62)
        have hinx := hin7'.out.later halx
        have hinl := hinx.l
        rw [hesl'.out] at hinl
        have halx' := Lib.hid halx
        have hinx' := Lib.hid hinx
        have hinl' := Lib.hid hinl
        clear halx hinx hinl
        go_wp2_with (at_builtin; refine wpList_app2 rfl _ _ 136 rfl w.heap.size 62 ei ez 4 32 Tryz.underlying136 hi0 hz hz1 hz2 hz3 (by decide) _ k _ rfl hinl'.out ⟨w10.heap.size, 0, none⟩ 1 1 (entC (y, t, cn, (q : Int))) rfl (Sl.new w10 62 4 1 #[.int .i64 y, .int .i64 t, .int .i64 cn, .int .i64 (q : Int)] (0, 0) (by omega) rfl) (entC_one2 _) (by omega) (by decide) hinx'.out.bel.size ?_; intro a5 c5 wa ob hga hoa; clear hoa; have Ob := Lib.hid ob; have Hga := Lib.hid hga; clear ob hga)
        have hob := Ob.out
        rw [← fl_snoc, ← hfe'.out] at hob
        have hin9 := hinx'.out.add (by rw [hfl'.out]; exact hob) Hga.out
        rw [← hfP'.out] at hin9
        go_roundw
        case rel => exact ⟨k + 1, by omega, by go_num, Lib.hid hin9⟩
        case measure => simp [intOf]; omega
    · obtain rfl : k = tn := by omega
      have hfull : d.1.take k = d.1 := List.take_of_length_le (by rw [htn'.out]; omega)
      rw [hfull] at hW
      obtain ⟨P1, hP1⟩ : ∃ P1, apP (d.1.flatMap (patV l o no)) P = P1 := ⟨_, rfl⟩
      obtain ⟨E1, hE1⟩ : ∃ E1, d.1.map (entT l o no) = E1 := ⟨_, rfl⟩
      rw [hP1, hE1] at hW
      have hE1l : E1.length = k := by rw [← hE1, List.length_map]; exact htn'.out
      obtain ⟨a0, c0, rfl, hbs, _⟩ := hW.out.b
      have hP1' := Lib.hid hP1
      have hE1' := Lib.hid hE1
      have hbs' := Lib.hid hbs
      have hE1l' := Lib.hid hE1l
      clear hP1 hE1 hbs hE1l
      clear hfull
      go_wp2_with fail
      go_loopw [15, 20] (fun lv iv wr => ∃ j : Nat, j ≤ sn ∧ iv = .int .i64 j ∧ Hid (PIn n w wr (dvA ta k tc sa sn sc ba bn bc) (svA la ln lc sat slong snx) (.slice a0 n c0) lv P1 (E1 ++ subE f l d.2.1 no j))) (fun _ iv _ => sn - (intOf iv).toNat)
      case atStart =>
        refine ⟨0, by omega, rfl, ?_⟩
        have e3 : E1 ++ subE f l d.2.1 no 0 = E1 := by simp [subE]
        rw [e3]
        exact hW
      case round =>
        clear hW hbs'
        obtain ⟨j, hj, rfl, hW⟩ := hrel
        have d1 : wr.cell? ⟨w.heap.size, 1, none⟩ = some (.slice sa sn sc) := hW.out.bA.cell rfl
        by_cases hlt : j < sn
        · have hil : (j : Int) < (sn : Int) := by omega
          have hw1 : IntKind.i64.wrap ((j : Int) + 1) = j + 1 := by rw [IntKind.wrap_i64]; omega
          have hid : j < d.2.1.length := by rw [hsn'.out]; exact hlt
          have hids : j < ds.length := by rw [hdl'.out]; exact hid
          obtain ⟨xb, xo, rfl, hblt2, fe⟩ := hsl'.out.elem sbC_len (by decide) (0, (.slice none 0 0, .slice none 0 0, .slice none 0 0)) hlt
          rw [getD_el hids] at fe
          obtain ⟨hq1, _⟩ := hsub'.out j hids hid
          have g0 := fe 0 _ rfl
          simp only [Nat.add_zero] at g0
          rw [hq1] at g0
          clear fe
          have hun : un = sn := by have := hu'.out.ilen; rw [List.length_map, List.length_range, hsn'.out] at this; exact this.symm
          obtain ⟨ub, uo, rfl, hbltu, hcu⟩ := hu'.out.at (i := j) (by omega)
          have hu0 := hcu j _ (ints_get (by rw [List.length_map, List.length_range]; exact hid))
          have hgu : ((List.range d.2.1.length).map (subN f d.2.1 no)).getD j 0 = subN f d.2.1 no j := by
            rw [getD_el (by rw [List.length_map, List.length_range]; exact hid)]; simp
          rw [hgu] at hu0
          have hEs := subE_step f l d.2.1 no j
          have hEx : subX f l d.2.1 no j = ((d.2.1.getD j (0, dirZ f)).1, 4, 1, atS l 2 (subN f d.2.1 no j) 0) := rfl
          rw [getD_el hid] at hEx
          rw [hEx] at hEs
          generalize d.2.1[j].1 = y at g0 hEs
          generalize subN f d.2.1 no j = ns at hu0 hEs
          have hA := fun W (h : Below w.heap.size w W) => rat_any spa spn spc l 2 ns 0 W (hsp'.out.mono h)
          generalize atS l 2 ns 0 = q at hA hEs
          have hesl : (E1 ++ subE f l d.2.1 no j).length = k + j := by rw [List.length_append, hE1l'.out, subE_len]
          have hesl2 : (E1 ++ subE f l d.2.1 no (j + 1)).length = k + (j + 1) := by rw [List.length_append, hE1l'.out, subE_len]
          have hdr := (Below.refl wr.heap.size wr).drew
          have hinD := hW.out.later hdr
          obtain ⟨Ty, ff, hne, hcl, hsurj⟩ := pred_worlds (fun W => Below w.heap.size w W ∧ Blk W w.heap.size 42 (dvA ta k tc (some ⟨xb, xo, none⟩) sn sc ba bn bc)) wr ⟨hW.out.bel, hW.out.bA⟩
          have HS := Lib.hid (hsurj wr.drew ⟨hinD.bel, hinD.bA⟩)
          have q1 : ∀ s, (ff s).cell? ⟨w.heap.size, 1, none⟩ = some (.slice (some ⟨xb, xo, none⟩) sn sc) := fun s => (hcl s).2.cell rfl
          have q2 : ∀ s, (ff s).cell? ⟨xb, xo + j * 4, none⟩ = some (.int .i64 y) := fun s => late (hcl s).1 hblt2 g0
          have q3 : ∀ s, (ff s).cell? ⟨ub, uo + j, none⟩ = some (.int .i64 ns) := fun s => late (hcl s).1 hbltu hu0
          obtain ⟨wD, hwD⟩ : ∃ wD, wr.drew = wD := ⟨_, rfl⟩
          rw [hwD] at HS hinD
          obtain ⟨rfl⟩ := hun
          have hcl' := Lib.hid hcl
          have hsurj' := Lib.hid hsurj
          have hinD' := Lib.hid hinD
          have hA' := Lib.hid hA
          have hEs' := Lib.hid hEs
          have hesl' := Lib.hid hesl
          have hesl2' := Lib.hid hesl2
          have hq1' := Lib.hid hq1
          have hdr' := Lib.hid hdr
          clear hcl hsurj hinD hA hEs hesl hesl2 hq1 hdr
          clear hcu hgu hEx g0 hu0
          go_upto_region 14 with fail
          refine held_begin (S := fun W => ∃ s, W = ff s) (by kernel_rfl) 17 rfl ?_
          rw [hwD]
          refine held_take [0, 1, 2, 3, 4, 5, 6, 7, 8, 9, 10, 11] 5 (by kernel_rfl) (fun d _ _ _ _ h => by cases d <;> exact h) (by kernel_rfl) (by kernel_rfl) (by kernel_rfl) HS.out ?_
          simp only [pickL, List.map_cons, List.map_nil, List.getD_cons_succ, List.getD_cons_zero]
          iterate 12 (go_big_quiet_step (fail))
          refine wpQuiet_nil ?_
          clear q1 q2 q3 hwD d1
          refine held_one 12 4 (by kernel_rfl) (by kernel_rfl) ?_
          simp only [pickL, List.map_cons, List.map_nil, List.getD_cons_succ, List.getD_cons_zero]
          go_wp2_with fail
          refine (hA'.out wD hinD'.out.bel).mono ?_
          rintro e w8 ⟨rfl, hb8⟩
          have hin8 := hinD'.out.later hb8
          have HS := Lib.hid (hsurj'.out _ ⟨hin8.bel, hin8.bA⟩)
          have hin8' := Lib.hid hin8
          have hb8' := Lib.hid hb8
          clear hin8 hb8
          go_wp2_with fail
          first | refine Mid.mk ⟨HS.out, ?_⟩ | refine Mid.mk ?_
          refine held_take [13] 3 (by kernel_rfl) (fun d _ _ _ _ h => by cases d <;> exact h) (by kernel_rfl) (by kernel_rfl) (by kernel_rfl) HS.out ?_
          simp only [pickL, List.map_cons, List.map_nil, List.getD_cons_succ, List.getD_cons_zero]
          iterate 1 (go_big_quiet_step (fail))
          refine wpQuiet_nil ?_
          have halx := (Below.refl w8.heap.size w8).alloc (Nat.le_refl _) (.cells #[.int .i64 y, .int .i64 4, .int .i64 1, .int .i64 q] 62)
          have hinx := hin8'.out.later halx
          have hinl := hinx.l
          rw [hesl'.out] at hinl
          have HS := Lib.hid (hsurj'.out _ ⟨hinx.bel, hinx.bA⟩)
          have halx' := Lib.hid halx
          have hinx' := Lib.hid hinx
          have hinl' := Lib.hid hinl
          clear halx hinx hinl
          refine held_one 14 2 (by kernel_rfl) (by kernel_rfl) ?_
          simp only [pickL, List.map_cons, List.map_nil, List.getD_cons_succ, List.getD_cons_zero]
          go_wp2_with fail
          first | refine Mid.mk ⟨HS.out, ?_⟩ | refine Mid.mk ?_
          refine held_one 15 1 (by kernel_rfl) (by kernel_rfl) ?_
          simp only [pickL, List.map_cons, List.map_nil, List.getD_cons_succ, List.getD_cons_zero]
          go_wp2_with (at_builtin; refine wpList_app2 rfl _ _ 136 rfl w.heap.size 62 ei ez 4 32 Tryz.underlying136 hi0 hz hz1 hz2 hz3 (by decide) _ (k + j) _ rfl hinl'.out ⟨w8.heap.size, 0, none⟩ 1 1 (entC (y, 4, 1, q)) rfl (Sl.new w8 62 4 1 #[.int .i64 y, .int .i64 4, .int .i64 1, .int .i64 q] (0, 0) (by omega) rfl) (entC_one2 _) (by omega) (by decide) hinx'.out.bel.size ?_; intro a5 c5 wa ob hga hoa; clear hoa; have Ob := Lib.hid ob; have Hga := Lib.hid hga; clear ob hga)
          have hob := Ob.out
          rw [← fl_snoc, List.append_assoc, ← hEs'.out] at hob
          have hin9 := hinx'.out.add (by rw [hesl2'.out]; exact hob) Hga.out
          have HS := Lib.hid (hsurj'.out _ ⟨hin9.bel, hin9.bA⟩)
          have hin9' := Lib.hid hin9
          clear hin9
          first | refine Mid.mk ⟨HS.out, ?_⟩ | refine Mid.mk ?_
          refine held_one 16 0 (by kernel_rfl) (by kernel_rfl) ?_
          simp only [pickL, List.map_cons, List.map_nil, List.getD_cons_succ, List.getD_cons_zero]
          go_wp2_with fail
          first | refine Mid.mk ⟨HS.out, ?_⟩ | refine Mid.mk ?_
          refine held_last (by kernel_rfl) ?_
          go_wp2_with fail
          go_roundw
          case rel => exact ⟨j + 1, by omega, by go_num, hin9'⟩
          case measure => simp [intOf]; omega
        · obtain rfl : j = sn := by omega
          have hsall : E1 ++ subE f l d.2.1 no j ++ blobE l (lks, sat, slong, snx) d.2.2 no = entsD f l o no (lks, sat, slong, snx) d := by
            unfold entsD
            rw [hE1'.out, hsn'.out]
          obtain ⟨E2, hE2⟩ : ∃ E2, E1 ++ subE f l d.2.1 no j = E2 := ⟨_, rfl⟩
          rw [hE2] at hW hsall
          have hE2l : E2.length = k + j := by rw [← hE2, List.length_append, hE1l'.out, subE_len]
          have hel := entsD_len f l o no (lks, sat, slong, snx) d
          rw [htn'.out, hsn'.out, hbn'.out] at hel
          obtain ⟨a0', c0', hv0, hbs, _⟩ := hW.out.b
          injection hv0 with hv01 hv02 hv03
          subst hv01 hv03
          obtain ⟨E3, hE3⟩ : ∃ E3, entsD f l o no (lks, sat, slong, snx) d = E3 := ⟨_, rfl⟩
          rw [hE3] at hsall hel
          have d2 : wr.cell? ⟨w.heap.size, 2, none⟩ = some (.slice ba bn bc) := hW.out.bA.cell rfl
          have hE2' := Lib.hid hE2
          have hE3' := Lib.hid hE3
          have hbs' := Lib.hid hbs
          have hsall' := Lib.hid hsall
          have hE2l' := Lib.hid hE2l
          have hel' := Lib.hid hel
          clear hE2 hE3 hbs hsall hE2l hel
          go_upto_region 15 with fail
          clear d1
          by_cases hb0 : 0 < bn
          · have e1 : decide ((0 : Int) < (bn : Int)) = true := by simp; omega
            have hbl2 : 0 < d.2.2.length := by rw [hbn'.out]; exact hb0
            have hfb := k3'.out hbl2
            rw [hbn'.out] at hfb
            have hfa := fits_at hfb
            obtain ⟨q4, hq4⟩ : ∃ q : Nat, atS l 4 no 0 = q := ⟨(atS l 4 no 0).toNat, by omega⟩
            have hA := rat_any spa spn spc l 4 no 0 wr (hsp'.out.mono hW.out.bel)
            rw [hq4] at hA hfa
            have hbe : blobE l (lks, sat, slong, snx) d.2.2 no = [(sat, 4, 1, (q4 : Int)), (slong, 4, 1, (bn : Int))] := by
              unfold blobE; rw [if_pos hbl2, hq4, hbn'.out]
            have hbp : blobP l d.2.2 no = [(q4, d.2.2)] := by
              unfold blobP; rw [if_pos hbl2, hq4, Int.toNat_natCast]
            rw [hbe] at hsall'
            have hfb' := Lib.hid hfb
            have hA' := Lib.hid hA
            have hbe' := Lib.hid hbe
            have hbp' := Lib.hid hbp
            have hq4' := Lib.hid hq4
            clear hfb hA hbe hbp hq4
            go_wp2_with fail
            refine hA'.out.mono ?_
            rintro e w2 ⟨rfl, hb2⟩
            have hin2 := hW.out.later hb2
            have hO := over_any _ n _ P1 q4 ba bn bc d.2.2 w2 (hbs'.out.mono hb2) (hbl'.out.mono hin2.bel) hn (by omega)
            have d2 : w2.cell? ⟨w.heap.size, 2, none⟩ = some (.slice ba bn bc) := hin2.bA.cell rfl
            have hb2' := Lib.hid hb2
            have hin2' := Lib.hid hin2
            have hO' := Lib.hid hO
            clear hb2 hin2 hO
            go_wp2_with fail
            refine hO'.out.mono ?_
            rintro e w3 ⟨a3, c3, rfl, ho3, hb3⟩
            have hin3 := hin2'.out.put hb3 ho3
            have d2 : w3.cell? ⟨w.heap.size, 2, none⟩ = some (.slice ba bn bc) := hin3.bA.cell rfl
            have s1 : w3.cell? ⟨w.heap.size + 1, 1, none⟩ = some (.int .i64 sat) := hin3.bS.cell rfl
            have s2 : w3.cell? ⟨w.heap.size + 1, 2, none⟩ = some (.int .i64 slong) := hin3.bS.cell rfl
            obtain ⟨P3, hP3⟩ : ∃ P3, splice P1 q4 d.2.2 = P3 := ⟨_, rfl⟩
            rw [hP3] at hin3
            have halx := (Below.refl w3.heap.size w3).alloc (Nat.le_refl _) (.cells #[.int .i64 sat, .int .i64 4, .int .i64 1, .int .i64 (q4 : Int), .int .i64 slong, .int .i64 4, .int .i64 1, .int .i64 (bn : Int)] 62)
            have hinx := hin3.later halx
            have hinl := hinx.l
            rw [hE2l'.out] at hinl
            have hone : ∀ u ∈ fl entC [(sat, 4, 1, (q4 : Int)), (slong, 4, 1, (bn : Int))], u.oneCell' = true := fl_one entC_one2
            have hb3' := Lib.hid hb3
            have ho3' := Lib.hid ho3
            have hin3' := Lib.hid hin3
            have hP3' := Lib.hid hP3
            have halx' := Lib.hid halx
            have hinx' := Lib.hid hinx
            have hinl' := Lib.hid hinl
            have hone' := Lib.hid hone
            clear hb3 ho3 hin3 hP3 halx hinx hinl hone
            go_upto_region 19 with (at_builtin; refine wpList_app2 rfl _ _ 136 rfl w.heap.size 62 ei ez 4 32 Tryz.underlying136 hi0 hz hz1 hz2 hz3 (by decide) _ (k + j) _ rfl hinl'.out ⟨w3.heap.size, 0, none⟩ 2 2 (fl entC [(sat, 4, 1, (q4 : Int)), (slong, 4, 1, (bn : Int))]) rfl (Sl.new w3 62 4 2 #[.int .i64 sat, .int .i64 4, .int .i64 1, .int .i64 (q4 : Int), .int .i64 slong, .int .i64 4, .int .i64 1, .int .i64 (bn : Int)] (0, 0) (by omega) rfl) hone'.out (by omega) (by decide) hinx'.out.bel.size ?_; intro a5 c5 wa ob hga hoa; clear hoa; have Ob := Lib.hid ob; have Hga := Lib.hid hga; clear ob hga)
            clear d2 s1 s2
            have hob := Ob.out
            rw [← fl_append, hsall'.out] at hob
            have hE3l : E3.length = k + j + 2 := by rw [← hsall'.out, List.length_append, hE2l'.out]; rfl
            have hin9 := hinx'.out.add (es2 := E3) (by rw [hE3l]; exact hob) Hga.out
            obtain ⟨lv, hlv⟩ : ∃ lv, (Value.slice a5 (k + j + 2) c5) = lv := ⟨_, rfl⟩
            have hPt : apP (putP f l o no (lks, sat, slong, snx) d) P = apP (((atS l 2 no 0).toNat, putS (E3.length : Nat) 2 o) :: rowQ (atS l 2 no 0).toNat o E3 E3.length) P3 := by
              unfold putP
              rw [hE3'.out, apP_append, apP_append, hP1'.out, hbp'.out]
              show apP _ (splice P1 q4 d.2.2) = _
              rw [hP3'.out]
            rw [hlv] at hin9
            have hin' := Lib.hid hin9
            have hPt' := Lib.hid hPt
            clear hPt
            try rw [hlv]
            clear hlv hob hin9
            obtain ⟨m, hm⟩ : ∃ m, E3.length = m := ⟨_, rfl⟩
            obtain ⟨av, cv, rfl⟩ : ∃ a c, lv = .slice a m c := by
              rcases hin'.out.l.2 with ⟨rfl, h0⟩ | ⟨g, cap, cur, rfl, _⟩
              · exact ⟨none, 0, by rw [← hm, h0]⟩
              · exact ⟨_, _, by rw [hm]⟩
            have hk5 := k5'.out
            have hk6 := k6'.out
            have hk4 := k4'.out
            have hk9 := k9'.out
            rw [hE3'.out, hm] at hk5 hk6
            rw [hE3'.out, hm] at hk4
            rw [hE3'.out] at hk9
            have hfa := fits_at hk4
            obtain ⟨q, hq⟩ : ∃ q : Nat, atS l 2 no 0 = q := ⟨(atS l 2 no 0).toNat, by omega⟩
            have hA := rat_any spa spn spc l 2 no 0 wa (hsp'.out.mono hin'.out.bel)
            rw [hq] at hA hfa
            obtain ⟨a3, c3, hv3, hbs3, _⟩ := hin'.out.b
            injection hv3 with hv31 hv32 hv33
            subst hv31 hv33
            have hpk : putOk (m : Int) 2 o = true := (putOk_iff k7).2 (by rw [show topS 2 = 65536 by decide]; omega)
            have hPh : apP (((atS l 2 no 0).toNat, putS (E3.length : Nat) 2 o) :: rowQ (atS l 2 no 0).toNat o E3 E3.length) P3 = apP (rowQ q o E3 m) (splice P3 q (putS (m : Int) 2 o)) := by
              rw [hq, Int.toNat_natCast, hm]; rfl
            have hm' := Lib.hid hm
            have hk4' := Lib.hid hk4
            have hk9' := Lib.hid hk9
            have hq' := Lib.hid hq
            have hA' := Lib.hid hA
            have hbs3' := Lib.hid hbs3
            have hPh' := Lib.hid hPh
            clear hm hk4 hk9 hq hA hbs3 hPh
            go_wp2_with fail
            refine hA'.out.mono ?_
            rintro e w2 ⟨rfl, hb2⟩
            have hin2 := hin'.out.later hb2
            have hN := number_any _ n _ P3 q (m : Int) 2 o w2 (hbs3'.out.mono hb2) hn hpk (by rw [show (2 : Int).toNat = 2 from rfl]; omega)
            have hb2' := Lib.hid hb2
            have hin2' := Lib.hid hin2
            have hN' := Lib.hid hN
            have hpk' := Lib.hid hpk
            clear hb2 hin2 hN hpk
            go_wp2_with fail
            refine hN'.out.mono ?_
            rintro e w3 ⟨a4, c4, rfl, ho4, hb4⟩
            have hin4 := hin2'.out.put hb4 ho4
            obtain ⟨P4, hP4⟩ : ∃ P4, splice P3 q (putS (m : Int) 2 o) = P4 := ⟨_, rfl⟩
            rw [hP4] at hin4 hPh' ho4
            have hb4' := Lib.hid hb4
            have ho4' := Lib.hid ho4
            have hin4' := Lib.hid hin4
            have hP4' := Lib.hid hP4
            clear hb4 ho4 hin4 hP4
            go_wp2_with fail
            go_loopw [0, 23] (fun bv iv wr => ∃ i : Nat, i ≤ m ∧ iv = .int .i64 i ∧ Hid (PIn n w wr (dvA ta k tc sa j sc ba bn bc) (svA la ln lc sat slong snx) bv (.slice av m cv) (apP (rowQ q o E3 i) P4) E3) ∧ Hid (∃ a c, bv = .slice a n c ∧ ((∃ B, w.heap.size ≤ B ∧ wr.ownsRow B 5 1 bv n (ints .u8 (apP (rowQ q o E3 i) P4)))))) (fun _ iv _ => m - (intOf iv).toNat)
            case atStart => exact ⟨0, by omega, rfl, hin4', Lib.hid ⟨a4, c4, rfl, _, hin2'.out.bel.size, ho4'.out⟩⟩
            case round =>
              obtain ⟨i, hi, rfl, hW, hO⟩ := hrel
              by_cases hlt : i < m
              · have hil : (i : Int) < (m : Int) := by omega
                have hw1 : IntKind.i64.wrap ((i : Int) + 1) = i + 1 := by rw [IntKind.wrap_i64]; omega
                have hiE : i < E3.length := by rw [hm'.out]; exact hlt
                have hrs := rowQ_step q o E3 i
                have hxo : entOk (E3.getD i ent0) o = true := by rw [getD_el hiE]; exact hk9'.out _ (List.getElem_mem hiE)
                have hal := aheadE_lt hiE
                rw [hm'.out] at hal
                obtain ⟨A, hA⟩ : ∃ A, aheadE E3 (E3.getD i ent0) = A := ⟨_, rfl⟩
                have hAd : A = ((E3.take m).filter fun y => decide (y.1 < (E3.getD i ent0).1)).length := by rw [← hA, List.take_of_length_le (by rw [hm'.out]; exact Nat.le_refl _)]; rfl
                rw [hA] at hrs hal
                obtain ⟨a5, c5, rfl, hown5⟩ := hO.out
                have hsl5 := (Sl.of_own hW.out.l).1
                obtain ⟨b6, o6, hav, hblt6, fe⟩ := hsl5.elem entC_len (by decide) ent0 hlt
                have f0 := fe 0 _ rfl
                have f1 := fe 1 _ rfl
                have f2 := fe 2 _ rfl
                have f3 := fe 3 _ rfl
                simp only [Nat.add_zero] at f0 f1 f2 f3
                clear fe
                obtain ⟨⟨x0, x1, x2, x3⟩, hx⟩ : ∃ x, E3.getD i ent0 = x := ⟨_, rfl⟩
                rw [hx] at f0 f1 f2 f3 hrs hxo hAd
                simp only at f0 f1 f2 f3 hAd
                subst hav
                have hrs' := Lib.hid hrs
                have hxo' := Lib.hid hxo
                have hA' := Lib.hid hA
                have hx' := Lib.hid hx
                have hAd' := Lib.hid hAd
                have hown5' := Lib.hid hown5
                have hsl5' := Lib.hid hsl5
                clear hrs hxo hA hx hAd hown5 hsl5
                go_wp2_with fail
                go_loopw [24, 25] (fun cv2 kv w5 => ∃ (k2 c2 : Nat), k2 ≤ m ∧ c2 ≤ k2 ∧ kv = .int .i64 k2 ∧ cv2 = .int .i64 c2 ∧ Hid (c2 = ((E3.take k2).filter fun y => decide (y.1 < x0)).length) ∧ Hid (Below wr.heap.size wr w5)) (fun _ kv _ => m - (intOf kv).toNat)
                case atStart => exact ⟨0, 0, by omega, Nat.le_refl _, rfl, rfl, Lib.hid (by simp), Lib.hid (Below.refl _ _)⟩
                case round =>
                  obtain ⟨k2, c2, hk2, hc2, rfl, rfl, hcnt, hbl5⟩ := hrel
                  have g0 := late hbl5.out hblt6 f0
                  have g1 := late hbl5.out hblt6 f1
                  have g2 := late hbl5.out hblt6 f2
                  have g3 := late hbl5.out hblt6 f3
                  by_cases hlt2 : k2 < m
                  · have hil2 : (k2 : Int) < (m : Int) := by omega
                    have hw2 : IntKind.i64.wrap ((k2 : Int) + 1) = k2 + 1 := by rw [IntKind.wrap_i64]; omega
                    have hw3 : IntKind.i64.wrap ((c2 : Int) + 1) = c2 + 1 := by rw [IntKind.wrap_i64]; omega
                    have hkE : k2 < E3.length := by rw [hm'.out]; exact hlt2
                    have hst := take_filter_step (p := fun y => decide (y.1 < x0)) hkE
                    obtain ⟨b7, o7, hav, hblt7, fe⟩ := hsl5'.out.elem entC_len (by decide) ent0 hlt2
                    injection hav with hav
                    injection hav with hav1 hav2
                    subst hav1 hav2
                    have y0 := fe 0 _ rfl
                    simp only [Nat.add_zero] at y0
                    have y0 := late hbl5.out hblt6 y0
                    clear fe
                    obtain ⟨z, hz0⟩ : ∃ z, (E3.getD k2 ent0).1 = z := ⟨_, rfl⟩
                    rw [hz0] at y0
                    simp only [hz0] at hst
                    obtain ⟨r, hr⟩ : ∃ r, decide (z < x0) = r := ⟨_, rfl⟩
                    rw [hr] at hst
                    clear g1 g2 g3
                    have hst' := Lib.hid hst
                    have hz0' := Lib.hid hz0
                    clear hst hz0
                    cases r with
                    | true =>
                      go_wp2_with fail
                      go_quiet (fail)
                      go_wp2_with fail
                      go_roundw
                      case rel => exact ⟨k2 + 1, c2 + 1, by omega, by omega, by go_num, by go_num, Lib.hid (by rw [hst'.out, ← hcnt.out]; rfl), Lib.hid (below_drewN hbl5.out _)⟩
                      case measure => simp [intOf]; omega
                    | false =>
                      go_wp2_with fail
                      go_quiet (fail)
                      go_wp2_with fail
                      go_roundw
                      case rel => exact ⟨k2 + 1, c2, by omega, by omega, by go_num, rfl, Lib.hid (by rw [hst'.out, ← hcnt.out]; rfl), Lib.hid (below_drewN hbl5.out _)⟩
                      case measure => simp [intOf]; omega
                  · obtain rfl : k2 = m := by omega
                    obtain rfl : c2 = A := by rw [hcnt.out, hAd'.out]
                    have hW5 := hW.out.later hbl5.out
                    have hEw := rewrite_any x0 x1 x2 x3 o wr hxo'.out
                    have hwq : IntKind.i64.wrap (12 * (c2 : Int)) = 12 * c2 := by rw [IntKind.wrap_i64]; omega
                    have hwq3 : IntKind.i64.wrap ((q : Int) + 2) = q + 2 := by rw [IntKind.wrap_i64]; omega
                    have hwq4 : IntKind.i64.wrap ((q : Int) + 2 + 12 * c2) = ((q + 2 + 12 * c2 : Nat) : Int) := by rw [IntKind.wrap_i64]; omega
                    have hW5' := Lib.hid hW5
                    have hEw' := Lib.hid hEw
                    clear hW5 hEw
                    go_wp2_with fail
                    refine hEw'.out.mono ?_
                    rintro e w7 ⟨a7, c7, rfl, ho7, hb7⟩
                    have hW7 := hW5'.out.later hb7
                    obtain ⟨a8, c8, hv8, hbs8, _⟩ := hW7.b
                    injection hv8 with h81 h82 h83
                    subst h81 h83
                    have hO := over_any _ n _ _ (q + 2 + 12 * c2) a7 12 c7 _ w7 hbs8 (Sl.of_own ho7).1 hn (by omega)
                    clear g0 g1 g2 g3
                    have ho7' := Lib.hid ho7
                    have hb7' := Lib.hid hb7
                    have hW7' := Lib.hid hW7
                    have hbs8' := Lib.hid hbs8
                    have hO' := Lib.hid hO
                    clear ho7 hb7 hW7 hbs8 hO
                    go_wp2_with fail
                    refine hO'.out.mono ?_
                    rintro e w9 ⟨a9, c9, rfl, ho9, hb9⟩
                    have hW9 := hW7'.out.put hb9 ho9
                    have ho99 : w9.ownsRow w7.heap.size 5 1 (.slice a9 n c9) n (ints .u8 (apP (rowQ q o E3 (i + 1)) P4)) := by rw [hrs'.out, apP_append]; exact ho9
                    have hW99 : PIn n w w9 (dvA ta k tc sa j sc ba bn bc) (svA la ln lc sat slong snx) (.slice a9 n c9) (.slice (some ⟨b6, o6, none⟩) k2 cv) (apP (rowQ q o E3 (i + 1)) P4) E3 := by rw [hrs'.out, apP_append]; exact hW9
                    have ho9' := Lib.hid ho9
                    have hb9' := Lib.hid hb9
                    have hW9' := Lib.hid hW9
                    have ho99' := Lib.hid ho99
                    have hW99' := Lib.hid hW99
                    clear ho9 hb9 hW9 ho99 hW99
                    go_wp2_with fail
                    go_roundw
                    case rel => exact ⟨i + 1, by omega, by go_num, hW99', Lib.hid ⟨a9, c9, rfl, _, hW7'.out.bel.size, ho99'.out⟩⟩
                    case measure => simp [intOf]; omega
              · obtain rfl : i = m := by omega
                obtain ⟨a5, c5, rfl, B5, hB5, hown5⟩ := hO.out
                go_wp2_with fail
                go_ret
                refine ⟨a5, c5, rfl, ?_, hW.out.bel⟩
                rw [hPt'.out, hPh'.out]
                exact own_mono hown5 hB5
          · have e1 : decide ((0 : Int) < (bn : Int)) = false := by simp; omega
            have hbl2 : ¬ 0 < d.2.2.length := by rw [hbn'.out]; exact hb0
            have hbe : blobE l (lks, sat, slong, snx) d.2.2 no = [] := by unfold blobE; rw [if_neg hbl2]
            have hbp : blobP l d.2.2 no = [] := by unfold blobP; rw [if_neg hbl2]
            rw [hbe, List.append_nil] at hsall'
            have he23 : E3 = E2 := hsall'.out.symm
            subst he23
            have hPt : apP (putP f l o no (lks, sat, slong, snx) d) P = apP (((atS l 2 no 0).toNat, putS (E3.length : Nat) 2 o) :: rowQ (atS l 2 no 0).toNat o E3 E3.length) P1 := by
              unfold putP
              rw [hE3'.out, apP_append, apP_append, hP1'.out, hbp]
              rfl
            obtain ⟨P3, rfl⟩ : ∃ P3, P3 = P1 := ⟨_, rfl⟩
            obtain ⟨lv, rfl⟩ : ∃ lv, lv = u15 := ⟨_, rfl⟩
            have hin' := hW
            clear hbe
            have hPt' := Lib.hid hPt
            clear hPt
            obtain ⟨m, hm⟩ : ∃ m, E3.length = m := ⟨_, rfl⟩
            obtain ⟨av, cv, rfl⟩ : ∃ a c, lv = .slice a m c := by
              rcases hin'.out.l.2 with ⟨rfl, h0⟩ | ⟨g, cap, cur, rfl, _⟩
              · exact ⟨none, 0, by rw [← hm, h0]⟩
              · exact ⟨_, _, by rw [hm]⟩
            have hk5 := k5'.out
            have hk6 := k6'.out
            have hk4 := k4'.out
            have hk9 := k9'.out
            rw [hE3'.out, hm] at hk5 hk6
            rw [hE3'.out, hm] at hk4
            rw [hE3'.out] at hk9
            have hfa := fits_at hk4
            obtain ⟨q, hq⟩ : ∃ q : Nat, atS l 2 no 0 = q := ⟨(atS l 2 no 0).toNat, by omega⟩
            have hA := rat_any spa spn spc l 2 no 0 wr (hsp'.out.mono hin'.out.bel)
            rw [hq] at hA hfa
            obtain ⟨a3, c3, hv3, hbs3, _⟩ := hin'.out.b
            injection hv3 with hv31 hv32 hv33
            subst hv31 hv33
            have hpk : putOk (m : Int) 2 o = true := (putOk_iff k7).2 (by rw [show topS 2 = 65536 by decide]; omega)
            have hPh : apP (((atS l 2 no 0).toNat, putS (E3.length : Nat) 2 o) :: rowQ (atS l 2 no 0).toNat o E3 E3.length) P3 = apP (rowQ q o E3 m) (splice P3 q (putS (m : Int) 2 o)) := by
              rw [hq, Int.toNat_natCast, hm]; rfl
            have hm' := Lib.hid hm
            have hk4' := Lib.hid hk4
            have hk9' := Lib.hid hk9
            have hq' := Lib.hid hq
            have hA' := Lib.hid hA
            have hbs3' := Lib.hid hbs3
            have hPh' := Lib.hid hPh
            clear hm hk4 hk9 hq hA hbs3 hPh
            go_wp2_with fail
            refine hA'.out.mono ?_
            rintro e w2 ⟨rfl, hb2⟩
            have hin2 := hin'.out.later hb2
            have hN := number_any _ n _ P3 q (m : Int) 2 o w2 (hbs3'.out.mono hb2) hn hpk (by rw [show (2 : Int).toNat = 2 from rfl]; omega)
            have hb2' := Lib.hid hb2
            have hin2' := Lib.hid hin2
            have hN' := Lib.hid hN
            have hpk' := Lib.hid hpk
            clear hb2 hin2 hN hpk
            go_wp2_with fail
            refine hN'.out.mono ?_
            rintro e w3 ⟨a4, c4, rfl, ho4, hb4⟩
            have hin4 := hin2'.out.put hb4 ho4
            obtain ⟨P4, hP4⟩ : ∃ P4, splice P3 q (putS (m : Int) 2 o) = P4 := ⟨_, rfl⟩
            rw [hP4] at hin4 hPh' ho4
            have hb4' := Lib.hid hb4
            have ho4' := Lib.hid ho4
            have hin4' := Lib.hid hin4
            have hP4' := Lib.hid hP4
            clear hb4 ho4 hin4 hP4
            go_wp2_with fail
            go_loopw [0, 23] (fun bv iv wr => ∃ i : Nat, i ≤ m ∧ iv = .int .i64 i ∧ Hid (PIn n w wr (dvA ta k tc sa j sc ba bn bc) (svA la ln lc sat slong snx) bv (.slice av m cv) (apP (rowQ q o E3 i) P4) E3) ∧ Hid (∃ a c, bv = .slice a n c ∧ ((∃ B, w.heap.size ≤ B ∧ wr.ownsRow B 5 1 bv n (ints .u8 (apP (rowQ q o E3 i) P4)))))) (fun _ iv _ => m - (intOf iv).toNat)
            case atStart => exact ⟨0, by omega, rfl, hin4', Lib.hid ⟨a4, c4, rfl, _, hin2'.out.bel.size, ho4'.out⟩⟩
            case round =>
              obtain ⟨i, hi, rfl, hW, hO⟩ := hrel
              by_cases hlt : i < m
              · have hil : (i : Int) < (m : Int) := by omega
                have hw1 : IntKind.i64.wrap ((i : Int) + 1) = i + 1 := by rw [IntKind.wrap_i64]; omega
                have hiE : i < E3.length := by rw [hm'.out]; exact hlt
                have hrs := rowQ_step q o E3 i
                have hxo : entOk (E3.getD i ent0) o = true := by rw [getD_el hiE]; exact hk9'.out _ (List.getElem_mem hiE)
                have hal := aheadE_lt hiE
                rw [hm'.out] at hal
                obtain ⟨A, hA⟩ : ∃ A, aheadE E3 (E3.getD i ent0) = A := ⟨_, rfl⟩
                have hAd : A = ((E3.take m).filter fun y => decide (y.1 < (E3.getD i ent0).1)).length := by rw [← hA, List.take_of_length_le (by rw [hm'.out]; exact Nat.le_refl _)]; rfl
                rw [hA] at hrs hal
                obtain ⟨a5, c5, rfl, hown5⟩ := hO.out
                have hsl5 := (Sl.of_own hW.out.l).1
                obtain ⟨b6, o6, hav, hblt6, fe⟩ := hsl5.elem entC_len (by decide) ent0 hlt
                have f0 := fe 0 _ rfl
                have f1 := fe 1 _ rfl
                have f2 := fe 2 _ rfl
                have f3 := fe 3 _ rfl
                simp only [Nat.add_zero] at f0 f1 f2 f3
                clear fe
                obtain ⟨⟨x0, x1, x2, x3⟩, hx⟩ : ∃ x, E3.getD i ent0 = x := ⟨_, rfl⟩
                rw [hx] at f0 f1 f2 f3 hrs hxo hAd
                simp only at f0 f1 f2 f3 hAd
                subst hav
                have hrs' := Lib.hid hrs
                have hxo' := Lib.hid hxo
                have hA' := Lib.hid hA
                have hx' := Lib.hid hx
                have hAd' := Lib.hid hAd
                have hown5' := Lib.hid hown5
                have hsl5' := Lib.hid hsl5
                clear hrs hxo hA hx hAd hown5 hsl5
                go_wp2_with fail
                go_loopw [24, 25] (fun cv2 kv w5 => ∃ (k2 c2 : Nat), k2 ≤ m ∧ c2 ≤ k2 ∧ kv = .int .i64 k2 ∧ cv2 = .int .i64 c2 ∧ Hid (c2 = ((E3.take k2).filter fun y => decide (y.1 < x0)).length) ∧ Hid (Below wr.heap.size wr w5)) (fun _ kv _ => m - (intOf kv).toNat)
                case atStart => exact ⟨0, 0, by omega, Nat.le_refl _, rfl, rfl, Lib.hid (by simp), Lib.hid (Below.refl _ _)⟩
                case round =>
                  obtain ⟨k2, c2, hk2, hc2, rfl, rfl, hcnt, hbl5⟩ := hrel
                  have g0 := late hbl5.out hblt6 f0
                  have g1 := late hbl5.out hblt6 f1
                  have g2 := late hbl5.out hblt6 f2
                  have g3 := late hbl5.out hblt6 f3
                  by_cases hlt2 : k2 < m
                  · have hil2 : (k2 : Int) < (m : Int) := by omega
                    have hw2 : IntKind.i64.wrap ((k2 : Int) + 1) = k2 + 1 := by rw [IntKind.wrap_i64]; omega
                    have hw3 : IntKind.i64.wrap ((c2 : Int) + 1) = c2 + 1 := by rw [IntKind.wrap_i64]; omega
                    have hkE : k2 < E3.length := by rw [hm'.out]; exact hlt2
                    have hst := take_filter_step (p := fun y => decide (y.1 < x0)) hkE
                    obtain ⟨b7, o7, hav, hblt7, fe⟩ := hsl5'.out.elem entC_len (by decide) ent0 hlt2
                    injection hav with hav
                    injection hav with hav1 hav2
                    subst hav1 hav2
                    have y0 := fe 0 _ rfl
                    simp only [Nat.add_zero] at y0
                    have y0 := late hbl5.out hblt6 y0
                    clear fe
                    obtain ⟨z, hz0⟩ : ∃ z, (E3.getD k2 ent0).1 = z := ⟨_, rfl⟩
                    rw [hz0] at y0
                    simp only [hz0] at hst
                    obtain ⟨r, hr⟩ : ∃ r, decide (z < x0) = r := ⟨_, rfl⟩
                    rw [hr] at hst
                    clear g1 g2 g3
                    have hst' := Lib.hid hst
                    have hz0' := Lib.hid hz0
                    clear hst hz0
                    cases r with
                    | true =>
                      go_wp2_with fail
                      go_quiet (fail)
                      go_wp2_with fail
                      go_roundw
                      case rel => exact ⟨k2 + 1, c2 + 1, by omega, by omega, by go_num, by go_num, Lib.hid (by rw [hst'.out, ← hcnt.out]; rfl), Lib.hid (below_drewN hbl5.out _)⟩
                      case measure => simp [intOf]; omega
                    | false =>
                      go_wp2_with fail
                      go_quiet (fail)
                      go_wp2_with fail
                      go_roundw
                      case rel => exact ⟨k2 + 1, c2, by omega, by omega, by go_num, rfl, Lib.hid (by rw [hst'.out, ← hcnt.out]; rfl), Lib.hid (below_drewN hbl5.out _)⟩
                      case measure => simp [intOf]; omega
                  · obtain rfl : k2 = m := by omega
                    obtain rfl : c2 = A := by rw [hcnt.out, hAd'.out]
                    have hW5 := hW.out.later hbl5.out
                    have hEw := rewrite_any x0 x1 x2 x3 o wr hxo'.out
                    have hwq : IntKind.i64.wrap (12 * (c2 : Int)) = 12 * c2 := by rw [IntKind.wrap_i64]; omega
                    have hwq3 : IntKind.i64.wrap ((q : Int) + 2) = q + 2 := by rw [IntKind.wrap_i64]; omega
                    have hwq4 : IntKind.i64.wrap ((q : Int) + 2 + 12 * c2) = ((q + 2 + 12 * c2 : Nat) : Int) := by rw [IntKind.wrap_i64]; omega
                    have hW5' := Lib.hid hW5
                    have hEw' := Lib.hid hEw
                    clear hW5 hEw
                    go_wp2_with fail
                    refine hEw'.out.mono ?_
                    rintro e w7 ⟨a7, c7, rfl, ho7, hb7⟩
                    have hW7 := hW5'.out.later hb7
                    obtain ⟨a8, c8, hv8, hbs8, _⟩ := hW7.b
                    injection hv8 with h81 h82 h83
                    subst h81 h83
                    have hO := over_any _ n _ _ (q + 2 + 12 * c2) a7 12 c7 _ w7 hbs8 (Sl.of_own ho7).1 hn (by omega)
                    clear g0 g1 g2 g3
                    have ho7' := Lib.hid ho7
                    have hb7' := Lib.hid hb7
                    have hW7' := Lib.hid hW7
                    have hbs8' := Lib.hid hbs8
                    have hO' := Lib.hid hO
                    clear ho7 hb7 hW7 hbs8 hO
                    go_wp2_with fail
                    refine hO'.out.mono ?_
                    rintro e w9 ⟨a9, c9, rfl, ho9, hb9⟩
                    have hW9 := hW7'.out.put hb9 ho9
                    have ho99 : w9.ownsRow w7.heap.size 5 1 (.slice a9 n c9) n (ints .u8 (apP (rowQ q o E3 (i + 1)) P4)) := by rw [hrs'.out, apP_append]; exact ho9
                    have hW99 : PIn n w w9 (dvA ta k tc sa j sc ba bn bc) (svA la ln lc sat slong snx) (.slice a9 n c9) (.slice (some ⟨b6, o6, none⟩) k2 cv) (apP (rowQ q o E3 (i + 1)) P4) E3 := by rw [hrs'.out, apP_append]; exact hW9
                    have ho9' := Lib.hid ho9
                    have hb9' := Lib.hid hb9
                    have hW9' := Lib.hid hW9
                    have ho99' := Lib.hid ho99
                    have hW99' := Lib.hid hW99
                    clear ho9 hb9 hW9 ho99 hW99
                    go_wp2_with fail
                    go_roundw
                    case rel => exact ⟨i + 1, by omega, by go_num, hW99', Lib.hid ⟨a9, c9, rfl, _, hW7'.out.bel.size, ho99'.out⟩⟩
                    case measure => simp [intOf]; omega
              · obtain rfl : i = m := by omega
                obtain ⟨a5, c5, rfl, B5, hB5, hown5⟩ := hO.out
                go_wp2_with fail
                go_ret
                refine ⟨a5, c5, rfl, ?_, hW.out.bel⟩
                rw [hPt'.out, hPh'.out]
                exact own_mono hown5 hB5
end Go.Proofs.YtilennmeiaehnaaGreat
