/- Chapter 12: a block read: the program's reader.block. -/
import Derived.Test.YtpjopeojeglogaaCs22
import Derived.Test.YtpjopeojeglogaaCs23
namespace Go.Proofs.Ytpjopeojeglogaa
open Go.RowKit Tt
set_option linter.unusedVariables false
set_option linter.unusedSimpArgs false

theorem Rb.mo {S : Nat → Prop} {w w' : World} {rb : Nat} {a : Option Addr} {n c : Nat} {D : List Int} {i : Nat} (h : Rb w rb a n c D i) (m : Mo S w w') (h1 : ¬ S rb) (h2 : ∀ x, a = some x → ¬ S x.block) : Rb w' rb a n c D i :=
  ⟨h.blk.mo m h1, h.sl.mo m h2, h.ne, h.le, h.n1, h.byt, fun x hx => Nat.lt_of_lt_of_le (h.lt x hx) m.size⟩
theorem am_ne {P : Program} {k : TypeId} {w : World} {b g : Nat} {l : List (Value × Value)} {T : TypeId} {cs : Array Value} (h : AM P k w b l) (h' : Blk w g T cs) : b ≠ g := by
  rintro rfl; obtain ⟨es, clock, h1, _⟩ := h; have h2 : w.heap[b]? = some (.cells cs T) := h'; rw [h1] at h2; injection h2 with h2
  cases h2
/-- tables stay if none but cells of other types turn -/
theorem TbM.keep {S : Nat → Prop} {w w' : World} {tb : Nat} {c s : List Int} (h : TbM w tb c s) (m : Mo S w w') (hS : ∀ k, S k → ∃ cs T, Blk w k T cs ∧ T ≠ 199) : TbM w' tb c s := by
  obtain ⟨b1, b2, h1, h2, h3⟩ := h.ex; refine ⟨⟨b1, b2, h1.mo m fun hn => ?_, h2.mo m fun hn => ?_, h3.mo m fun hn => ?_⟩, h.may, h.wf⟩
  · obtain ⟨cs, T, hb, hT⟩ := hS _ hn
    exact blk_neT h1 hb (Ne.symm hT) rfl
  · obtain ⟨cs, T, hb, hT⟩ := hS _ hn
    exact am_ne h2 hb rfl
  · obtain ⟨cs, T, hb, hT⟩ := hS _ hn
    exact am_ne h3 hb rfl
theorem TbsA.keep {S : Nat → Prop} {w w' : World} {ps : List PtM} {tl : List (Nat × Nat)} (h : TbsA w ps tl) (m : Mo S w w') (hS : ∀ k, S k → ∃ cs T, Blk w k T cs ∧ T ≠ 199) : TbsA w' ps tl :=
  fun j p x h1 h2 => ⟨(h j p x h1 h2).dc.keep m hS, (h j p x h1 h2).ac.keep m hS⟩
/-- a reader in memory -/
structure RdB (w : World) (rr gl rb : Nat) (s : ScT) (pa : Option Addr) (pn pc : Nat) (ta : Option Addr) (tc : Nat) (ra : Option Addr) (rn rc : Nat) (la : List Int) (a : Option Addr) (n c : Nat) (D : List Int) (i : Nat) : Prop where
  rd : Blk w rr 152 (rdrC s pa pn pc ta tc ra rn rc (some ⟨rb, 0, none⟩) gl)
  lr : Blk w gl 3 (ints .i64 la).toArray
  bt : Rb w rb a n c D i
  na : ∀ x, a = some x → x.block ≠ gl ∧ x.block ≠ rr
  ll : la.length = pn
  lw : ∀ y ∈ la, (Lit.int .i64 y).wf = true
section
variable {w w' : World} {rr gl rb : Nat} {s : ScT} {pa : Option Addr} {pn pc : Nat} {ta : Option Addr} {tc : Nat} {ra : Option Addr} {rn rc : Nat} {la : List Int} {a : Option Addr} {n c : Nat} {D : List Int} {i : Nat}
theorem RdB.mo {S : Nat → Prop} (h : RdB w rr gl rb s pa pn pc ta tc ra rn rc la a n c D i) (m : Mo S w w') (h1 : ¬ S rr) (h2 : ¬ S gl) (h3 : ¬ S rb) (h4 : ∀ x, a = some x → ¬ S x.block) : RdB w' rr gl rb s pa pn pc ta tc ra rn rc la a n c D i :=
  ⟨h.rd.mo m h1, h.lr.mo m h2, h.bt.mo m h3 h4, h.na, h.ll, h.lw⟩
theorem RdB.late (h : RdB w rr gl rb s pa pn pc ta tc ra rn rc la a n c D i) (hb : Below w.heap.size w w') : RdB w' rr gl rb s pa pn pc ta tc ra rn rc la a n c D i :=
  ⟨h.rd.late hb, h.lr.late hb, h.bt.later hb, h.na, h.ll, h.lw⟩
theorem RdB.ne (h : RdB w rr gl rb s pa pn pc ta tc ra rn rc la a n c D i) : rb ≠ rr ∧ rb ≠ gl ∧ rr ≠ gl := ⟨blk_neT h.bt.blk h.rd (by decide), blk_neT h.bt.blk h.lr (by decide), blk_neT h.rd h.lr (by decide)⟩
theorem RdB.lt (h : RdB w rr gl rb s pa pn pc ta tc ra rn rc la a n c D i) : rb < w.heap.size ∧ gl < w.heap.size ∧ rr < w.heap.size := ⟨h.bt.blk.lt, h.lr.lt, h.rd.lt⟩
theorem RdB.step {j : Nat} (h : RdB w rr gl rb s pa pn pc ta tc ra rn rc la a n c D i) (m : But rb w w') (hb : Rb w' rb a n c D j) : RdB w' rr gl rb s pa pn pc ta tc ra rn rc la a n c D j :=
  ⟨h.rd.but m (Ne.symm h.ne.1), h.lr.but m (Ne.symm h.ne.2.1), hb, h.na, h.ll, h.lw⟩
end
theorem RdB.put {w : World} {rr gl rb : Nat} {s : ScT} {pa : Option Addr} {pn pc : Nat} {ta : Option Addr} {tc : Nat} {ra : Option Addr} {rn rc : Nat} {la : List Int} {a : Option Addr} {n c : Nat} {D : List Int} {i : Nat} (h : RdB w rr gl rb s pa pn pc ta tc ra rn rc la a n c D i) (part : Nat) {v : Int} (hv : (Lit.int .i64 v).wf = true) : RdB (w.setCell ⟨gl, part, none⟩ (.int .i64 v)) rr gl rb s pa pn pc ta tc ra rn rc (la.set part v) a n c D i := by
  have hb := (But.refl gl w).set part (.int .i64 v); refine ⟨h.rd.but hb h.ne.2.2, ?_, h.bt.but hb h.ne.2.1 (fun x hx => (h.na x hx).1), h.na, by rw [List.length_set]; exact h.ll, fun z hz => (List.mem_or_eq_of_mem_set hz).elim (h.lw z) (fun e => e ▸ hv)⟩; have := h.lr.set part (.int .i64 v)
  rwa [show (ints .i64 la).toArray.setIfInBounds part (.int .i64 v) = (ints .i64 (la.set part v)).toArray by unfold ints; rw [List.setIfInBounds_toArray, List.map_set]] at this
theorem blkL_er (l : List Cod) : ∀ (k : Nat) (b : List Int) (u : Nat) (er : Int), blkL l k b u = .error er → ¬ er = 0 := by
  induction l with
  | nil =>
    intro k b u er h; unfold blkL at h
    split at h
    · cases h
    · injection h with h; omega
  | cons x l ih =>
    intro k b u er h; unfold blkL at h
    split at h
    · cases h
    · split at h
      · injection h with h; omega
      · split at h
        · cases h
        · split at h
          · injection h with h; omega
          · exact ih _ _ _ _ h
theorem blockS_er {l : List Cod} {last er : Int} (h : blockS l last = .error er) : ¬ er = 0 := by
  unfold blockS at h
  split at h
  · injection h with h; omega
  · cases l with
    | nil => injection h with h; omega
    | cons x l =>
      simp only at h
      split at h
      · injection h with h; omega
      · split at h
        · exact blkL_er _ _ _ _ _ h
        · injection h with h; omega
theorem min_one (k : Nat) : min (k : Int) 1 = ((min k 1 : Nat) : Int) := by omega
theorem mo_row {S : Nat → Prop} {w w' : World} (h : Mo S w w') {g : Nat} (hg : w.heap.size ≤ g) (cs : Array Value) : Mo S w (w'.setRow g cs) :=
  ⟨h.os, h.tape, h.output, by rw [show (w'.setRow g cs).heap.size = w'.heap.size by simp [World.setRow]]; exact h.size, fun k hk hn => (setRow_other w' g k cs (by omega)).trans (h.block k hk hn)⟩
set_option maxRecDepth 100000 in
set_option maxHeartbeats 4000000 in
theorem rblock_any (rr gl rb : Nat) (s : ScT) (pa : Option Addr) (pn pc : Nat) (ta : Option Addr) (tc : Nat) (ra : Option Addr) (rn rc : Nat) (la : List Int) (a : Option Addr) (n c : Nat) (D : List Int) (i part : Nat) (p : PtM) (tl : List (Nat × Nat)) (w : World)
    (hr : RdB w rr gl rb s pa pn pc ta tc ra rn rc la a n c D i) (hTb : TbsA w s.ps tl) (hTo : w.ownsRow 0 134 2 (.slice ta pn tc) pn (tabsC tl)) (hlt : tl.length = pn)
    (hp : s.ps[part]? = some p) (hpn : part < pn) (hm1 : hMay p.2.2.1.1.1 p.2.2.1.1.2 = true) (hm2 : hMay p.2.2.2.1.1 p.2.2.2.1.2 = true) :
    Calls Try.prog 104 #[.pointer (some ⟨rr, 0, none⟩), .int .i64 part] w fun e w' =>
      ((blkR p (la.getD part 0) 65 [] ((bitsS D).drop i) = none ∧ ∃ L : List Int, L.length = 64 ∧ e = .returned (.tuple #[.agg (ints .i64 L).toArray, .bool false])) ∨
        ∃ b j, blkR p (la.getD part 0) 65 [] ((bitsS D).drop i) = some (b, (bitsS D).drop j) ∧ e = .returned (.tuple #[.agg (ints .i64 b).toArray, .bool true]) ∧ b.length = 64 ∧ (∀ y ∈ b, (Lit.int .i64 y).wf = true) ∧ RdB w' rr gl rb s pa pn pc ta tc ra rn rc (la.set part (b.getD 0 0)) a n c D j) ∧ Mo (fun k => k = rb ∨ k = gl) w w' := by
  obtain ⟨last, hlast⟩ : ∃ v, la.getD part 0 = v := ⟨_, rfl⟩
  have hlv : la[part]? = some last := by
    rw [← hlast, List.getD_eq_getElem?_getD, List.getElem?_eq_getElem (by rw [hr.ll]; exact hpn)]; rfl
  have hlw := hr.lw last (List.mem_of_getElem? hlv); rw [hlast]; obtain ⟨RES, hRES⟩ : ∃ R, blkR p last 65 [] ((bitsS D).drop i) = R := ⟨_, rfl⟩; rw [hRES]; have hal := (Below.refl w.heap.size w).alloc (Nat.le_refl _) (.cells z64 129); have bl := Blk.new w 129 z64; obtain ⟨W1, hW1⟩ : ∃ W, w.alloc (.cells z64 129) = W := ⟨_, rfl⟩; rw [hW1] at hal bl; have hZ : B64 W1 w.heap.size 129 (List.replicate 64 0) := ⟨List.length_replicate, bl⟩; have hr1 := hr.late hal; have hm0 : Mo (fun k => k = rb) w W1 := Mo.of_below hal; have hlts := hr.lt; have hnes := hr.ne; have hna := hr.na; have hbtl := hr.bt.lt; have hbk0 := hr.bt.blk; obtain ⟨i1, hi, hz0, hz1, hz2⟩ := info_parts infoCod; unfold z64 at hW1; clear bl hal hr; have hTb' := Lib.hid hTb; have hTo' := Lib.hid hTo; have hbk0' := Lib.hid hbk0; have hlt' := Lib.hid hlt; have hp' := Lib.hid hp; have hpn' := Lib.hid hpn; have hm1' := Lib.hid hm1; have hm2' := Lib.hid hm2; have hlast' := Lib.hid hlast; have hlv' := Lib.hid hlv; have hlw' := Lib.hid hlw; have hRES' := Lib.hid hRES; have hW1' := Lib.hid hW1; have hZ' := Lib.hid hZ; have hr1' := Lib.hid hr1; have hm0' := Lib.hid hm0; have hlts' := Lib.hid hlts; have hnes' := Lib.hid hnes; have hna' := Lib.hid hna; have hbtl' := Lib.hid hbtl; clear hTb hTo hbk0 hlt hp hpn hm1 hm2 hlast hlv hlw hRES hW1 hZ hr1 hm0 hlts hnes hna hbtl
  go_enter Try.func104, Try.ntmps104
  go_upto_region 1 with fail
  rw [hW1'.out]
  go_wp2
  go_loopw [6, 8, 10, 11] (fun lv _ _ _ wr => ∃ (l : List Cod) (al : Option Addr) (cl j : Nat), lv = .slice al l.length cl ∧ l.length ≤ 65 ∧ Hid (blkR p last (65 - l.length) l ((bitsS D).drop j) = RES) ∧ Hid (wr.ownsRow w.heap.size 133 4 (.slice al l.length cl) l.length (codC l)) ∧ Hid (∀ x ∈ l, ∀ y ∈ cdL x, (Lit.int .i64 y).wf = true) ∧ Hid (RdB wr rr gl rb s pa pn pc ta tc ra rn rc la a n c D j) ∧ Hid (B64 wr w.heap.size 129 (List.replicate 64 0)) ∧ Hid (Mo (fun k => k = rb) w wr)) (fun lv _ _ _ _ => 65 - (match lv with | .slice _ k _ => k | _ => 0))
  case atStart => exact ⟨[], none, 0, i, rfl, by simp, hRES', Lib.hid (own_nil _ _ _ _), Lib.hid (fun x hx => by cases hx), hr1', hZ', hm0'⟩
  case round =>
    obtain ⟨l, al, cl, j, rfl, hl65, hrun, hown, hlwf, hrd, zwr', mwr'⟩ := hrel
    by_cases hle : l.length ≤ 64
    · have hkeep : ∀ k, k = rb → ∃ cs T, Blk w k T cs ∧ T ≠ 199 := fun k hk => by subst hk; exact ⟨_, _, hbk0'.out, by decide⟩
      have hTw := hTb'.out.keep mwr'.out hkeep; have hTr := own_mo hTo'.out mwr'.out (fun k hk e => by subst e; exact own_neB hTo'.out hbk0'.out (by decide) hk); have hTs := (Sl.of_own hTr).1; have hTne : ∀ y, ta = some y → y.block ≠ rb := fun y hy e => own_neB hTr hrd.out.bt.blk (by decide) (by rw [hy, ← e]; rfl); have HSy := symbol_any s pa pn pc ta tc ra rn rc rb gl rr tl a n c D j part (min l.length 1) p wr hrd.out.rd hTs hTw hlt'.out hrd.out.bt hnes'.out.1 hTne hp'.out hpn'.out (by omega); have hml : (l.length : Int) ≤ 64 := by omega
      rw [← min_one] at HSy; clear hTw hTr hTs hTne hkeep; have HSy' := Lib.hid HSy; clear HSy
      go_wp2_with fail
      refine HSy'.out.mono ?_; rintro e w2 ⟨hres, hbt2⟩; have mw2' := Lib.hid (mwr'.out.trans (S' := fun k => k = rb) (Mo.of_but hbt2 rfl) fun _ _ e => e); have zw2' := Lib.hid (show B64 w2 w.heap.size 129 (List.replicate 64 0) from ⟨zwr'.out.1, zwr'.out.2.but hbt2 (by have := hlts'.out; omega)⟩)
      rcases hres with ⟨hno, L, hL4, he⟩ | ⟨x, m, hyes, he, hb2⟩
      · have hfin : RES = none := by
          rw [← hrun.out, show 65 - l.length = 64 - l.length + 1 by omega]; exact blkR_none hno
        obtain ⟨y0, y1, y2, y3, rfl⟩ : ∃ y0 y1 y2 y3, L = [y0, y1, y2, y3] := by
          match L, hL4 with
          | [a, b, c, d], _ => exact ⟨a, b, c, d, rfl⟩
        rw [show (ints .i64 [y0, y1, y2, y3]).toArray = #[.int .i64 y0, .int .i64 y1, .int .i64 y2, .int .i64 y3] from rfl] at he; subst he; have m3 := mw2'.out.alloc (.cells #[.int .i64 y0, .int .i64 y1, .int .i64 y2, .int .i64 y3] 133); have l3 := (Below.refl w2.heap.size w2).alloc (Nat.le_refl _) (.cells #[.int .i64 y0, .int .i64 y1, .int .i64 y2, .int .i64 y3] 133); have z3 := zw2'.out.late l3; have mw3' := Lib.hid m3; have zw3' := Lib.hid z3; clear m3 z3 l3 hno hbt2; have hfin' := Lib.hid hfin; clear hfin; obtain ⟨w3, hw3⟩ : ∃ W, w2.alloc (.cells #[.int .i64 y0, .int .i64 y1, .int .i64 y2, .int .i64 y3] 133) = W := ⟨_, rfl⟩; rw [hw3] at mw3' zw3'
        go_upto_region 4 with fail
        clear hw3; have hrz := mo_sub (mo_row mw3'.out (g := w.heap.size) (Nat.le_refl _) z64) (S' := fun k => k = rb ∨ k = gl) (fun k hk => Or.inl hk)
        go_wp2_with (refine wpList_store_row rfl 129 (.tmp 4) (.tmp 26) rfl w.heap.size z64 rfl rfl 129 _ zw3'.out.2 (by kernel_rfl) (by first | (rw [ints_size zw3'.out.1]; rfl) | rfl) (by kernel_rfl) ?_)
        go_wp2
        refine bodyPost_ret (results_blk_tmp rfl _ _ w.heap.size 129 z64 _ rfl (Blk.rowH zw3'.out.2 _) Try.underlying129 rfl (by kernel_rfl)) rfl ?_; exact ⟨.inl ⟨hfin'.out, List.replicate 64 0, List.length_replicate, rfl⟩, hrz⟩
      · have hxw := symbR_wf hyes hm1'.out hm2'.out (by omega) ((bitsS_bit D).drop j)
        have hlw2 : ∀ z ∈ l ++ [x], ∀ y ∈ cdL z, (Lit.int .i64 y).wf = true := fun z hz => by
          rcases List.mem_append.1 hz with hz | hz
          · exact hlwf.out z hz
          · rw [List.mem_singleton.1 hz]; exact hxw
        have hstep : ∀ (b : List Int × Nat), blockS (l ++ [x]) last = .ok b → RES = if sizeS (b.1.getD 0 0) < 0 then none else some (b.1, (bitsS D).drop (j + m)) := fun b hb => by
          rw [← hrun.out, show 65 - l.length = 64 - l.length + 1 by omega, blkR_ok hyes hb, List.drop_drop]
        have hstep2 : ∀ er, blockS (l ++ [x]) last = .error er → RES = if er = 3 then blkR p last (64 - l.length) (l ++ [x]) ((bitsS D).drop (j + m)) else none := fun er hb => by
          rw [← hrun.out, show 65 - l.length = 64 - l.length + 1 by omega, blkR_err hyes hb, List.drop_drop]
        have rd2 := hrd.out.step hbt2 hb2; have own2 := own_but hown.out hbt2 (fun e => by have := (hown.out.lt _ e).1; have := hlts'.out; omega); have hcs2 := codC_snoc l x; obtain ⟨x0, x1, x2, x3⟩ := x; rw [show (ints .i64 (cdL (x0, x1, x2, x3))).toArray = #[.int .i64 x0, .int .i64 x1, .int .i64 x2, .int .i64 x3] from rfl] at he; subst he; have l3 := (Below.refl w2.heap.size w2).alloc (Nat.le_refl _) (.cells #[.int .i64 x0, .int .i64 x1, .int .i64 x2, .int .i64 x3] 133); have bx3 := Blk.new w2 133 #[.int .i64 x0, .int .i64 x1, .int .i64 x2, .int .i64 x3]; obtain ⟨w3, hw3⟩ : ∃ W, w2.alloc (.cells #[.int .i64 x0, .int .i64 x1, .int .i64 x2, .int .i64 x3] 133) = W := ⟨_, rfl⟩; rw [hw3] at l3 bx3; have l4 := (Below.refl w3.heap.size w3).alloc (Nat.le_refl _) (.cells #[.int .i64 x0, .int .i64 x1, .int .i64 x2, .int .i64 x3] 133); have s4 := Sl.new w3 133 4 1 #[.int .i64 x0, .int .i64 x1, .int .i64 x2, .int .i64 x3] (0, 0) (by decide) rfl; have l24 := l3.trans (l4.mono l3.size); have own4 := own_later (own_later own2 l3) l4; have rd4 := (rd2.late l3).late l4; have z4 := (zw2'.out.late l3).late l4; have m4 := mw2'.out.trans (S' := fun k => k = rb) (Mo.of_below l24) fun _ _ e => e; have c0 : w3.cell? ⟨w2.heap.size, 0, none⟩ = some (.int .i64 x0) := bx3.cell rfl; have c1 : w3.cell? ⟨w2.heap.size, 1, none⟩ = some (.int .i64 x1) := bx3.cell rfl; have c2 : w3.cell? ⟨w2.heap.size, 2, none⟩ = some (.int .i64 x2) := bx3.cell rfl; have c3 : w3.cell? ⟨w2.heap.size, 3, none⟩ = some (.int .i64 x3) := bx3.cell rfl; have hwu : w.heap.size ≤ (w3.alloc (.cells #[.int .i64 x0, .int .i64 x1, .int .i64 x2, .int .i64 x3] 133)).heap.size := m4.size; clear hbt2 hb2 l3 bx3 l4 own2 rd2 l24 hyes hrun hxw hlwf hown hrd; have hlw2' := Lib.hid hlw2; have hstep' := Lib.hid hstep; have hstep2' := Lib.hid hstep2; have hcs2' := Lib.hid hcs2; have s4' := Lib.hid s4; have own4' := Lib.hid own4; have rd4' := Lib.hid rd4; have z4' := Lib.hid z4; have m4' := Lib.hid m4; have hwu' := Lib.hid hwu; clear hlw2 hstep hstep2 hcs2 s4 own4 rd4 z4 m4 hwu
        go_upto_region 6 with fail
        clear hw3
        go_upto_region 7 with (at_builtin; refine wpList_app3 rfl _ _ 146 rfl w.heap.size 133 i1 _ 4 32 Try.underlying146 hi hz0 hz1 hz2 rfl (by decide) (.slice al l.length cl) l.length _ rfl own4'.out (some ⟨w3.heap.size, 0, none⟩) 1 1 [.int .i64 x0, .int .i64 x1, .int .i64 x2, .int .i64 x3] rfl s4'.out (by simp [Value.oneCell']) (by omega) (by decide) hwu'.out ?_; intro a5 c5 w5 ho5 hg5 hk5; have Ho5 := Lib.hid ho5; have Hg5 := Lib.hid hg5; clear ho5 hg5 hk5)
        clear c0 c1 c2 c3; have o5 : w5.ownsRow w.heap.size 133 4 (.slice a5 (l.length + 1) c5) (l.length + 1) (codC (l ++ [(x0, x1, x2, x3)])) := by rw [hcs2'.out]; exact Ho5.out
        have hmg := Mo.of_grown (S := fun k => (Value.slice al l.length cl).ownBlock = some k) Hg5.out fun k hk => hk; have hol := own4'.out.lt; have rd5 := rd4'.out.mo hmg (fun e => by have := (hol _ e).1; have := hlts'.out; omega) (fun e => by have := (hol _ e).1; have := hlts'.out; omega) (fun e => by have := (hol _ e).1; have := hlts'.out; omega) (fun y hy e => by have := (hol _ e).1; have := hbtl'.out y hy; omega); have z5 : B64 w5 w.heap.size 129 (List.replicate 64 0) := ⟨z4'.out.1, z4'.out.2.mo hmg (own_neB own4'.out z4'.out.2 (by decide))⟩; have m5 := m4'.out.trans hmg (fun i hi e => by have := (hol i e).1; omega); have k7 : w5.cell? ⟨rr, 7, none⟩ = some (.slice (some ⟨gl, 0, none⟩) pn pn) := rd5.rd.cell rfl; have kp : w5.cell? ⟨gl, part, none⟩ = some (.int .i64 last) := rd5.lr.cell (by rw [List.getElem?_toArray]; unfold ints; rw [List.getElem?_map, hlv'.out]; rfl); have HB := cblock_any a5 (l.length + 1) c5 (l ++ [(x0, x1, x2, x3)]) last w5 (Sl.of_own o5).1 (by simp) (fun y hy => (o5.lt y.block (by subst hy; rfl)).2) hlw2'.out (by omega) hlw'.out; have hpn2 := hpn'.out; have hbok := @blockS_ok (l ++ [(x0, x1, x2, x3)]) last; have hber := @blockS_er (l ++ [(x0, x1, x2, x3)]) last; obtain ⟨Bq, hBq⟩ : ∃ q, blockS (l ++ [(x0, x1, x2, x3)]) last = q := ⟨_, rfl⟩; rw [hBq] at HB hbok hber; have hst1 := hstep'.out; have hst2 := hstep2'.out; rw [hBq] at hst1 hst2; clear hmg hBq s4' own4' rd4' z4' m4' hwu' hcs2' Ho5 Hg5 hstep' hstep2' hol
        cases Bq with
        | error er =>
          have her := hber rfl; have hst := hst2 er rfl; clear hbok hber hst1 hst2; simp only [blkV] at HB; have o5' := Lib.hid o5; have rd5' := Lib.hid rd5; have z5' := Lib.hid z5; have m5' := Lib.hid m5; have HB' := Lib.hid HB; have hst' := Lib.hid hst; clear o5 rd5 z5 m5 HB hst
          go_wp2_with fail
          refine HB'.out.mono ?_; rintro e w6 ⟨rfl, hb6⟩; have l7 := (Below.refl w6.heap.size w6).alloc (Nat.le_refl _) (.cells z64 129); obtain ⟨w7, hw7⟩ : ∃ W, w6.alloc (.cells z64 129) = W := ⟨_, rfl⟩; rw [hw7] at l7; have l57 := hb6.trans (l7.mono hb6.size); have o7 := own_later o5'.out l57; have rd7 := rd5'.out.late l57; have zw7' := Lib.hid (z5'.out.late l57); have mw7' := Lib.hid (m5'.out.trans (S' := fun k => k = rb) (Mo.of_below l57) fun _ _ e => e); clear hb6 l7 l57 k7 kp; have o7' := Lib.hid o7; have rd7' := Lib.hid rd7; have hw7' := Lib.hid hw7; clear o7 rd7 hw7
          go_upto_region 8 with (refine wpList_store_row rfl 129 (.tmp 9) (.tmp 41) rfl w6.heap.size z64 rfl rfl 129 _ (heap_new _ _) (by kernel_rfl) rfl (by kernel_rfl) ?_)
          rw [setRow_alloc, hw7'.out]
          by_cases h3 : er = 3
          · subst h3
            rw [if_pos rfl] at hst'; have hst3 := hst'.out.symm; rw [show 64 - l.length = 65 - (l ++ [(x0, x1, x2, x3)]).length by simp] at hst3; have hl1 : (l ++ [(x0, x1, x2, x3)]).length = l.length + 1 := by simp
            clear hst'; have hst3' := Lib.hid hst3; clear hst3
            go_wp2
            go_roundw
            case rel => exact ⟨l ++ [(x0, x1, x2, x3)], a5, c5, j + m, by rw [hl1], by omega, hst3', Lib.hid (by rw [hl1]; exact o7'.out), hlw2', rd7', zw7', mw7'⟩
            case measure => simp; omega
          · have hfin : RES = none := by rw [hst'.out, if_neg h3]
            clear hst'; have hfin' := Lib.hid hfin; clear hfin; have hrz := mo_sub (mo_row mw7'.out (g := w.heap.size) (Nat.le_refl _) z64) (S' := fun k => k = rb ∨ k = gl) (fun k hk => Or.inl hk)
            go_wp2_with (refine wpList_store_row rfl 129 (.tmp 4) (.tmp 61) rfl w.heap.size z64 rfl rfl 129 _ zw7'.out.2 (by kernel_rfl) (by first | (rw [ints_size zw7'.out.1]; rfl) | rfl) (by kernel_rfl) ?_)
            go_wp2
            refine bodyPost_ret (results_blk_tmp rfl _ _ w.heap.size 129 z64 _ rfl (Blk.rowH zw7'.out.2 _) Try.underlying129 rfl (by kernel_rfl)) rfl ?_; exact ⟨.inl ⟨hfin'.out, List.replicate 64 0, List.length_replicate, rfl⟩, hrz⟩
        | ok b =>
          obtain ⟨bb, uu⟩ := b; have hst := hst1 _ rfl; obtain ⟨hb64, hbw⟩ := hbok rfl; simp only at hb64 hbw hst; obtain ⟨A, hA⟩ : ∃ A, (ints .i64 bb).toArray = A := ⟨_, rfl⟩; have hbi : (ints .i64 bb).length = 64 := by rw [ints_len]; exact hb64
          have hAs : A.size = 64 := by rw [← hA]; simpa using hbi
          have hone : A.all (·.oneCell') = true := by rw [← hA]; exact ints_one'
          obtain ⟨b0, hb0⟩ : ∃ v, bb.getD 0 0 = v := ⟨_, rfl⟩
          have hbv : A[0]? = some (.int .i64 b0) := by
            rw [← hA, List.getElem?_toArray]; unfold ints; rw [List.getElem?_map, ← hb0, List.getD_eq_getElem?_getD, List.getElem?_eq_getElem (by omega)]; rfl
          have hb0w : (Lit.int .i64 b0).wf = true := hbw b0 (by rw [← hb0, List.getD_eq_getElem?_getD, List.getElem?_eq_getElem (by omega)]; exact List.getElem_mem _); rw [hb0] at hst; clear hbok hber hst1 hst2; simp only [blkV] at HB; rw [hA] at HB; have o5' := Lib.hid o5; have rd5' := Lib.hid rd5; have z5' := Lib.hid z5; have m5' := Lib.hid m5; have HB' := Lib.hid HB; have hst' := Lib.hid hst; have hb64' := Lib.hid hb64; have hbw' := Lib.hid hbw; have hA' := Lib.hid hA; have hbi' := Lib.hid hbi; have hAs' := Lib.hid hAs; have hone' := Lib.hid hone; have hb0' := Lib.hid hb0; have hbv' := Lib.hid hbv; have hb0w' := Lib.hid hb0w; clear o5 rd5 z5 m5 HB hst hb64 hbw hA hbi hAs hone hb0 hbv hb0w
          go_wp2_with fail
          refine HB'.out.mono ?_; rintro e w6 ⟨rfl, hb6⟩; have l7 := (Below.refl w6.heap.size w6).alloc (Nat.le_refl _) (.cells A 129); have b7 := Blk.new w6 129 A; obtain ⟨w7, hw7⟩ : ∃ W, w6.alloc (.cells A 129) = W := ⟨_, rfl⟩; rw [hw7] at l7 b7; have l57 := hb6.trans (l7.mono hb6.size); have rd7 := rd5'.out.late l57; have z7 := z5'.out.late l57; have m7 := m5'.out.trans (S' := fun k => k = rb) (Mo.of_below l57) fun _ _ e => e; have hg9 : w.heap.size < w6.heap.size := Nat.lt_of_lt_of_le z5'.out.2.lt hb6.size; have hgl9 : gl ≠ w6.heap.size := by have := hlts'.out; omega
          clear hb6 l7 l57 k7 kp o5' rd5' z5' m5'; have hDq := (Below.refl w7.heap.size w7).drew; obtain ⟨wD, hwD⟩ : ∃ W, w7.drew = W := ⟨_, rfl⟩; rw [hwD] at hDq; have bD := b7.late hDq; have rdD := rd7.late hDq; have zD := z7.late hDq; have mD := m7.trans (S' := fun k => k = rb) (Mo.of_below hDq) fun _ _ e => e; have kp : wD.cell? ⟨gl, part, none⟩ = some (.int .i64 last) := rdD.lr.cell (by rw [List.getElem?_toArray]; unfold ints; rw [List.getElem?_map, hlv'.out]; rfl); have kf := rdD.lr.frozen part; obtain ⟨Ty, ff, hnn2, hpr, hsurj⟩ := pr_worlds (fun W => W.cell? ⟨rr, 7, none⟩ = some (.slice (some ⟨gl, 0, none⟩) pn pn) ∧ W.cell? ⟨w6.heap.size, 0, none⟩ = some (.int .i64 b0)) wD ⟨rdD.rd.cell rfl, bD.cell hbv'.out⟩; have HS := Lib.hid (hsurj wD ⟨rdD.rd.cell rfl, bD.cell hbv'.out⟩); have y0 := fun s => (hpr s).1; have y1 := fun s => (hpr s).2; have rd8 := rdD.put part hb0w'.out; have hbt8 := (But.refl gl wD).set part (.int .i64 b0); have b8 := bD.but hbt8 (Ne.symm hgl9); have HS8 := Lib.hid (hsurj _ ⟨rd8.rd.cell rfl, b8.cell hbv'.out⟩); have z8 : B64 (wD.setCell ⟨gl, part, none⟩ (.int .i64 b0)) w.heap.size 129 (List.replicate 64 0) := ⟨zD.1, zD.2.but hbt8 (by have := hlts'.out; omega)⟩; have m8 := (mo_sub mD (S' := fun k => k = rb ∨ k = gl) fun k h => .inl h).set (g := gl) (.inl (.inr rfl)) part (.int .i64 b0); clear hpr hsurj hbt8 rdD zD mD bD rd7 z7 m7 b7 hDq; have hw7' := Lib.hid hw7; have hg9' := Lib.hid hg9; have hgl9' := Lib.hid hgl9; have hwD' := Lib.hid hwD; have rd8' := Lib.hid rd8; have b8' := Lib.hid b8; have z8' := Lib.hid z8; have m8' := Lib.hid m8; clear hw7 hg9 hgl9 hwD rd8 b8 z8 m8
          go_upto_region 8 with (refine wpList_store_row rfl 129 (.tmp 9) (.tmp 41) rfl w6.heap.size A rfl rfl 129 _ (heap_new _ _) (by rw [hAs'.out]; exact infoB64) (by rw [hAs'.out]; rfl) hone'.out ?_)
          rw [setRow_alloc, hw7'.out]
          go_upto_region 9 with fail
          refine held_begin (S := fun W => ∃ s, W = ff s) (by kernel_rfl) 9 rfl ?_; rw [hwD'.out]; refine held_take [0, 1, 2, 3, 4, 5, 6, 7] 1 (by kernel_rfl) (fun d _ _ _ _ h => by cases d <;> exact h) (by kernel_rfl) (by kernel_rfl) (by kernel_rfl) HS.out ?_; simp only [pickL, List.map_cons, List.map_nil, List.getD_cons_succ, List.getD_cons_zero]
          iterate 8 (go_big_quiet_step (fail))
          refine wpQuiet_nil ?_; clear y0 y1; refine held_one 8 0 (by kernel_rfl) (by kernel_rfl) ?_; simp only [pickL, List.map_cons, List.map_nil, List.getD_cons_succ, List.getD_cons_zero]
          go_wp2_with fail
          refine Mid.mk ⟨HS8.out, ?_⟩; refine held_last (by kernel_rfl) ?_; clear kp kf HS HS8; obtain ⟨w8, hw8⟩ : ∃ W, wD.setCell ⟨gl, part, none⟩ (.int .i64 b0) = W := ⟨_, rfl⟩; rw [hw8] at rd8' b8' z8' m8' ⊢; clear hw8; have hDq := (Below.refl w8.heap.size w8).drew; obtain ⟨wE, hwE⟩ : ∃ W, w8.drew = W := ⟨_, rfl⟩; rw [hwE] at hDq; have bE := b8'.out.late hDq; have zE := z8'.out.late hDq; have rdE := rd8'.out.late hDq; have mE := m8'.out.trans (S' := fun k => k = rb ∨ k = gl) (Mo.of_below hDq) fun _ _ e => e; obtain ⟨g9, hgg⟩ : ∃ g, w6.heap.size = g := ⟨_, rfl⟩; rw [hgg] at bE ⊢; have hg94 : g9 ≠ w.heap.size := by have := hg9'.out; omega
          obtain ⟨Tz, f2, hnn3, hpr2, hsurj2⟩ := pr_worlds (fun W => Blk W g9 129 A) wE bE; have HS := Lib.hid (hsurj2 wE bE); have y0 : ∀ s, (f2 s).cell? ⟨g9, 0, none⟩ = some (.int .i64 b0) := fun s => (hpr2 s).cell hbv'.out
          have y1 : ∀ W, (∃ u, W = f2 u) → ∀ j v, (ints .i64 bb)[j]? = some v → W.cell? ⟨g9, 0 + j, none⟩ = some v := fun W hW j v hv => by
            obtain ⟨u, rfl⟩ := hW; exact (hpr2 u).cell (by rw [Nat.zero_add, ← hA'.out, List.getElem?_toArray]; exact hv)
          have HZ := csize_any b0 wE hb0w'.out; clear hpr2 hDq; have hwE' := Lib.hid hwE; have bE' := Lib.hid bE; have zE' := Lib.hid zE; have rdE' := Lib.hid rdE; have mE' := Lib.hid mE; have hgg' := Lib.hid hgg; have hg94' := Lib.hid hg94; have hsurj2' := Lib.hid hsurj2; have y1' := Lib.hid y1; have HZ' := Lib.hid HZ; clear hwE bE zE rdE mE hgg hg94 hsurj2 y1 HZ
          go_upto_region 10 with fail
          refine held_begin (S := fun W => ∃ s, W = f2 s) (by kernel_rfl) 7 rfl ?_; rw [hwE'.out]; refine held_take [0, 1, 2] 4 (by kernel_rfl) (fun d _ _ _ _ h => by cases d <;> exact h) (by kernel_rfl) (by kernel_rfl) (by kernel_rfl) HS.out ?_; simp only [pickL, List.map_cons, List.map_nil, List.getD_cons_succ, List.getD_cons_zero]; refine wpQuiet_load_at rfl 129 (.tmp 9) rfl g9 0 rfl (ints .i64 bb) A hA'.out _ y1'.out Try.underlying129 rfl 64 infoB64 hbi'.out ?_; simp only [Act.put, List.setIfInBounds_toArray, List.set_cons_succ, List.set_cons_zero]
          iterate 2 (go_big_quiet_step (fail))
          refine wpQuiet_nil ?_; clear y0; refine held_one 3 3 (by kernel_rfl) (by kernel_rfl) ?_; simp only [pickL, List.map_cons, List.map_nil, List.getD_cons_succ, List.getD_cons_zero]
          go_wp2_with fail
          refine HZ'.out.mono ?_; rintro e wF ⟨rfl, hqF⟩; have bF := bE'.out.late (hqF.below _); have zF := zE'.out.late (hqF.below _); have rdF := rdE'.out.late (hqF.below _); have mF := mE'.out.trans (S' := fun k => k = rb ∨ k = gl) (Mo.of_below (hqF.below _)) fun _ _ e => e; have HSF := Lib.hid (hsurj2'.out wF bF); have zG : B64 (wF.setRow w.heap.size A) w.heap.size 129 bb := ⟨hb64'.out, by rw [hA'.out]; exact Blk.rowH zF.2 A⟩; have bG := bF.but (but_rowH (b := w.heap.size) wF A) hg94'.out; have HSG := Lib.hid (hsurj2'.out _ bG); have rdG := rdF.mo (S := fun k => k = w.heap.size) (Mo.of_but (but_rowH (b := w.heap.size) wF A) rfl) (by have := hlts'.out; omega) (by have := hlts'.out; omega) (by have := hlts'.out; omega) (fun x hx => by have := hbtl'.out x hx; omega); have mG := mo_row mF (g := w.heap.size) (Nat.le_refl _) A; have hFsz := Blk.rowH zF.2 A; clear hqF bG rdF mF bF; obtain ⟨sz, hsz⟩ : ∃ z, sizeS b0 = z := ⟨_, rfl⟩; rw [hsz] at hst'; rw [hsz]; have zF' := Lib.hid zF; have zG' := Lib.hid zG; have rdG' := Lib.hid rdG; have mG' := Lib.hid mG; have hFsz' := Lib.hid hFsz; have hsz' := Lib.hid hsz; clear zF zG rdG mG hFsz hsz
          go_wp2_with fail
          refine Mid.mk ⟨HSF.out, ?_⟩
          by_cases hneg : sz < 0
          · have hfin : RES = none := by rw [hst'.out, if_pos hneg]
            clear hst'; have hng : ¬ (0 : Int) ≤ sz := by omega
            have hfin' := Lib.hid hfin; clear hfin; have HS := HSF; refine held_take [4] 2 (by kernel_rfl) (fun d _ _ _ _ h => by cases d <;> exact h) (by kernel_rfl) (by kernel_rfl) (by kernel_rfl) HS.out ?_; simp only [pickL, List.map_cons, List.map_nil, List.getD_cons_succ, List.getD_cons_zero]
            iterate 1 (go_big_quiet_step (fail))
            refine wpQuiet_nil ?_; refine held_one 5 1 (by kernel_rfl) (by kernel_rfl) ?_; simp only [pickL, List.map_cons, List.map_nil, List.getD_cons_succ, List.getD_cons_zero]
            go_wp2_with (refine wpList_store_row rfl 129 (.tmp 4) (.tmp 54) rfl w.heap.size A rfl rfl 129 _ zF'.out.2 (by rw [hAs'.out]; exact infoB64) (by rw [hAs'.out]; exact ints_size zF'.out.1) hone'.out ?_)
            refine Mid.mk ⟨HSG.out, ?_⟩; refine held_one 6 0 (by kernel_rfl) (by kernel_rfl) ?_; simp only [pickL, List.map_cons, List.map_nil, List.getD_cons_succ, List.getD_cons_zero]
            go_wp2_with fail
            refine Mid.mk ⟨HSG.out, ?_⟩; refine held_last (by kernel_rfl) ?_
            go_wp2
            refine bodyPost_ret (results_blk_tmp rfl _ _ w.heap.size 129 A _ rfl hFsz'.out Try.underlying129 rfl (by rw [hAs'.out]; exact infoB64)) rfl ?_; exact ⟨.inl ⟨hfin'.out, bb, hb64'.out, by rw [hA'.out]; rfl⟩, mG'.out⟩
          · have hfin : RES = some (bb, (bitsS D).drop (j + m)) := by rw [hst'.out, if_neg hneg]
            clear hst'; have hng : (0 : Int) ≤ sz := by omega
            have hfin' := Lib.hid hfin; clear hfin; have HS := HSF; refine held_take [4] 2 (by kernel_rfl) (fun d _ _ _ _ h => by cases d <;> exact h) (by kernel_rfl) (by kernel_rfl) (by kernel_rfl) HS.out ?_; simp only [pickL, List.map_cons, List.map_nil, List.getD_cons_succ, List.getD_cons_zero]
            iterate 1 (go_big_quiet_step (fail))
            refine wpQuiet_nil ?_; refine held_one 5 1 (by kernel_rfl) (by kernel_rfl) ?_; simp only [pickL, List.map_cons, List.map_nil, List.getD_cons_succ, List.getD_cons_zero]
            go_wp2_with (refine wpList_store_row rfl 129 (.tmp 4) (.tmp 54) rfl w.heap.size A rfl rfl 129 _ zF'.out.2 (by rw [hAs'.out]; exact infoB64) (by rw [hAs'.out]; exact ints_size zF'.out.1) hone'.out ?_)
            refine Mid.mk ⟨HSG.out, ?_⟩; refine held_one 6 0 (by kernel_rfl) (by kernel_rfl) ?_; simp only [pickL, List.map_cons, List.map_nil, List.getD_cons_succ, List.getD_cons_zero]
            go_wp2_with fail
            refine Mid.mk ⟨HSG.out, ?_⟩; refine held_last (by kernel_rfl) ?_
            go_wp2
            refine bodyPost_ret (results_blk_tmp rfl _ _ w.heap.size 129 A _ rfl hFsz'.out Try.underlying129 rfl (by rw [hAs'.out]; exact infoB64)) rfl ?_; exact ⟨.inr ⟨bb, j + m, hfin'.out, by rw [hA'.out]; rfl, hb64'.out, hbw'.out, by rw [hb0'.out]; exact rdG'.out⟩, mG'.out⟩
    · have hfin : RES = none := by
        rw [← hrun.out, show 65 - l.length = 0 by omega]
        rfl
      have hml : ¬ (l.length : Int) ≤ 64 := by omega
      have hfin' := Lib.hid hfin; clear hfin; have hrz := mo_sub (mo_row mwr'.out (g := w.heap.size) (Nat.le_refl _) z64) (S' := fun k => k = rb ∨ k = gl) (fun k hk => Or.inl hk)
      go_wp2_with (refine wpList_store_row rfl 129 (.tmp 4) (.tmp 62) rfl w.heap.size z64 rfl rfl 129 _ zwr'.out.2 (by kernel_rfl) (by first | (rw [ints_size zwr'.out.1]; rfl) | rfl) (by kernel_rfl) ?_)
      go_wp2
      refine bodyPost_ret (results_blk_tmp rfl _ _ w.heap.size 129 z64 _ rfl (Blk.rowH zwr'.out.2 _) Try.underlying129 rfl (by kernel_rfl)) rfl ?_; exact ⟨.inl ⟨hfin'.out, List.replicate 64 0, List.length_replicate, rfl⟩, hrz⟩
end Go.Proofs.Ytpjopeojeglogaa
