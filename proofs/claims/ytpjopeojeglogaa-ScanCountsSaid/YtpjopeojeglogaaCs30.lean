/- Chapter 12: blocks written: the program's scan.Write. | Chapter 12: what stands in memory while blocks are read. -/
import Derived.Test.YtpjopeojeglogaaCs29
import Derived.Test.YtpjopeojeglogaaCs28
namespace Go.Proofs.Ytpjopeojeglogaa
open Go.RowKit Tt
set_option linter.unusedVariables false
set_option linter.unusedSimpArgs false

theorem writeS_no {s : ScT} {bs : List (List (List Int))} (h : wholeS s bs = false) : writeS s bs = .error 1 := by unfold writeS; rw [h]; rfl
theorem writeS_err {s : ScT} {bs : List (List (List Int))} {er : Int} (h : wholeS s bs = true) (he : tellS (putW s.ps) (againW s.iv) s bs ([], []) = .error er) : writeS s bs = .error er := by unfold writeS; rw [h, if_pos rfl, he]; rfl
theorem writeS_ok {s : ScT} {bs : List (List (List Int))} {t : WrT} {l : List Int} (h : wholeS s bs = true) (he : tellS (putW s.ps) (againW s.iv) s bs ([], []) = .ok (t, l)) : writeS s bs = .ok (t.1 ++ bytesS t.2) := by unfold writeS; rw [h, if_pos rfl, he]; rfl
theorem wholeS_mayS {s : ScT} {bs : List (List (List Int))} (h : wholeS s bs = true) : mayS s = true := by
  cases hm : mayS s with
  | true => rfl
  | false => rw [wholeS_may hm] at h; cases h
set_option maxRecDepth 100000 in
set_option maxHeartbeats 4000000 in
theorem write_any (s : ScT) (bs : List BpM) (pa ba : Option Addr) (pn pc bn bc : Nat) (w : World) (hs : PtsR w pa pn pc s.ps) (hbs : BpsR w ba bn bc bs) (hbn : bn ≤ 1000000000) (hbl : ∀ b ∈ bs, b.2.2.1 ≤ 1000000000) (hw1 : Wf s.ax) (hw2 : Wf s.dn) (hw3 : Wf s.iv) (hpw : ∀ p ∈ s.ps, Wf p.1 ∧ Wf p.2.1) (hfew : mayS s = true → (s.ax * s.dn).toNat ≤ 26) :
    Calls Try.prog 20 #[.agg #[.int .i64 s.ax, .int .i64 s.dn, .slice pa pn pc, .int .i64 s.iv], .slice ba bn bc] w fun e w' =>
      ((∃ out a n c, writeS s (bs.map (·.1)) = .ok out ∧ e = .returned (.tuple #[.slice a n c, .int .i64 0]) ∧ Sl w' a n c 1 (ints .u8 out)) ∨ ∃ er, writeS s (bs.map (·.1)) = .error er ∧ ¬ er = 0 ∧ e = .returned (.tuple #[.slice none 0 0, .int .i64 er])) ∧ Below w.heap.size w w' := by
  have HM := fun W (h : Below w.heap.size w W) => whole_any s bs pa ba pn pc bn bc W (hs.mono h) (hbs.mono h) hbn hbl hw1 hw2 hw3 hpw; have HT := fun W (h : Below w.heap.size w W) hm => tables_any s pa pn pc W (hs.mono h) hm; have hps := hs.ilen; have hno := @writeS_no s (bs.map (·.1)); have herr := fun er => @writeS_err s (bs.map (·.1)) er; have hokk := fun t l => @writeS_ok s (bs.map (·.1)) t l; have hmy := @wholeS_mayS s (bs.map (·.1)); obtain ⟨Q, hQ⟩ : ∃ Q, wholeS s (bs.map (·.1)) = Q := ⟨_, rfl⟩; rw [hQ] at HM hno hmy herr hokk; have b1 := Blk.new w 24 #[.int .i64 s.ax, .int .i64 s.dn, .slice pa pn pc, .int .i64 s.iv]; have hb1 := (Below.refl w.heap.size w).alloc (Nat.le_refl _) (.cells #[.int .i64 s.ax, .int .i64 s.dn, .slice pa pn pc, .int .i64 s.iv] 24); obtain ⟨W1, hW1⟩ : ∃ W1, w.alloc (.cells #[.int .i64 s.ax, .int .i64 s.dn, .slice pa pn pc, .int .i64 s.iv] 24) = W1 := ⟨_, rfl⟩; rw [hW1] at b1 hb1; have hcs : ∀ W, Blk W w.heap.size 24 #[.int .i64 s.ax, .int .i64 s.dn, .slice pa pn pc, .int .i64 s.iv] → W.cell? ⟨w.heap.size, 0, none⟩ = some (.int .i64 s.ax) ∧ W.cell? ⟨w.heap.size, 1, none⟩ = some (.int .i64 s.dn) ∧ W.cell? ⟨w.heap.size, 2, none⟩ = some (.slice pa pn pc) ∧ W.cell? ⟨w.heap.size, 3, none⟩ = some (.int .i64 s.iv) := fun W b => ⟨b.cell rfl, b.cell rfl, b.cell rfl, b.cell rfl⟩; obtain ⟨k0, k1, k2, k3⟩ := hcs W1 b1; have hs' := Lib.hid hs; have hbs' := Lib.hid hbs; have hbn' := Lib.hid hbn; have hbl' := Lib.hid hbl; have hw1' := Lib.hid hw1; have hw2' := Lib.hid hw2; have hw3' := Lib.hid hw3; have hpw' := Lib.hid hpw; have HM' := Lib.hid HM; have HT' := Lib.hid HT; have hps' := Lib.hid hps; have hno' := Lib.hid hno; have herr' := Lib.hid herr; have hokk' := Lib.hid hokk; have hmy' := Lib.hid hmy; have b1' := Lib.hid b1; have hb1' := Lib.hid hb1; have hW1' := Lib.hid hW1; have hcs' := Lib.hid hcs; have hfew' := Lib.hid hfew; have hQ' := Lib.hid hQ; clear hs hbs hbn hbl hw1 hw2 hw3 hpw HM HT hps hno herr hokk hmy b1 hb1 hW1 hcs hfew hQ
  go_enter Try.func20, Try.ntmps20
  go_upto_region 1 with fail
  rw [hW1'.out]
  go_wp2_with fail
  refine (HM'.out _ hb1'.out).mono ?_; rintro e w2 ⟨rfl, hb2⟩; have hbw2 := hb1'.out.trans (hb2.mono hb1'.out.size); have b2 := b1'.out.late hb2; clear hb2 k0 k1 k2 k3; obtain ⟨k0, k1, k2, k3⟩ := hcs'.out w2 b2
  cases Q with
  | false =>
    have hw1 := hno'.out rfl; clear k0 k1 k2 k3; have hbw2' := Lib.hid hbw2; have hw1' := Lib.hid hw1; clear hbw2 hw1
    go_wp2
    go_ret2
    exact ⟨.inr ⟨1, hw1'.out, by decide, rfl⟩, hbw2'.out⟩
  | true =>
    have hmay := hmy'.out rfl; have herr := fun er => herr'.out er rfl; have hokk := fun t l => hokk'.out t l rfl; clear herr' hokk'; obtain ⟨htop, hpts, hsum⟩ := mayS_parts hmay; have hN := hfew'.out hmay; have hT := HT'.out w2 hbw2 hmay; have hbw2' := Lib.hid hbw2; have b2' := Lib.hid b2; have hmay' := Lib.hid hmay; have htop' := Lib.hid htop; have hpts' := Lib.hid hpts; have hsum' := Lib.hid hsum; have hN' := Lib.hid hN; have hT' := Lib.hid hT; have herr' := Lib.hid herr; have hokk' := Lib.hid hokk; clear hbw2 b2 hmay htop hpts hsum hN hT herr hokk
    go_wp2_with fail
    refine hT'.out.mono ?_; rintro e w3 ⟨ta, tc, tl, rfl, hb3, ho3, htl, htb⟩; have hbw3 := hbw2'.out.trans (hb3.mono hbw2'.out.size); have b3 := b2'.out.late hb3; have hrow3 := (Sl.of_own ho3).1; clear k0 k1 k2 k3 hb3; have hbw3' := Lib.hid hbw3; have b3' := Lib.hid b3; have ho3' := Lib.hid ho3; have hrow3' := Lib.hid hrow3; have htl' := Lib.hid htl; have htb' := Lib.hid htb; clear hbw3 b3 ho3 hrow3 htl htb
    go_upto_region 4 with fail
    have l6 := (Below.refl w3.heap.size w3).alloc (Nat.le_refl _) (.cells #[.slice ta pn tc] 130); have c6 := Blk.new w3 130 #[.slice ta pn tc]; obtain ⟨u6, hu6⟩ : ∃ W, w3.alloc (.cells #[.slice ta pn tc] 130) = W := ⟨_, rfl⟩; rw [hu6] at l6 c6 ⊢; have z6 : w3.heap.size < u6.heap.size := c6.lt; have l7 := (Below.refl u6.heap.size u6).alloc (Nat.le_refl _) (.cells #[.slice none 0 0] 30); have c7 := Blk.new u6 30 #[.slice none 0 0]; obtain ⟨u7, hu7⟩ : ∃ W, u6.alloc (.cells #[.slice none 0 0] 30) = W := ⟨_, rfl⟩; rw [hu7] at l7 c7; have z7 : u6.heap.size < u7.heap.size := c7.lt; have l9 := (Below.refl u7.heap.size u7).alloc (Nat.le_refl _) (.cells #[.slice none 0 0, .int .u32 0, .int .i64 0] 121); have c9 := Blk.new u7 121 #[.slice none 0 0, .int .u32 0, .int .i64 0]; obtain ⟨u9, hu9⟩ : ∃ W, u7.alloc (.cells #[.slice none 0 0, .int .u32 0, .int .i64 0] 121) = W := ⟨_, rfl⟩; rw [hu9] at l9 c9; have z9 : u9.heap.size = u7.heap.size + 1 := by rw [← hu9]; exact Array.size_push _
    have l8 := (Below.refl u9.heap.size u9).alloc (Nat.le_refl _) (.cells #[.pointer (some ⟨u7.heap.size, 0, none⟩)] 123); have c8 := Blk.new u9 123 #[.pointer (some ⟨u7.heap.size, 0, none⟩)]; obtain ⟨u8, hu8⟩ : ∃ W, u9.alloc (.cells #[.pointer (some ⟨u7.heap.size, 0, none⟩)] 123) = W := ⟨_, rfl⟩; rw [hu8] at l8 c8; rw [z9] at c8; have z8 : u7.heap.size + 1 < u8.heap.size := c8.lt; have m79 : Below u7.heap.size u7 u8 := l9.trans (l8.mono (by omega)); have m68 : Below u6.heap.size u6 u8 := l7.trans (m79.mono (by omega)); have m38 : Below w3.heap.size w3 u8 := l6.trans (m68.mono (by omega)); have hbw8 := hbw3'.out.trans (m38.mono hbw3'.out.size); have d2 := b3'.out.late m38; have d6 := c6.late m68; have d7 := c7.late m79; have d9 := c9.late l8; have hg2 : w.heap.size < w3.heap.size := b3'.out.lt
    have hWJ : WJ w3 w.heap.size w3.heap.size u6.heap.size (u7.heap.size + 1) s pa pn pc ta tc (fun k => u6.heap.size ≤ k ∧ k < u8.heap.size) ([], []) u8 :=
      ⟨m38, fun k hk => by omega, ⟨by omega, by omega⟩, ⟨by omega, by omega⟩, d2, d6, none, 0, 0, u7.heap.size, fun k => k = u7.heap.size, d7, own_nil _ _ _ _, (fun k hk => by cases hk), c8,
        ⟨⟨none, 0, 0, d9, own_nil _ _ _ _, fun k hk => by cases hk⟩, rfl, fun x hx => by cases hx⟩, fun k hk => by
          subst hk; exact ⟨⟨by omega, by omega⟩, by omega, by omega, fun h => by cases h⟩⟩
    have hJ := writeJ (w1 := w3) (g2 := w.heap.size) (g6 := w3.heap.size) (g7 := u6.heap.size) (g8 := u7.heap.size + 1) (s := s) (pa := pa) (pn := pn) (pc := pc) (ta := ta) (tc := tc) tl u8.heap.size (by omega) (by omega) (by omega) (by omega) (by omega) hrow3'.out htb'.out htl'.out hps'.out (by have := htop'.out; omega)
    have HTe := tell_any (WJ w3 w.heap.size w3.heap.size u6.heap.size (u7.heap.size + 1) s pa pn pc ta tc) w3.heap.size 4000000 sizeW 91 93 (.pointer (some ⟨w3.heap.size, 0, none⟩)) (.pointer (some ⟨u7.heap.size + 1, 0, none⟩)) (.pointer (some ⟨u6.heap.size, 0, none⟩)) (.pointer (some ⟨u7.heap.size + 1, 0, none⟩)) (.pointer (some ⟨w.heap.size, 0, none⟩)) (putW s.ps) (againW s.iv)
      s bs pa ba pn pc bn bc u8 rfl rfl hJ (fun W hW => hs'.out.mono (hbw8.trans (hW.mono (by omega)))) (fun W hW => hbs'.out.mono (hbw8.trans (hW.mono (by omega)))) (by omega) hmay'.out hQ'.out _ (fun k hk => hk.2) ([], []) hWJ (by show 0 + 0 + _ ≤ _; have := hN'.out; omega)
    obtain ⟨k0, k1, k2, k3⟩ := hcs'.out u8 d2; rw [← hu8, ← hu9, ← hu7] at k0 k1 k2 k3; clear l6 c6 l7 c7 l9 c9 l8 c8 m79 m68 d6 d7 d9 d2 hJ hWJ; have hu6' := Lib.hid hu6; have hu7' := Lib.hid hu7; have hu9' := Lib.hid hu9; have hu8' := Lib.hid hu8; have z6' := Lib.hid z6; have z7' := Lib.hid z7; have z9' := Lib.hid z9; have z8' := Lib.hid z8; have m38' := Lib.hid m38; have hbw8' := Lib.hid hbw8; have hg2' := Lib.hid hg2; have HTe' := Lib.hid HTe; clear hu6 hu7 hu9 hu8 z6 z7 z9 z8 m38 hbw8 hg2 HTe
    go_upto_region 5 with fail
    rw [hu7'.out] at k0 k1 k2 k3 ⊢
    go_upto_region 6 with fail
    rw [hu9'.out, hu8'.out] at k0 k1 k2 k3 ⊢; clear hu6' hu7' hu9' hu8'
    go_wp2_with fail
    refine HTe'.out.mono ?_; rintro e w5 ⟨hres, hb5⟩; have hbw5 := hbw8'.out.trans (hb5.mono (by have := hg2'.out; omega)); clear k0 k1 k2 k3 hb5
    rcases hres with ⟨⟨O, L⟩, l, S5, hte, rfl, hJ5, hsz5⟩ | ⟨er, hte, hne, rfl⟩
    · have hout := hokk'.out _ _ hte
      obtain ⟨ao, no, co, wb, Sw, e1, e2, e3, e4, e5, e6⟩ := hJ5.ex; simp only at e2 e5 hout
      have hsz6 : O.length + L.length ≤ 4000000 := by
        have h1 : O.length + L.length ≤ 0 + 0 + _ := hsz5; have := hN'.out
        omega
      have hno : no = O.length := by have := (Sl.of_own e2).1.ilen; omega
      have hS5 := fun k hk => (hJ5.bd k hk).1; have hD := (Below.refl w5.heap.size w5).drew; obtain ⟨wD, hwD⟩ : ∃ W, w5.drew = W := ⟨_, rfl⟩; rw [hwD] at hD; have hbwD := hbw5.trans (hD.mono hbw5.size); have oD := own_later e2 hD; have wlD := e5.late hD; obtain ⟨Ty, ff, hne2, hpr, hsurj⟩ := fact_worlds (fun W => W.cell? ⟨u6.heap.size, 0, none⟩ = some (.slice ao no co) ∧ W.cell? ⟨u7.heap.size + 1, 0, none⟩ = some (.pointer (some ⟨wb, 0, none⟩))) w5 ⟨e1.cell rfl, e4.cell rfl⟩; have HS := Lib.hid (hsurj wD ⟨(e1.late hD).cell rfl, (e4.late hD).cell rfl⟩); have hnext : ∀ W, Mo (fun k => (Value.slice ao no co).ownBlock = some k) wD W → ∃ s, W = ff s := fun W m => hsurj W ⟨((e1.late hD).mo m fun h => (e3 _ h).2.1 rfl).cell rfl, ((e4.late hD).mo m fun h => (e3 _ h).2.2 rfl).cell rfl⟩; have z0 := fun s => (hpr s).1; have z1 := fun s => (hpr s).2; have hoB : ∀ k, (Value.slice ao no co).ownBlock = some k → w.heap.size ≤ k := fun k hk => by have h1 := hS5 k (e3 k hk).1; have := hg2'.out; omega
      have hDn := wdone_any Sw wb L wD wlD (by omega); obtain ⟨i0, hi, hz0, hz1, hz2⟩ := info_parts info8; clear hpr hsurj hJ5 hD hte hsz5 e1 e2 e4 e5; have hout' := Lib.hid hout; have hsz6' := Lib.hid hsz6; have hno' := Lib.hid hno; have hS5' := Lib.hid hS5; have hwD' := Lib.hid hwD; have hbwD' := Lib.hid hbwD; have oD' := Lib.hid oD; have wlD' := Lib.hid wlD; have hnext' := Lib.hid hnext; have hoB' := Lib.hid hoB; have hDn' := Lib.hid hDn; have hbw5' := Lib.hid hbw5; have e3' := Lib.hid e3; have e6' := Lib.hid e6; clear hout hsz6 hno hS5 hwD hbwD oD wlD hnext hoB hDn hbw5 e3 e6
      go_upto_region 11 with fail
      refine held_begin (S := fun W => ∃ s, W = ff s) (by kernel_rfl) 6 rfl ?_; rw [hwD'.out]; refine held_take [0, 1] 4 (by kernel_rfl) (fun d _ _ _ _ h => by cases d <;> exact h) (by kernel_rfl) (by kernel_rfl) (by kernel_rfl) HS.out ?_; simp only [pickL, List.map_cons, List.map_nil, List.getD_cons_succ, List.getD_cons_zero]
      iterate 2 (go_big_quiet_step (fail))
      refine wpQuiet_nil ?_; refine held_one 2 3 (by kernel_rfl) (by kernel_rfl) ?_; simp only [pickL, List.map_cons, List.map_nil, List.getD_cons_succ, List.getD_cons_zero]
      go_wp2_with fail
      refine hDn'.out.mono ?_; rintro e w6 ⟨a2, m, c2, rfl, hm, ho6, hb6⟩; have HS6 := Lib.hid (hnext'.out w6 (Mo.of_below hb6)); have o6 := own_later oD'.out hb6; have sl6 := (Sl.of_own ho6).1; have hbw6 := hbwD'.out.trans (hb6.mono hbwD'.out.size); have m6 : Mo (fun k => (Value.slice ao no co).ownBlock = some k) wD w6 := Mo.of_below hb6; clear hb6 ho6; have hm' := Lib.hid hm; have o6' := Lib.hid o6; have sl6' := Lib.hid sl6; have hbw6' := Lib.hid hbw6; have m6' := Lib.hid m6; clear hm o6 sl6 hbw6 m6
      go_wp2_with fail
      refine Mid.mk ⟨HS6.out, ?_⟩; refine held_one 3 2 (by kernel_rfl) (by kernel_rfl) ?_; simp only [pickL, List.map_cons, List.map_nil, List.getD_cons_succ, List.getD_cons_zero]
      go_wp2_with (at_builtin; refine wpList_app3 rfl _ _ 30 rfl 0 5 i0 _ 1 1 Try.underlying30 hi hz0 hz1 hz2 rfl (by decide) (.slice ao no co) no (ints .u8 O) rfl o6'.out a2 m c2 (ints .u8 (bytesS L)) rfl sl6'.out (fun u hu => ints_one u hu) (by have h1 := hm'.out; have h2 := bytesS_le L; have h3 : no = O.length := hno'.out; have h4 := hsz6'.out; omega) (by decide) (Nat.zero_le _) ?_; intro a7 c7 w7 ho7 hg7 hk7; have Ho7 := Lib.hid ho7; have Hg7 := Lib.hid hg7; clear ho7 hg7 hk7)
      have hmg : Mo (fun k => (Value.slice ao no co).ownBlock = some k) w6 w7 := Mo.of_grown Hg7.out fun k hk => hk; have HS7 := Lib.hid (hnext'.out w7 (m6'.out.trans hmg fun _ _ e => e)); have hbw7 := hbw6'.out.trans (Mo.below hmg hbw6'.out.size fun k hk e => by have := hoB'.out k e; omega); have sl7 := (Sl.of_own Ho7.out).1; rw [← ints_append] at sl7; clear hmg; have hbw7' := Lib.hid hbw7; have sl7' := Lib.hid sl7; clear hbw7 sl7; refine Mid.mk ⟨HS7.out, ?_⟩; refine held_one 4 1 (by kernel_rfl) (by kernel_rfl) ?_; simp only [pickL, List.map_cons, List.map_nil, List.getD_cons_succ, List.getD_cons_zero]
      go_wp2_with fail
      refine Mid.mk ⟨HS7.out, ?_⟩; refine held_one 5 0 (by kernel_rfl) (by kernel_rfl) ?_; simp only [pickL, List.map_cons, List.map_nil, List.getD_cons_succ, List.getD_cons_zero]
      go_wp2_with fail
      refine Mid.mk ⟨HS7.out, ?_⟩; refine held_last (by kernel_rfl) ?_
      go_wp2
      go_ret2
      exact ⟨.inl ⟨_, a7, no + m, c7, hout'.out, rfl, sl7'.out⟩, hbw7'.out⟩
    · have herr2 := herr'.out er hte
      clear hte; have herr2' := Lib.hid herr2; have hbw5' := Lib.hid hbw5; clear herr2 hbw5
      go_wp2
      go_ret2
      exact ⟨.inr ⟨er, herr2'.out, hne, rfl⟩, hbw5'.out⟩
end Go.Proofs.Ytpjopeojeglogaa

namespace Go.Proofs.Ytpjopeojeglogaa
open Go.RowKit Tt
set_option linter.unusedVariables false
set_option linter.unusedSimpArgs false

def scanA (s : ScT) (pa : Option Addr) (pn pc : Nat) : Array Value := #[.int .i64 s.ax, .int .i64 s.dn, .slice pa pn pc, .int .i64 s.iv]
/-- what stays while blocks are read -/
structure RdK (w0 w : World) (s : ScT) (pa : Option Addr) (pn pc : Nat) (ta : Option Addr) (tc : Nat) (tl : List (Nat × Nat)) (a3 : Option Addr) (c3 : Nat) (L : List (Nat × List (List Int))) : Prop where
  out : OutM w0.heap.size w a3 pn c3 L
  tw : w.ownsRow 0 134 2 (.slice ta pn tc) pn (tabsC tl)
  tb : TbsA w s.ps tl
  sc : Blk w w0.heap.size 24 (scanA s pa pn pc)
  bel : Below w0.heap.size w0 w
def Apart (w0 w : World) (S : Nat → Prop) : Prop := ∀ k, S k → w0.heap.size ≤ k ∧ ∃ cs T, Blk w k T cs ∧ T ≠ 199 ∧ T ≠ 134 ∧ T ≠ 126 ∧ T ≠ 129 ∧ T ≠ 24
section
variable {w0 w w' : World} {s : ScT} {pa : Option Addr} {pn pc : Nat} {ta : Option Addr} {tc : Nat} {tl : List (Nat × Nat)} {a3 : Option Addr} {c3 : Nat} {L : List (Nat × List (List Int))}
theorem RdK.late (h : RdK w0 w s pa pn pc ta tc tl a3 c3 L) (hb : Below w.heap.size w w') : RdK w0 w' s pa pn pc ta tc tl a3 c3 L :=
  ⟨h.out.late hb, own_later h.tw hb, h.tb.late hb, h.sc.late hb, h.bel.trans (hb.mono h.bel.size)⟩
theorem RdK.mo {S : Nat → Prop} (h : RdK w0 w s pa pn pc ta tc tl a3 c3 L) (m : Mo S w w') (hS : Apart w0 w S) : RdK w0 w' s pa pn pc ta tc tl a3 c3 L := by
  refine ⟨h.out.mo m (fun k hk hn => ?_) (fun i x hx hn => ?_), own_mo h.tw m (fun k hk hn => ?_), h.tb.keep m fun k hk => ?_, h.sc.mo m fun hn => ?_, h.bel.trans (Mo.below m h.bel.size fun k hk hn => by have := (hS k hn).1; omega)⟩
  · obtain ⟨_, cs, T, hb, e1, e2, e3, e4, e5⟩ := hS k hn
    exact own_neB h.out.own hb (Ne.symm e3) hk
  · obtain ⟨_, cs, T, hb, e1, e2, e3, e4, e5⟩ := hS _ hn
    exact blk_neT (h.out.blk i x hx).2.1 hb (Ne.symm e4) rfl
  · obtain ⟨_, cs, T, hb, e1, e2, e3, e4, e5⟩ := hS k hn
    exact own_neB h.tw hb (Ne.symm e2) hk
  · obtain ⟨_, cs, T, hb, e1, e2, e3, e4, e5⟩ := hS k hk
    exact ⟨cs, T, hb, e1⟩
  · obtain ⟨_, cs, T, hb, e1, e2, e3, e4, e5⟩ := hS _ hn
    exact blk_neT h.sc hb (Ne.symm e5) rfl
theorem RdK.put (h : RdK w0 w s pa pn pc ta tc tl a3 c3 L) {i k : Nat} {x : Nat × List (List Int)} (hx : L[i]? = some x) (hk : k < x.2.length) {b : List Int} (hb : b.length = 64) (hw : ∀ y ∈ b, (Lit.int .i64 y).wf = true) :
    RdK w0 (w.setCells x.1 (k * 64) (ints .i64 b)) s pa pn pc ta tc tl a3 c3 (L.set i (x.1, x.2.set k b)) := by
  have hbl := (h.out.blk i x hx).2.1; have hB := (h.out.blk i x hx).1; have hbt : But x.1 w (w.setCells x.1 (k * 64) (ints .i64 b)) := but_cells; refine ⟨h.out.put hx hk hb hw, own_but h.tw hbt (own_neB h.tw hbl (by decide)), h.tb.keep (S := fun k => k = x.1) (Mo.of_but hbt rfl) (fun k hk => ⟨_, _, hk ▸ hbl, by decide⟩), h.sc.but hbt (blk_neT h.sc hbl (by decide)), h.bel.trans (hbt.below hB h.bel.size)⟩
end
/-- a reader on its way -/
def RdG (w0 : World) (wc : Nat) (w : World) (rr gl : Nat) (s : ScT) (pa : Option Addr) (pn pc : Nat) (ta : Option Addr) (tc : Nat) (ba : Option Addr) (bn : Nat) (st : RdT) : Prop :=
  ∃ rb a n c D i ra rn rc, st.B = (bitsS D).drop i ∧ RdB w rr gl rb s pa pn pc ta tc ra rn rc st.last a n c D i ∧ Sl w ra rn rc 1 (ints .u8 st.rest) ∧ Byt st.rest ∧ rn ≤ bn ∧ In ra ba ∧ w0.heap.size ≤ rb ∧ ∀ x, a = some x → wc ≤ x.block
section
variable {w0 w w' : World} {wc rr gl : Nat} {s : ScT} {pa : Option Addr} {pn pc : Nat} {ta : Option Addr} {tc : Nat} {ba : Option Addr} {bn : Nat} {st : RdT}
theorem RdG.late (h : RdG w0 wc w rr gl s pa pn pc ta tc ba bn st) (hb : Below w.heap.size w w') : RdG w0 wc w' rr gl s pa pn pc ta tc ba bn st := by
  obtain ⟨rb, a, n, c, D, i, ra, rn, rc, h1, h2, h3, h4, h5, h6, h7, h8⟩ := h; exact ⟨rb, a, n, c, D, i, ra, rn, rc, h1, h2.late hb, h3.mono hb, h4, h5, h6, h7, h8⟩
theorem RdG.but {g : Nat} {cs : Array Value} (h : RdG w0 wc w rr gl s pa pn pc ta tc ba bn st) (hb : But g w w') (hg : Blk w g 129 cs) (hgc : g < wc) (hgw : w0.heap.size ≤ g) (hba : ∀ x, ba = some x → x.block < w0.heap.size) : RdG w0 wc w' rr gl s pa pn pc ta tc ba bn st := by
  obtain ⟨rb, a, n, c, D, i, ra, rn, rc, h1, h2, h3, h4, h5, h6, h7, h8⟩ := h; refine ⟨rb, a, n, c, D, i, ra, rn, rc, h1, h2.mo (S := fun k => k = g) (Mo.of_but hb rfl) (fun e => blk_neT h2.rd hg (by decide) e) (fun e => blk_neT h2.lr hg (by decide) e) (fun e => blk_neT h2.bt.blk hg (by decide) e) (fun x hx e => ?_), h3.but hb (fun x hx e => ?_), h4, h5, h6, h7, h8⟩
  · have := h8 x hx; omega
  · obtain ⟨y, hy, e2⟩ := h6 x hx
    have := hba y hy
    omega
end
theorem rd_step {s : ScT} {st0 st : RdT} {n : Nat} (h : (List.range n).foldlM (rdU s) st0 = .ok st) : (List.range (n + 1)).foldlM (rdU s) st0 = rdU s st n := by
  rw [List.range_succ, List.foldlM_append, h]
  show ([n].foldlM (rdU s) st) = _
  rw [List.foldlM_cons]
  cases rdU s st n <;> rfl
theorem rdU_none {s : ScT} {st : RdT} {n : Nat} (h : startR s st n = none) : rdU s st n = .error n := by unfold rdU; rw [h]
theorem rdU_some {s : ScT} {st st2 : RdT} {n : Nat} (h : startR s st n = some st2) : rdU s st n = (unitS s.ax.toNat s.ps n).foldlM (rdE s.ps n) st2 := by unfold rdU; rw [h]
def rd0 (s : ScT) (bb : List Int) : RdT := ⟨zeroB s, [], bb, List.replicate s.ps.length 0⟩
theorem readS_err {s : ScT} {bb : List Int} {st : RdT} {n N : Nat} (hN : (s.ax * s.dn).toNat = N) (h : (List.range n).foldlM (rdU s) (rd0 s bb) = .ok st) (hn : n < N) (he : rdU s st n = .error n) : readS s bb = .error n := by
  have h1 := rd_step h; rw [he] at h1
  have h2 : readU s bb = .error n := by
    unfold readU; refine exN_err (j := n + 1) ?_; rw [List.take_range, Nat.min_eq_left (by omega)]; exact h1
  unfold readS; rw [h2]
theorem readS_end {s : ScT} {bb : List Int} {st : RdT} {N : Nat} (hN : (s.ax * s.dn).toNat = N) (h : (List.range N).foldlM (rdU s) (rd0 s bb) = .ok st) : readS s bb = if fillS st.B = true ∧ st.rest = [] then .ok st.bl else .error N := by
  have h2 : readU s bb = .ok st := by unfold readU; rw [hN]; exact h
  unfold readS; rw [h2, hN]
theorem startR_zero {s : ScT} {st : RdT} : startR s st 0 = (beginS st.rest).map fun q => ⟨st.bl, q.1, q.2, List.replicate s.ps.length 0⟩ := by unfold startR; rw [if_pos rfl]
theorem startR_res {s : ScT} {st : RdT} {n : Nat} (hn : n ≠ 0) (h : resS s.iv n = true) : startR s st n = (againR s.iv n st.B st.rest).map fun q => ⟨st.bl, q.1, q.2, List.replicate s.ps.length 0⟩ := by unfold startR; rw [if_neg hn, if_pos h]
theorem startR_no {s : ScT} {st : RdT} {n : Nat} (hn : n ≠ 0) (h : resS s.iv n = false) : startR s st n = some st := by unfold startR; rw [if_neg hn, h]; rfl
end Go.Proofs.Ytpjopeojeglogaa
