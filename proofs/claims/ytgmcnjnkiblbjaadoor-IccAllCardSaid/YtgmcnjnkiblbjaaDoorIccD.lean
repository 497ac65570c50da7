import Derived.Test.YtgmcnjnkiblbjaaDoorIccC
namespace Go.Proofs.YtgmcnjnkiblbjaaDoor
open Go.RowKit Tt
set_option linter.unusedVariables false

theorem info25 : (Tryd.prog.info? 22).map (fun i => (i.zero, i.size, i.bytes)) = some (some (.slice none 0 0), 1, 24) := by kernel_rfl

/-- rows of bytes that the call owns, from B on -/
structure Ro (w : World) (B : Nat) (a : Option Addr) (n c : Nat) (ls : List (List Int)) : Prop where
  vs : ∃ vs : List Value, w.ownsRow B 22 1 (.slice a n c) n vs ∧ ∀ i, i < n → ∃ a' n' c', vs[i]? = some (.slice a' n' c') ∧ w.ownsRow B 5 1 (.slice a' n' c') n' (ints .u8 (ls.getD i []))
  len : ls.length = n
theorem Ro.rs {w : World} {B : Nat} {a : Option Addr} {n c : Nat} {ls : List (List Int)} (h : Ro w B a n c ls) : Rs w a n c ls := by
  obtain ⟨⟨vs, h1, h2⟩, h3⟩ := h
  exact ⟨⟨vs, (Sl.of_own h1).1, fun i hi => by obtain ⟨a', n', c', e, ho⟩ := h2 i hi; exact ⟨a', n', c', e, (Sl.of_own ho).1⟩⟩, h3⟩
theorem Ro.later {w w' : World} {B : Nat} {a : Option Addr} {n c : Nat} {ls : List (List Int)} (h : Ro w B a n c ls) (hb : Below w.heap.size w w') : Ro w' B a n c ls := by
  obtain ⟨⟨vs, h1, h2⟩, h3⟩ := h
  exact ⟨⟨vs, own_later h1 hb, fun i hi => by obtain ⟨a', n', c', e, ho⟩ := h2 i hi; exact ⟨a', n', c', e, own_later ho hb⟩⟩, h3⟩
theorem Ro.nil (w : World) (B : Nat) : Ro w B none 0 0 [] := ⟨⟨[], own_nil _ _ _ _, fun i hi => by omega⟩, rfl⟩

def Cutted (w : World) (p : List Int) (e : Ending) (w' : World) : Prop :=
  ∃ a n c, e = .returned (.tuple #[.slice a n c, .int .i64 (cutS p).2]) ∧ Ro w' w.heap.size a n c (cutS p).1 ∧ Below w.heap.size w w'
theorem cutted_of {w w' : World} {p : List Int} {ls : List (List Int)} {x : Int} {a : Option Addr} {n c : Nat} (h : cutS p = (ls, x)) (hr : Ro w' w.heap.size a n c ls) (hb : Below w.heap.size w w') : Cutted w p (.returned (.tuple #[.slice a n c, .int .i64 x])) w' :=
  ⟨a, n, c, by rw [h], by rw [h]; exact hr, hb⟩

theorem cnt_nat (n : Nat) : cnt n = (cntN n : Nat) := by
  unfold cnt cntN
  split <;> split <;> omega

/-- one row more -/
theorem Ro.push {w w1 : World} {B : Nat} {a a1 a' : Option Addr} {n c n1 c1 c' : Nat} {ls : List (List Int)} {l : List Int} {vs : List Value} 
    (h1 : w.ownsRow B 22 1 (.slice a n c) n vs) (h2 : ∀ i, i < n → ∃ a' n' c', vs[i]? = some (.slice a' n' c') ∧ w.ownsRow B 5 1 (.slice a' n' c') n' (ints .u8 (ls.getD i []))) (h3 : ls.length = n)
    (hn : w.ownsRow B 5 1 (.slice a1 n1 c1) n1 (ints .u8 l)) (ho : w1.ownsRow B 22 1 (.slice a' (n + 1) c') (n + 1) (vs ++ [.slice a1 n1 c1])) (hg : w.grownBy w1 (Value.slice a n c).ownBlock) : Ro w1 B a' (n + 1) c' (ls ++ [l]) := by
  have hvl : vs.length = n := by rw [h1.1, Nat.mul_one]
  refine ⟨⟨_, ho, fun i hi => ?_⟩, by simp [h3]⟩
  rcases Nat.lt_or_ge i n with hlt | hge
  · obtain ⟨a2, n2, c2, e, hr⟩ := h2 i hlt
    refine ⟨a2, n2, c2, by rw [List.getElem?_append_left (by omega)]; exact e, ?_⟩
    rw [List.getD_eq_getElem?_getD, List.getElem?_append_left (by omega), ← List.getD_eq_getElem?_getD]
    exact hr.kept hg (own_apart hr h1 (by decide))
  · have hin : i = n := by omega
    subst hin
    refine ⟨a1, n1, c1, by rw [List.getElem?_append_right (by omega), hvl]; simp, ?_⟩
    rw [List.getD_eq_getElem?_getD, List.getElem?_append_right (by omega), h3]
    simp
    exact hn.kept hg (own_apart hn h1 (by decide))

set_option maxHeartbeats 1000000 in
theorem rcut_any (a : Option Addr) (n c : Nat) (p : List Int) (w : World) (hx : Sl w a n c 1 (ints .u8 p)) (hb9 : n ≤ 140737488355328) :
    Calls Tryd.prog 10 #[.slice a n c] w (Cutted w p) := by
  obtain ⟨i0, hi, hz0, hz1, hz2⟩ := info_parts info5
  obtain ⟨j0, hj, hy0, hy1, hy2⟩ := info_parts info25
  have hxl := hx.ilen
  have hm := hx.max
  have hle := hx.le
  have hcn := cnt_nat n
  have Hx := Lib.hid hxl
  clear hxl
  have hC := rcount_any n w (by omega)
  rw [hcn] at hC
  have HC := Lib.hid hC
  clear hcn hC
  have Hlt := Lib.hid (fun i => @cntN_lt n i)
  have hcb : cntN n ≤ n := by unfold cntN; split <;> omega
  have Hp : Hid (cntN p.length = cntN n) := by rw [Hx.out]; exact Lib.hid rfl
  generalize hal : cntN n = all at *
  by_cases h255 : all ≤ 255
  · have hd : decide ((255 : Int) < all) = false := by simp; omega
    have Hcut := Lib.hid (@cutS_ok p (by rw [Hp.out]; exact h255))
    clear hal
    go_enter Tryd.func10, Tryd.ntmps10
    go_wp2_with (go_at_call 16; refine HC.out.mono ?_; rintro e w' ⟨rfl, rfl⟩)
    go_loopw [5, 6] (fun v i wr => ∃ (k c4 : Nat) (a4 : Option Addr), k ≤ all ∧ i = .int .i64 k ∧ v = .slice a4 k c4 ∧ Ro wr w.heap.size a4 k c4 ((List.range k).map (chunk p all)) ∧ Below w.heap.size w wr) (fun _ i _ => all - (intOf i).toNat)
    case atStart => exact ⟨0, 0, none, Nat.zero_le _, rfl, rfl, Ro.nil _ _, Below.refl _ _⟩
    case round =>
      obtain ⟨k, c4, a4, hk, rfl, rfl, hr, hb⟩ := hrel
      have Hr := Lib.hid hr
      clear hr
      by_cases hlt : k < all
      · have hkn := (Hlt.out k).1 hlt
        by_cases hend : 65519 * ((k : Int) + 1) < n
        · obtain ⟨⟨vs, hv1, hv2⟩, hv3⟩ := Hr.out
          have V1 := Lib.hid hv1
          have V2 := Lib.hid hv2
          have V3 := Lib.hid hv3
          clear hv1 hv2 hv3 Hr
          have hmm : 65519 = min p.length (65519 * (k + 1)) - 65519 * k := by rw [Hx.out]; omega
          have hc1 := chunk_take (p := p) (i := k) (by rw [Hx.out]; exact hkn) hmm
          have hc2 := chunk_len (p := p) (all := all) (i := k) (by rw [Hx.out]; exact hkn) hmm
          obtain ⟨a2, hcutr, hs2⟩ := cut_lh (P := Tryd.prog) Tryd.underlying22 size5 (hx.mono hb) (65519 * (k : Int)) (65519 * ((k : Int) + 1)) (by omega) (by omega) (by omega) (65519) (c - 65519 * k) (by omega) (by omega)
          have hs3 : Sl wr a2 (65519) (c - 65519 * k) 1 (ints .u8 ((p.drop (65519 * k)).take 65519)) := by
            rw [← hc1, ints, List.map_take, List.map_drop]
            rw [Nat.mul_one, Nat.mul_one, show (65519 * (k : Int)).toNat = 65519 * k by omega] at hs2
            exact hs2
          have Hc2 := Lib.hid hc2
          clear hs2 hc1 hc2 hmm
          go_wp2_with (first | (go_at_call 25; refine (head_any _).mono ?_; rintro e w1 ⟨ah, rfl, oh, hb1⟩; have Oh := Lib.hid oh; clear oh) | (at_builtin; refine wpList_app rfl _ _ 22 rfl wr.heap.size 5 i0 _ 1 1 Tryd.underlying22 hi hz0 hz1 hz2 rfl (by decide) _ 12 _ rfl (World.ownsRow.alloc Oh.out _) _ 2 2 _ rfl (Sl.new w1 5 1 2 _ (0, 0) (by omega) rfl) (by simp [Value.oneCell']) (by omega) (by decide) (by have := hb1.size; simp; omega) ?_; intro a5 c5 w2 ob hb2 hg2; clear hg2; have Ob := Lib.hid ob; clear ob Oh) | (at_builtin; refine wpList_app rfl _ _ 22 rfl wr.heap.size 5 i0 _ 1 1 Tryd.underlying22 hi hz0 hz1 hz2 rfl (by decide) _ 14 _ rfl Ob.out a2 (65519) (c - 65519 * k) _ rfl (hs3.mono (((hb1.trans ((Below.refl _ _).alloc hb1.size _)).trans hb2))) ints_one (by omega) (by decide) (by have := hb1.size; have := hb2.size; simp at this; omega) ?_; intro a6 c6 w3 oc hb3 hg3; clear hg3; have Oc := Lib.hid oc; clear oc Ob) | (at_builtin; refine wpList_app rfl _ _ 25 rfl w.heap.size 22 j0 _ 1 24 Tryd.underlying25 hj hy0 hy1 hy2 rfl (by decide) _ k _ rfl (World.ownsRow.alloc (own_later V1.out (((hb1.trans ((Below.refl _ _).alloc hb1.size _)).trans hb2).trans hb3)) _) _ 1 1 _ rfl (Sl.new w3 22 1 1 _ (0, 0) (by omega) rfl) (by simp [Value.oneCell']) (by omega) (by decide) (by have := hb.size; have := hb1.size; have := hb2.size; have := hb3.size; simp at *; omega) ?_; intro a7 c7 w4 od hb4 hg4; have Od := Lib.hid od; have Hg4 := Lib.hid hg4; clear od hg4))
          have hbb := ((hb1.trans ((Below.refl _ _).alloc hb1.size _)).trans hb2).trans hb3
          have hrow : ints .u8 Tt.hd ++ [Value.int IntKind.u8 ((k : Int) + 1), Value.int IntKind.u8 all] ++ ints .u8 ((p.drop (65519 * k)).take 65519) = ints .u8 (chunk p all k) := by simp [chunk, ints]
          have oc := Oc.out
          rw [hrow] at oc
          have hpush := Ro.push (ls := (List.range k).map (chunk p all)) (World.ownsRow.alloc (own_later V1.out hbb) _) (fun i hi => by obtain ⟨x1, x2, x3, x4, x5⟩ := V2.out i hi; exact ⟨x1, x2, x3, x4, World.ownsRow.alloc (own_later x5 hbb) _⟩) V3.out (World.ownsRow.alloc (own_mono oc hb.size) _) Od.out Hg4.out
          have Hpush : Hid (Ro w4 w.heap.size a7 (k + 1) c7 ((List.range (k + 1)).map (chunk p all))) := by
            rw [List.range_succ, List.map_append]
            exact hpush
          clear hpush oc hrow
          go_wp2
          go_roundw
          case rel => exact ⟨k + 1, c7, a7, by omega, by go_num, rfl, Hpush.out, ((hb.trans (hbb.mono hb.size)).alloc (by have := hb.size; have := hbb.size; omega) _).trans hb4⟩
          case measure => simp [intOf]; omega
        · obtain ⟨⟨vs, hv1, hv2⟩, hv3⟩ := Hr.out
          have V1 := Lib.hid hv1
          have V2 := Lib.hid hv2
          have V3 := Lib.hid hv3
          clear hv1 hv2 hv3 Hr
          have hmm : n - 65519 * k = min p.length (65519 * (k + 1)) - 65519 * k := by rw [Hx.out]; omega
          have hc1 := chunk_take (p := p) (i := k) (by rw [Hx.out]; exact hkn) hmm
          have hc2 := chunk_len (p := p) (all := all) (i := k) (by rw [Hx.out]; exact hkn) hmm
          obtain ⟨a2, hcutr, hs2⟩ := cut_lh (P := Tryd.prog) Tryd.underlying22 size5 (hx.mono hb) (65519 * (k : Int)) (n : Int) (by omega) (by omega) (by omega) (n - 65519 * k) (c - 65519 * k) (by omega) (by omega)
          have hs3 : Sl wr a2 (n - 65519 * k) (c - 65519 * k) 1 (ints .u8 ((p.drop (65519 * k)).take 65519)) := by
            rw [← hc1, ints, List.map_take, List.map_drop]
            rw [Nat.mul_one, Nat.mul_one, show (65519 * (k : Int)).toNat = 65519 * k by omega] at hs2
            exact hs2
          have Hc2 := Lib.hid hc2
          clear hs2 hc1 hc2 hmm
          go_wp2_with (first | (go_at_call 25; refine (head_any _).mono ?_; rintro e w1 ⟨ah, rfl, oh, hb1⟩; have Oh := Lib.hid oh; clear oh) | (at_builtin; refine wpList_app rfl _ _ 22 rfl wr.heap.size 5 i0 _ 1 1 Tryd.underlying22 hi hz0 hz1 hz2 rfl (by decide) _ 12 _ rfl (World.ownsRow.alloc Oh.out _) _ 2 2 _ rfl (Sl.new w1 5 1 2 _ (0, 0) (by omega) rfl) (by simp [Value.oneCell']) (by omega) (by decide) (by have := hb1.size; simp; omega) ?_; intro a5 c5 w2 ob hb2 hg2; clear hg2; have Ob := Lib.hid ob; clear ob Oh) | (at_builtin; refine wpList_app rfl _ _ 22 rfl wr.heap.size 5 i0 _ 1 1 Tryd.underlying22 hi hz0 hz1 hz2 rfl (by decide) _ 14 _ rfl Ob.out a2 (n - 65519 * k) (c - 65519 * k) _ rfl (hs3.mono (((hb1.trans ((Below.refl _ _).alloc hb1.size _)).trans hb2))) ints_one (by omega) (by decide) (by have := hb1.size; have := hb2.size; simp at this; omega) ?_; intro a6 c6 w3 oc hb3 hg3; clear hg3; have Oc := Lib.hid oc; clear oc Ob) | (at_builtin; refine wpList_app rfl _ _ 25 rfl w.heap.size 22 j0 _ 1 24 Tryd.underlying25 hj hy0 hy1 hy2 rfl (by decide) _ k _ rfl (World.ownsRow.alloc (own_later V1.out (((hb1.trans ((Below.refl _ _).alloc hb1.size _)).trans hb2).trans hb3)) _) _ 1 1 _ rfl (Sl.new w3 22 1 1 _ (0, 0) (by omega) rfl) (by simp [Value.oneCell']) (by omega) (by decide) (by have := hb.size; have := hb1.size; have := hb2.size; have := hb3.size; simp at *; omega) ?_; intro a7 c7 w4 od hb4 hg4; have Od := Lib.hid od; have Hg4 := Lib.hid hg4; clear od hg4))
          have hbb := ((hb1.trans ((Below.refl _ _).alloc hb1.size _)).trans hb2).trans hb3
          have hrow : ints .u8 Tt.hd ++ [Value.int IntKind.u8 ((k : Int) + 1), Value.int IntKind.u8 all] ++ ints .u8 ((p.drop (65519 * k)).take 65519) = ints .u8 (chunk p all k) := by simp [chunk, ints]
          have oc := Oc.out
          rw [hrow] at oc
          have hpush := Ro.push (ls := (List.range k).map (chunk p all)) (World.ownsRow.alloc (own_later V1.out hbb) _) (fun i hi => by obtain ⟨x1, x2, x3, x4, x5⟩ := V2.out i hi; exact ⟨x1, x2, x3, x4, World.ownsRow.alloc (own_later x5 hbb) _⟩) V3.out (World.ownsRow.alloc (own_mono oc hb.size) _) Od.out Hg4.out
          have Hpush : Hid (Ro w4 w.heap.size a7 (k + 1) c7 ((List.range (k + 1)).map (chunk p all))) := by
            rw [List.range_succ, List.map_append]
            exact hpush
          clear hpush oc hrow
          go_wp2
          go_roundw
          case rel => exact ⟨k + 1, c7, a7, by omega, by go_num, rfl, Hpush.out, ((hb.trans (hbb.mono hb.size)).alloc (by have := hb.size; have := hbb.size; omega) _).trans hb4⟩
          case measure => simp [intOf]; omega
      · have hke : k = all := by omega
        subst hke
        rw [Hp.out] at Hcut
        go_wp2
        go_ret2
        exact cutted_of Hcut.out Hr.out hb
  · have hd : decide ((255 : Int) < all) = true := by simp; omega
    have Hcut := Lib.hid (@cutS_long p (by rw [Hp.out]; omega))
    clear hal
    go_enter Tryd.func10, Tryd.ntmps10
    go_wp2_with (go_at_call 16; refine HC.out.mono ?_; rintro e w' ⟨rfl, rfl⟩)
    go_ret2
    exact cutted_of Hcut.out (Ro.nil _ _) (Below.refl _ _)
end Go.Proofs.YtgmcnjnkiblbjaaDoor
