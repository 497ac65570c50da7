import Derived.Test.YtgmcnjnkiblbjaaDoorIccI
import Derived.Test.YtgmcnjnkiblbjaaDoorL4
namespace Go.Proofs.YtgmcnjnkiblbjaaDoor
open Go.RowKit Tt
set_option linter.unusedVariables false
set_option linter.unusedSimpArgs false

/-- a value that reads as a row of bytes -/
def Rw (w : World) (v : Value) (l : List Int) : Prop := ∃ a n c, v = .slice a n c ∧ Sl w a n c 1 (ints .u8 l)
theorem Rw.mono {w w' : World} {v : Value} {l : List Int} (h : Rw w v l) (hb : Below w.heap.size w w') : Rw w' v l := by
  obtain ⟨a, n, c, e, s⟩ := h
  exact ⟨a, n, c, e, s.mono hb⟩
theorem rs_zip {w : World} {a : Option Addr} {n c : Nat} (zs : List (Value × List Int)) (hz : ∀ z ∈ zs, Rw w z.1 z.2) (hs : Sl w a n c 1 (zs.map (·.1))) : Rs w a n c (zs.map (·.2)) := by
  have hl : zs.length = n := by have := hs.len; simpa using this
  refine ⟨⟨_, hs, fun i hi => ?_⟩, by simpa using hl⟩
  have hi' : i < zs.length := by omega
  obtain ⟨a', n', c', e, s⟩ := hz zs[i] (List.getElem_mem hi')
  refine ⟨a', n', c', ?_, ?_⟩
  · rw [List.getElem?_map, List.getElem?_eq_getElem hi']; simp [e]
  · rw [List.getD_eq_getElem?_getD, List.getElem?_map, List.getElem?_eq_getElem hi']; exact s
theorem join_bad {p : List Int} {m : Nat} {l : List (List Int)} (hl : l.length ≤ 255) (h : ∀ x ∈ l, ∃ j, x = chunk p m j) (hi : ∃ i, i < l.length ∧ ∃ j, l.getD i [] = chunk p m j ∧ (j ≠ i ∨ m ≠ l.length)) : joinS l = ([], 2) := by
  have he : joinE l.length 0 l = 2 := by
    refine joinE_two l 0 (fun i hi => ?_) ?_
    · obtain ⟨j, e⟩ := h _ (row_mem rfl hi)
      rw [e, chunk_size]; omega
    · obtain ⟨i, hi, j, e, hne⟩ := hi
      refine ⟨i, hi, ?_⟩
      rw [e]
      unfold rightB
      rw [chunk_isB, chunk_get12, chunk_get13]
      rcases hne with h | h
      · have : ((j : Int) + 1 == ((0 + i : Nat) : Int) + 1) = false := by rw [beq_eq_false_iff_ne]; omega
        rw [this]; simp
      · have : ((m : Int) == ((l.length : Nat) : Int)) = false := by rw [beq_eq_false_iff_ne]; omega
        rw [this]; simp
  unfold joinS
  rw [if_neg (by omega), if_neg (by rw [he]; decide), he]

theorem size25 : ∀ w, (Go.sizeOf 22).run Tryd.prog w = .ok 1 w := fun w => by kernel_rfl

set_option maxHeartbeats 4000000 in
theorem all_any (n seed at_ : Int) (w : World) (hn1 : -9223372036854775808 ≤ n) (hn2 : n ≤ 9223372036854775807) (ha1 : -9223372036854775808 ≤ at_) (ha2 : at_ ≤ 9223372036854775807) :
    Calls Tryd.prog 6 #[.int .i64 n, .int .i64 seed, .int .i64 at_] w fun e w' => e = .returned (.bool true) ∧ Below w.heap.size w w' := by
  obtain ⟨j0, hj, hy0, hy1, hy2⟩ := info_parts info25
  go_enter Tryd.func6, Tryd.ntmps6
  go_wp2_with fail
  refine (long_any n seed none 0 0 [] w hn1 hn2 (Sl.nil _ _) (fun x hx => by cases hx)).mono ?_
  rintro e w1 ⟨g, L, p, rfl, hg, hr1, hpl, bp, hL, hb1⟩
  have hs1 := (Sl.of_own (hr1.own hpl hg (by unfold maxLen; omega))).1
  have Bp := Lib.hid bp
  have hL2 : L ≤ 140737488355328 := by omega
  have hc4 : cntN p.length ≤ 4 := cntN_top (by omega)
  have hcode := cut_code (p := p) (by omega)
  clear hr1 bp
  go_wp2_with fail
  refine (cut_any _ L L p w1 hs1 Bp.out hL2).mono ?_
  rintro e w2 ⟨a4, n4, c4, rfl, hr4, hb2⟩
  rw [hcode]
  have hB2 := hb1.trans (hb2.mono hb1.size)
  have hn4 := hr4.len
  rw [cut_len (by omega)] at hn4
  have hok := cutS_ok (p := p) (by omega)
  rw [hok, hn4] at hr4
  rw [hn4] at hc4
  have Hp := Lib.hid hn4
  clear hcode hs1 hb2 hb1 hpl hL hL2 hok hn4
  by_cases t1 : n4 < 2
  · go_wp2_with fail
    refine (awake_any w2).mono ?_
    rintro e w9 ⟨rfl, hb9⟩
    go_wp2
    go_ret
    exact ⟨ret_bool rfl, hB2.trans (hb9.mono hB2.size)⟩
  · by_cases t2 : at_ < 0
    · go_wp2_with fail
      refine (awake_any w2).mono ?_
      rintro e w9 ⟨rfl, hb9⟩
      go_wp2
      go_ret
      exact ⟨ret_bool rfl, hB2.trans (hb9.mono hB2.size)⟩
    · by_cases t3 : (n4 : Int) ≤ at_
      · go_wp2_with fail
        refine (awake_any w2).mono ?_
        rintro e w9 ⟨rfl, hb9⟩
        go_wp2
        go_ret
        exact ⟨ret_bool rfl, hB2.trans (hb9.mono hB2.size)⟩
      · obtain ⟨k, rfl⟩ : ∃ k : Nat, at_ = k := ⟨at_.toNat, by omega⟩
        obtain ⟨⟨vs, hv1, hv2⟩, hl4⟩ := hr4
        have hs4 := (Sl.of_own hv1).1
        have hvl : vs.length = n4 := by have := hs4.len; omega
        have hone : ∀ u ∈ vs, u.oneCell' = true := by
          intro u hu
          obtain ⟨i, hi, rfl⟩ := List.mem_iff_getElem.1 hu
          obtain ⟨a', n', c', e, _⟩ := hv2 i (by omega)
          rw [List.getElem?_eq_getElem hi] at e
          injection e with e
          rw [e]; rfl
        have hk : k < n4 := by omega
        have Hone := Lib.hid hone
        have Hvl := Lib.hid hvl
        have V1 := Lib.hid hv1
        have Hv2 := Lib.hid hv2
        have Hl4 := Lib.hid hl4
        clear hone hvl hv1 hv2 hl4
        obtain ⟨a6, e6, s6⟩ := cut_h (P := Tryd.prog) Tryd.underlying25 size25 hs4 (k : Int) (by omega) (by omega) k (by omega)
        obtain ⟨a7, e7, s7⟩ := cut_l (P := Tryd.prog) Tryd.underlying25 size25 hs4 ((k : Int) + 1) (by omega) (by omega) (n4 - (k + 1)) (c4 - (k + 1)) (by omega) (by have := hs4.le; omega)
        obtain ⟨a8, e8, s8⟩ := cut_h (P := Tryd.prog) Tryd.underlying25 size25 hs4 ((k : Int) + 1) (by omega) (by omega) (k + 1) (by omega)
        obtain ⟨a9, e9, s9⟩ := cut_l (P := Tryd.prog) Tryd.underlying25 size25 hs4 (k : Int) (by omega) (by omega) (n4 - k) (c4 - k) (by omega) (by have := hs4.le; omega)
        rw [Nat.mul_one] at s6 s8
        rw [Nat.mul_one, show ((k : Int) + 1).toNat = k + 1 by omega] at s7
        rw [Nat.mul_one, show (k : Int).toNat = k by omega] at s9
        have S6 := Lib.hid s6
        have S7 := Lib.hid s7
        have S8 := Lib.hid s8
        have S9 := Lib.hid s9
        have S4 := Lib.hid hs4
        clear s6 s7 s8 s9 hs4
        have hwk : IntKind.i64.wrap ((k : Int) + 1) = (k : Int) + 1 := by rw [IntKind.wrap_i64]; omega
        have d1 : decide ((n4 : Int) < 2) = false := by simp; omega
        have d2 : decide ((k : Int) < 0) = false := by simp
        have d3 : decide (n4 ≤ k) = false := by simp; omega
        have d4 : decide ((n4 : Int) ≤ (k : Int)) = false := by simp; omega
        go_wp2_with fail
        go_cut [9] from 42 to 51 (fun v wx => ∃ (a' : Option Addr) (c' : Nat), v = .slice a' (k + (n4 - (k + 1))) c' ∧ Sl wx a' (k + (n4 - (k + 1))) c' 1 (vs.take k ++ vs.drop (k + 1)) ∧ Below w2.heap.size w2 wx)
        case first =>
          go_region_law (first
            | (refine step_app rfl (.tmp 42) (.tmp 45) 25 rfl w2.heap.size 22 j0 _ 1 24 Tryd.underlying25 hj hy0 hy1 hy2 rfl (by decide) (.slice (some ⟨w2.heap.size, 0, none⟩) 0 0) 0 [] (by simp [Act.eval, Act.put]) (own_new w2.drew w2.heap.size 22 1 0 #[] (Nat.le_refl _) (by decide) rfl) a6 k c4 _ (by simp [Act.eval, Act.put]) (S6.out.mono (((Below.refl _ _).drew).alloc (Nat.le_refl _) _)) (fun u hu => Hone.out u (List.mem_of_mem_take hu)) (by omega) (by decide) (by simp) ?_; intro a5 c5 w5 ho5 hb5 hg5; rw [Nat.zero_add] at ho5 ⊢; rw [List.nil_append] at ho5; have Ho5 := Lib.hid ho5; have Hb5 : Hid (Below w2.heap.size w2 w5) := Lib.hid ((((Below.refl _ _).drew).alloc (Nat.le_refl _) _).trans hb5); clear ho5 hb5 hg5)
            | (refine step_app rfl (.tmp 46) (.tmp 50) 25 rfl w2.heap.size 22 j0 _ 1 24 Tryd.underlying25 hj hy0 hy1 hy2 rfl (by decide) (.slice a5 k c5) k _ (by simp [Act.eval, Act.put]) Ho5.out a7 (n4 - (k + 1)) (c4 - (k + 1)) _ (by simp [Act.eval, Act.put]) (S7.out.mono Hb5.out) (fun u hu => Hone.out u (List.mem_of_mem_drop hu)) (by omega) (by decide) Hb5.out.size ?_; intro a6' c6' w6 ho6 hb6 hg6; have Ho6 := Lib.hid ho6; have Hb6 := Lib.hid (Hb5.out.trans hb6); clear ho6 hb6 hg6))
          all_goals go_wp2_with fail
          all_goals go_meet
          all_goals exact ⟨_, _, rfl, (Sl.of_own Ho6.out).1, Hb6.out⟩
        case rest =>
          obtain ⟨a10, c10, rfl, s10, hb10⟩ := hcut
          have S10 := Lib.hid s10
          have Hb10 := Lib.hid hb10
          clear s10
          rename World => w3
          go_wp2_with fail
          go_cut [10] from 52 to 61 (fun v wx => ∃ (a' : Option Addr) (c' : Nat), v = .slice a' (k + 1 + (n4 - k)) c' ∧ Sl wx a' (k + 1 + (n4 - k)) c' 1 (vs.take (k + 1) ++ vs.drop k) ∧ Below w3.heap.size w3 wx)
          case first =>
            go_region_law (first
              | (refine step_app rfl (.tmp 52) (.tmp 56) 25 rfl w3.heap.size 22 j0 _ 1 24 Tryd.underlying25 hj hy0 hy1 hy2 rfl (by decide) (.slice (some ⟨w3.heap.size, 0, none⟩) 0 0) 0 [] (by simp [Act.eval, Act.put]) (own_new w3.drew w3.heap.size 22 1 0 #[] (Nat.le_refl _) (by decide) rfl) a8 (k + 1) c4 _ (by simp [Act.eval, Act.put]) ((S8.out.mono Hb10.out).mono (((Below.refl _ _).drew).alloc (Nat.le_refl _) _)) (fun u hu => Hone.out u (List.mem_of_mem_take hu)) (by omega) (by decide) (by simp) ?_; intro a5 c5 w5 ho5 hb5 hg5; rw [Nat.zero_add] at ho5 ⊢; rw [List.nil_append] at ho5; have Ho5 := Lib.hid ho5; have Hb5 : Hid (Below w3.heap.size w3 w5) := Lib.hid ((((Below.refl _ _).drew).alloc (Nat.le_refl _) _).trans hb5); clear ho5 hb5 hg5)
              | (refine step_app rfl (.tmp 57) (.tmp 60) 25 rfl w3.heap.size 22 j0 _ 1 24 Tryd.underlying25 hj hy0 hy1 hy2 rfl (by decide) (.slice a5 (k + 1) c5) (k + 1) _ (by simp [Act.eval, Act.put]) Ho5.out a9 (n4 - k) (c4 - k) _ (by simp [Act.eval, Act.put]) ((S9.out.mono Hb10.out).mono Hb5.out) (fun u hu => Hone.out u (List.mem_of_mem_drop hu)) (by omega) (by decide) Hb5.out.size ?_; intro a6' c6' w6 ho6 hb6 hg6; have Ho6 := Lib.hid ho6; have Hb6 := Lib.hid (Hb5.out.trans hb6); clear ho6 hb6 hg6))
            all_goals go_wp2_with fail
            all_goals go_meet
            all_goals exact ⟨_, _, rfl, (Sl.of_own Ho6.out).1, Hb6.out⟩
          case rest =>
            obtain ⟨a11, c11, rfl, s11, hb11⟩ := hcut
            rename World => w4
            have S11 := Lib.hid s11
            have hb4 := hb10.trans (hb11.mono hb10.size)
            have S10' := Lib.hid (S10.out.mono hb11)
            have Hb4 := Lib.hid hb4
            clear s11 hb10 hb11 S10
            obtain ⟨t, hrem⟩ : ∃ t : Nat, ((k : Int) + 1) % (n4 : Int) = t := ⟨(((k : Int) + 1) % (n4 : Int)).toNat, by have := Int.emod_nonneg ((k : Int) + 1) (show (n4 : Int) ≠ 0 by omega); omega⟩
            have ht : t < n4 := by have := Int.emod_lt_of_pos ((k : Int) + 1) (show (0 : Int) < n4 by omega); omega
            have htk : Hid ((k + 1 < n4 ∧ t = k + 1) ∨ (k + 1 = n4 ∧ t = 0)) := by
              rcases Nat.lt_or_ge (k + 1) n4 with h | h
              · exact .inl ⟨h, by rw [Int.emod_eq_of_lt (by omega) (by omega)] at hrem; omega⟩
              · have h9 : k + 1 = n4 := by omega
                exact .inr ⟨h9, by rw [show (k : Int) + 1 = n4 by omega, Int.emod_self] at hrem; omega⟩
            go_wp2_with (at_builtin; refine wpList_app rfl (.tmp 62) (.tmp 63) 25 rfl w4.heap.size 22 j0 _ 1 24 Tryd.underlying25 hj hy0 hy1 hy2 rfl (by decide) (.slice (some ⟨w4.heap.size, 0, none⟩) 0 0) 0 [] rfl (own_new w4 w4.heap.size 22 1 0 #[] (Nat.le_refl _) (by decide) rfl) a4 n4 c4 vs rfl ((S4.out.mono Hb4.out).mono ((Below.refl _ _).alloc (Nat.le_refl _) _)) Hone.out (by omega) (by decide) (by simp) ?_; intro a12 c12 w5 ho12 hb12 hg12; rw [Nat.zero_add] at ho12 ⊢; rw [List.nil_append] at ho12; have Ho12 := Lib.hid ho12; have Hb12 : Hid (Below w4.heap.size w4 w5) := Lib.hid (((Below.refl _ _).alloc (Nat.le_refl _) _).trans hb12); clear ho12 hb12 hg12)
            obtain ⟨ak, nk, ck, ek, sk⟩ := Hv2.out k hk
            obtain ⟨at', nt, ct, et, st⟩ := Hv2.out t ht
            obtain ⟨b4, o4, rfl, hlt4, hcell4⟩ := (S4.out.mono (Hb4.out.trans (Hb12.out.mono Hb4.out.size))).at hk
            have xk := hcell4 k _ ek
            have xt := hcell4 t _ et
            obtain ⟨g12, rfl, hg12, hlt12, hfz12, hcell12⟩ := own_place Ho12.out hk
            have yk := hcell12 k _ ek
            have yt := hcell12 t _ et
            have zk := hfz12 k
            have zt := hfz12 t
            clear hcell4 hcell12 hfz12 sk st
            have htn : (t : Int) < (n4 : Int) := by omega
            have htp : (0 : Int) ≤ (t : Int) := by omega
            have hkt : ¬ k = t := by have := htk.out; omega
            go_region
            obtain ⟨w6, hw6⟩ : ∃ w6, w6 = ((w5.setCell ⟨g12, k, none⟩ (.slice at' nt ct)).setCell ⟨g12, t, none⟩ (.slice ak nk ck)).drew := ⟨_, rfl⟩
            rw [← hw6]
            have hB6 : Below w4.heap.size w4 w6 := by
              rw [hw6]
              exact ((Hb12.out.setCell (p := ⟨g12, k, none⟩) hg12 _).setCell (p := ⟨g12, t, none⟩) hg12 _).drew
            have hT6 : Sl w6 (some ⟨g12, 0, none⟩) n4 c12 1 ((vs.set k (.slice at' nt ct)).set t (.slice ak nk ck)) := by
              rw [hw6]
              exact (Sl.of_own (own_set (own_set Ho12.out k _) t _)).1.mono ((Below.refl _ _).drew)
            have hB26 := Hb4.out.trans (hB6.mono Hb4.out.size)
            clear hw6 xk xt yk yt zk zt
            -- the rows and what they hold, side by side
            obtain ⟨lst, hlst⟩ : ∃ lst, lst = (List.range n4).map (chunk p n4) := ⟨_, rfl⟩
            have hlen : lst.length = n4 := by rw [hlst]; simp
            have hchunk : ∀ j, j < n4 → lst.getD j [] = chunk p n4 j := fun j hj => by rw [hlst]; exact map_get _ hj
            have hbyt : ∀ x ∈ lst, Byt x := by
              intro x hx
              rw [hlst] at hx
              obtain ⟨j, hj, rfl⟩ := List.mem_map.1 hx
              exact byt_chunk Bp.out (by omega) (List.mem_range.1 hj)
            have hall : ∀ x ∈ lst, ∃ j, x = chunk p n4 j := by
              intro x hx
              rw [hlst] at hx
              obtain ⟨j, hj, rfl⟩ := List.mem_map.1 hx
              exact ⟨j, rfl⟩
            have hv2 := Hv2.out
            rw [← hlst] at hv2
            clear hlst
            obtain ⟨zs, hz1, hz2⟩ : ∃ zs : List (Value × List Int), zs.map (·.1) = vs ∧ zs.map (·.2) = lst := ⟨vs.zip lst, List.map_fst_zip (by rw [Hvl.out, hlen]; exact Nat.le_refl _), List.map_snd_zip (by rw [Hvl.out, hlen]; exact Nat.le_refl _)⟩
            have hzl : zs.length = n4 := by rw [← hlen, ← hz2, List.length_map]
            have hzr : ∀ z ∈ zs, Rw w6 z.1 z.2 := by
              intro z hz
              obtain ⟨i, hi, rfl⟩ := List.mem_iff_getElem.1 hz
              obtain ⟨a', n', c', e, o⟩ := hv2 i (by omega)
              rw [← hz1, List.getElem?_map, List.getElem?_eq_getElem hi] at e
              rw [← hz2, List.getD_eq_getElem?_getD, List.getElem?_map, List.getElem?_eq_getElem hi] at o
              simp at e o
              exact ⟨a', n', c', e, (Sl.of_own o).1.mono hB26⟩
            have hzk : zs[k]? = some (.slice ak nk ck, chunk p n4 k) := by
              have h1 := ek
              have h2 := hchunk k hk
              rw [← hz1, List.getElem?_map, List.getElem?_eq_getElem (by omega)] at h1
              rw [← hz2, List.getD_eq_getElem?_getD, List.getElem?_map, List.getElem?_eq_getElem (by omega)] at h2
              simp at h1 h2
              rw [List.getElem?_eq_getElem (by omega), ← h1, ← h2]
            have hzt : zs[t]? = some (.slice at' nt ct, chunk p n4 t) := by
              have h1 := et
              have h2 := hchunk t ht
              rw [← hz1, List.getElem?_map, List.getElem?_eq_getElem (by omega)] at h1
              rw [← hz2, List.getD_eq_getElem?_getD, List.getElem?_map, List.getElem?_eq_getElem (by omega)] at h2
              simp at h1 h2
              rw [List.getElem?_eq_getElem (by omega), ← h1, ← h2]
            have r1 : Rs w6 a10 (k + (n4 - (k + 1))) c10 (lst.take k ++ lst.drop (k + 1)) := by
              have := rs_zip (w := w6) (a := a10) (n := k + (n4 - (k + 1))) (c := c10) (zs.take k ++ zs.drop (k + 1)) (fun z hz => by
                rcases List.mem_append.1 hz with h | h
                · exact hzr z (List.mem_of_mem_take h)
                · exact hzr z (List.mem_of_mem_drop h)) (by rw [List.map_append, List.map_take, List.map_drop, hz1]; exact S10'.out.mono hB6)
              rw [List.map_append, List.map_take, List.map_drop, hz2] at this
              exact this
            have r2 : Rs w6 a11 (k + 1 + (n4 - k)) c11 (lst.take (k + 1) ++ lst.drop k) := by
              have := rs_zip (w := w6) (a := a11) (n := k + 1 + (n4 - k)) (c := c11) (zs.take (k + 1) ++ zs.drop k) (fun z hz => by
                rcases List.mem_append.1 hz with h | h
                · exact hzr z (List.mem_of_mem_take h)
                · exact hzr z (List.mem_of_mem_drop h)) (by rw [List.map_append, List.map_take, List.map_drop, hz1]; exact S11.out.mono hB6)
              rw [List.map_append, List.map_take, List.map_drop, hz2] at this
              exact this
            have r3 : Rs w6 (some ⟨g12, 0, none⟩) n4 c12 ((lst.set k (chunk p n4 t)).set t (chunk p n4 k)) := by
              have := rs_zip (w := w6) (a := some ⟨g12, 0, none⟩) (n := n4) (c := c12) ((zs.set k (.slice at' nt ct, chunk p n4 t)).set t (.slice ak nk ck, chunk p n4 k)) (fun z hz => by
                rcases List.mem_or_eq_of_mem_set hz with h | rfl
                · rcases List.mem_or_eq_of_mem_set h with h | rfl
                  · exact hzr z h
                  · exact hzr _ (List.mem_of_getElem? hzt)
                · exact hzr _ (List.mem_of_getElem? hzk)) (by rw [List.map_set, List.map_set, hz1]; exact hT6)
              rw [List.map_set, List.map_set, hz2] at this
              exact this
            have j1 : joinS (lst.take k ++ lst.drop (k + 1)) = ([], 2) := by
              have hl1 : (lst.take k ++ lst.drop (k + 1)).length = n4 - 1 := by rw [List.length_append, List.length_take, List.length_drop, hlen]; omega
              refine join_bad (p := p) (m := n4) (by omega) (fun x hx => ?_) ⟨0, by omega, ?_⟩
              · rcases List.mem_append.1 hx with h | h
                · exact hall x (List.mem_of_mem_take h)
                · exact hall x (List.mem_of_mem_drop h)
              · have hm := row_mem (ls := lst.take k ++ lst.drop (k + 1)) (k := 0) rfl (by omega)
                obtain ⟨j, hj⟩ : ∃ j, (lst.take k ++ lst.drop (k + 1)).getD 0 [] = chunk p n4 j := by
                  rcases List.mem_append.1 hm with h | h
                  · exact hall _ (List.mem_of_mem_take h)
                  · exact hall _ (List.mem_of_mem_drop h)
                exact ⟨j, hj, .inr (by omega)⟩
            have j2 : joinS (lst.take (k + 1) ++ lst.drop k) = ([], 2) := by
              have hl1 : (lst.take (k + 1) ++ lst.drop k).length = n4 + 1 := by rw [List.length_append, List.length_take, List.length_drop, hlen]; omega
              refine join_bad (p := p) (m := n4) (by omega) (fun x hx => ?_) ⟨0, by omega, ?_⟩
              · rcases List.mem_append.1 hx with h | h
                · exact hall x (List.mem_of_mem_take h)
                · exact hall x (List.mem_of_mem_drop h)
              · have hm := row_mem (ls := lst.take (k + 1) ++ lst.drop k) (k := 0) rfl (by omega)
                obtain ⟨j, hj⟩ : ∃ j, (lst.take (k + 1) ++ lst.drop k).getD 0 [] = chunk p n4 j := by
                  rcases List.mem_append.1 hm with h | h
                  · exact hall _ (List.mem_of_mem_take h)
                  · exact hall _ (List.mem_of_mem_drop h)
                exact ⟨j, hj, .inr (by omega)⟩
            have j3 : joinS ((lst.set k (chunk p n4 t)).set t (chunk p n4 k)) = ([], 2) := by
              have hl1 : ((lst.set k (chunk p n4 t)).set t (chunk p n4 k)).length = n4 := by simp [hlen]
              refine join_bad (p := p) (m := n4) (by omega) (fun x hx => ?_) ⟨k, by omega, t, ?_, .inl (by omega)⟩
              · rcases List.mem_or_eq_of_mem_set hx with h | rfl
                · rcases List.mem_or_eq_of_mem_set h with h | rfl
                  · exact hall x h
                  · exact ⟨t, rfl⟩
                · exact ⟨k, rfl⟩
              · rw [List.getD_eq_getElem?_getD, List.getElem?_set_ne (by omega), List.getElem?_set_self (by omega)]; rfl
            have b1 : ∀ l ∈ lst.take k ++ lst.drop (k + 1), Byt l := fun l hl => by
              rcases List.mem_append.1 hl with h | h
              · exact hbyt l (List.mem_of_mem_take h)
              · exact hbyt l (List.mem_of_mem_drop h)
            have b2 : ∀ l ∈ lst.take (k + 1) ++ lst.drop k, Byt l := fun l hl => by
              rcases List.mem_append.1 hl with h | h
              · exact hbyt l (List.mem_of_mem_take h)
              · exact hbyt l (List.mem_of_mem_drop h)
            have b3 : ∀ l ∈ (lst.set k (chunk p n4 t)).set t (chunk p n4 k), Byt l := fun l hl => by
              rcases List.mem_or_eq_of_mem_set hl with h | rfl
              · rcases List.mem_or_eq_of_mem_set h with h | rfl
                · exact hbyt l h
                · exact byt_chunk Bp.out (by omega) ht
              · exact byt_chunk Bp.out (by omega) hk
            have hB := hB2.trans (hB26.mono hB2.size)
            generalize lst.take k ++ lst.drop (k + 1) = l1 at *
            generalize lst.take (k + 1) ++ lst.drop k = l2 at *
            generalize (lst.set k (chunk p n4 t)).set t (chunk p n4 k) = l3 at *
            have R1 := Lib.hid r1
            have R2 := Lib.hid r2
            have R3 := Lib.hid r3
            have B1 := Lib.hid b1
            have B2 := Lib.hid b2
            have B3 := Lib.hid b3
            have J1 := Lib.hid j1
            have J2 := Lib.hid j2
            have J3 := Lib.hid j3
            have HB := Lib.hid hB
            clear r1 r2 r3 b1 b2 b3 j1 j2 j3 hB hB26 hB6 hT6 hzk hzt hzr hzl hz1 hz2 zs hv2 hall hbyt hchunk hlen ek et e6 e7 e8 e9
            go_wp2_with fail
            refine (join_any _ _ _ l1 w6 R1.out B1.out).mono ?_
            rintro e w7 ⟨a13, n13, c13, rfl, ho13, hb7⟩
            clear ho13
            rw [J1.out]
            go_wp2_with fail
            refine (join_any _ _ _ l2 w7 (R2.out.mono hb7) B2.out).mono ?_
            rintro e w8 ⟨a14, n14, c14, rfl, ho14, hb8⟩
            clear ho14
            rw [J2.out]
            have hb68 := hb7.trans (hb8.mono hb7.size)
            go_wp2_with fail
            refine (join_any _ _ _ l3 w8 (R3.out.mono hb68) B3.out).mono ?_
            rintro e w9 ⟨a15, n15, c15, rfl, ho15, hb9⟩
            clear ho15
            rw [J3.out]
            have hb69 := hb68.trans (hb9.mono hb68.size)
            have hE := HB.out.trans (hb69.mono HB.out.size)
            clear hb7 hb8 hb9 hb68 hb69
            go_wp2_with fail
            refine (awake_any w9).mono ?_
            rintro e w10 ⟨rfl, hb10⟩
            go_wp2
            go_ret
            exact ⟨ret_bool rfl, hE.trans (hb10.mono hE.size)⟩
end Go.Proofs.YtgmcnjnkiblbjaaDoor
