/- Rows of tags with what their cells hold: read, owned; each tag's data. | registry: own, at; a row of tags cloned. | registry: where a tag is, or would be, in a row that rises. -/
import Derived.Test.YtnhcmibngcmebaaDe1
import Derived.Test.YtnhcmibngcmebaaReg10
namespace Go.Proofs.Ytnhcmibngcmebaa
open Go.RowKit Tt
set_option linter.unusedVariables false
set_option linter.unusedSimpArgs false

/-- what the cells of a tag hold, and the tag that it is -/
abbrev Tz := (Int × Int × Int × Option Addr × Nat × Nat) × List Int
abbrev tz0 : Tz := ((0, 0, 0, none, 0, 0), [])
def tag (z : Tz) : Tg := (z.1.1, z.1.2.1, z.1.2.2.1, z.2)
def zcl (z : Tz) : List Value := [.int .i64 z.1.1, .int .i64 z.1.2.1, .int .i64 z.1.2.2.1, .slice z.1.2.2.2.1 z.1.2.2.2.2.1 z.1.2.2.2.2.2]
def zc (zs : List Tz) : List Value := zs.flatMap zcl
theorem zcl_len (z : Tz) : (zcl z).length = 4 := rfl
theorem zc_cons (z : Tz) (r : List Tz) : zc (z :: r) = zcl z ++ zc r := rfl
theorem zc_append (x y : List Tz) : zc (x ++ y) = zc x ++ zc y := by simp [zc]
theorem zc_len : ∀ (zs : List Tz), (zc zs).length = zs.length * 4
  | [] => rfl
  | z :: r => by rw [zc_cons, List.length_append, zc_len r, zcl_len, List.length_cons]; omega
theorem zc_take : ∀ (zs : List Tz) (i : Nat), (zc zs).take (i * 4) = zc (zs.take i)
  | zs, 0 => by simp [zc]
  | [], i + 1 => by simp [zc]
  | z :: r, i + 1 => by
    rw [zc_cons, List.take_succ_cons, zc_cons, ← zc_take r i, List.take_append, zcl_len, List.take_of_length_le (by rw [zcl_len]; omega), show (i + 1) * 4 - 4 = i * 4 by omega]
theorem zc_drop : ∀ (zs : List Tz) (i : Nat), (zc zs).drop (i * 4) = zc (zs.drop i)
  | zs, 0 => by simp
  | [], i + 1 => by simp [zc]
  | z :: r, i + 1 => by
    rw [zc_cons, List.drop_succ_cons, ← zc_drop r i, List.drop_append, zcl_len, List.drop_of_length_le (by rw [zcl_len]; omega), List.nil_append, show (i + 1) * 4 - 4 = i * 4 by omega]
theorem zc_get : ∀ {zs : List Tz} {i j : Nat}, i < zs.length → j < 4 → (zc zs)[i * 4 + j]? = (zcl (zs.getD i tz0))[j]?
  | z :: r, 0, j, _, hj => by rw [zc_cons, List.getElem?_append_left (by rw [zcl_len]; omega), Nat.zero_mul, Nat.zero_add]; rfl
  | z :: r, i + 1, j, hi, hj => by
    rw [zc_cons, List.getElem?_append_right (by rw [zcl_len]; omega), zcl_len, show (i + 1) * 4 + j - 4 = i * 4 + j by omega, zc_get (by simpa using hi) hj]
    rfl
theorem zc_set : ∀ {zs : List Tz} {i j : Nat} {v : Value} {z' : Tz}, j < 4 → (zcl (zs.getD i tz0)).set j v = zcl z' → (zc zs).set (i * 4 + j) v = zc (zs.set i z')
  | [], i, j, v, z', _, _ => rfl
  | z :: r, 0, j, v, z', hj, h => by
    rw [zc_cons, Nat.zero_mul, Nat.zero_add, List.set_append_left _ _ (by rw [zcl_len]; exact hj), List.set_cons_zero, zc_cons, ← h]
    rfl
  | z :: r, i + 1, j, v, z', hj, h => by
    rw [zc_cons, List.set_append_right _ _ (by rw [zcl_len]; omega), zcl_len, show (i + 1) * 4 + j - 4 = i * 4 + j by omega, List.set_cons_succ, zc_cons, zc_set hj (by simpa using h)]
theorem zc_one {zs : List Tz} : ∀ u ∈ zc zs, u.oneCell' = true := by
  intro u hu
  obtain ⟨z, _, hz⟩ := List.mem_flatMap.1 hu
  simp only [zcl, List.mem_cons, List.not_mem_nil, or_false] at hz
  rcases hz with rfl | rfl | rfl | rfl <;> rfl
/-- a tag's data, as they are read; as they are owned -/
def Rd (W : World) (z : Tz) : Prop := Sl W z.1.2.2.2.1 z.1.2.2.2.2.1 z.1.2.2.2.2.2 1 (ints .u8 z.2)
def Ow (B : Nat) (W : World) (z : Tz) : Prop := W.ownsRow B 5 1 (.slice z.1.2.2.2.1 z.1.2.2.2.2.1 z.1.2.2.2.2.2) z.1.2.2.2.2.1 (ints .u8 z.2)
theorem Ow.rd {B : Nat} {W : World} {z : Tz} (h : Ow B W z) : Rd W z := (Sl.of_own h).1
/-- a row of tags that is read -/
structure Tr (W : World) (a : Option Addr) (n c : Nat) (zs : List Tz) : Prop where
  row : Sl W a n c 4 (zc zs)
  each : ∀ z ∈ zs, Rd W z
theorem Tr.len {W : World} {a : Option Addr} {n c : Nat} {zs : List Tz} (h : Tr W a n c zs) : zs.length = n := by
  have := h.row.len
  rw [zc_len] at this
  omega
theorem Tr.mono {W W' : World} {a : Option Addr} {n c : Nat} {zs : List Tz} (h : Tr W a n c zs) (hb : Below W.heap.size W W') : Tr W' a n c zs := ⟨h.row.mono hb, fun z hz => (h.each z hz).mono hb⟩
theorem getD_mem {zs : List Tz} {i : Nat} (hi : i < zs.length) : zs.getD i tz0 ∈ zs := by
  rw [List.getD_eq_getElem?_getD, List.getElem?_eq_getElem hi]; exact List.getElem_mem _
theorem Tr.at {W : World} {a : Option Addr} {n c : Nat} {zs : List Tz} (h : Tr W a n c zs) {k : Nat} (hk : k < n) :
    ∃ b o, a = some ⟨b, o, none⟩ ∧ b < W.heap.size ∧ W.cell? ⟨b, o + k * 4, none⟩ = some (.int .i64 (zs.getD k tz0).1.1) ∧ W.cell? ⟨b, o + k * 4 + 1, none⟩ = some (.int .i64 (zs.getD k tz0).1.2.1) ∧
      W.cell? ⟨b, o + k * 4 + 2, none⟩ = some (.int .i64 (zs.getD k tz0).1.2.2.1) ∧ W.cell? ⟨b, o + k * 4 + 3, none⟩ = some (.slice (zs.getD k tz0).1.2.2.2.1 (zs.getD k tz0).1.2.2.2.2.1 (zs.getD k tz0).1.2.2.2.2.2) ∧ Rd W (zs.getD k tz0) := by
  have hl := h.len
  obtain ⟨b, o, rfl, hb, hc⟩ := h.row.at hk
  have g := fun j hj => zc_get (zs := zs) (i := k) (j := j) (by omega) hj
  exact ⟨b, o, rfl, hb, hc (k * 4 + 0) _ (g 0 (by omega)), hc _ _ (g 1 (by omega)), hc _ _ (g 2 (by omega)), hc _ _ (g 3 (by omega)), h.each _ (getD_mem (by omega))⟩
theorem Tr.ts {W : World} {a : Option Addr} {n c : Nat} {zs : List Tz} (h : Tr W a n c zs) : Ts W a n c (zs.map tag) := by
  have hl := h.len
  refine ⟨⟨zc zs, h.row, fun i hi => ?_⟩, by simp [hl]⟩
  have g := fun j hj => zc_get (zs := zs) (i := i) (j := j) (by omega) hj
  have hg : (zs.map tag).getD i (0, 0, 0, []) = tag (zs.getD i tz0) := by
    rw [List.getD_eq_getElem?_getD, List.getElem?_map, List.getElem?_eq_getElem (by omega), List.getD_eq_getElem?_getD, List.getElem?_eq_getElem (by omega)]; rfl
  rw [hg]
  exact ⟨_, _, _, (by have h0 := g 0 (by omega); rwa [Nat.add_zero] at h0), g 1 (by omega), g 2 (by omega), g 3 (by omega), h.each _ (getD_mem (by omega))⟩
theorem Ts.tr {W : World} {a : Option Addr} {n c : Nat} {ts : List Tg} (h : Ts W a n c ts) : ∃ zs, Tr W a n c zs ∧ zs.map tag = ts := by
  obtain ⟨⟨vs, h1, h2⟩, h3⟩ := h
  have hex : ∀ i, ∃ q : Option Addr × Nat × Nat, i < n → vs[i * 4]? = some (.int .i64 (ts.getD i (0, 0, 0, [])).1) ∧ vs[i * 4 + 1]? = some (.int .i64 (ts.getD i (0, 0, 0, [])).2.1) ∧ vs[i * 4 + 2]? = some (.int .i64 (ts.getD i (0, 0, 0, [])).2.2.1) ∧
      vs[i * 4 + 3]? = some (.slice q.1 q.2.1 q.2.2) ∧ Sl W q.1 q.2.1 q.2.2 1 (ints .u8 (ts.getD i (0, 0, 0, [])).2.2.2) := fun i => by
    by_cases hi : i < n
    · obtain ⟨a', n', c', h4⟩ := h2 i hi; exact ⟨(a', n', c'), fun _ => h4⟩
    · exact ⟨(none, 0, 0), fun h0 => absurd h0 hi⟩
  obtain ⟨q, hq⟩ := Classical.axiomOfChoice hex
  obtain ⟨f, hf⟩ : ∃ f : Nat → Tz, f = fun i => (((ts.getD i (0, 0, 0, [])).1, (ts.getD i (0, 0, 0, [])).2.1, (ts.getD i (0, 0, 0, [])).2.2.1, (q i).1, (q i).2.1, (q i).2.2), (ts.getD i (0, 0, 0, [])).2.2.2) := ⟨_, rfl⟩
  have hvs : vs = zc ((List.range n).map f) := by
    apply List.ext_getElem?
    intro j
    by_cases hj : j < n * 4
    · have g := zc_get (zs := (List.range n).map f) (i := j / 4) (j := j % 4) (by simp; omega) (by omega)
      rw [show j / 4 * 4 + j % 4 = j by omega] at g
      rw [g]
      have hd : ((List.range n).map f).getD (j / 4) tz0 = f (j / 4) := by simp [show j / 4 < n by omega]
      rw [hd, hf]
      obtain ⟨e0, e1, e2, e3, _⟩ := hq (j / 4) (by omega)
      have : j % 4 = 0 ∨ j % 4 = 1 ∨ j % 4 = 2 ∨ j % 4 = 3 := by omega
      rcases this with h | h | h | h
      · rw [h, show j = j / 4 * 4 by omega, e0]
        have : j / 4 * 4 / 4 = j / 4 := by omega
        rw [this]; rfl
      · rw [h, show vs[j]? = vs[j / 4 * 4 + 1]? by congr 1; omega, e1]; rfl
      · rw [h, show vs[j]? = vs[j / 4 * 4 + 2]? by congr 1; omega, e2]; rfl
      · rw [h, show vs[j]? = vs[j / 4 * 4 + 3]? by congr 1; omega, e3]; rfl
    · rw [List.getElem?_eq_none (by rw [h1.len]; omega), List.getElem?_eq_none (by rw [zc_len]; simp; omega)]
  refine ⟨(List.range n).map f, ⟨hvs ▸ h1, fun z hz => ?_⟩, ?_⟩
  · obtain ⟨i, hi, rfl⟩ := List.mem_map.1 hz
    rw [hf]
    exact (hq i (by simpa using hi)).2.2.2.2
  · apply List.ext_getElem (by simp [h3])
    intro i h4 h5
    simp [hf, tag, List.getD_eq_getElem?_getD, h5]
/-- a row of tags that the call owns, and each one's data -/
structure To (B : Nat) (W : World) (a : Option Addr) (n c : Nat) (zs : List Tz) : Prop where
  row : W.ownsRow B 26 4 (.slice a n c) n (zc zs)
  each : ∀ z ∈ zs, Ow B W z
theorem To.tr {B : Nat} {W : World} {a : Option Addr} {n c : Nat} {zs : List Tz} (h : To B W a n c zs) : Tr W a n c zs := ⟨(Sl.of_own h.row).1, fun z hz => (h.each z hz).rd⟩
theorem To.later {B : Nat} {W W' : World} {a : Option Addr} {n c : Nat} {zs : List Tz} (h : To B W a n c zs) (hb : Below W.heap.size W W') : To B W' a n c zs := ⟨own_later h.row hb, fun z hz => own_later (h.each z hz) hb⟩
/-- the data are not in a row of tags -/
theorem Ow.grown {B B' : Nat} {W W' : World} {z : Tz} (h : Ow B W z) {v : Value} {n : Nat} {xs : List Value} (hv : W.ownsRow B' 26 4 v n xs) (hg : W.grownBy W' v.ownBlock) : Ow B W' z :=
  World.ownsRow.kept h hg (own_apart h hv (by decide))
end Go.Proofs.Ytnhcmibngcmebaa

namespace Go.Proofs.Ytnhcmibngcmebaa
open Go.RowKit Tt
set_option linter.unusedVariables false
set_option linter.unusedSimpArgs false

theorem infoB : (Try.prog.info? 5).map (fun i => (i.zero, i.size, i.bytes)) = some (some (.int .u8 0), 1, 1) := by kernel_rfl
section
attribute [local go_sem] Lib.run_eql_slice_nil
set_option maxHeartbeats 1000000 in
theorem bclone_own (a : Option Addr) (n c : Nat) (z : List Int) (w : World) (hs : Sl w a n c 1 (ints .u8 z)) (hl : n ≤ 140737488355328) :
    Calls Try.prog 66 #[.slice a n c] w fun e w' => ∃ a' c', e = .returned (.slice a' n c') ∧ w'.ownsRow w.heap.size 5 1 (.slice a' n c') n (ints .u8 z) ∧ Below w.heap.size w w' := by
  obtain ⟨i0, hi, hz0, hz1, hz2⟩ := info_parts infoB
  cases a with
  | none =>
    have hc := hs.fit rfl
    subst hc
    have hn : n = 0 := by have := hs.le; omega
    subst hn
    have hp : z = [] := List.eq_nil_of_length_eq_zero hs.ilen
    subst hp
    clear hs
    go_enter Try.func66, Try.ntmps66
    go_wp2
    go_ret
    exact ⟨_, _, rfl, own_nil _ _ _ _, Below.refl _ _⟩
  | some ad =>
    have hs' := Lib.hid hs
    clear hs
    go_enter Try.func66, Try.ntmps66
    go_wp2_with (at_builtin; refine wpList_app rfl _ _ 22 rfl w.heap.size 5 i0 _ 1 1 Try.underlying22 hi hz0 hz1 hz2 rfl (by decide) _ 0 [] rfl (own_new w w.heap.size 5 1 0 #[] (Nat.le_refl _) (by unfold maxLen; omega) rfl) _ n c _ rfl (sl_alloc hs'.out _) ints_one (by omega) (by decide) (by simp) ?_; intro a5 c5 w2 ob hb2 hg2; rw [Nat.zero_add] at ob ⊢; rw [List.nil_append] at ob; clear hg2; have Ob := Lib.hid ob; have Hb2 := Lib.hid (((Below.refl _ _).alloc (Nat.le_refl _) _).trans hb2); clear ob hb2)
    go_ret
    exact ⟨_, _, rfl, Ob.out, Hb2.out⟩
set_option maxHeartbeats 1000000 in
theorem tclone_any (a : Option Addr) (n c : Nat) (zs : List Tz) (w : World) (hs : Sl w a n c 4 (zc zs)) (hl : n ≤ 1000000) :
    Calls Try.prog 65 #[.slice a n c] w fun e w' => ∃ a' c', e = .returned (.slice a' n c') ∧ w'.ownsRow w.heap.size 26 4 (.slice a' n c') n (zc zs) ∧ Below w.heap.size w w' := by
  obtain ⟨i0, z0, hi, hz, hz1, hz2, hz3⟩ := infoT_parts
  cases a with
  | none =>
    have hc := hs.fit rfl
    subst hc
    have hn : n = 0 := by have := hs.le; omega
    subst hn
    have hp : zs = [] := List.eq_nil_of_length_eq_zero (by have := hs.len; rw [zc_len] at this; omega)
    subst hp
    clear hs
    go_enter Try.func65, Try.ntmps65
    go_wp2
    go_ret
    exact ⟨_, _, rfl, own_nil _ _ _ _, Below.refl _ _⟩
  | some ad =>
    have hs' := Lib.hid hs
    clear hs
    go_enter Try.func65, Try.ntmps65
    go_wp2_with (at_builtin; refine wpList_app rfl _ _ 27 rfl w.heap.size 26 i0 z0 4 48 Try.underlying27 hi hz hz1 hz2 hz3 (by decide) _ 0 [] rfl (own_new w w.heap.size 26 4 0 #[] (Nat.le_refl _) (by unfold maxLen; omega) rfl) _ n c _ rfl (sl_alloc hs'.out _) zc_one (by omega) (by decide) (by simp) ?_; intro a5 c5 w2 ob hb2 hg2; rw [Nat.zero_add] at ob ⊢; rw [List.nil_append] at ob; clear hg2; have Ob := Lib.hid ob; have Hb2 := Lib.hid (((Below.refl _ _).alloc (Nat.le_refl _) _).trans hb2); clear ob hb2)
    go_ret
    exact ⟨_, _, rfl, Ob.out, Hb2.out⟩
end
set_option maxHeartbeats 1000000 in
theorem own_any (y k : Int) (a : Option Addr) (n c : Nat) (d : List Int) (w : World) (hs : Sl w a n c 1 (ints .u8 d)) (hl : n ≤ 1000000) :
    Calls Try.prog 43 #[.agg #[.int .i64 y, .int .i64 k, .slice a n c]] w fun e w' => ∃ a' c', e = .returned (.agg #[.int .i64 y, .int .i64 k, .slice a' n c']) ∧ w'.ownsRow w.heap.size 5 1 (.slice a' n c') n (ints .u8 d) ∧ Below w.heap.size w w' := by
  have hs' := Lib.hid hs
  clear hs
  go_enter Try.func43, Try.ntmps43
  go_wp2_with fail
  have hb := ((Below.refl w.heap.size w).alloc (Nat.le_refl _) (.cells #[.int .i64 y, .int .i64 k, .slice a n c] 24)).alloc (by simp) (.cells #[.int .i64 0, .int .i64 0, .slice none 0 0] 24)
  refine (bclone_own a n c d _ (hs'.out.mono hb) (by omega)).mono ?_
  rintro e w2 ⟨a5, c5, rfl, ho, hb2⟩
  have hbb := hb.trans (hb2.mono hb.size)
  have b0 : Blk w2 w.heap.size 24 #[.int .i64 y, .int .i64 k, .slice a n c] := Blk.late ((heap_old _ _ (by simp)).trans (heap_new _ _)) hb2
  have b1 : Blk w2 (w.heap.size + 1) 24 #[.int .i64 0, .int .i64 0, .slice none 0 0] := Blk.late (heap_new' _ _ (by simp)) hb2
  have p0 : w2.cell? ⟨w.heap.size, 0, none⟩ = some (.int .i64 y) := b0.cell rfl
  have p1 : w2.cell? ⟨w.heap.size, 1, none⟩ = some (.int .i64 k) := b0.cell rfl
  have p2 : w2.cell? ⟨w.heap.size, 2, none⟩ = some (.slice a n c) := b0.cell rfl
  have z2 : w2.frozen? ⟨w.heap.size, 2, none⟩ = false := b0.frozen 2
  have q0 : w2.cell? ⟨w.heap.size + 1, 0, none⟩ = some (.int .i64 0) := b1.cell rfl
  have q1 : w2.cell? ⟨w.heap.size + 1, 1, none⟩ = some (.int .i64 0) := b1.cell rfl
  have q2 : w2.cell? ⟨w.heap.size + 1, 2, none⟩ = some (.slice none 0 0) := b1.cell rfl
  have y0 := b1.frozen 0
  have y1 := b1.frozen 1
  have y2 := b1.frozen 2
  simp only [World.size_alloc] at ho
  have hb' := Lib.hid hb
  have hb2' := Lib.hid hb2
  have hbb' := Lib.hid hbb
  have b0' := Lib.hid b0
  have b1' := Lib.hid b1
  have ho' := Lib.hid ho
  clear hb hb2 hbb b0 b1 ho
  go_wp2_with fail
  refine bodyPost_ret (results_cell_row rfl _ _ (w.heap.size + 1) 24 #[.int .i64 y, .int .i64 k, .slice a5 n c5] (0, 0) _ rfl ((b1'.out.set_other (by omega) 2 _).set3 _ _ _) Try.underlying24 rfl (by kernel_rfl)) rfl ?_
  refine ⟨_, _, rfl, ?_, ?_⟩
  · exact own_mono (own_set3 (own_set_other ho'.out (by omega) 2 _) (by omega) _ _ _) (by omega)
  · exact below_set3 (hbb'.out.setCell (p := ⟨w.heap.size, 2, none⟩) (Nat.le_refl _) _) (by omega) _ _ _

def cmpS (a b : Int) : Int := if a < b then -1 else if b < a then 1 else 0
theorem cmp_any (a b : Int) (w : World) : Calls Try.prog 69 #[.int .i64 a, .int .i64 b] w fun e w' => e = .returned (.int .i64 (cmpS a b)) ∧ w = w' := by
  have hn : ∀ (x : Int) (W : World), Calls Try.prog 82 #[.int .i64 x] W fun e w' => e = .returned (.bool false) ∧ W = w' := fun x W => by
    have hx : (x != x) = false := by simp
    go_enter Try.func82, Try.ntmps82
    go_wp2
    go_ret
    exact ⟨rfl, rfl⟩
  have hn' := Lib.hid hn
  clear hn
  unfold cmpS
  by_cases h1 : a < b
  · have d1 : decide (a < b) = true := by simp; omega
    rw [if_pos h1]
    go_enter Try.func69, Try.ntmps69
    go_wp2_with (go_at_call 82; refine (hn'.out _ _).mono ?_; rintro e w' ⟨rfl, rfl⟩)
    go_ret
    exact ⟨rfl, rfl⟩
  · have d1 : decide (a < b) = false := by simp; omega
    rw [if_neg h1]
    by_cases h2 : b < a
    · have d2 : decide (b < a) = true := by simp; omega
      rw [if_pos h2]
      go_enter Try.func69, Try.ntmps69
      go_wp2_with (go_at_call 82; refine (hn'.out _ _).mono ?_; rintro e w' ⟨rfl, rfl⟩)
      go_ret
      exact ⟨rfl, rfl⟩
    · have d2 : decide (b < a) = false := by simp; omega
      rw [if_neg h2]
      go_enter Try.func69, Try.ntmps69
      go_wp2_with (go_at_call 82; refine (hn'.out _ _).mono ?_; rintro e w' ⟨rfl, rfl⟩)
      go_ret
      exact ⟨rfl, rfl⟩
theorem at1_any (x1 x2 x3 : Int) (xa : Option Addr) (xn xc : Nat) (t : Int) (w : World) : Calls Try.prog 68 #[.agg #[.int .i64 x1, .int .i64 x2, .int .i64 x3, .slice xa xn xc], .int .i64 t] w fun e w' => e = .returned (.int .i64 (cmpS x1 t)) ∧ Below w.heap.size w w' := by
  go_enter Try.func68, Try.ntmps68
  go_wp2_with (go_at_call 69; refine (cmp_any _ _ _).mono ?_; rintro e w' ⟨rfl, rfl⟩)
  go_ret
  exact ⟨rfl, (Below.refl _ _).alloc (Nat.le_refl _) _⟩
end Go.Proofs.Ytnhcmibngcmebaa

namespace Go.Proofs.Ytnhcmibngcmebaa
open Go.RowKit Tt
set_option linter.unusedVariables false
set_option linter.unusedSimpArgs false

def key (zs : List Tz) (i : Nat) : Int := (zs.getD i tz0).1.1
/-- a place in a row: all ahead are less, none from there on is -/
structure Pos (zs : List Tz) (t : Int) (k : Nat) : Prop where
  le : k ≤ zs.length
  lo : ∀ i, i < k → key zs i < t
  hi : ∀ i, k ≤ i → i < zs.length → t ≤ key zs i
def isB (zs : List Tz) (t : Int) (k : Nat) : Bool := decide (k < zs.length) && decide (key zs k = t)
theorem rise_lt {zs : List Tz} {n : Nat} (hr : ∀ i, i + 1 < n → key zs i < key zs (i + 1)) {i : Nat} : ∀ {j : Nat}, i < j → j < n → key zs i < key zs j
  | j + 1, h1, h2 => by
    rcases Nat.lt_or_ge i j with h | h
    · have := rise_lt hr h (by omega)
      have := hr j h2
      omega
    · obtain rfl : i = j := by omega
      exact hr i h2
theorem cmpS_lt {a b : Int} (h : a < b) : cmpS a b = -1 := if_pos h
theorem cmpS_eq {a : Int} : cmpS a a = 0 := by unfold cmpS; simp
theorem cmpS_gt {a b : Int} (h : b < a) : cmpS a b = 1 := by unfold cmpS; rw [if_neg (by omega), if_pos h]

set_option maxRecDepth 20000 in
set_option maxHeartbeats 4000000 in
theorem bs_any (a : Option Addr) (n c : Nat) (zs : List Tz) (t : Int) (w : World) (hs : Tr w a n c zs) (hr : ∀ i, i + 1 < n → key zs i < key zs (i + 1)) (hl : n ≤ 1000000) :
    Calls Try.prog 67 #[.slice a n c, .int .i64 t, .func (.func 68) #[] #[]] w fun e w' => ∃ k : Nat, Pos zs t k ∧ e = .returned (.tuple #[.int .i64 k, .bool (isB zs t k)]) ∧ Below w.heap.size w w' := by
  have hzl := hs.len
  have hs' := Lib.hid hs
  have hr' := Lib.hid hr
  have hzl' := Lib.hid hzl
  clear hs hr hzl
  go_enter Try.func67, Try.ntmps67
  go_wp2
  go_loopw [9, 10] (fun iv jv wr => ∃ i j : Nat, i ≤ j ∧ j ≤ n ∧ iv = .int .i64 i ∧ jv = .int .i64 j ∧ Hid (∀ l, l < i → key zs l < t) ∧ Hid (∀ l, j ≤ l → l < n → t ≤ key zs l) ∧ Hid (Below w.heap.size w wr)) (fun iv jv _ => (intOf jv).toNat - (intOf iv).toNat)
  case atStart => exact ⟨0, n, by omega, by omega, rfl, rfl, Lib.hid (fun l hl => by omega), Lib.hid (fun l h1 h2 => by omega), Lib.hid (Below.refl _ _)⟩
  case round =>
    obtain ⟨i, j, hij, hjn, rfl, rfl, hlo, hhi, hb⟩ := hrel
    by_cases hlt : i < j
    · obtain ⟨h, hh⟩ : ∃ h : Nat, h = (i + j) / 2 := ⟨_, rfl⟩
      have hh1 : i ≤ h := by omega
      have hh2 : h < j := by omega
      have hh3 : h < n := by omega
      have hlti : (i : Int) < (j : Int) := by omega
      have hhn : (h : Int) < (n : Int) := by omega
      have hw1 : IntKind.i64.wrap ((i : Int) + j) = i + j := by rw [IntKind.wrap_i64]; omega
      have hw2 : IntKind.u64.wrap ((i : Int) + j) = i + j := by rw [IntKind.wrap_u64]; omega
      have hw3 : ((i : Int) + j) / 2 = (h : Int) := by omega
      have hw4 : IntKind.i64.wrap (h : Int) = h := by rw [IntKind.wrap_i64]; omega
      have hw5 : IntKind.i64.wrap ((h : Int) + 1) = h + 1 := by rw [IntKind.wrap_i64]; omega
      obtain ⟨b, o, rfl, hbb, f0, f1, f2, f3, _⟩ := (hs'.out.mono hb.out).at hh3
      have hkey : key zs h = (zs.getD h tz0).1.1 := rfl
      generalize (zs.getD h tz0).1.2.1 = x1 at *
      generalize (zs.getD h tz0).1.2.2.1 = x2 at *
      generalize (zs.getD h tz0).1.2.2.2.1 = x3 at *
      generalize (zs.getD h tz0).1.2.2.2.2.1 = x4 at *
      generalize (zs.getD h tz0).1.2.2.2.2.2 = x5 at *
      generalize (zs.getD h tz0).1.1 = x0 at *
      have hC := fun W => at1_any x0 x1 x2 x3 x4 x5 t W
      have hnew : (x0 < t → ∀ l, l < h + 1 → key zs l < t) ∧ (t ≤ x0 → ∀ l, h ≤ l → l < n → t ≤ key zs l) := by
        refine ⟨fun hx l hl => ?_, fun hx l h1 h2 => ?_⟩
        · rcases Nat.lt_or_ge l h with h3 | h3
          · have := rise_lt hr'.out h3 hh3; omega
          · obtain rfl : l = h := by omega
            omega
        · rcases Nat.lt_or_ge h l with h3 | h3
          · have := rise_lt hr'.out h3 h2; omega
          · obtain rfl : l = h := by omega
            omega
      by_cases hx : x0 < t
      · rw [cmpS_lt hx] at hC
        have hl := Lib.hid (hnew.1 hx)
        have hC' := Lib.hid hC
        have hkey' := Lib.hid hkey
        have hh' := Lib.hid hh
        clear hC hkey hh
        clear hnew
        go_wp2_with (go_at_call 68; refine (hC'.out _).mono ?_; rintro e w2 ⟨rfl, hb2⟩; have HB := Lib.hid (hb.out.trans (hb2.mono hb.out.size)); clear hb2)
        go_roundw
        case rel => exact ⟨h + 1, j, by omega, hjn, by go_num, rfl, hl, hhi, HB⟩
        case measure => simp [intOf]; omega
      · have hr2 := Lib.hid (hnew.2 (by omega))
        have hc2 : decide (cmpS x0 t < 0) = false := by
          unfold cmpS; rw [if_neg hx]; split <;> rfl
        obtain ⟨q, hq⟩ : ∃ q, cmpS x0 t = q := ⟨_, rfl⟩
        rw [hq] at hC hc2
        have hC' := Lib.hid hC
        have hkey' := Lib.hid hkey
        have hh' := Lib.hid hh
        have hq' := Lib.hid hq
        clear hC hkey hh hq
        clear hnew
        go_wp2_with (go_at_call 68; refine (hC'.out _).mono ?_; rintro e w2 ⟨rfl, hb2⟩; have HB := Lib.hid (hb.out.trans (hb2.mono hb.out.size)); clear hb2)
        go_roundw
        case rel => exact ⟨i, h, by omega, by omega, rfl, rfl, hlo, hr2, HB⟩
        case measure => simp [intOf]; omega
    · obtain rfl : i = j := by omega
      have hpos := Lib.hid (show Pos zs t i from ⟨by rw [hzl'.out]; exact hjn, hlo.out, fun l h1 h2 => hhi.out l h1 (by rw [← hzl'.out]; exact h2)⟩)
      by_cases hin : i < n
      · obtain ⟨b, o, rfl, hbb, f0, f1, f2, f3, _⟩ := (hs'.out.mono hb.out).at hin
        have hkey : key zs i = (zs.getD i tz0).1.1 := rfl
        generalize (zs.getD i tz0).1.2.1 = x1 at *
        generalize (zs.getD i tz0).1.2.2.1 = x2 at *
        generalize (zs.getD i tz0).1.2.2.2.1 = x3 at *
        generalize (zs.getD i tz0).1.2.2.2.2.1 = x4 at *
        generalize (zs.getD i tz0).1.2.2.2.2.2 = x5 at *
        generalize (zs.getD i tz0).1.1 = x0 at *
        have hC := fun W => at1_any x0 x1 x2 x3 x4 x5 t W
        have hlti : (i : Int) < (n : Int) := by omega
        have hge := hhi.out i (Nat.le_refl _) hin
        rw [hkey] at hge
        by_cases hx : x0 = t
        · have hisB : isB zs t i = true := by unfold isB; rw [hkey, hzl'.out]; simp [hin, hx]
          rw [hx, cmpS_eq] at hC
          rw [hx] at f0
          have hC' := Lib.hid hC
          have hkey' := Lib.hid hkey
          have hisB' := Lib.hid hisB
          have hx' := Lib.hid hx
          clear hC hkey hisB hx
          clear hge
          go_wp2_with (go_at_call 68; refine (hC'.out _).mono ?_; rintro e w2 ⟨rfl, hb2⟩; have HB := Lib.hid (hb.out.trans (hb2.mono hb.out.size)); clear hb2)
          go_ret2
          exact ⟨i, hpos.out, (by rw [hisB'.out]; rfl), HB.out⟩
        · have hisB : isB zs t i = false := by unfold isB; rw [hkey, hzl'.out]; simp [hx]
          rw [cmpS_gt (by omega)] at hC
          have hC' := Lib.hid hC
          have hkey' := Lib.hid hkey
          have hisB' := Lib.hid hisB
          have hx' := Lib.hid hx
          clear hC hkey hisB hx
          clear hge
          go_wp2_with (go_at_call 68; refine (hC'.out _).mono ?_; rintro e w2 ⟨rfl, hb2⟩; have HB := Lib.hid (hb.out.trans (hb2.mono hb.out.size)); clear hb2)
          go_ret2
          exact ⟨i, hpos.out, (by rw [hisB'.out]; rfl), HB.out⟩
      · have hd : decide ((i : Int) < (n : Int)) = false := by simp; omega
        have hd' : decide (i < n) = false := by simp; omega
        have hisB : isB zs t i = false := by unfold isB; rw [hzl'.out]; simp [hin]
        have hisB' := Lib.hid hisB
        clear hisB
        go_wp2
        go_ret2
        exact ⟨i, hpos.out, (by rw [hisB'.out]; rfl), hb.out⟩
theorem at_any (a : Option Addr) (n c : Nat) (zs : List Tz) (t : Int) (w : World) (hs : Tr w a n c zs) (hr : ∀ i, i + 1 < n → key zs i < key zs (i + 1)) (hl : n ≤ 1000000) :
    Calls Try.prog 44 #[.slice a n c, .int .i64 t] w fun e w' => ∃ k : Nat, Pos zs t k ∧ e = .returned (.tuple #[.int .i64 k, .bool (isB zs t k)]) ∧ Below w.heap.size w w' := by
  have hB := bs_any a n c zs t w hs hr hl
  have hB' := Lib.hid hB
  have hs' := Lib.hid hs
  have hr' := Lib.hid hr
  clear hB hs hr
  go_enter Try.func44, Try.ntmps44
  go_wp2_with fail
  refine hB'.out.mono ?_
  rintro e w2 ⟨k, hp, rfl, hb⟩
  obtain ⟨r, hr2⟩ : ∃ r, isB zs t k = r := ⟨_, rfl⟩
  rw [hr2]
  have hp' := Lib.hid hp
  have hb' := Lib.hid hb
  have hr2' := Lib.hid hr2
  clear hp hb hr2
  go_wp2
  go_ret2
  exact ⟨k, hp'.out, (by rw [hr2'.out]; rfl), hb'.out⟩
end Go.Proofs.Ytnhcmibngcmebaa
