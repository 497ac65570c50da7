/- Chapter 14: quantisation tables' bytes: the document. -/
import Derived.Test.YtpjopeojeglogaaCa30
namespace Go.Proofs.Ytpjopeojeglogaa
open Go.RowKit Tt
set_option linter.unusedVariables false
set_option linter.unusedSimpArgs false

theorem own_neB {w : World} {B : Nat} {E T : TypeId} {sz : Nat} {v : Value} {n g : Nat} {xs : List Value} {cs : Array Value} (h : w.ownsRow B E sz v n xs) (hb : Blk w g T cs) (hE : E ≠ T) : v.ownBlock ≠ some g := fun e => by
  rcases h.2 with ⟨rfl, _⟩ | ⟨g', cap, cur, rfl, _, hg, _⟩
  · cases e
  · injection e with e
    obtain rfl : g' = g := e; unfold Blk at hb; rw [hg] at hb; injection hb with hb; injection hb with _ h2 _; exact hE h2
theorem blk_grown {w w' : World} {row : Option Nat} {g : Nat} {T : TypeId} {cs : Array Value} (h : Blk w g T cs) (hg : w.grownBy w' row) (hne : row ≠ some g) : Blk w' g T cs := (hg.block g h.lt (Ne.symm hne)).trans h
def RPay (w : World) (r : Option (List Int)) (e : Ending) (w' : World) : Prop :=
  Below w.heap.size w w' ∧ match r with
  | none => e = .returned (.tuple #[.slice none 0 0, .bool false])
  | some b => ∃ a n c, e = .returned (.tuple #[.slice a n c, .bool true]) ∧ w'.ownsRow w.heap.size 5 1 (.slice a n c) n (ints .u8 b)
set_option maxRecDepth 100000 in
set_option maxHeartbeats 4000000 in
theorem rquants_any (a : Option Addr) (n c : Nat) (qs : List Qt64) (w : World) (hs : QsR w a n c qs) (hn : n ≤ 100) :
    Calls Try.prog 36 #[.slice a n c] w (RPay w (allW qOk qW qs)) := by
  obtain ⟨i0, hi, hz0, hz1, hz2⟩ := info_parts info8; have hl := hs.ilen; obtain ⟨R, hR⟩ : ∃ R, allW qOk qW qs = R := ⟨_, rfl⟩; rw [hR]; have hs' := Lib.hid hs; have hl' := Lib.hid hl; have hR' := Lib.hid hR; clear hs hl hR
  go_enter Try.func36, Try.ntmps36
  go_wp2
  go_loopw [4, 5, 6, 7] (fun bv iv _ _ wr => ∃ (k m : Nat) (a3 : Option Addr) (c3 : Nat), k ≤ n ∧ m ≤ 65 * k ∧ iv = .int .i64 k ∧ bv = .slice a3 m c3 ∧ Hid (m = 65 * k) ∧ Hid (∀ (j : Nat) (x : Qt64), j < k → qs[j]? = some x → qOk x = true) ∧ Hid (wr.ownsRow w.heap.size 5 1 (.slice a3 m c3) m (ints .u8 (flatW qW qs k))) ∧ Hid (Below w.heap.size w wr)) (fun _ iv _ _ _ => n - (intOf iv).toNat)
  case atStart => exact ⟨0, 0, none, 0, by omega, by omega, rfl, rfl, Lib.hid rfl, Lib.hid (fun j x h => by omega), Lib.hid (own_nil _ _ _ _), Lib.hid (Below.refl _ _)⟩
  case round =>
    obtain ⟨k, m, a3, c3, hk, hm, rfl, rfl, hmk, hall, Ob, hbel⟩ := hrel; have hmb : m ≤ 6500 := by omega
    have hm' := Lib.hid hm; clear hm
    by_cases hlt : k < n
    · obtain ⟨q, hq⟩ : ∃ q, qs[k]? = some q := ⟨_, List.getElem?_eq_getElem (by rw [hl'.out]; exact hlt)⟩
      obtain ⟨bb, o, rfl, hbb, fw⟩ := hs'.out.elem hq; have f := fun j v hv => (hbel.out.cell (p := ⟨bb, o + k * 65 + j, none⟩) hbb).trans (fw j v hv); have hql := hs'.out.len q (List.mem_of_getElem? hq); have hfl := flatW_snoc (f := qW) hq; have hqk : qOk q = (decide (0 ≤ q.1 ∧ q.1 ≤ 3) && within q.2 1 255) := rfl; obtain ⟨x, t⟩ := q; simp only at hql hqk; have f0 : wr.cell? ⟨bb, o + k * 65, none⟩ = some (.int .i64 x) := f 0 _ rfl
      have fs : ∀ j v, (ints .i64 t)[j]? = some v → wr.cell? ⟨bb, o + k * 65 + 1 + j, none⟩ = some v := fun j v hv => by
        have := f (j + 1) v hv
        rwa [show o + k * 65 + (j + 1) = o + k * 65 + 1 + j by omega] at this
      obtain ⟨T, hT⟩ : ∃ T, (ints .i64 t).toArray = T := ⟨_, rfl⟩; have HW := rwithin_any t T hT 1 255 wr hql; have hl64 : (ints .i64 t).length = 64 := by rw [ints_len]; exact hql
      obtain ⟨r, hr⟩ : ∃ r, within t 1 255 = r := ⟨_, rfl⟩; rw [hr] at HW hqk
      by_cases c1 : x < 0
      · obtain rfl : R = none := by rw [← hR'.out]; exact allW_no hq (by rw [hqk, decide_eq_false (by omega)]; rfl)
        clear f; have hfl' := Lib.hid hfl; have hqk' := Lib.hid hqk; have hq' := Lib.hid hq; have fs' := Lib.hid fs; have hT' := Lib.hid hT; have HW' := Lib.hid HW; have hl64' := Lib.hid hl64; have hr' := Lib.hid hr; have hql' := Lib.hid hql; clear hfl hqk hq fs hT HW hl64 hr hql
        go_wp2
        go_ret2
        exact ⟨hbel.out, rfl⟩
      by_cases c2 : 3 < x
      · obtain rfl : R = none := by rw [← hR'.out]; exact allW_no hq (by rw [hqk, decide_eq_false (by omega)]; rfl)
        clear f; have hfl' := Lib.hid hfl; have hqk' := Lib.hid hqk; have hq' := Lib.hid hq; have fs' := Lib.hid fs; have hT' := Lib.hid hT; have HW' := Lib.hid HW; have hl64' := Lib.hid hl64; have hr' := Lib.hid hr; have hql' := Lib.hid hql; clear hfl hqk hq fs hT HW hl64 hr hql
        go_wp2
        go_ret2
        exact ⟨hbel.out, rfl⟩
      have hqk2 : qOk (x, t) = r := by rw [hqk, decide_eq_true (by omega)]; rfl
      clear f; have hfl' := Lib.hid hfl; have hqk' := Lib.hid hqk; have hq' := Lib.hid hq; have fs' := Lib.hid fs; have hT' := Lib.hid hT; have HW' := Lib.hid HW; have hl64' := Lib.hid hl64; have hr' := Lib.hid hr; have hql' := Lib.hid hql; have hqk2' := Lib.hid hqk2; clear hfl hqk hq fs hT HW hl64 hr hql hqk2
      go_wp2_with (refine wpList_load_atW rfl 129 (.tmp 32) rfl bb (o + k * 65 + 1) rfl (ints .i64 t) T hT'.out _ fs'.out Try.underlying129 rfl 64 infoB64 hl64'.out ?_)
      refine HW'.out.mono ?_; rintro e w2 ⟨rfl, hb2⟩; have hbw2 := hbel.out.trans (hb2.mono hbel.out.size); have Ob2 := own_later Ob.out hb2
      cases r with
      | false =>
        obtain rfl : R = none := by rw [← hR'.out]; exact allW_no hq'.out hqk2'.out
        clear hb2; have hbw2' := Lib.hid hbw2; have Ob2' := Lib.hid Ob2; clear hbw2 Ob2
        go_wp2
        go_ret2
        exact ⟨hbw2'.out, rfl⟩
      | true =>
        have g0 : w2.cell? ⟨bb, o + k * 65, none⟩ = some (.int .i64 x) := (hbw2.cell (p := ⟨bb, o + k * 65, none⟩) hbb).trans (fw 0 _ rfl); have hsz2 := hbw2.size
        have fws : ∀ W, Below w.heap.size w W → ∀ j v, (ints .i64 t)[j]? = some v → W.cell? ⟨bb, o + k * 65 + 1 + j, none⟩ = some v := fun W hW j v hv => by
          have := fw (j + 1) v hv; rw [show o + k * 65 + (j + 1) = o + k * 65 + 1 + j by omega] at this; exact (hW.cell (p := ⟨bb, o + k * 65 + 1 + j, none⟩) hbb).trans this
        have hgx : x % 256 = x := by omega
        clear hb2 f0 fw; have hbw2' := Lib.hid hbw2; have Ob2' := Lib.hid Ob2; have hsz2' := Lib.hid hsz2; have fws' := Lib.hid fws; clear hbw2 Ob2 hsz2 fws
        go_upto_region 8 with (at_builtin; refine wpList_app rfl _ _ 30 rfl w.heap.size 5 i0 _ 1 1 Try.underlying30 hi hz0 hz1 hz2 rfl (by decide) _ m _ rfl (World.ownsRow.alloc Ob2'.out _) _ 1 1 _ rfl (Sl.new w2 5 1 1 #[.int .u8 x] (0, 0) (by omega) rfl) (by simp [Value.oneCell']) (by omega) (by decide) (by have := hsz2'.out; simp; omega) ?_; intro a5 c5 w5 ob5 hb5 hg5; have Ob5 := Lib.hid ob5; have Hb5 := Lib.hid ((hbw2'.out.alloc hsz2'.out (.cells #[.int .u8 x] 5)).trans hb5); clear ob5 hb5 hg5)
        clear hgx g0; have fs5 := fws'.out w5 Hb5.out; have HT5 := rto_any t T hT'.out w5 hql'.out; obtain ⟨Z, hZ⟩ : ∃ Z, (ints .i64 (toZ t)).toArray = Z := ⟨_, rfl⟩; rw [hZ] at HT5; have hZ64 : Z.size = 64 := by rw [← hZ]; exact ints_size (toZ_len t)
        have hZone : Z.all (·.oneCell') = true := by rw [← hZ]; exact ints_one'
        have fs5' := Lib.hid fs5; have HT5' := Lib.hid HT5; have hZ' := Lib.hid hZ; have hZ64' := Lib.hid hZ64; have hZone' := Lib.hid hZone; clear fs5 HT5 hZ hZ64 hZone
        go_wp2_with (refine wpList_load_at rfl 129 (.tmp 49) rfl bb (o + k * 65 + 1) rfl (ints .i64 t) T hT'.out _ fs5'.out Try.underlying129 rfl 64 infoB64 hl64'.out ?_)
        refine HT5'.out.mono ?_; rintro e w6 ⟨rfl, hb6⟩; have hbw6 := Hb5.out.trans (hb6.mono Hb5.out.size); have Ob6 := own_later Ob5.out hb6; have b6 : B64 (w6.alloc (.cells Z 129)) w6.heap.size 129 (toZ t) := ⟨toZ_len t, by rw [hZ'.out]; exact Blk.new w6 129 Z⟩; have hal6 := (Below.refl w6.heap.size w6).alloc (Nat.le_refl _) (.cells Z 129); have Ob7 := own_later Ob6 hal6; have hbw7 := hbw6.trans (hal6.mono hbw6.size); obtain ⟨w7, hw7⟩ : ∃ w7, w6.alloc (.cells Z 129) = w7 := ⟨_, rfl⟩; rw [hw7] at b6 Ob7 hbw7; clear hb6 hal6; have hbw6' := Lib.hid hbw6; have Ob6' := Lib.hid Ob6; have b6' := Lib.hid b6; have Ob7' := Lib.hid Ob7; have hbw7' := Lib.hid hbw7; have hw7' := Lib.hid hw7; clear hbw6 Ob6 b6 Ob7 hbw7 hw7
        go_upto_region 9 with (refine wpList_store_row rfl 129 (.tmp 6) (.tmp 51) rfl w6.heap.size Z rfl rfl 129 _ (heap_new _ _) (by rw [hZ64'.out]; exact infoB64) (by rw [hZ64'.out]; rfl) hZone'.out ?_)
        rw [setRow_alloc, hw7'.out]; have hkd : decide ((k : Int) < n) = true := by simp; omega
        go_wp2
        go_loopw [4, 7] (fun bv jv wr => ∃ (j : Nat) (a3 : Option Addr) (c3 : Nat), j ≤ 64 ∧ jv = .int .i64 j ∧ bv = .slice a3 (m + 1 + j) c3 ∧ Hid (wr.ownsRow w.heap.size 5 1 (.slice a3 (m + 1 + j) c3) (m + 1 + j) (ints .u8 (flatW qW qs k ++ (x :: (toZ t).take j)))) ∧ Hid (B64 wr w6.heap.size 129 (toZ t)) ∧ Hid (Below w.heap.size w wr)) (fun _ jv _ => 64 - (intOf jv).toNat)
        case atStart => exact ⟨0, a5, c5, by omega, rfl, rfl, Lib.hid (by rw [ints_append]; exact Ob7'.out), b6', hbw7'⟩
        case round =>
          obtain ⟨j, a3, c3, hj, rfl, rfl, Ob, hB6, hbel⟩ := hrel; have hsz8 := hbel.out.size
          by_cases hjl : j < 64
          · obtain ⟨y, hy⟩ : ∃ y, (toZ t)[j]? = some y := ⟨_, List.getElem?_eq_getElem (by rw [toZ_len]; exact hjl)⟩
            have hyd : (toZ t).getD j 0 = y := by rw [List.getD_eq_getElem?_getD, hy]; rfl
            have f8 := hB6.out.cell hjl; rw [hyd] at f8
            have hyb : 1 ≤ y ∧ y ≤ 255 := by
              have h1 : within (toZ t) 1 255 = true := by rw [within_toZ hql'.out]; exact hr'.out
              have h2 := List.all_eq_true.1 h1 y (List.mem_of_getElem? hy)
              rwa [decide_eq_true_eq] at h2
            obtain ⟨hy1, hy2⟩ := hyb; have hyw : y % 256 = y := by omega
            have hsn : flatW qW qs k ++ (x :: (toZ t).take (j + 1)) = (flatW qW qs k ++ (x :: (toZ t).take j)) ++ [y] := by
              rw [List.take_add_one, hy]
              simp
            have hne := own_neB (Ob.out.alloc (.cells #[.int .u8 y] 5)) (hB6.out.2.alloc (.cells #[.int .u8 y] 5)) (by decide); have hy' := Lib.hid hy; have hyd' := Lib.hid hyd; have hsn' := Lib.hid hsn; have hsz8' := Lib.hid hsz8; have hne' := Lib.hid hne; clear hy hyd hsn hsz8 hne
            go_wp2_with (at_builtin; refine wpList_app rfl _ _ 30 rfl w.heap.size 5 i0 _ 1 1 Try.underlying30 hi hz0 hz1 hz2 rfl (by decide) _ (m + 1 + j) _ rfl (World.ownsRow.alloc Ob.out _) _ 1 1 _ rfl (Sl.new wr 5 1 1 #[.int .u8 y] (0, 0) (by omega) rfl) (by simp [Value.oneCell']) (by omega) (by decide) (by have := hsz8'.out; simp; omega) ?_; intro a6 c6 w8 ob8 hb8 hg8; have Ob8 := Lib.hid ob8; have Hb8 := Lib.hid ((hbel.out.alloc hsz8'.out (.cells #[.int .u8 y] 5)).trans hb8); have B8 := Lib.hid (show B64 w8 w6.heap.size 129 (toZ t) from ⟨hB6.out.1, blk_grown (hB6.out.2.alloc (.cells #[.int .u8 y] 5)) hg8 hne'.out⟩); clear ob8 hb8 hg8)
            clear hyw
            go_roundw
            case rel => exact ⟨j + 1, a6, c6, by omega, by go_num, rfl, Lib.hid (by rw [hsn'.out, ints_append]; exact Ob8.out), B8, Hb8⟩
            case measure => simp [intOf]; omega
          · have hj64 : j = 64 := by omega
            have Ob9 := Ob.out; rw [hj64, List.take_of_length_le (by rw [toZ_len]; exact Nat.le_refl _), show x :: toZ t = qW (x, t) from rfl, ← hfl'.out] at Ob9
            have hall2 : ∀ (j : Nat) (y : Qt64), j < k + 1 → qs[j]? = some y → qOk y = true := fun j y hj hy => by
              rcases Nat.lt_or_ge j k with h | h
              · exact hall.out j y h hy
              · obtain rfl : j = k := by omega
                rw [hq'.out] at hy; injection hy with hy; rw [← hy]; exact hqk2'.out
            have hm9 : m + 1 + j ≤ 65 * (k + 1) ∧ m + 1 + j = 65 * (k + 1) := by have := hmk.out; omega
            have Ob9' := Lib.hid Ob9; have hall2' := Lib.hid hall2; have hm9' := Lib.hid hm9; have hj64' := Lib.hid hj64; have hsz8' := Lib.hid hsz8; clear Ob9 hall2 hm9 hj64 hsz8
            go_wp2
            go_roundw
            case rel => exact ⟨k + 1, m + 1 + j, a3, c3, by omega, hm9'.out.1, by go_num, rfl, Lib.hid hm9'.out.2, hall2', Lib.hid (by rw [hj64'.out]; exact Ob9'.out), hbel⟩
            case measure => simp [intOf]; omega
    · have hkn : k = n := by omega
      have Ob2 := Ob.out; rw [hkn, ← hl'.out] at Ob2; have hall2 : ∀ (j : Nat) (x : Qt64), qs[j]? = some x → qOk x = true := fun j x hx => hall.out j x (by rw [hkn, ← hl'.out]; exact (List.getElem?_eq_some_iff.1 hx).1) hx; have hm0 := hmk.out
      by_cases hn0 : n = 0
      · obtain rfl : R = none := by
          rw [← hR'.out]; have : qs = [] := List.eq_nil_of_length_eq_zero (by rw [hl'.out, hn0]); rw [this]; rfl
        obtain rfl : m = 0 := by omega
        have Ob2' := Lib.hid Ob2; have hall2' := Lib.hid hall2; have hkn' := Lib.hid hkn; have hm0' := Lib.hid hm0; have hn0' := Lib.hid hn0; clear Ob2 hall2 hkn hm0 hn0
        go_wp2
        go_ret2
        exact ⟨hbel.out, rfl⟩
      · obtain rfl : R = some (flatW qW qs qs.length) := by
          rw [← hR'.out]; exact allW_yes hall2 (fun h => hn0 (by rw [← hl'.out, h]; rfl))
        have hnb : ((m : Int) == 0) = false := by simp; omega
        have hnc : decide ((65533 : Int) < m) = false := by simp; omega
        have Ob2' := Lib.hid Ob2; have hall2' := Lib.hid hall2; have hkn' := Lib.hid hkn; have hm0' := Lib.hid hm0; clear Ob2 hall2 hkn hm0; clear hn0
        go_wp2
        go_ret2
        exact ⟨hbel.out, a3, m, c3, rfl, Ob2'.out⟩
end Go.Proofs.Ytpjopeojeglogaa
