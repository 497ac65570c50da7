/- Chapter 14: a quantisation table's bytes: the program. -/
import Derived.Test.YtpjopeojeglogaaCc02
import Derived.Test.YtpjopeojeglogaaCc11
import Derived.Test.YtpjopeojeglogaaCc18
import Derived.Test.YtpjopeojeglogaaCc19
namespace Go.Proofs.Ytpjopeojeglogaa
open Go.RowKit Tt
set_option linter.unusedVariables false
set_option linter.unusedSimpArgs false

/-- a table's cells -/
def qC (q : Qt64) : List Value := .int .i64 q.1 :: ints .i64 q.2
theorem qC_len {q : Qt64} (h : q.2.length = 64) : (qC q).length = 65 := by simp [qC, ints_len, h]
/-- a block that holds a table -/
structure QB (w : World) (g : Nat) (q : Qt64) : Prop where
  len : q.2.length = 64
  blk : Blk w g 172 (qC q).toArray
theorem QB.c0 {w : World} {g : Nat} {q : Qt64} (h : QB w g q) : w.cell? ⟨g, 0, none⟩ = some (.int .i64 q.1) := h.blk.cell rfl
theorem QB.cs {w : World} {g : Nat} {q : Qt64} (h : QB w g q) : ∀ j v, (ints .i64 q.2)[j]? = some v → w.cell? ⟨g, 1 + j, none⟩ = some v := fun j v hv => h.blk.cell (by
  rw [List.getElem?_toArray, Nat.add_comm]; exact hv)
theorem QB.late {w w' : World} {g : Nat} {q : Qt64} (h : QB w g q) (hb : Below w.heap.size w w') : QB w' g q := ⟨h.len, h.blk.late hb⟩
theorem QB.mono {w w' : World} {B g : Nat} {q : Qt64} (h : QB w g q) (hb : Below B w w') (hg : g < B) : QB w' g q := ⟨h.len, h.blk.mono hb hg⟩
theorem infoB64 : (Try.prog.info? 129).map (·.size) = some 64 := by kernel_rfl
/-- the bytes of numbers -/
def mB (l : List Int) : List Int := l.map fun x => x % 256
theorem mB_same {l : List Int} (h : ∀ x ∈ l, 0 ≤ x ∧ x < 256) : mB l = l := by
  unfold mB
  conv => rhs; rw [← List.map_id l]
  exact List.map_congr_left fun x hx => by have := h x hx; show x % 256 = x; omega
theorem mB_snoc {l : List Int} {k : Nat} {x : Int} (h : l[k]? = some x) : mB (l.take (k + 1)) = mB (l.take k) ++ [x % 256] := by
  unfold mB; rw [List.take_add_one, h]
  simp
theorem qOk_byt {q : Qt64} (h : qOk q = true) (hl : q.2.length = 64) : mB (qW q) = qW q := by
  unfold qOk at h; simp only [Bool.and_eq_true, decide_eq_true_eq] at h; refine mB_same fun x hx => ?_
  rcases List.mem_cons.1 hx with rfl | hx
  · omega
  · have := (mem_toZ hl).1 hx
    have h2 := List.all_eq_true.1 h.2 x this; rw [decide_eq_true_eq] at h2
    omega
theorem below_one (e x : Int) : belowS e [x] = decide (0 ≤ x ∧ x < e) := by unfold belowS; simp
theorem infoN16 : (Try.prog.info? 43).map (·.size) = some 16 := by kernel_rfl
set_option maxRecDepth 20000 in
set_option maxHeartbeats 2000000 in
theorem qbytes_any (q : Qt64) (B : Array Value) (hB : (qC q).toArray = B) (w : World) (hl : q.2.length = 64) :
    Calls Try.prog 112 #[.agg B] w fun e w' => ∃ a n c, e = .returned (.tuple #[.slice a n c, .bool (qOk q)]) ∧ Below w.heap.size w w' ∧ (qOk q = true → n = 65 ∧ w'.ownsRow w.heap.size 5 1 (.slice a n c) n (ints .u8 (qW q))) := by
  obtain ⟨i0, hi, hz0, hz1, hz2⟩ := info_parts info8; obtain ⟨Q, hQ⟩ : ∃ Q, qOk q = Q := ⟨_, rfl⟩; rw [hQ]; have b1 : QB (w.alloc (.cells B 172)) w.heap.size q := ⟨hl, hB ▸ Blk.new w 172 B⟩; have hb1 := (Below.refl w.heap.size w).alloc (Nat.le_refl _) (.cells B 172); obtain ⟨W1, hW1⟩ : ∃ W1, w.alloc (.cells B 172) = W1 := ⟨_, rfl⟩; rw [hW1] at b1 hb1; have c0 := b1.c0; have hB' := Lib.hid hB; have hl' := Lib.hid hl; have b1' := Lib.hid b1; have hb1' := Lib.hid hb1; have hW1' := Lib.hid hW1; have hQ' := Lib.hid hQ; clear hB hl b1 hb1 hW1 hQ
  go_enter Try.func112, Try.ntmps112
  go_upto_region 1 with fail
  rw [hW1'.out]
  go_upto_region 2 with fail
  have o2 : (W1.alloc (.cells #[.int .u8 (q.1 % 256)] 5)).ownsRow (w.heap.size + 1) 5 1 (.slice (some ⟨W1.heap.size, 0, none⟩) 1 1) 1 (ints .u8 (mB [q.1])) := own_new W1 (w.heap.size + 1) 5 1 1 #[.int .u8 (q.1 % 256)] b1'.out.blk.lt (by unfold maxLen; omega) rfl; have hal := (Below.refl W1.heap.size W1).alloc (Nat.le_refl _) (.cells #[.int .u8 (q.1 % 256)] 5); have b2 := b1'.out.late hal; have hb2 := hb1'.out.trans (hal.mono hb1'.out.size); obtain ⟨W2, hW2⟩ : ∃ W2, W1.alloc (.cells #[.int .u8 (q.1 % 256)] 5) = W2 := ⟨_, rfl⟩; rw [hW2] at o2 b2 hb2 ⊢; clear hW2 hal; obtain ⟨T, hT⟩ : ∃ T, (ints .i64 q.2).toArray = T := ⟨_, rfl⟩; have HZ := fun W => pto_any q.2 T hT W hl'.out; have HQ := fun W => qmay_any q.2 T hT W hl'.out; obtain ⟨Z, hZ⟩ : ∃ Z, (ints .i64 (toZ q.2)).toArray = Z := ⟨_, rfl⟩; rw [hZ] at HZ
  have hix : ∀ (k : Nat) x, (toZ q.2)[k]? = some x → k < 64 → ∀ W, (Instr.index 129 (.agg Z) (.int .i64 k)).run Try.prog W = .ok (.int .i64 x) W := fun k x h1 h2 W => by
    rw [← hZ]; exact run_index_arr _ _ 64 (toZ q.2) .i64 k x Try.underlying129 Try.underlying3 (by kernel_rfl) h1 h2 W
  have hcl : (ints .i64 q.2).length = 64 := by rw [ints_len]; exact hl'.out
  have HC := b2.cs; clear c0; have o2' := Lib.hid o2; have b2' := Lib.hid b2; have hb2' := Lib.hid hb2; have HZ' := Lib.hid HZ; have HQ' := Lib.hid HQ; have hix' := Lib.hid hix; have hcl' := Lib.hid hcl; have HC' := Lib.hid HC; have hT' := Lib.hid hT; have hZ' := Lib.hid hZ; clear o2 b2 hb2 HZ HQ hix hcl HC hT hZ
  go_wp2_with (refine wpList_load_at rfl 129 (.tmp 11) rfl w.heap.size 1 rfl (ints .i64 q.2) T hT'.out _ HC'.out Try.underlying129 rfl 64 infoB64 hcl'.out ?_)
  refine (HZ'.out _).mono ?_; rintro e w3 ⟨rfl, hb3⟩; have o3 := own_later o2'.out hb3; have b3 := b2'.out.late hb3; have hbw3 := hb2'.out.trans (hb3.mono hb2'.out.size); have o3' := Lib.hid o3; have b3' := Lib.hid b3; have hbw3' := Lib.hid hbw3; clear o3 b3 hbw3; clear hb3
  go_wp2
  go_loopw [4, 14] (fun bv iv wr => ∃ (k : Nat) (a3 : Option Addr) (c3 : Nat), k ≤ 64 ∧ iv = .int .i64 k ∧ bv = .slice a3 (k + 1) c3 ∧ Hid (wr.ownsRow (w.heap.size + 1) 5 1 (.slice a3 (k + 1) c3) (k + 1) (ints .u8 (mB (q.1 :: (toZ q.2).take k)))) ∧ Hid (QB wr w.heap.size q) ∧ Hid (Below w.heap.size w wr)) (fun _ iv _ => 64 - (intOf iv).toNat)
  case atStart => exact ⟨0, _, 1, by omega, rfl, rfl, o3', b3', hbw3'⟩
  case round =>
    obtain ⟨k, a3, c3, hk, rfl, rfl, Ob, hqb, hbel⟩ := hrel
    by_cases hlt : k < 64
    · obtain ⟨x, hx⟩ : ∃ x, (toZ q.2)[k]? = some x := ⟨_, List.getElem?_eq_getElem (by rw [toZ_len]; exact hlt)⟩
      have hik := hix'.out k x hx hlt
      have hsn : mB (q.1 :: (toZ q.2).take (k + 1)) = mB (q.1 :: (toZ q.2).take k) ++ [x % 256] := by
        show _ :: mB _ = (_ :: mB _) ++ _
        rw [mB_snoc hx]
        rfl
      have hx' := Lib.hid hx; have hsn' := Lib.hid hsn; clear hx hsn; have hsz : w.heap.size + 1 ≤ wr.heap.size := hqb.out.blk.lt
      go_wp2_with (at_builtin; refine wpList_app rfl _ _ 30 rfl (w.heap.size + 1) 5 i0 _ 1 1 Try.underlying30 hi hz0 hz1 hz2 rfl (by decide) _ (k + 1) _ rfl (World.ownsRow.alloc Ob.out _) _ 1 1 _ rfl (Sl.new wr 5 1 1 #[.int .u8 (x % 256)] (0, 0) (by omega) rfl) (by simp [Value.oneCell']) (by omega) (by decide) (by have := hsz; simp; omega) ?_; intro a6 c6 w6 ob6 hb6 hg6; have Ob6 := Lib.hid ob6; have Hb6 := Lib.hid (((Below.refl (w.heap.size + 1) wr).alloc hsz (.cells #[.int .u8 (x % 256)] 5)).trans hb6); clear ob6 hb6 hg6)
      have n1 := hqb.out.mono Hb6.out (by omega); have n2 := hbel.out.trans (Hb6.out.mono (by omega)); have n3 : w6.ownsRow (w.heap.size + 1) 5 1 (.slice a6 (k + 1 + 1) c6) (k + 1 + 1) (ints .u8 (mB (q.1 :: (toZ q.2).take (k + 1)))) := by rw [hsn'.out, ints_append]; exact Ob6.out
      have n1' := Lib.hid n1; have n2' := Lib.hid n2; have n3' := Lib.hid n3; clear n1 n2 n3
      go_roundw
      case rel => exact ⟨k + 1, a6, c6, by omega, by go_num, rfl, n3', n1', n2'⟩
      case measure => simp [intOf]; omega
    · have hk64 : k = 64 := by omega
      have Ob2 := Ob.out; rw [hk64, List.take_of_length_le (by rw [toZ_len]; exact Nat.le_refl _)] at Ob2; have d0 := hqb.out.c0; have HB4 := fun W (hs : Sl W (some ⟨wr.heap.size, 0, none⟩) 1 1 1 (ints .i64 [q.1])) => below_any 4 _ 1 1 [q.1] W hs; simp only [below_one] at HB4; have hal := (Below.refl wr.heap.size wr).alloc (Nat.le_refl _) (.cells #[.int .i64 q.1] 3); have hs4 : Sl (wr.alloc (.cells #[.int .i64 q.1] 3)) (some ⟨wr.heap.size, 0, none⟩) 1 1 1 (ints .i64 [q.1]) := Sl.new wr 3 1 1 #[.int .i64 q.1] (0, 0) (by omega) rfl; have HB5 := HB4 _ hs4
      have hq2 : qOk q = (decide (0 ≤ q.1 ∧ q.1 < 4) && within q.2 1 255) := by
        unfold qOk
        congr 1
        exact decide_eq_decide.2 (by omega)
      have hqb2 := hqb.out.late hal; have hbel2 := hbel.out.trans (hal.mono hbel.out.size); have Ob3 := own_later Ob2 hal; have hfin : qOk q = true → mB (q.1 :: toZ q.2) = qW q := fun h => qOk_byt h hl'.out; rw [hQ'.out] at hq2 hfin; obtain ⟨r1, hr1⟩ : ∃ r, decide (0 ≤ q.1 ∧ q.1 < 4) = r := ⟨_, rfl⟩; rw [hr1] at HB5 hq2; clear Ob Ob2 HB4 hs4 hal; have HB5' := Lib.hid HB5; have hq2' := Lib.hid hq2; have hqb2' := Lib.hid hqb2; have hbel2' := Lib.hid hbel2; have Ob3' := Lib.hid Ob3; have hr1' := Lib.hid hr1; have hk64' := Lib.hid hk64; have hfin' := Lib.hid hfin; clear HB5 hq2 hqb2 hbel2 Ob3 hr1 hk64 hfin
      go_wp2_with fail
      refine HB5'.out.mono ?_; rintro e w5 ⟨rfl, hb5⟩; have hqb5 := hqb2'.out.late hb5; have hbel5 := hbel2'.out.trans (hb5.mono hbel2'.out.size); have Ob5 := own_later Ob3'.out hb5; clear hb5 d0
      cases r1 with
      | false =>
        obtain rfl : Q = false := hq2'.out; have hqb5' := Lib.hid hqb5; have hbel5' := Lib.hid hbel5; have Ob5' := Lib.hid Ob5; clear hqb5 hbel5 Ob5
        go_wp2
        go_ret2
        exact ⟨_, _, _, rfl, hbel5'.out, fun h => by cases h⟩
      | true =>
        have hq3 : Q = within q.2 1 255 := hq2'.out; have HC5 := hqb5.cs; have hqb5' := Lib.hid hqb5; have hbel5' := Lib.hid hbel5; have Ob5' := Lib.hid Ob5; have hq3' := Lib.hid hq3; have HC5' := Lib.hid HC5; clear hqb5 hbel5 Ob5 hq3 HC5
        go_wp2_with (refine wpList_load_atW rfl 129 (.tmp 29) rfl w.heap.size 1 rfl (ints .i64 q.2) T hT'.out _ HC5'.out Try.underlying129 rfl 64 infoB64 hcl'.out ?_)
        refine (HQ'.out _).mono ?_; rintro e w6 ⟨rfl, hb6⟩; have hbel6 := hbel5'.out.trans (hb6.mono hbel5'.out.size); have Ob6 := own_later Ob5'.out hb6; clear hb6; rw [← hq3'.out]; have hbel6' := Lib.hid hbel6; have Ob6' := Lib.hid Ob6; clear hbel6 Ob6
        go_wp2
        go_ret2
        exact ⟨_, _, _, rfl, hbel6'.out, fun h => ⟨by rw [hk64'.out], by have := own_mono Ob6'.out (Nat.le_succ w.heap.size); rw [hfin'.out h] at this; rw [hk64'.out]; exact this⟩⟩
end Go.Proofs.Ytpjopeojeglogaa
