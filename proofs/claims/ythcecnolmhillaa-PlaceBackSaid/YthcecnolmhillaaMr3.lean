/- Chapter 13: bytes cloned; how many bytes of a scan there are. -/
import Derived.Test.YthcecnolmhillaaMr2
import Derived.Test.YthcecnolmhillaaBut
namespace Go.Proofs.Ythcecnolmhillaa
open Go.RowKit Tt
set_option linter.unusedVariables false

theorem infoB : (Try.prog.info? 5).map (fun i => (i.zero, i.size, i.bytes)) = some (some (.int .u8 0), 1, 1) := by kernel_rfl
section
attribute [local go_sem] Lib.run_eql_slice_nil
set_option maxHeartbeats 1000000 in
theorem bclone_any (a : Option Addr) (n c : Nat) (z : List Int) (w : World) (hs : Sl w a n c 1 (ints .u8 z)) (hl : n ≤ 140737488355328) :
    Calls Try.prog 32 #[.slice a n c] w fun e w' => ∃ a' c', e = .returned (.slice a' n c') ∧ Sl w' a' n c' 1 (ints .u8 z) ∧ (∀ x, a' = some x → w.heap.size ≤ x.block) ∧ Below w.heap.size w w' := by
  obtain ⟨i0, hi, hz0, hz1, hz2⟩ := info_parts infoB
  cases a with
  | none =>
    have hc := hs.fit rfl
    subst hc
    have hn : n = 0 := by have := hs.le; omega
    subst hn
    have hp : z = [] := List.eq_nil_of_length_eq_zero hs.ilen
    subst hp
    clear hs
    go_enter Try.func32, Try.ntmps32
    go_wp2
    go_ret
    exact ⟨_, _, rfl, Sl.nil _ _, (fun x hx => by cases hx), Below.refl _ _⟩
  | some ad =>
    have hs' := Lib.hid hs
    clear hs
    go_enter Try.func32, Try.ntmps32
    go_wp2_with (at_builtin; refine wpList_app rfl _ _ 40 rfl w.heap.size 5 i0 _ 1 1 Try.underlying40 hi hz0 hz1 hz2 rfl (by decide) _ 0 [] rfl (own_new w w.heap.size 5 1 0 #[] (Nat.le_refl _) (by unfold maxLen; omega) rfl) _ n c _ rfl (sl_alloc hs'.out _) ints_one (by omega) (by decide) (by simp) ?_; intro a5 c5 w2 ob hb2 hg2; rw [Nat.zero_add] at ob ⊢; rw [List.nil_append] at ob; clear hg2; have Ob := Lib.hid ob; have Hb2 := Lib.hid (((Below.refl _ _).alloc (Nat.le_refl _) _).trans hb2); clear ob hb2)
    go_ret
    refine ⟨_, _, rfl, (Sl.of_own Ob.out).1, fun x hx => ?_, Hb2.out⟩
    rcases Ob.out.2 with ⟨hv, _⟩ | ⟨g', cap', cur, hv, hB, _⟩
    · cases hv; cases hx
    · cases hv; cases hx; exact hB
end
/-- does a scan's data end ahead of this place? -/
def stopB (z : List Int) (i : Nat) : Bool := z.getD i 0 == 255 && z.getD (i + 1) 0 != 0 && !restB (z.getD (i + 1) 0)
set_option maxRecDepth 20000 in
set_option maxHeartbeats 2000000 in
/-- where a scan's data end, if they do so ahead of the end -/
theorem scanned_at (a : Option Addr) (n c : Nat) (z : List Int) (k : Nat) (w : World) (hs : Sl w a n c 1 (ints .u8 z)) (hz : Byt z) (hk : k + 1 < n) (hst : stopB z k = true) (hno : ∀ i, i < k → stopB z i = false) :
    Calls Try.prog 33 #[.slice a n c] w fun e w' => e = .returned (.int .i64 k) ∧ w = w' := by
  have hzl := hs.ilen
  have hle := hs.le
  have hmx := hs.max
  have hrr := fun (i : Nat) W => rest_any (z.getD (i + 1) 0) W
  have hs' := Lib.hid hs
  have hz' := Lib.hid hz
  have hzl' := Lib.hid hzl
  have hst' := Lib.hid hst
  have hno' := Lib.hid hno
  have hrr' := Lib.hid hrr
  clear hs hz hzl hst hno hrr
  go_enter Try.func33, Try.ntmps33
  go_wp2_with fail
  go_loop [3] (fun i => ∃ j : Nat, j ≤ k ∧ i = .int .i64 j) (fun i => n - (intOf i).toNat)
  case atStart => exact ⟨0, by omega, rfl⟩
  case round =>
    obtain ⟨j, hj, rfl⟩ := hrel
    have hw1 : IntKind.i64.wrap ((j : Int) + 1) = j + 1 := by rw [IntKind.wrap_i64]; omega
    have hlt1 : (j : Int) + 1 < n := by omega
    have hlt2 : (j : Int) < n := by omega
    obtain ⟨b, o, rfl, hbb, hc⟩ := hs'.out.at (i := j) (by omega)
    have f1 := hc j _ (ints_get (by rw [hzl'.out]; omega))
    have f2 := hc (j + 1) _ (ints_get (by rw [hzl'.out]; omega))
    have hR := Lib.hid (hrr'.out j)
    have hvb := hz'.out.get (j + 1)
    have hsj : stopB z j = (z.getD j 0 == 255 && z.getD (j + 1) 0 != 0 && !restB (z.getD (j + 1) 0)) := rfl
    obtain ⟨u, hu⟩ : ∃ u, z.getD j 0 = u := ⟨_, rfl⟩
    obtain ⟨v, hv⟩ : ∃ v, z.getD (j + 1) 0 = v := ⟨_, rfl⟩
    rw [hu] at f1 hsj
    rw [hv] at f2 hR hvb hsj
    obtain ⟨hv0, hv1⟩ := hvb
    obtain ⟨r, hr⟩ : ∃ r, restB v = r := ⟨_, rfl⟩
    rw [hr] at hR hsj
    obtain ⟨x, hx⟩ : ∃ x, (u == 255) = x := ⟨_, rfl⟩
    obtain ⟨y, hy⟩ : ∃ y, (v != 0) = y := ⟨_, rfl⟩
    rw [hx, hy] at hsj
    have hu' := Lib.hid hu
    have hv' := Lib.hid hv
    have hr' := Lib.hid hr
    have hsj' := Lib.hid hsj
    clear hu hv hr hsj
    clear hc
    rcases Nat.lt_or_ge j k with h | h
    · have hf : (x && y && !r) = false := hsj'.out.symm.trans (hno'.out j h)
      cases x
      · go_wp2_with (go_at_call 36; refine (hR.out _).mono ?_; rintro e w' ⟨rfl, rfl⟩)
        go_round
        case rel => exact ⟨j + 1, by omega, by go_num⟩
        case measure => simp [intOf]; omega
      · cases y
        · go_wp2_with (go_at_call 36; refine (hR.out _).mono ?_; rintro e w' ⟨rfl, rfl⟩)
          go_round
          case rel => exact ⟨j + 1, by omega, by go_num⟩
          case measure => simp [intOf]; omega
        · obtain rfl : r = true := by simpa using hf
          go_wp2_with (go_at_call 36; refine (hR.out _).mono ?_; rintro e w' ⟨rfl, rfl⟩)
          go_round
          case rel => exact ⟨j + 1, by omega, by go_num⟩
          case measure => simp [intOf]; omega
    · obtain rfl : j = k := by omega
      have ht : (x && y && !r) = true := hsj'.out.symm.trans hst'.out
      simp only [Bool.and_eq_true, Bool.not_eq_true'] at ht
      obtain ⟨⟨rfl, rfl⟩, rfl⟩ := ht
      go_wp2_with (go_at_call 36; refine (hR.out _).mono ?_; rintro e w' ⟨rfl, rfl⟩)
      go_ret
      exact ⟨rfl, rfl⟩
end Go.Proofs.Ythcecnolmhillaa
