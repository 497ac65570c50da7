/- slices.Reverse of bytes that lie in a block of the call's own. | slices.IndexFunc, ContainsFunc over ints, with a function that only reads. | Chapter 1: may; Get. -/
import Derived.Test.YtpjopeojeglogaaCd02
import Derived.Test.YtpjopeojeglogaaCd03
import Derived.Test.YtpjopeojeglogaaCd01
namespace Go.Proofs.Ytpjopeojeglogaa
open Go.RowKit Tt
set_option linter.unusedVariables false
set_option linter.unusedSimpArgs false

theorem blk_worlds (w : World) (g : Nat) (T : TypeId) (cs : Array Value) (h : Blk w g T cs) : ∃ (S : Type) (f : S → World), Nonempty S ∧ (∀ s, Blk (f s) g T cs) ∧ ∀ W, Blk W g T cs → ∃ s, W = f s :=
  ⟨{W : World // Blk W g T cs}, Subtype.val, ⟨⟨w, h⟩⟩, fun s => s.2, fun W h => ⟨⟨W, h⟩, rfl⟩⟩
/-- what the cells are when i have been turned at either end -/
def turnedAt (o n i : Nat) (l : List Int) (cs cs' : Array Value) : Prop :=
  cs'.size = cs.size ∧ (∀ k, k < n → cs'[o + k]? = some (.int .u8 (if k < i ∨ n ≤ k + i then l.getD (n - 1 - k) 0 else l.getD k 0))) ∧ ∀ k, (k < o ∨ o + n ≤ k) → cs'[k]? = cs[k]?
set_option maxRecDepth 20000 in
set_option maxHeartbeats 4000000 in
theorem reverse_any (g o n c : Nat) (cs : Array Value) (l : List Int) (T : TypeId) (w : World) (hb : Blk w g T cs) (hl : l.length = n) (hn : n ≤ 1000000) (hc : ∀ k, k < n → cs[o + k]? = some (.int .u8 (l.getD k 0))) :
    Calls Try.prog 163 #[.slice (some ⟨g, o, none⟩) n c] w fun e w' => e = .returned (.tuple #[]) ∧ ∃ cs' : Array Value, Blk w' g T cs' ∧ cs'.size = cs.size ∧ (∀ k, k < n → cs'[o + k]? = some (.int .u8 (l.getD (n - 1 - k) 0))) ∧ (∀ k, (k < o ∨ o + n ≤ k) → cs'[k]? = cs[k]?) ∧ But g w w' := by
  have hw0 : IntKind.i64.wrap ((n : Int) - 1) = n - 1 := by rw [IntKind.wrap_i64]; omega
  have hb' := Lib.hid hb; have hl' := Lib.hid hl; have hc' := Lib.hid hc; clear hb hl hc
  go_enter Try.func163, Try.ntmps163
  go_wp2
  go_loopw [2, 3] (fun iv jv wr => ∃ (i : Nat) (cs' : Array Value), 2 * i ≤ n + 1 ∧ iv = .int .i64 i ∧ jv = .int .i64 ((n : Int) - 1 - i) ∧ Hid (Blk wr g T cs') ∧ Hid (turnedAt o n i l cs cs') ∧ Hid (But g w wr)) (fun iv _ _ => n - (intOf iv).toNat)
  case atStart =>
    refine ⟨0, cs, by omega, rfl, by simp, hb', Lib.hid ⟨rfl, fun k hk => ?_, fun _ _ => rfl⟩, Lib.hid (But.refl _ _)⟩; rw [hc'.out k hk, if_neg (by omega)]
  case round =>
    obtain ⟨i, cs', hin, rfl, rfl, hbk, htu, hbut⟩ := hrel
    by_cases hij : 2 * i + 1 < n
    · obtain ⟨j, hj⟩ : ∃ j : Nat, j = n - 1 - i := ⟨_, rfl⟩
      have hji : ((n : Int) - 1 - i) = (j : Int) := by omega
      rw [hji]; have hlt : (i : Int) < (j : Int) := by omega
      have hin2 : i < n := by omega
      have hjn : j < n := by omega
      have hww : IntKind.i64.wrap ((i : Int) + 1) = i + 1 := by rw [IntKind.wrap_i64]; omega
      have hww2 : IntKind.i64.wrap ((j : Int) - 1) = j - 1 := by rw [IntKind.wrap_i64]; omega
      have ci := htu.out.2.1 i hin2; have cj := htu.out.2.1 j hjn; rw [if_neg (by omega)] at ci cj; obtain ⟨x, hx⟩ : ∃ x, l.getD i 0 = x := ⟨_, rfl⟩; obtain ⟨y, hy⟩ : ∃ y, l.getD j 0 = y := ⟨_, rfl⟩; rw [hx] at ci; rw [hy] at cj; obtain ⟨Ty, f, hne, hfb, hsurj⟩ := blk_worlds wr g T cs' hbk.out; have q0 : ∀ s, (f s).cell? ⟨g, o + i, none⟩ = some (.int .u8 x) := fun s => (hfb s).cell ci; have q1 : ∀ s, (f s).cell? ⟨g, o + j, none⟩ = some (.int .u8 y) := fun s => (hfb s).cell cj; have HS := Lib.hid (hsurj wr.drew hbk.out); have p0 : wr.drew.cell? ⟨g, o + i, none⟩ = some (.int .u8 x) := Blk.cell (w := wr.drew) hbk.out ci; have y0 : wr.drew.frozen? ⟨g, o + i, none⟩ = false := Blk.frozen (w := wr.drew) hbk.out (o + i); have hb2 : Blk (wr.drew.setCell ⟨g, o + i, none⟩ (.int .u8 y)) g T (cs'.setIfInBounds (o + i) (.int .u8 y)) := Blk.set (w := wr.drew) hbk.out (o + i) _; have p1 : (wr.drew.setCell ⟨g, o + i, none⟩ (.int .u8 y)).cell? ⟨g, o + j, none⟩ = some (.int .u8 y) := hb2.cell (by rw [Array.getElem?_setIfInBounds_ne (by omega)]; exact cj); have y1 : (wr.drew.setCell ⟨g, o + i, none⟩ (.int .u8 y)).frozen? ⟨g, o + j, none⟩ = false := hb2.frozen (o + j); have hb3 : Blk (wr.setCell ⟨g, o + i, none⟩ (.int .u8 y)) g T (cs'.setIfInBounds (o + i) (.int .u8 y)) := Blk.set (w := wr) hbk.out (o + i) _; have z0 : wr.cell? ⟨g, o + j, none⟩ = some (.int .u8 y) := Blk.cell (w := wr) hbk.out cj; have z1 : wr.frozen? ⟨g, o + j, none⟩ = false := Blk.frozen (w := wr) hbk.out (o + j); have z2 : (wr.setCell ⟨g, o + i, none⟩ (.int .u8 y)).cell? ⟨g, o + j, none⟩ = some (.int .u8 y) := hb3.cell (by rw [Array.getElem?_setIfInBounds_ne (by omega)]; exact cj); have z3 : (wr.setCell ⟨g, o + i, none⟩ (.int .u8 y)).frozen? ⟨g, o + j, none⟩ = false := hb3.frozen (o + j); clear hb3; have hnij : ¬ (i = j) := by omega
      have hnji : ¬ (j = i) := by omega
      have hfb' := Lib.hid hfb; have hsurj' := Lib.hid hsurj; have hb2' := Lib.hid hb2; have ci' := Lib.hid ci; have cj' := Lib.hid cj; have hx' := Lib.hid hx; have hy' := Lib.hid hy; have hj' := Lib.hid hj; have hji' := Lib.hid hji; clear hfb hsurj hb2 ci cj hx hy hj hji
      go_wp2_with fail
      refine till_begin (t := 13) (C := fun W => ∃ s, W = f s) (by kernel_rfl) 16 rfl ?_; refine till_free [0, 1, 2, 3, 4, 5, 6, 8, 9, 10] 6 (by kernel_rfl) (fun d _ _ _ _ h => by cases d <;> exact h) (by kernel_rfl) (by kernel_rfl) (by kernel_rfl) HS.out ?_; simp only [pickL, List.map_cons, List.map_nil, List.getD_cons_succ, List.getD_cons_zero]
      iterate 10 (go_big_quiet_step (fail))
      refine wpQuiet_nil ?_; refine till_take [7, 11] 4 (by kernel_rfl) (fun d _ _ _ _ h => by cases d <;> exact h) (by kernel_rfl) (by kernel_rfl) (by kernel_rfl) HS.out ?_; simp only [pickL, List.map_cons, List.map_nil, List.getD_cons_succ, List.getD_cons_zero]
      iterate 2 (go_big_quiet_step (fail))
      refine wpQuiet_nil ?_; refine till_free [12] 3 (by kernel_rfl) (fun d _ _ _ _ h => by cases d <;> exact h) (by kernel_rfl) (by kernel_rfl) (by kernel_rfl) HS.out ?_; simp only [pickL, List.map_cons, List.map_nil, List.getD_cons_succ, List.getD_cons_zero]
      iterate 1 (go_big_quiet_step (fail))
      refine wpQuiet_nil ?_; clear q0 q1; refine till_one 13 2 (by kernel_rfl) (by kernel_rfl) ?_; simp only [pickL, List.map_cons, List.map_nil, List.getD_cons_succ, List.getD_cons_zero]
      go_wp2_with fail
      first | refine Mid.mk ⟨fun h => (by simp [segL] at h), ?_⟩ | refine Mid.mk ?_
      refine till_one 14 1 (by kernel_rfl) (by kernel_rfl) ?_; simp only [pickL, List.map_cons, List.map_nil, List.getD_cons_succ, List.getD_cons_zero]
      go_wp2_with fail
      first | refine Mid.mk ⟨fun h => (by simp [segL] at h), ?_⟩ | refine Mid.mk ?_
      refine till_one 15 0 (by kernel_rfl) (by kernel_rfl) ?_; simp only [pickL, List.map_cons, List.map_nil, List.getD_cons_succ, List.getD_cons_zero]
      go_wp2_with fail
      first | refine Mid.mk ⟨fun h => (by simp [segL] at h), ?_⟩ | refine Mid.mk ?_
      refine till_last (by kernel_rfl) ?_; clear p0 p1 y0 y1 z0 z1 z2 z3
      go_wp2_with fail
      go_roundw
      case rel =>
        refine ⟨i + 1, _, by omega, by go_num, by have := hji'.out; show Value.int .i64 _ = _; congr 1; omega, Lib.hid (hb2'.out.set (o + j) (.int .u8 x)), Lib.hid ⟨by simp [htu.out.1], fun k hk => ?_, fun k hk => ?_⟩, Lib.hid (((hbut.out.trans (But.of_below ((Below.refl wr.heap.size wr).drew))).set _ _).set _ _)⟩
        · have hjj := hj'.out
          have hsz : o + k < cs'.size := by have := htu.out.2.1 k hk; exact (Array.getElem?_eq_some_iff.1 this).1
          by_cases hki : k = i
          · subst hki
            rw [Array.getElem?_setIfInBounds_ne (by omega), Array.getElem?_setIfInBounds_self_of_lt hsz, if_pos (by omega), ← hy'.out, hjj]
          · by_cases hkj : k = j
            · subst hkj
              rw [Array.getElem?_setIfInBounds_self_of_lt (by simpa using hsz), if_pos (by omega), ← hx'.out, show n - 1 - k = i by omega]
            · rw [Array.getElem?_setIfInBounds_ne (by omega), Array.getElem?_setIfInBounds_ne (by omega), htu.out.2.1 k hk]
              by_cases h1 : k < i ∨ n ≤ k + i
              · rw [if_pos h1, if_pos (by omega)]
              · rw [if_neg h1, if_neg (by omega)]
        · rw [Array.getElem?_setIfInBounds_ne (by omega), Array.getElem?_setIfInBounds_ne (by omega)]
          exact htu.out.2.2 k hk
      case measure => simp [intOf]; omega
    · have hd : decide ((i : Int) < (n : Int) - 1 - i) = false := by simp; omega
      go_wp2_with fail
      refine bodyPost_end (results_none rfl _ _ _) rfl ?_; refine ⟨rfl, cs', hbk.out, htu.out.1, fun k hk => ?_, htu.out.2.2, hbut.out⟩; rw [htu.out.2.1 k hk]
      by_cases h1 : k < i ∨ n ≤ k + i
      · rw [if_pos h1]
      · rw [if_neg h1, show n - 1 - k = k by omega]
end Go.Proofs.Ytpjopeojeglogaa

namespace Go.Proofs.Ytpjopeojeglogaa
open Go.RowKit Tt
set_option linter.unusedVariables false
set_option linter.unusedSimpArgs false

/-- the place of the first that p holds for, from k on; the length if there is none -/
def fst {α : Type} (p : α → Bool) (l : List α) : Int := match l.findIdx? p with | some i => i | none => -1
theorem fst_at {α : Type} {p : α → Bool} {l : List α} {k : Nat} (hk : k < l.length) (h : p l[k] = true) (hn : ∀ i (hi : i < k), p (l[i]'(by omega)) = false) : fst p l = k := by
  unfold fst; rw [List.findIdx?_eq_some_iff_getElem.2 ⟨hk, h, fun j hj => by rw [hn j hj]; simp⟩]
theorem fst_no {α : Type} {p : α → Bool} {l : List α} (hn : ∀ i (hi : i < l.length), p l[i] = false) : fst p l = -1 := by
  unfold fst; rw [List.findIdx?_eq_none_iff.2 (fun x hx => by obtain ⟨i, hi, rfl⟩ := List.getElem_of_mem hx; exact hn i hi)]
theorem fst_any {α : Type} {p : α → Bool} {l : List α} : decide (0 ≤ fst p l) = l.any p := by
  unfold fst
  cases h : l.findIdx? p with
  | none =>
    rw [List.findIdx?_eq_none_iff] at h; simp only [show decide ((0 : Int) ≤ -1) = false from rfl]; exact (List.any_eq_false.2 (fun x hx => by rw [h x hx]; simp)).symm
  | some i =>
    obtain ⟨hi, hp, _⟩ := List.findIdx?_eq_some_iff_getElem.1 h; have h1 : decide ((0 : Int) ≤ (i : Int)) = true := by simp
    simp only [h1]; exact (List.any_eq_true.2 ⟨_, List.getElem_mem hi, hp⟩).symm
theorem getD_el {α : Type} {l : List α} {k : Nat} (hk : k < l.length) (d : α) : l.getD k d = l[k] := by rw [List.getD_eq_getElem?_getD, List.getElem?_eq_getElem hk]; rfl
set_option maxHeartbeats 1000000 in
theorem iidx_any (fid : Nat) (hf : fid = 195) (cap : Value) (a : Option Addr) (n c : Nat) (ls : List Int) (p : Int → Bool) (w : World) (hs : Sl w a n c 1 (ints .i64 ls))
    (hc : ∀ W (x : Int), Below w.heap.size w W → Calls Try.prog fid #[.int .i64 x, cap] W fun e W' => e = .returned (.bool (p x)) ∧ Below W.heap.size W W') :
    Calls Try.prog 196 #[.slice a n c, .func (.func fid) #[] #[cap]] w fun e w' => e = .returned (.int .i64 (fst p ls)) ∧ Below w.heap.size w w' := by
  have hl := hs.ilen; have hm := hs.max; have hle := hs.le; have hs' := Lib.hid hs; have hc' := Lib.hid hc; have hl' := Lib.hid hl; clear hs hc hl
  rcases hf with rfl
  all_goals
    go_enter Try.func196, Try.ntmps196
    go_wp2
    go_loopw [8] (fun iv wr => ∃ k : Nat, k ≤ n ∧ iv = .int .i64 k ∧ Hid (∀ i (hi : i < ls.length), i < k → p ls[i] = false) ∧ Hid (Below w.heap.size w wr)) (fun iv _ => n - (intOf iv).toNat)
    case atStart => exact ⟨0, by omega, rfl, Lib.hid (fun j _ hj => by omega), Lib.hid (Below.refl _ _)⟩
    case round =>
      obtain ⟨k, hk, rfl, hall, hb⟩ := hrel
      by_cases hlt : k < n
      · have hww : IntKind.i64.wrap ((k : Int) + 1) = k + 1 := by rw [IntKind.wrap_i64]; omega
        have hkl : k < ls.length := by rw [hl'.out]; exact hlt
        obtain ⟨b, o, rfl, hbb, f⟩ := (hs'.out.mono hb.out).at hlt; have f0 := f k _ (ints_get hkl); rw [getD_el hkl] at f0; clear f; obtain ⟨r, hr⟩ : ∃ r, p (ls[k]'hkl) = r := ⟨_, rfl⟩; have HC := hc'.out wr (ls[k]'hkl) hb.out; rw [hr] at HC
        generalize (ls[k]'hkl) = x1 at f0 HC
        have HC' := Lib.hid HC; have hr' := Lib.hid hr; clear HC hr
        go_wp2_with fail
        refine HC'.out.mono ?_; rintro e w2 ⟨rfl, hb2⟩; have hbw := hb.out.trans (hb2.mono hb.out.size); clear hb2
        cases r with
        | true =>
          have hbw' := Lib.hid hbw; clear hbw
          go_wp2
          go_ret
          exact ⟨by rw [fst_at hkl hr'.out (fun i hi => hall.out i (by omega) hi)]; rfl, hbw'.out⟩
        | false =>
          have hall2 : ∀ i (hi : i < ls.length), i < k + 1 → p ls[i] = false := fun i hi h => by
            rcases Nat.lt_or_ge i k with h1 | h1
            · exact hall.out i hi h1
            · obtain rfl : i = k := by omega
              exact hr'.out
          have hbw' := Lib.hid hbw; have hall2' := Lib.hid hall2; clear hbw hall2
          go_wp2
          go_roundw
          case rel => exact ⟨k + 1, by omega, by go_num, hall2', hbw'⟩
          case measure => simp [intOf]; omega
      · obtain rfl : k = n := by omega
        go_wp2
        go_ret
        exact ⟨by rw [fst_no (fun i hi => hall.out i hi (by rw [hl'.out] at hi; exact hi))]; rfl, hb.out⟩
set_option maxHeartbeats 1000000 in
theorem ihas_any (fid : Nat) (hf : fid = 195) (cap : Value) (a : Option Addr) (n c : Nat) (ls : List Int) (p : Int → Bool) (w : World) (hs : Sl w a n c 1 (ints .i64 ls))
    (hc : ∀ W (x : Int), Below w.heap.size w W → Calls Try.prog fid #[.int .i64 x, cap] W fun e W' => e = .returned (.bool (p x)) ∧ Below W.heap.size W W') :
    Calls Try.prog 165 #[.slice a n c, .func (.func fid) #[] #[cap]] w fun e w' => e = .returned (.bool (ls.any p)) ∧ Below w.heap.size w w' := by
  have HX := iidx_any fid hf cap a n c ls p w hs hc; obtain ⟨r, hr⟩ : ∃ r, fst p ls = r := ⟨_, rfl⟩; have ha := fst_any (p := p) (l := ls); rw [hr] at HX ha; obtain ⟨q, hq⟩ : ∃ q, ls.any p = q := ⟨_, rfl⟩; rw [hq] at ha ⊢; clear hs hc; have HX' := Lib.hid HX; have hr' := Lib.hid hr; have hq' := Lib.hid hq; clear HX hr hq
  rcases hf with rfl
  all_goals
    go_enter Try.func165, Try.ntmps165
    go_wp2_with fail
    refine HX'.out.mono ?_; rintro e w2 ⟨rfl, hb2⟩; have hb2' := Lib.hid hb2; clear hb2
    go_wp2
    go_ret
    exact ⟨rfl, hb2'.out⟩
end Go.Proofs.Ytpjopeojeglogaa

namespace Go.Proofs.Ytpjopeojeglogaa
open Go.RowKit Tt
set_option linter.unusedVariables false

def mayB (size order : Int) : Bool := (size == 1 || size == 2 || size == 4) && (order == 1 || order == 2)
theorem omay1_any (n size : Int) (g : Nat) (w : World) (h : w.cell? ⟨g, 0, none⟩ = some (.int .i64 size)) :
    Calls Try.prog 195 #[.int .i64 n, .pointer (some ⟨g, 0, none⟩)] w fun e w' => e = .returned (.bool (n == size)) ∧ w = w' := by
  go_enter Try.func195, Try.ntmps195
  go_wp2
  go_ret
  exact ⟨rfl, rfl⟩
set_option maxRecDepth 20000 in
set_option maxHeartbeats 1000000 in
theorem omay_any (size order : Int) (w : World) :
    Calls Try.prog 161 #[.int .i64 size, .int .i64 order] w fun e w' => e = .returned (.bool (mayB size order)) ∧ Below w.heap.size w w' := by
  obtain ⟨W1, hW1⟩ : ∃ W1, W1 = (w.alloc (.cells #[.int .i64 size] 3)).alloc (.cells #[.int .i64 1, .int .i64 2, .int .i64 4] 261) := ⟨_, rfl⟩; have hb1 : Below w.heap.size w W1 := by rw [hW1]; exact ((Below.refl _ _).alloc (Nat.le_refl _) _).alloc (by simp) _
  have hc : W1.cell? ⟨w.heap.size, 0, none⟩ = some (.int .i64 size) := by
    rw [hW1]; unfold World.cell?; rw [heap_old _ _ (by simp), heap_new]; rfl
  have hsl : Sl W1 (some ⟨w.heap.size + 1, 0, none⟩) 3 3 1 (ints .i64 [1, 2, 4]) := by
    rw [hW1]; exact Sl.new' _ _ 1 3 #[.int .i64 1, .int .i64 2, .int .i64 4] (0, 0) (by simp) (by omega) rfl
  have hany : ([1, 2, 4] : List Int).any (fun n => n == size) = (size == 1 || size == 2 || size == 4) := by
    simp only [List.any_cons, List.any_nil, Bool.or_false]; rw [show ((1 : Int) == size) = (size == 1) by exact Bool.beq_comm .., show ((2 : Int) == size) = (size == 2) by exact Bool.beq_comm .., show ((4 : Int) == size) = (size == 4) by exact Bool.beq_comm .., Bool.or_assoc]
  have hc1 : w.heap.size < W1.heap.size := by rw [hW1]; simp; omega
  have HC := ihas_any 195 rfl (.pointer (some ⟨w.heap.size, 0, none⟩)) _ 3 3 [1, 2, 4] (fun n => n == size) W1 hsl
    (fun W x hb => (omay1_any x size _ _ (late hb hc1 hc)).mono fun e w' ⟨h1, h2⟩ => ⟨h1, by rw [h2]; exact Below.refl _ _⟩)
  rw [hany] at HC; have HC := Lib.hid HC; obtain ⟨r, hr⟩ : ∃ r, mayB size order = r := ⟨_, rfl⟩; rw [hr]; have Hb := Lib.hid hb1; clear hc hsl hb1 hany hc1
  go_enter Try.func161, Try.ntmps161
  go_upto_region 2 with fail
  rw [← hW1]; have hW1' := Lib.hid hW1; have hr' := Lib.hid hr; clear hW1 hr
  go_wp2_with fail
  refine HC.out.mono ?_; rintro e w2 ⟨rfl, hb2⟩; have Hb := Lib.hid (Hb.out.trans (hb2.mono Hb.out.size)); clear hb2; have hr2 := hr'.out; unfold mayB at hr2
  generalize (size == 1 || size == 2 || size == 4) = s at *
  have h1 : ∃ b, (order == 1) = b := ⟨_, rfl⟩; have h2 : ∃ b, (order == 2) = b := ⟨_, rfl⟩; obtain ⟨b1, h1⟩ := h1; obtain ⟨b2, h2⟩ := h2; rw [h1, h2] at hr2; have hr2' := Lib.hid hr2; clear hr2
  cases s <;> cases b1 <;> cases b2
  all_goals
    go_wp2
    go_ret
    exact ⟨by rw [← hr2'.out]; rfl, Hb.out⟩
end Go.Proofs.Ytpjopeojeglogaa
