/- slices.Reverse of bytes that lie in a block of the call's own. | slices.IndexFunc, ContainsFunc over ints, with a function that only reads. | Chapter 1: may; Get. | Words on bits: or, and, xor of two numbers from 0 on; numbers out of bytes. | Chapter 1: Get. -/
import Derived.Test.YtceclmpmpldmlaaGreatCs01
import Derived.Test.YtceclmpmpldmlaaGreatCs00
import Derived.Laws.Bits64
namespace Go.Proofs.YtceclmpmpldmlaaGreat
open Go.RowKit Tt
set_option linter.unusedVariables false
set_option linter.unusedSimpArgs false

theorem blk_worlds (w : World) (g : Nat) (T : TypeId) (cs : Array Value) (h : Blk w g T cs) : ∃ (S : Type) (f : S → World), Nonempty S ∧ (∀ s, Blk (f s) g T cs) ∧ ∀ W, Blk W g T cs → ∃ s, W = f s :=
  ⟨{W : World // Blk W g T cs}, Subtype.val, ⟨⟨w, h⟩⟩, fun s => s.2, fun W h => ⟨⟨W, h⟩, rfl⟩⟩
/-- what the cells are when i have been turned at either end -/
def turnedAt (o n i : Nat) (l : List Int) (cs cs' : Array Value) : Prop :=
  cs'.size = cs.size ∧ (∀ k, k < n → cs'[o + k]? = some (.int .u8 (if k < i ∨ n ≤ k + i then l.getD (n - 1 - k) 0 else l.getD k 0))) ∧ ∀ k, (k < o ∨ o + n ≤ k) → cs'[k]? = cs[k]?
set_option maxRecDepth 20000 in
set_option maxHeartbeats 4000000 in
theorem reverse_any (g o n c : Nat) (cs : Array Value) (l : List Int) (T : TypeId) (w : World) (hb : Blk w g T cs) (hl : l.length = n) (hn : n ≤ 1000000) (hc : ∀ k, k < n → cs[o + k]? = some (.int .u8 (l.getD k 0))) :
    Calls Tryz.prog 149 #[.slice (some ⟨g, o, none⟩) n c] w fun e w' => e = .returned (.tuple #[]) ∧ ∃ cs' : Array Value, Blk w' g T cs' ∧ cs'.size = cs.size ∧ (∀ k, k < n → cs'[o + k]? = some (.int .u8 (l.getD (n - 1 - k) 0))) ∧ (∀ k, (k < o ∨ o + n ≤ k) → cs'[k]? = cs[k]?) ∧ But g w w' := by
  have hw0 : IntKind.i64.wrap ((n : Int) - 1) = n - 1 := by rw [IntKind.wrap_i64]; omega
  have hb' := Lib.hid hb; have hl' := Lib.hid hl; have hc' := Lib.hid hc; clear hb hl hc
  go_enter Tryz.func149, Tryz.ntmps149
  go_wp2
  go_loopw [2, 3] (fun iv jv wr => ∃ (i : Nat) (cs' : Array Value), 2 * i ≤ n + 1 ∧ iv = .int .i64 i ∧ jv = .int .i64 ((n : Int) - 1 - i) ∧ Hid (Blk wr g T cs') ∧ Hid (turnedAt o n i l cs cs') ∧ Hid (But g w wr)) (fun iv _ _ => n - (intOf iv).toNat)
  case atStart =>
    refine ⟨0, cs, by omega, rfl, by simp, hb', Lib.hid ⟨rfl, fun k hk => ?_, fun _ _ => rfl⟩, Lib.hid (But.refl _ _)⟩; rw [hc'.out k hk, if_neg (by omega)]
  case round =>
    obtain ⟨i, cs', hin, rfl, rfl, hbk, htu, hbut⟩ := hrel
    by_cases hij : 2 * i + 1 < n
    · obtain ⟨j, hj⟩ : ∃ j : Nat, j = n - 1 - i := ⟨_, rfl⟩
      have hji : ((n : Int) - 1 - i) = (j : Int) := by omega
      rw [hji]; have hlt : (i : Int) < (j : Int) := by omega
      have hin2 : i < n := by omega
      have hjn : j < n := by omega
      have hww : IntKind.i64.wrap ((i : Int) + 1) = i + 1 := by rw [IntKind.wrap_i64]; omega
      have hww2 : IntKind.i64.wrap ((j : Int) - 1) = j - 1 := by rw [IntKind.wrap_i64]; omega
      have ci := htu.out.2.1 i hin2; have cj := htu.out.2.1 j hjn; rw [if_neg (by omega)] at ci cj; obtain ⟨x, hx⟩ : ∃ x, l.getD i 0 = x := ⟨_, rfl⟩; obtain ⟨y, hy⟩ : ∃ y, l.getD j 0 = y := ⟨_, rfl⟩; rw [hx] at ci; rw [hy] at cj; obtain ⟨Ty, f, hne, hfb, hsurj⟩ := blk_worlds wr g T cs' hbk.out; have q0 : ∀ s, (f s).cell? ⟨g, o + i, none⟩ = some (.int .u8 x) := fun s => (hfb s).cell ci; have q1 : ∀ s, (f s).cell? ⟨g, o + j, none⟩ = some (.int .u8 y) := fun s => (hfb s).cell cj; have HS := Lib.hid (hsurj wr.drew hbk.out); have p0 : wr.drew.cell? ⟨g, o + i, none⟩ = some (.int .u8 x) := Blk.cell (w := wr.drew) hbk.out ci; have y0 : wr.drew.frozen? ⟨g, o + i, none⟩ = false := Blk.frozen (w := wr.drew) hbk.out (o + i); have hb2 : Blk (wr.drew.setCell ⟨g, o + i, none⟩ (.int .u8 y)) g T (cs'.setIfInBounds (o + i) (.int .u8 y)) := Blk.set (w := wr.drew) hbk.out (o + i) _; have p1 : (wr.drew.setCell ⟨g, o + i, none⟩ (.int .u8 y)).cell? ⟨g, o + j, none⟩ = some (.int .u8 y) := hb2.cell (by rw [Array.getElem?_setIfInBounds_ne (by omega)]; exact cj); have y1 : (wr.drew.setCell ⟨g, o + i, none⟩ (.int .u8 y)).frozen? ⟨g, o + j, none⟩ = false := hb2.frozen (o + j); have hb3 : Blk (wr.setCell ⟨g, o + i, none⟩ (.int .u8 y)) g T (cs'.setIfInBounds (o + i) (.int .u8 y)) := Blk.set (w := wr) hbk.out (o + i) _; have z0 : wr.cell? ⟨g, o + j, none⟩ = some (.int .u8 y) := Blk.cell (w := wr) hbk.out cj; have z1 : wr.frozen? ⟨g, o + j, none⟩ = false := Blk.frozen (w := wr) hbk.out (o + j); have z2 : (wr.setCell ⟨g, o + i, none⟩ (.int .u8 y)).cell? ⟨g, o + j, none⟩ = some (.int .u8 y) := hb3.cell (by rw [Array.getElem?_setIfInBounds_ne (by omega)]; exact cj); have z3 : (wr.setCell ⟨g, o + i, none⟩ (.int .u8 y)).frozen? ⟨g, o + j, none⟩ = false := hb3.frozen (o + j); clear hb3; have hnij : ¬ (i = j) := by omega
      have hnji : ¬ (j = i) := by omega
      have hfb' := Lib.hid hfb; have hsurj' := Lib.hid hsurj; have hb2' := Lib.hid hb2; have ci' := Lib.hid ci; have cj' := Lib.hid cj; have hx' := Lib.hid hx; have hy' := Lib.hid hy; have hj' := Lib.hid hj; have hji' := Lib.hid hji; clear hfb hsurj hb2 ci cj hx hy hj hji
      go_wp2_with fail
      refine till_begin (t := 13) (C := fun W => ∃ s, W = f s) (by kernel_rfl) 16 rfl ?_; refine till_free [0, 1, 2, 3, 4, 5, 6, 8, 9, 10] 6 (by kernel_rfl) (fun d _ _ _ _ h => by cases d <;> exact h) (by kernel_rfl) (by kernel_rfl) (by kernel_rfl) HS.out ?_; simp only [pickL, List.map_cons, List.map_nil, List.getD_cons_succ, List.getD_cons_zero]
      iterate 10 (go_big_quiet_step (fail))
      refine wpQuiet_nil ?_; refine till_take [7, 11] 4 (by kernel_rfl) (fun d _ _ _ _ h => by cases d <;> exact h) (by kernel_rfl) (by kernel_rfl) (by kernel_rfl) HS.out ?_; simp only [pickL, List.map_cons, List.map_nil, List.getD_cons_succ, List.getD_cons_zero]
      iterate 2 (go_big_quiet_step (fail))
      refine wpQuiet_nil ?_; refine till_free [12] 3 (by kernel_rfl) (fun d _ _ _ _ h => by cases d <;> exact h) (by kernel_rfl) (by kernel_rfl) (by kernel_rfl) HS.out ?_; simp only [pickL, List.map_cons, List.map_nil, List.getD_cons_succ, List.getD_cons_zero]
      iterate 1 (go_big_quiet_step (fail))
      refine wpQuiet_nil ?_; clear q0 q1; refine till_one 13 2 (by kernel_rfl) (by kernel_rfl) ?_; simp only [pickL, List.map_cons, List.map_nil, List.getD_cons_succ, List.getD_cons_zero]
      go_wp2_with fail
      first | refine Mid.mk ⟨fun h => (by simp [segL] at h), ?_⟩ | refine Mid.mk ?_
      refine till_one 14 1 (by kernel_rfl) (by kernel_rfl) ?_; simp only [pickL, List.map_cons, List.map_nil, List.getD_cons_succ, List.getD_cons_zero]
      go_wp2_with fail
      first | refine Mid.mk ⟨fun h => (by simp [segL] at h), ?_⟩ | refine Mid.mk ?_
      refine till_one 15 0 (by kernel_rfl) (by kernel_rfl) ?_; simp only [pickL, List.map_cons, List.map_nil, List.getD_cons_succ, List.getD_cons_zero]
      go_wp2_with fail
      first | refine Mid.mk ⟨fun h => (by simp [segL] at h), ?_⟩ | refine Mid.mk ?_
      refine till_last (by kernel_rfl) ?_; clear p0 p1 y0 y1 z0 z1 z2 z3
      go_wp2_with fail
      go_roundw
      case rel =>
        refine ⟨i + 1, _, by omega, by go_num, by have := hji'.out; show Value.int .i64 _ = _; congr 1; omega, Lib.hid (hb2'.out.set (o + j) (.int .u8 x)), Lib.hid ⟨by simp [htu.out.1], fun k hk => ?_, fun k hk => ?_⟩, Lib.hid (((hbut.out.trans (But.of_below ((Below.refl wr.heap.size wr).drew))).set _ _).set _ _)⟩
        · have hjj := hj'.out
          have hsz : o + k < cs'.size := by have := htu.out.2.1 k hk; exact (Array.getElem?_eq_some_iff.1 this).1
          by_cases hki : k = i
          · subst hki
            rw [Array.getElem?_setIfInBounds_ne (by omega), Array.getElem?_setIfInBounds_self_of_lt hsz, if_pos (by omega), ← hy'.out, hjj]
          · by_cases hkj : k = j
            · subst hkj
              rw [Array.getElem?_setIfInBounds_self_of_lt (by simpa using hsz), if_pos (by omega), ← hx'.out, show n - 1 - k = i by omega]
            · rw [Array.getElem?_setIfInBounds_ne (by omega), Array.getElem?_setIfInBounds_ne (by omega), htu.out.2.1 k hk]
              by_cases h1 : k < i ∨ n ≤ k + i
              · rw [if_pos h1, if_pos (by omega)]
              · rw [if_neg h1, if_neg (by omega)]
        · rw [Array.getElem?_setIfInBounds_ne (by omega), Array.getElem?_setIfInBounds_ne (by omega)]
          exact htu.out.2.2 k hk
      case measure => simp [intOf]; omega
    · have hd : decide ((i : Int) < (n : Int) - 1 - i) = false := by simp; omega
      go_wp2_with fail
      refine bodyPost_end (results_none rfl _ _ _) rfl ?_; refine ⟨rfl, cs', hbk.out, htu.out.1, fun k hk => ?_, htu.out.2.2, hbut.out⟩; rw [htu.out.2.1 k hk]
      by_cases h1 : k < i ∨ n ≤ k + i
      · rw [if_pos h1]
      · rw [if_neg h1, show n - 1 - k = k by omega]
end Go.Proofs.YtceclmpmpldmlaaGreat

namespace Go.Proofs.YtceclmpmpldmlaaGreat
open Go.RowKit Tt
set_option linter.unusedVariables false
set_option linter.unusedSimpArgs false

/-- the place of the first that p holds for, from k on; the length if there is none -/
def fst {α : Type} (p : α → Bool) (l : List α) : Int := match l.findIdx? p with | some i => i | none => -1
theorem fst_at {α : Type} {p : α → Bool} {l : List α} {k : Nat} (hk : k < l.length) (h : p l[k] = true) (hn : ∀ i (hi : i < k), p (l[i]'(by omega)) = false) : fst p l = k := by
  unfold fst; rw [List.findIdx?_eq_some_iff_getElem.2 ⟨hk, h, fun j hj => by rw [hn j hj]; simp⟩]
theorem fst_no {α : Type} {p : α → Bool} {l : List α} (hn : ∀ i (hi : i < l.length), p l[i] = false) : fst p l = -1 := by
  unfold fst; rw [List.findIdx?_eq_none_iff.2 (fun x hx => by obtain ⟨i, hi, rfl⟩ := List.getElem_of_mem hx; exact hn i hi)]
theorem fst_any {α : Type} {p : α → Bool} {l : List α} : decide (0 ≤ fst p l) = l.any p := by
  unfold fst
  cases h : l.findIdx? p with
  | none =>
    rw [List.findIdx?_eq_none_iff] at h; simp only [show decide ((0 : Int) ≤ -1) = false from rfl]; exact (List.any_eq_false.2 (fun x hx => by rw [h x hx]; simp)).symm
  | some i =>
    obtain ⟨hi, hp, _⟩ := List.findIdx?_eq_some_iff_getElem.1 h; have h1 : decide ((0 : Int) ≤ (i : Int)) = true := by simp
    simp only [h1]; exact (List.any_eq_true.2 ⟨_, List.getElem_mem hi, hp⟩).symm
theorem getD_el {α : Type} {l : List α} {k : Nat} (hk : k < l.length) (d : α) : l.getD k d = l[k] := by rw [List.getD_eq_getElem?_getD, List.getElem?_eq_getElem hk]; rfl
set_option maxHeartbeats 1000000 in
theorem iidx_any (fid : Nat) (hf : fid = 110) (cap : Value) (a : Option Addr) (n c : Nat) (ls : List Int) (p : Int → Bool) (w : World) (hs : Sl w a n c 1 (ints .i64 ls))
    (hc : ∀ W (x : Int), Below w.heap.size w W → Calls Tryz.prog fid #[.int .i64 x, cap] W fun e W' => e = .returned (.bool (p x)) ∧ Below W.heap.size W W') :
    Calls Tryz.prog 163 #[.slice a n c, .func (.func fid) #[] #[cap]] w fun e w' => e = .returned (.int .i64 (fst p ls)) ∧ Below w.heap.size w w' := by
  have hl := hs.ilen; have hm := hs.max; have hle := hs.le; have hs' := Lib.hid hs; have hc' := Lib.hid hc; have hl' := Lib.hid hl; clear hs hc hl
  rcases hf with rfl
  all_goals
    go_enter Tryz.func163, Tryz.ntmps163
    go_wp2
    go_loopw [8] (fun iv wr => ∃ k : Nat, k ≤ n ∧ iv = .int .i64 k ∧ Hid (∀ i (hi : i < ls.length), i < k → p ls[i] = false) ∧ Hid (Below w.heap.size w wr)) (fun iv _ => n - (intOf iv).toNat)
    case atStart => exact ⟨0, by omega, rfl, Lib.hid (fun j _ hj => by omega), Lib.hid (Below.refl _ _)⟩
    case round =>
      obtain ⟨k, hk, rfl, hall, hb⟩ := hrel
      by_cases hlt : k < n
      · have hww : IntKind.i64.wrap ((k : Int) + 1) = k + 1 := by rw [IntKind.wrap_i64]; omega
        have hkl : k < ls.length := by rw [hl'.out]; exact hlt
        obtain ⟨b, o, rfl, hbb, f⟩ := (hs'.out.mono hb.out).at hlt; have f0 := f k _ (ints_get hkl); rw [getD_el hkl] at f0; clear f; obtain ⟨r, hr⟩ : ∃ r, p (ls[k]'hkl) = r := ⟨_, rfl⟩; have HC := hc'.out wr (ls[k]'hkl) hb.out; rw [hr] at HC
        generalize (ls[k]'hkl) = x1 at f0 HC
        have HC' := Lib.hid HC; have hr' := Lib.hid hr; clear HC hr
        go_wp2_with fail
        refine HC'.out.mono ?_; rintro e w2 ⟨rfl, hb2⟩; have hbw := hb.out.trans (hb2.mono hb.out.size); clear hb2
        cases r with
        | true =>
          have hbw' := Lib.hid hbw; clear hbw
          go_wp2
          go_ret
          exact ⟨by rw [fst_at hkl hr'.out (fun i hi => hall.out i (by omega) hi)]; rfl, hbw'.out⟩
        | false =>
          have hall2 : ∀ i (hi : i < ls.length), i < k + 1 → p ls[i] = false := fun i hi h => by
            rcases Nat.lt_or_ge i k with h1 | h1
            · exact hall.out i hi h1
            · obtain rfl : i = k := by omega
              exact hr'.out
          have hbw' := Lib.hid hbw; have hall2' := Lib.hid hall2; clear hbw hall2
          go_wp2
          go_roundw
          case rel => exact ⟨k + 1, by omega, by go_num, hall2', hbw'⟩
          case measure => simp [intOf]; omega
      · obtain rfl : k = n := by omega
        go_wp2
        go_ret
        exact ⟨by rw [fst_no (fun i hi => hall.out i hi (by rw [hl'.out] at hi; exact hi))]; rfl, hb.out⟩
set_option maxHeartbeats 1000000 in
theorem ihas_any (fid : Nat) (hf : fid = 110) (cap : Value) (a : Option Addr) (n c : Nat) (ls : List Int) (p : Int → Bool) (w : World) (hs : Sl w a n c 1 (ints .i64 ls))
    (hc : ∀ W (x : Int), Below w.heap.size w W → Calls Tryz.prog fid #[.int .i64 x, cap] W fun e W' => e = .returned (.bool (p x)) ∧ Below W.heap.size W W') :
    Calls Tryz.prog 109 #[.slice a n c, .func (.func fid) #[] #[cap]] w fun e w' => e = .returned (.bool (ls.any p)) ∧ Below w.heap.size w w' := by
  have HX := iidx_any fid hf cap a n c ls p w hs hc; obtain ⟨r, hr⟩ : ∃ r, fst p ls = r := ⟨_, rfl⟩; have ha := fst_any (p := p) (l := ls); rw [hr] at HX ha; obtain ⟨q, hq⟩ : ∃ q, ls.any p = q := ⟨_, rfl⟩; rw [hq] at ha ⊢; clear hs hc; have HX' := Lib.hid HX; have hr' := Lib.hid hr; have hq' := Lib.hid hq; clear HX hr hq
  rcases hf with rfl
  all_goals
    go_enter Tryz.func109, Tryz.ntmps109
    go_wp2_with fail
    refine HX'.out.mono ?_; rintro e w2 ⟨rfl, hb2⟩; have hb2' := Lib.hid hb2; clear hb2
    go_wp2
    go_ret
    exact ⟨rfl, hb2'.out⟩
end Go.Proofs.YtceclmpmpldmlaaGreat

namespace Go.Proofs.YtceclmpmpldmlaaGreat
open Go.RowKit Tt
set_option linter.unusedVariables false

def mayB (size order : Int) : Bool := (size == 1 || size == 2 || size == 4) && (order == 1 || order == 2)
theorem omay1_any (n size : Int) (g : Nat) (w : World) (h : w.cell? ⟨g, 0, none⟩ = some (.int .i64 size)) :
    Calls Tryz.prog 110 #[.int .i64 n, .pointer (some ⟨g, 0, none⟩)] w fun e w' => e = .returned (.bool (n == size)) ∧ w = w' := by
  go_enter Tryz.func110, Tryz.ntmps110
  go_wp2
  go_ret
  exact ⟨rfl, rfl⟩
set_option maxRecDepth 20000 in
set_option maxHeartbeats 1000000 in
theorem omay_any (size order : Int) (w : World) :
    Calls Tryz.prog 49 #[.int .i64 size, .int .i64 order] w fun e w' => e = .returned (.bool (mayB size order)) ∧ Below w.heap.size w w' := by
  obtain ⟨W1, hW1⟩ : ∃ W1, W1 = (w.alloc (.cells #[.int .i64 size] 3)).alloc (.cells #[.int .i64 1, .int .i64 2, .int .i64 4] 48) := ⟨_, rfl⟩; have hb1 : Below w.heap.size w W1 := by rw [hW1]; exact ((Below.refl _ _).alloc (Nat.le_refl _) _).alloc (by simp) _
  have hc : W1.cell? ⟨w.heap.size, 0, none⟩ = some (.int .i64 size) := by
    rw [hW1]; unfold World.cell?; rw [heap_old _ _ (by simp), heap_new]; rfl
  have hsl : Sl W1 (some ⟨w.heap.size + 1, 0, none⟩) 3 3 1 (ints .i64 [1, 2, 4]) := by
    rw [hW1]; exact Sl.new' _ _ 1 3 #[.int .i64 1, .int .i64 2, .int .i64 4] (0, 0) (by simp) (by omega) rfl
  have hany : ([1, 2, 4] : List Int).any (fun n => n == size) = (size == 1 || size == 2 || size == 4) := by
    simp only [List.any_cons, List.any_nil, Bool.or_false]; rw [show ((1 : Int) == size) = (size == 1) by exact Bool.beq_comm .., show ((2 : Int) == size) = (size == 2) by exact Bool.beq_comm .., show ((4 : Int) == size) = (size == 4) by exact Bool.beq_comm .., Bool.or_assoc]
  have hc1 : w.heap.size < W1.heap.size := by rw [hW1]; simp; omega
  have HC := ihas_any 110 rfl (.pointer (some ⟨w.heap.size, 0, none⟩)) _ 3 3 [1, 2, 4] (fun n => n == size) W1 hsl
    (fun W x hb => (omay1_any x size _ _ (late hb hc1 hc)).mono fun e w' ⟨h1, h2⟩ => ⟨h1, by rw [h2]; exact Below.refl _ _⟩)
  rw [hany] at HC; have HC := Lib.hid HC; obtain ⟨r, hr⟩ : ∃ r, mayB size order = r := ⟨_, rfl⟩; rw [hr]; have Hb := Lib.hid hb1; clear hc hsl hb1 hany hc1
  go_enter Tryz.func49, Tryz.ntmps49
  go_upto_region 2 with fail
  rw [← hW1]; have hW1' := Lib.hid hW1; have hr' := Lib.hid hr; clear hW1 hr
  go_wp2_with fail
  refine HC.out.mono ?_; rintro e w2 ⟨rfl, hb2⟩; have Hb := Lib.hid (Hb.out.trans (hb2.mono Hb.out.size)); clear hb2; have hr2 := hr'.out; unfold mayB at hr2
  generalize (size == 1 || size == 2 || size == 4) = s at *
  have h1 : ∃ b, (order == 1) = b := ⟨_, rfl⟩; have h2 : ∃ b, (order == 2) = b := ⟨_, rfl⟩; obtain ⟨b1, h1⟩ := h1; obtain ⟨b2, h2⟩ := h2; rw [h1, h2] at hr2; have hr2' := Lib.hid hr2; clear hr2
  cases s <;> cases b1 <;> cases b2
  all_goals
    go_wp2
    go_ret
    exact ⟨by rw [← hr2'.out]; rfl, Hb.out⟩
end Go.Proofs.YtceclmpmpldmlaaGreat

namespace Tt
open Go Go.RowKit
set_option linter.unusedVariables false

theorem or_i64 (a b : Nat) (ha : a < 9223372036854775808) (hb : b < 9223372036854775808) : bits .or .i64 (a : Int) (b : Int) = ((a ||| b : Nat) : Int) := by
  have hx : a ||| b < 2 ^ 63 := Nat.or_lt_two_pow (by omega) (by omega)
  have h1 : (BitVec.ofInt 64 (a : Int)).toNat = a := by rw [BitVec.ofInt_natCast, BitVec.toNat_ofNat]; exact Nat.mod_eq_of_lt (by omega)
  have h2 : (BitVec.ofInt 64 (b : Int)).toNat = b := by rw [BitVec.ofInt_natCast, BitVec.toNat_ofNat]; exact Nat.mod_eq_of_lt (by omega)
  show IntKind.i64.wrap ((BitVec.ofInt 64 (a : Int) ||| BitVec.ofInt 64 (b : Int)).toNat : Int) = _
  rw [BitVec.toNat_or, h1, h2, IntKind.wrap_i64]
  omega
theorem and_i64 (a b : Nat) (ha : a < 9223372036854775808) (hb : b < 9223372036854775808) : bits .and .i64 (a : Int) (b : Int) = ((a &&& b : Nat) : Int) := by
  have hx : a &&& b < 2 ^ 63 := Nat.and_lt_two_pow _ (by omega); have h1 : (BitVec.ofInt 64 (a : Int)).toNat = a := by rw [BitVec.ofInt_natCast, BitVec.toNat_ofNat]; exact Nat.mod_eq_of_lt (by omega)
  have h2 : (BitVec.ofInt 64 (b : Int)).toNat = b := by rw [BitVec.ofInt_natCast, BitVec.toNat_ofNat]; exact Nat.mod_eq_of_lt (by omega)
  show IntKind.i64.wrap ((BitVec.ofInt 64 (a : Int) &&& BitVec.ofInt 64 (b : Int)).toNat : Int) = _
  rw [BitVec.toNat_and, h1, h2, IntKind.wrap_i64]
  omega
/-- a number moved up by 8 bits, and a byte -/
theorem or_byte {N B : Int} (h0 : 0 ≤ N) (h1 : N < 36028797018963968) (h2 : 0 ≤ B) (h3 : B < 256) : bits .or .i64 (N * 256) B = N * 256 + B := by
  obtain ⟨a, rfl⟩ : ∃ a : Nat, N = a := ⟨N.toNat, by omega⟩; obtain ⟨b, rfl⟩ : ∃ b : Nat, B = b := ⟨B.toNat, by omega⟩; have h := or_i64 (a * 256) b (by omega) (by omega); have h4 := Nat.two_pow_add_eq_or_of_lt (i := 8) (b := b) (by omega) a; have h5 : (2 ^ 8 * a : Nat) = a * 256 := by omega
  rw [h5] at h4; rw [← h4] at h; rw [show ((a * 256 : Nat) : Int) = (a : Int) * 256 by omega, show ((a * 256 + b : Nat) : Int) = (a : Int) * 256 + b by omega] at h; exact h
/-- the number that bytes are, the first one the highest -/
def be (l : List Int) : Int := l.foldl (fun n b => n * 256 + b) 0
theorem be_snoc (l : List Int) (b : Int) : be (l ++ [b]) = be l * 256 + b := by unfold be; rw [List.foldl_append]; rfl
theorem take_snoc' {l : List Int} {j : Nat} (h : j < l.length) : l.take (j + 1) = l.take j ++ [l.getD j 0] := by
  rw [List.take_add_one, List.getElem?_eq_getElem h, List.getD_eq_getElem?_getD, List.getElem?_eq_getElem h]
  rfl
theorem be_take {l : List Int} {j : Nat} (h : j < l.length) : be (l.take (j + 1)) = be (l.take j) * 256 + l.getD j 0 := by rw [take_snoc' h, be_snoc]
theorem be_bound {l : List Int} (h : Byt l) : ∀ {j : Nat}, j ≤ l.length → 0 ≤ be (l.take j) ∧ be (l.take j) < 256 ^ j
  | 0, _ => by simp [be]
  | j + 1, hj => by
    have h1 := be_bound h (j := j) (by omega); have h2 := h.get j; rw [be_take (by omega), Int.pow_succ]
    omega
end Tt

namespace Go.Proofs.YtceclmpmpldmlaaGreat
open Go.RowKit Tt
set_option linter.unusedVariables false

/-- the bytes of a number, the highest one first -/
def getL (z : List Int) (at_ : Nat) (size : Nat) (order : Int) : List Int := if order = 1 then ((z.drop at_).take size).reverse else (z.drop at_).take size
def getB (n : Nat) (at_ size order : Int) : Bool := mayB size order && decide (0 ≤ at_) && decide (at_ ≤ n - size)
def getV (z : List Int) (at_ size order : Int) : Int := if getB z.length at_ size order = true then be (getL z at_.toNat size.toNat order) else 0
theorem getL_len {z : List Int} {at_ size : Nat} {order : Int} (h : at_ + size ≤ z.length) : (getL z at_ size order).length = size := by
  unfold getL; split <;> simp <;> omega
theorem getL_byt {z : List Int} (hb : Byt z) (at_ size : Nat) (order : Int) : Byt (getL z at_ size order) := by
  unfold getL
  split
  · intro x hx; exact (hb.drop _).take _ x (List.mem_reverse.1 hx)
  · exact (hb.drop _).take _
theorem getL_get {z : List Int} {at_ size i : Nat} {order : Int} (h : at_ + size ≤ z.length) (hi : i < size) : (getL z at_ size order).getD i 0 = z.getD (if order = 1 then at_ + size - 1 - i else at_ + i) 0 := by
  unfold getL
  split
  · rw [List.getD_eq_getElem?_getD, List.getElem?_reverse (by simp; omega), List.getElem?_take]
    rw [if_pos (by simp; omega), List.getElem?_drop, List.getD_eq_getElem?_getD]
    congr 2
    simp
    omega
  · rw [List.getD_eq_getElem?_getD, List.getElem?_take, if_pos hi, List.getElem?_drop, List.getD_eq_getElem?_getD]
theorem mayB_size {size order : Int} (h : mayB size order = true) : (size = 1 ∨ size = 2 ∨ size = 4) ∧ (order = 1 ∨ order = 2) := by
  unfold mayB at h
  simp at h
  omega

set_option maxRecDepth 20000 in
set_option maxHeartbeats 4000000 in
theorem get_any (a : Option Addr) (n c : Nat) (z : List Int) (at_ size order : Int) (w : World) (hs : Sl w a n c 1 (ints .u8 z)) (hb : Byt z) :
    Calls Tryz.prog 14 #[.slice a n c, .int .i64 at_, .int .i64 size, .int .i64 order] w fun e w' => e = .returned (.tuple #[.int .i64 (getV z at_ size order), .bool (getB n at_ size order)]) ∧ Below w.heap.size w w' := by
  have hzl := hs.ilen; have hle := hs.le; have hmx := hs.max; have hmm := fun W => omay_any size order W; have hgv : getV z at_ size order = if getB n at_ size order = true then be (getL z at_.toNat size.toNat order) else 0 := by unfold getV; rw [hzl]
  rw [hgv]; obtain ⟨m, hm⟩ : ∃ m, mayB size order = m := ⟨_, rfl⟩; rw [hm] at hmm; have hgb : getB n at_ size order = (m && decide (0 ≤ at_) && decide (at_ ≤ n - size)) := by unfold getB; rw [hm]
  rw [hgb]; have hs' := Lib.hid hs; have hb' := Lib.hid hb; have hzl' := Lib.hid hzl; have hmm' := Lib.hid hmm; clear hs hb hzl hmm; clear hgv hgb
  cases m
  · clear hm
    go_enter Tryz.func14, Tryz.ntmps14
    go_wp2_with (go_at_call 49; refine (hmm'.out _).mono ?_; rintro e w1 ⟨rfl, hb1⟩; have HB1 := Lib.hid hb1; clear hb1)
    go_ret2
    exact ⟨rfl, HB1.out⟩
  · obtain ⟨hsz, hord⟩ := mayB_size hm
    clear hm
    by_cases ha : at_ < 0
    · have d1 : decide (at_ < 0) = true := by simp; omega
      have d2 : decide (0 ≤ at_) = false := by simp; omega
      rw [d2]; clear hsz hord
      go_enter Tryz.func14, Tryz.ntmps14
      go_wp2_with (go_at_call 49; refine (hmm'.out _).mono ?_; rintro e w1 ⟨rfl, hb1⟩; have HB1 := Lib.hid hb1; clear hb1)
      go_ret2
      exact ⟨rfl, HB1.out⟩
    · have d1 : decide (at_ < 0) = false := by simp; omega
      have d2 : decide (0 ≤ at_) = true := by simp; omega
      rw [d2]; obtain ⟨A, rfl⟩ : ∃ A : Nat, at_ = A := ⟨at_.toNat, by omega⟩; obtain ⟨s, rfl⟩ : ∃ s : Nat, size = s := ⟨size.toNat, by omega⟩; have hs1 : 1 ≤ s := by omega
      have hs4 : s ≤ 4 := by omega
      rw [Int.toNat_natCast, Int.toNat_natCast]; have hwn : IntKind.i64.wrap ((n : Int) - s) = n - s := by rw [IntKind.wrap_i64]; omega
      by_cases hb2 : (n : Int) - s < A
      · have d3 : decide ((n : Int) - s < A) = true := by simp; omega
        have d4 : decide ((A : Int) ≤ n - s) = false := by simp; omega
        rw [d4]; clear hsz hord
        go_enter Tryz.func14, Tryz.ntmps14
        go_wp2_with (go_at_call 49; refine (hmm'.out _).mono ?_; rintro e w1 ⟨rfl, hb1⟩; have HB1 := Lib.hid hb1; clear hb1)
        go_ret2
        exact ⟨rfl, HB1.out⟩
      · have d3 : decide ((n : Int) - s < A) = false := by simp; omega
        have d4 : decide ((A : Int) ≤ n - s) = true := by simp; omega
        rw [d4]; have hlen := getL_len (order := order) (show A + s ≤ z.length by rw [hzl'.out]; omega); have hbyt := getL_byt hb'.out A s order; have hget := fun i hi => getL_get (z := z) (at_ := A) (size := s) (i := i) (order := order) (by rw [hzl'.out]; omega) hi; obtain ⟨L, hL⟩ : ∃ L, getL z A s order = L := ⟨_, rfl⟩; rw [hL] at hlen hbyt hget ⊢; clear hsz hL; have HL := Lib.hid hlen; have HLB := Lib.hid hbyt; have HG := Lib.hid hget; clear hlen hbyt hget; have hAs : A + s ≤ n := by omega
        go_enter Tryz.func14, Tryz.ntmps14
        go_wp2_with (go_at_call 49; refine (hmm'.out _).mono ?_; rintro e w1 ⟨rfl, hb1⟩; have HB1 := Lib.hid hb1; clear hb1)
        go_loop [10, 30] (fun v i => ∃ k : Nat, k ≤ s ∧ i = .int .i64 k ∧ v = .int .i64 (be (L.take k))) (fun _ i => s - (intOf i).toNat)
        case atStart => exact ⟨0, by omega, rfl, rfl⟩
        case round =>
          obtain ⟨k, hk, rfl, rfl⟩ := hrel
          by_cases hlt : k < s
          · have hbb := be_bound HLB.out (j := k) (by rw [HL.out]; omega)
            have hnx := be_take (l := L) (j := k) (by rw [HL.out]; exact hlt); have hbt := HLB.out.get k; have hgk := HG.out k hlt
            have h24 : be (L.take k) < 16777216 := by
              have : k = 0 ∨ k = 1 ∨ k = 2 ∨ k = 3 := by omega
              rcases this with rfl | rfl | rfl | rfl <;> simp at hbb ⊢ <;> omega
            obtain ⟨j, hj⟩ : ∃ j, (if order = 1 then A + s - 1 - k else A + k) = j := ⟨_, rfl⟩; have hjn : j < n := by rw [← hj]; split <;> omega
            obtain ⟨b, o, rfl, hbb2, hc⟩ := (hs'.out.mono HB1.out).at (i := j) hjn; have f1 := hc j _ (ints_get (by rw [hzl'.out]; exact hjn)); rw [hj] at hgk; rw [← hgk] at f1; obtain ⟨B, hB⟩ : ∃ B, L.getD k 0 = B := ⟨_, rfl⟩; obtain ⟨N, hN⟩ : ∃ N, be (L.take k) = N := ⟨_, rfl⟩; rw [hB] at f1 hnx hbt; rw [hN] at hnx hbb h24; rw [hN]; have hw1 : IntKind.i64.wrap (N * 256) = N * 256 := by rw [IntKind.wrap_i64]; omega
            have hor := or_byte (N := N) (B := B) (by omega) (by omega) hbt.1 hbt.2; have hw2 : IntKind.i64.wrap ((A : Int) + k) = A + k := by rw [IntKind.wrap_i64]; omega
            have hw3 : IntKind.i64.wrap ((A : Int) + s) = A + s := by rw [IntKind.wrap_i64]; omega
            have hw4 : IntKind.i64.wrap ((A : Int) + s - 1) = A + s - 1 := by rw [IntKind.wrap_i64]; omega
            have hw5 : IntKind.i64.wrap ((A : Int) + s - 1 - k) = A + s - 1 - k := by rw [IntKind.wrap_i64]; omega
            have hnx' := Lib.hid hnx; have hbb' := Lib.hid hbb; have hB' := Lib.hid hB; have hN' := Lib.hid hN; have hgk' := Lib.hid hgk; clear hnx hbb hB hN hgk; obtain ⟨hb0, hb255⟩ := hbt; clear hc
            by_cases ho : order = 1
            · have d5 : (order == 1) = true := by simp [ho]
              rw [if_pos ho] at hj; have hji : (A : Int) + s - 1 - k = (j : Int) := by omega
              rw [hji] at hw5; have hjn' : (j : Int) < n := by omega
              have ho' := Lib.hid ho; have hj' := Lib.hid hj; clear ho hj; clear hord hw2
              go_wp2
              go_round
              case rel => exact ⟨k + 1, by omega, by go_num, by rw [hnx'.out]⟩
              case measure => simp [intOf]; omega
            · have d5 : (order == 1) = false := by simp [ho]
              rw [if_neg ho] at hj; have hji : (A : Int) + k = (j : Int) := by omega
              rw [hji] at hw2; have hjn' : (j : Int) < n := by omega
              have ho' := Lib.hid ho; have hj' := Lib.hid hj; clear ho hj; clear hord hw3 hw4 hw5
              go_wp2
              go_round
              case rel => exact ⟨k + 1, by omega, by go_num, by rw [hnx'.out]⟩
              case measure => simp [intOf]; omega
          · obtain rfl : k = s := by omega
            go_wp2
            go_ret2
            exact ⟨by rw [List.take_of_length_le (by rw [HL.out]; omega)]; rfl, HB1.out⟩
end Go.Proofs.YtceclmpmpldmlaaGreat
