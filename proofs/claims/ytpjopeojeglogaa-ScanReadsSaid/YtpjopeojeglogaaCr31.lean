/- Chapter 3, the document's side: Data, Number. | Chapter 3, the document's side: Bare. | Chapter 12 (plain): bytes cut at markers of restarts, as the document cuts them; what the reader's steps take of the pieces. | Chapter 12, the document's side: pieces in memory. | Chapter 12, the document's side: filled, Unit. -/
import Derived.Test.YtpjopeojeglogaaCr08
import Derived.Test.YtpjopeojeglogaaCr06
import Derived.Test.YtpjopeojeglogaaCr29
import Derived.Test.YtpjopeojeglogaaCr26
import Derived.Test.YtpjopeojeglogaaCr17
namespace Go.Proofs.Ytpjopeojeglogaa
open Go.RowKit Tt
set_option linter.unusedVariables false
set_option linter.unusedSimpArgs false

set_option maxRecDepth 100000 in
set_option maxHeartbeats 4000000 in
theorem rdata_any (a : Option Addr) (n c : Nat) (z : List Int) (w : World) (hs : Sl w a n c 1 (ints .u8 z)) (hn : n ≤ 1000000) :
    Calls Try.prog 106 #[.slice a n c] w fun e w' => e = .returned (.int .i64 ((plainS z).2 : Nat)) ∧ Below w.heap.size w w' := by
  have hl := hs.ilen; have hs' := Lib.hid hs; have hl' := Lib.hid hl; clear hs hl
  go_enter Try.func106, Try.ntmps106
  go_wp2
  go_loopw [3] (fun uv wr => ∃ (u : Nat), u ≤ n ∧ uv = .int .i64 u ∧ Hid ((plainS z).2 = u + (plainS (z.drop u)).2) ∧ Hid (Below w.heap.size w wr)) (fun uv _ => n - (intOf uv).toNat)
  case atStart => exact ⟨0, by omega, rfl, Lib.hid (by simp), Lib.hid (Below.refl _ _)⟩
  case round =>
    rename World => wr
    obtain ⟨u, hu, rfl, h2, hbel⟩ := hrel
    by_cases hlt : u < n
    · obtain ⟨b, o, rfl, hb, f⟩ := (hs'.out.mono hbel.out).at hlt
      have f0 := f u _ (ints_get (by rw [hl'.out]; exact hlt))
      by_cases hc : z.getD u 0 = 255
      · rw [hc] at f0
        by_cases he : u + 1 = n
        · have hend := plainS_end (z := z) (k := u) (by rw [hl'.out]; exact hlt) hc (.inl (by rw [hl'.out]; exact he))
          have h2o := h2.out; rw [hend, Nat.add_zero] at h2o; have e1 : wrap64 ((u : Int) + 1) = n := by unfold wrap64; omega
          clear f; have hc' := Lib.hid hc; have hend' := Lib.hid hend; have h2o' := Lib.hid h2o; clear hc hend h2o
          go_wp2
          go_ret
          exact ⟨by simp only [h2o'.out]; rfl, hbel.out⟩
        · have f1 := f (u + 1) _ (ints_get (by rw [hl'.out]; omega))
          have hlt2 : u + 1 < n := by omega
          by_cases hz : z.getD (u + 1) 0 = 0
          · have hend := plainS_two (z := z) (k := u) (by rw [hl'.out]; omega) hc hz
            have h2o := h2.out; rw [hend] at h2o; rw [hz] at f1; clear f; have hc' := Lib.hid hc; have hend' := Lib.hid hend; have h2o' := Lib.hid h2o; have he' := Lib.hid he; have hz' := Lib.hid hz; clear hc hend h2o he hz
            go_wp2
            go_roundw
            case rel => exact ⟨u + 2, by omega, by go_num, Lib.hid (by rw [h2o'.out]; omega), hbel⟩
            case measure => simp [intOf]; omega
          · have hend := plainS_end (z := z) (k := u) (by rw [hl'.out]; exact hlt) hc (.inr hz)
            have hzd : (z.getD (u + 1) 0 != 0) = true := by simpa using hz
            obtain ⟨x, hx1⟩ : ∃ x, z.getD (u + 1) 0 = x := ⟨_, rfl⟩; rw [hx1] at f1 hzd; have h2o := h2.out; rw [hend, Nat.add_zero] at h2o; clear f hz; have hc' := Lib.hid hc; have hend' := Lib.hid hend; have h2o' := Lib.hid h2o; have he' := Lib.hid he; have hx1' := Lib.hid hx1; clear hc hend h2o he hx1
            go_wp2
            go_ret
            exact ⟨by simp only [h2o'.out]; rfl, hbel.out⟩
      · have hend := plainS_one (z := z) (k := u) (by rw [hl'.out]; exact hlt) hc
        have hcd : (z.getD u 0 == 255) = false := by simpa using hc
        obtain ⟨x, hx1⟩ : ∃ x, z.getD u 0 = x := ⟨_, rfl⟩; rw [hx1] at f0 hcd; have h2o := h2.out; rw [hend] at h2o; clear f hc; have hend' := Lib.hid hend; have h2o' := Lib.hid h2o; have hx1' := Lib.hid hx1; clear hend h2o hx1
        go_wp2
        go_roundw
        case rel => exact ⟨u + 1, by omega, by go_num, Lib.hid (by rw [h2o'.out]; omega), hbel⟩
        case measure => simp [intOf]; omega
    · have hun : u = n := by omega
      have h2o := h2.out; rw [plainS_nil (by rw [hl'.out]; omega), Nat.add_zero] at h2o; have h2o' := Lib.hid h2o; clear h2o
      go_wp2
      go_ret
      exact ⟨by simp only [h2o'.out, hun]; rfl, hbel.out⟩

theorem numL_snoc (l : List Int) (x : Int) : numL (l ++ [x]) = 2 * numL l + x := by unfold numL; rw [List.foldl_append]; rfl
set_option maxRecDepth 100000 in
set_option maxHeartbeats 4000000 in
theorem rnumber_any (a : Option Addr) (n c : Nat) (L : List Int) (w : World) (hs : Sl w a n c 1 (ints .i64 L)) (hL : BitL L) (hn : n ≤ 16) :
    Calls Try.prog 153 #[.slice a n c] w fun e w' => e = .returned (.int .i64 (numL L)) ∧ Below w.heap.size w w' := by
  have hl := hs.ilen; have hs' := Lib.hid hs; have hl' := Lib.hid hl; have hL' := Lib.hid hL; clear hs hl hL
  go_enter Try.func153, Try.ntmps153
  go_wp2
  go_loopw [3, 4] (fun nv uv wr => ∃ (u : Nat) (m : Nat), u ≤ n ∧ uv = .int .i64 u ∧ nv = .int .i64 m ∧ Hid ((m : Int) = numL (L.take u)) ∧ Hid (Below w.heap.size w wr)) (fun _ uv _ => n - (intOf uv).toNat)
  case atStart => exact ⟨0, 0, by omega, rfl, rfl, Lib.hid rfl, Lib.hid (Below.refl _ _)⟩
  case round =>
    rename World => wr
    obtain ⟨u, m, hu, rfl, rfl, h2, hbel⟩ := hrel
    by_cases hlt : u < n
    · obtain ⟨b, o, rfl, hb, f⟩ := (hs'.out.mono hbel.out).at hlt
      have hul : u < L.length := by rw [hl'.out]; exact hlt
      have f0 := f u _ (ints_get hul); obtain ⟨x, hx⟩ : ∃ x, L[u]? = some x := ⟨_, List.getElem?_eq_getElem hul⟩; have hgx : L.getD u 0 = x := by rw [List.getD_eq_getElem?_getD, hx]; rfl
      have hxb := hL'.out x (List.mem_of_getElem? hx); rw [hgx] at f0; have hm2 := (numL_bound _ (hL'.out.take u)).2; rw [← h2.out, List.length_take, Nat.min_eq_left (by omega)] at hm2; have hpn : (2 : Nat) ^ u ≤ 2 ^ 16 := Nat.pow_le_pow_right (by decide) (by omega); have hpe : (2 : Int) ^ u = ((2 ^ u : Nat) : Int) := by rw [Int.natCast_pow]; rfl
      rw [hpe] at hm2; have hm3 : m < 65536 := by omega
      have hsn : numL (L.take (u + 1)) = 2 * m + x := by rw [List.take_add_one, hx, h2.out]; exact numL_snoc _ _
      obtain ⟨y, rfl⟩ : ∃ y : Nat, x = y := ⟨x.toNat, by omega⟩; have hy : y ≤ 1 := by omega
      clear f hgx hm2 hpn hpe hul; have hsn' := Lib.hid hsn; have hx' := Lib.hid hx; have hxb' := Lib.hid hxb; clear hsn hx hxb
      go_wp2
      go_roundw
      case rel => exact ⟨u + 1, 2 * m + y, by omega, by go_num, by go_num, Lib.hid (by rw [hsn'.out]; omega), hbel⟩
      case measure => simp [intOf]; omega
    · have hun : u = n := by omega
      have h2o := h2.out; rw [List.take_of_length_le (by rw [hl'.out]; omega)] at h2o; have h2o' := Lib.hid h2o; clear h2o
      go_wp2
      go_ret
      exact ⟨by rw [h2o'.out]; rfl, hbel.out⟩
end Go.Proofs.Ytpjopeojeglogaa

namespace Go.Proofs.Ytpjopeojeglogaa
open Go.RowKit Tt
set_option linter.unusedVariables false
set_option linter.unusedSimpArgs false

theorem plainS_cut (k : Nat) : ∀ z : List Int, z.length ≤ k → plainS (z.take (plainS z).2) = plainS z := by
  induction k with
  | zero => intro z h; obtain rfl := List.eq_nil_of_length_eq_zero (by omega : z.length = 0); rfl
  | succ k ih =>
    intro z h
    match z with
    | [] => rfl
    | [c] =>
      by_cases hc : c = 255
      · simp [plainS, hc]
      · simp [plainS, hc]
    | c :: d :: l =>
      have h1 := ih l (by simp at h ⊢; omega); have h2 := ih (d :: l) (by simp at h ⊢; omega); have hle := plainS_le _ (d :: l) (Nat.le_refl _)
      by_cases hc : c = 255
      · by_cases hd : d = 0
        · have e : plainS (c :: d :: l) = (255 :: (plainS l).1, (plainS l).2 + 2) := by rw [plainS, if_pos hc, if_pos hd]
          rw [e]
          show plainS (c :: d :: l.take (plainS l).2) = _
          rw [plainS, if_pos hc, if_pos hd, h1]
        · have e : plainS (c :: d :: l) = ([], 0) := by rw [plainS, if_pos hc, if_neg hd]
          rw [e]; rfl
      · have e := plainS_ne (c := c) (l := d :: l) hc
        rw [e]
        show plainS (c :: (d :: l).take (plainS (d :: l)).2) = _
        rw [plainS_ne hc, h2]

set_option maxRecDepth 100000 in
set_option maxHeartbeats 4000000 in
theorem rbare_any (a : Option Addr) (n c : Nat) (z : List Int) (w : World) (hs : Sl w a n c 1 (ints .u8 z)) (hn : n ≤ 1000000) (hz : (plainS z).2 = z.length) :
    Calls Try.prog 143 #[.slice a n c] w fun e w' => ∃ a2 m c2, e = .returned (.slice a2 m c2) ∧ m = (plainS z).1.length ∧ w'.ownsRow w.heap.size 5 1 (.slice a2 m c2) m (ints .u8 (plainS z).1) ∧ Below w.heap.size w w' := by
  obtain ⟨i0, hi, hz0, hz1, hz2⟩ := info_parts info8; have hl := hs.ilen; rw [hl] at hz; have hs' := Lib.hid hs; have hl' := Lib.hid hl; have hz' := Lib.hid hz; clear hs hl hz
  go_enter Try.func143, Try.ntmps143
  go_wp2
  go_loopw [3, 4] (fun ov uv wr => ∃ (u m : Nat) (a2 : Option Addr) (c2 : Nat) (o : List Int), u ≤ n ∧ m ≤ u ∧ uv = .int .i64 u ∧ ov = .slice a2 m c2 ∧ Hid (wr.ownsRow w.heap.size 5 1 (.slice a2 m c2) m (ints .u8 o)) ∧ Hid ((plainS z).1 = o ++ (plainS (z.drop u)).1) ∧ Hid ((plainS z).2 = u + (plainS (z.drop u)).2) ∧ Hid (Below w.heap.size w wr)) (fun _ uv _ => n - (intOf uv).toNat)
  case atStart => exact ⟨0, 0, none, 0, [], by omega, by omega, rfl, rfl, Lib.hid (own_nil _ _ _ _), Lib.hid (by simp), Lib.hid (by simp), Lib.hid (Below.refl _ _)⟩
  case round =>
    rename World => wr
    obtain ⟨u, m, a2, c2, o, hu, hmu, rfl, rfl, hown, h1, h2, hbel⟩ := hrel
    by_cases hlt : u < n
    · obtain ⟨b, oo, rfl, hb, f⟩ := (hs'.out.mono hbel.out).at hlt
      have f0 := f u _ (ints_get (by rw [hl'.out]; exact hlt)); have hsz := hbel.out.size
      by_cases hc : z.getD u 0 = 255
      · have hne : ¬ (u + 1 = n) := fun he => by
          have hend := plainS_end (z := z) (k := u) (by rw [hl'.out]; exact hlt) hc (.inl (by rw [hl'.out]; exact he)); have h2o := h2.out; rw [hend, hz'.out] at h2o
          omega
        have hz1 : z.getD (u + 1) 0 = 0 := Decidable.byContradiction fun he => by
          have hend := plainS_end (z := z) (k := u) (by rw [hl'.out]; exact hlt) hc (.inr he); have h2o := h2.out; rw [hend, hz'.out] at h2o
          omega
        have hlt2 : u + 1 < n := by omega
        have hend := plainS_two (z := z) (k := u) (by rw [hl'.out]; omega) hc hz1; rw [hc] at f0; have h1o := h1.out; have h2o := h2.out; rw [hend] at h1o h2o; clear f hne hz1; have hc' := Lib.hid hc; have hend' := Lib.hid hend; have hsz' := Lib.hid hsz; have h1o' := Lib.hid h1o; have h2o' := Lib.hid h2o; clear hc hend hsz h1o h2o
        go_wp2_with (at_builtin; refine wpList_app_lit rfl _ _ 30 rfl w.heap.size 5 i0 _ 1 1 Try.underlying30 hi hz0 (by assumption) hz2 rfl (by decide) _ m _ rfl hown.out #[.int .u8 255] rfl rfl (by simp [Value.oneCell']) (by omega) (by decide) w hbel.out hsz'.out ?_; intro a5 c5 w5 ho5 hb5; have Ho5 := Lib.hid ho5; have Hb5 := Lib.hid hb5; have S5 := (hs'.out.mono hb5); obtain ⟨b5, oo5, e5, hb5', f5⟩ := S5.at hlt; cases e5; have f6 := f5 u _ (ints_get (by rw [hl'.out]; exact hlt)); rw [hc'.out] at f6; have F6 := f6; clear ho5 hb5 S5 f5 hb5' f6)
        go_roundw
        case rel => exact ⟨u + 2, m + 1, a5, c5, o ++ [255], by omega, by omega, by go_num, rfl, Lib.hid (ints_append (k := .u8) ▸ Ho5.out), Lib.hid (by rw [h1o'.out, List.append_assoc]; rfl), Lib.hid (by rw [h2o'.out]; omega), Hb5⟩
        case measure => simp [intOf]; omega
      · have hend := plainS_one (z := z) (k := u) (by rw [hl'.out]; exact hlt) hc
        have hcd : (z.getD u 0 == 255) = false := by simpa using hc
        obtain ⟨x0, hx0⟩ : ∃ x, z.getD u 0 = x := ⟨_, rfl⟩; rw [hx0] at f0 hcd hend; have h1o := h1.out; have h2o := h2.out; rw [hend] at h1o h2o; clear f hc; have hend' := Lib.hid hend; have hsz' := Lib.hid hsz; have h1o' := Lib.hid h1o; have h2o' := Lib.hid h2o; have hx0' := Lib.hid hx0; clear hend hsz h1o h2o hx0
        go_wp2_with (at_builtin; refine wpList_app_lit rfl _ _ 30 rfl w.heap.size 5 i0 _ 1 1 Try.underlying30 hi hz0 (by assumption) hz2 rfl (by decide) _ m _ rfl hown.out #[.int .u8 x0] rfl rfl (by simp [Value.oneCell']) (by omega) (by decide) w hbel.out hsz'.out ?_; intro a5 c5 w5 ho5 hb5; have Ho5 := Lib.hid ho5; have Hb5 := Lib.hid hb5; have S5 := (hs'.out.mono hb5); obtain ⟨b5, oo5, e5, hb5', f5⟩ := S5.at hlt; cases e5; have f6 := f5 u _ (ints_get (by rw [hl'.out]; exact hlt)); rw [hx0'.out] at f6; have F6 := f6; clear ho5 hb5 S5 f5 hb5' f6)
        go_roundw
        case rel => exact ⟨u + 1, m + 1, a5, c5, o ++ [x0], by omega, by omega, by go_num, rfl, Lib.hid (ints_append (k := .u8) ▸ Ho5.out), Lib.hid (by rw [h1o'.out, List.append_assoc]; rfl), Lib.hid (by rw [h2o'.out]; omega), Hb5⟩
        case measure => simp [intOf]; omega
    · obtain rfl : u = n := by omega
      have hend := plainS_nil (z := z) (k := u) (Nat.le_of_eq hl'.out); have h1o := h1.out; rw [hend, List.append_nil] at h1o; have hm := (Sl.of_own hown.out).1.ilen; have hend' := Lib.hid hend; have h1o' := Lib.hid h1o; have hm' := Lib.hid hm; clear hend h1o hm
      go_wp2
      go_ret
      exact ⟨a2, m, c2, rfl, by rw [h1o'.out, hm'.out], by rw [h1o'.out]; exact hown.out, hbel.out⟩
end Go.Proofs.Ytpjopeojeglogaa

namespace Go.Proofs.Ytpjopeojeglogaa
open Go.RowKit Tt
set_option linter.unusedVariables false
set_option linter.unusedSimpArgs false

def consP (x : Int) : List (List Int × Int) → List (List Int × Int)
  | [] => []
  | p :: q => (x :: p.1, p.2) :: q
/-- the pieces of bytes behind a marker (or none) -/
def pieceS : List Int → Int → List (List Int × Int)
  | [], m => [([], m)]
  | [x], m => [([x], m)]
  | x :: y :: l, m => if x = 255 ∧ 208 ≤ y ∧ y ≤ 215 then ([], m) :: pieceS l (y - 208) else consP x (pieceS (y :: l) m)
def tailP (r : List Int) : List (List Int × Int) := if r = [] then [] else pieceS (r.drop 2) (r.getD 1 0 - 208)
theorem pieceS_cut (n : Nat) : ∀ (l : List Int) (m : Int), l.length ≤ n → pieceS l m = (l.take (cutR l), m) :: tailP (l.drop (cutR l)) := by
  induction n with
  | zero =>
    intro l m h; obtain rfl : l = [] := List.eq_nil_of_length_eq_zero (by omega)
    rfl
  | succ n ih =>
    intro l m h
    match l with
    | [] => rfl
    | [x] => rfl
    | x :: y :: l =>
      unfold pieceS cutR
      by_cases hx : x = 255 ∧ 208 ≤ y ∧ y ≤ 215
      · rw [if_pos hx, if_pos hx]
        rfl
      · rw [if_neg hx, if_neg hx, ih (y :: l) m (by simp only [List.length_cons] at h ⊢; omega)]
        rfl
/-- what is left begins with a marker, or is nothing -/
def Mk12 (r : List Int) : Prop := r = [] ∨ ∃ y l, r = 255 :: y :: l ∧ 208 ≤ y ∧ y ≤ 215
theorem cut_mark (n : Nat) : ∀ l : List Int, l.length ≤ n → Mk12 (l.drop (cutR l)) := by
  induction n with
  | zero =>
    intro l h; obtain rfl : l = [] := List.eq_nil_of_length_eq_zero (by omega); exact .inl rfl
  | succ n ih =>
    intro l h
    match l with
    | [] => exact .inl rfl
    | [x] => exact .inl rfl
    | x :: y :: l =>
      unfold cutR
      by_cases hx : x = 255 ∧ 208 ≤ y ∧ y ≤ 215
      · rw [if_pos hx]
        obtain ⟨rfl, h1, h2⟩ := hx; exact .inr ⟨y, l, rfl, h1, h2⟩
      · rw [if_neg hx]
        exact ih (y :: l) (by simp only [List.length_cons] at h ⊢; omega)
theorem begin_piece (b : List Int) (m : Int) : ∃ P R, pieceS b m = (P, m) :: tailP R ∧ Mk12 R ∧ beginS b = if (plainS P).2 = P.length then some (bitsS (plainS P).1, R) else none :=
  ⟨b.take (cutR b), b.drop (cutR b), pieceS_cut _ b m (Nat.le_refl _), cut_mark _ b (Nat.le_refl _), rfl⟩
theorem pieceS_ne (b : List Int) (m : Int) : pieceS b m ≠ [] := by rw [pieceS_cut _ b m (Nat.le_refl _)]; exact fun h => by cases h
theorem tailP_nil {R : List Int} : tailP R = [] ↔ R = [] := by
  unfold tailP
  split
  · simp [*]
  · constructor
    · intro h; exact absurd h (pieceS_ne _ _)
    · intro h; contradiction
theorem again_end {iv : Int} {n : Nat} {B R : List Int} (h : tailP R = []) : againR iv n B R = none := by
  rw [tailP_nil] at h; subst h; exact againR_no fun h => by have := h.2.1; simp at this
theorem again_piece {iv : Int} {n : Nat} {B R : List Int} (hR : Mk12 R) {p : List Int × Int} {q : List (List Int × Int)} (h : tailP R = p :: q) :
    ∃ R2, Mk12 R2 ∧ q = tailP R2 ∧ againR iv n B R = if fillS B = true ∧ p.2 + 208 = rstS iv n ∧ (plainS p.1).2 = p.1.length then some (bitsS (plainS p.1).1, R2) else none := by
  rcases hR with rfl | ⟨y, l, rfl, h1, h2⟩
  · cases h
  · obtain ⟨P, R2, e, hm, hb⟩ := begin_piece l (y - 208)
    have e2 : tailP (255 :: y :: l) = (P, y - 208) :: tailP R2 := e; rw [h] at e2; injection e2 with e3 e4; subst e3; refine ⟨R2, hm, e4, ?_⟩
    show _ = if _ ∧ y - 208 + 208 = _ ∧ _ then _ else _
    by_cases c : fillS B = true ∧ y = rstS iv n
    · rw [againR_ok (rest := 255 :: y :: l) ⟨c.1, by simp, c.2⟩]
      show beginS l = _
      rw [hb]
      by_cases d : (plainS P).2 = P.length
      · rw [if_pos d, if_pos ⟨c.1, by omega, d⟩]
      · rw [if_neg d, if_neg (fun h => d h.2.2)]
    · rw [againR_no (rest := 255 :: y :: l) (fun h => c ⟨h.1, h.2.2⟩), if_neg (fun h => c ⟨h.1, by omega⟩)]
/-- pieces gone through: those before, and the one under way -/
def catP (c : List Int) : List (List Int × Int) → List (List Int × Int)
  | [] => []
  | p :: q => (c ++ p.1, p.2) :: q
theorem catP_nil (l : List (List Int × Int)) : catP [] l = l := by cases l <;> rfl
theorem catP_cons (c : List Int) (x : Int) (l : List (List Int × Int)) : catP c (consP x l) = catP (c ++ [x]) l := by
  cases l with
  | nil => rfl
  | cons p q => simp [catP, consP]
theorem piece_next {c : List Int} {x y m : Int} {l : List Int} (h : ¬ (x = 255 ∧ 208 ≤ y ∧ y ≤ 215)) : catP c (pieceS (x :: y :: l) m) = catP (c ++ [x]) (pieceS (y :: l) m) := by
  rw [← catP_cons]
  conv => lhs; unfold pieceS
  rw [if_neg h]
theorem piece_last {c : List Int} {x m : Int} : catP c (pieceS [x] m) = catP (c ++ [x]) (pieceS [] m) := by simp [pieceS, catP]
theorem piece_mark {c : List Int} {x y m : Int} {l : List Int} (h : x = 255 ∧ 208 ≤ y ∧ y ≤ 215) : catP c (pieceS (x :: y :: l) m) = (c, m) :: catP [] (pieceS l (y - 208)) := by
  conv => lhs; unfold pieceS
  rw [if_pos h, catP_nil]
  simp [catP]
theorem piece_end {c : List Int} {m : Int} : catP c (pieceS [] m) = [(c, m)] := by simp [pieceS, catP]
/-- how many symbols a block that lacks some has -/
theorem blkL_short (l : List Cod) : ∀ (k : Nat) (b : List Int) (u : Nat), blkL l k b u = .error 3 → l.length + k ≤ 63 := by
  induction l with
  | nil =>
    intro k b u h; unfold blkL at h
    split at h
    · cases h
    · simp; omega
  | cons x l ih =>
    intro k b u h; unfold blkL at h
    split at h
    · cases h
    · split at h
      · injection h with h; omega
      · split at h
        · cases h
        · split at h
          · injection h with h; omega
          · have := ih _ _ _ h
            simp only [List.length_cons]
            omega
theorem blockS_short {l : List Cod} {last : Int} (h : blockS l last = .error 3) : l.length ≤ 63 := by
  unfold blockS at h
  split at h
  · injection h with h; omega
  · cases l with
    | nil => simp
    | cons x l =>
      simp only at h
      split at h
      · injection h with h; omega
      · split at h
        · have := blkL_short _ _ _ _ h
          simp only [List.length_cons]
          omega
        · injection h with h; omega
end Go.Proofs.Ytpjopeojeglogaa

namespace Go.Proofs.Ytpjopeojeglogaa
open Go.RowKit Tt
set_option linter.unusedVariables false
set_option linter.unusedSimpArgs false

/-- a piece: its bytes, the number of the marker ahead; where the bytes lie -/
abbrev PcM := (List Int × Int) × Option Addr × Nat × Nat
def pcC (p : PcM) : List Value := [.slice p.2.1 p.2.2.1 p.2.2.2, .int .i64 p.1.2]
def pcsC (l : List PcM) : List Value := (l.map pcC).flatten
theorem pcsC_snoc (l : List PcM) (p : PcM) : pcsC (l ++ [p]) = pcsC l ++ [.slice p.2.1 p.2.2.1 p.2.2.2, .int .i64 p.1.2] := by unfold pcsC; rw [List.map_append, List.flatten_append]; rfl
theorem pcsC_len (l : List PcM) : (pcsC l).length = l.length * 2 := flat_len pcC 2 l (fun x _ => rfl)
theorem pcsC_set (l : List PcM) (p q : PcM) (h : p.1.2 = q.1.2) : (pcsC (l ++ [p])).set (l.length * 2) (.slice q.2.1 q.2.2.1 q.2.2.2) = pcsC (l ++ [q]) := by
  rw [pcsC_snoc, pcsC_snoc, ← pcsC_len, List.set_append_right _ _ (Nat.le_refl _), Nat.sub_self, h]
  rfl
theorem infoPc : (Try.prog.info? 159).map (fun i => (i.zero, i.size, i.bytes)) = some (some (.agg #[.slice none 0 0, .int .i64 0]), 2, 32) := by kernel_rfl
/-- pieces whose bytes lie in rows of their own, all below g -/
def PcOk (w : World) (g : Nat) (l : List PcM) : Prop := ∀ p ∈ l, w.ownsRow 0 5 1 (.slice p.2.1 p.2.2.1 p.2.2.2) p.2.2.1 (ints .u8 p.1.1) ∧ ∀ k, (Value.slice p.2.1 p.2.2.1 p.2.2.2).ownBlock = some k → k < g
theorem PcOk.nil (w : World) (g : Nat) : PcOk w g [] := fun p h => by cases h
theorem PcOk.late {w w' : World} {g : Nat} {l : List PcM} (h : PcOk w g l) (hb : Below w.heap.size w w') : PcOk w' g l := fun p hp => ⟨own_later (h p hp).1 hb, (h p hp).2⟩
theorem PcOk.mo {S : Nat → Prop} {w w' : World} {g : Nat} {l : List PcM} (h : PcOk w g l) (m : Mo S w w') (hS : ∀ k, S k → g ≤ k ∨ ∃ cs T, Blk w k T cs ∧ T ≠ 5) : PcOk w' g l := fun p hp => ⟨own_mo (h p hp).1 m (fun k hk hs => by
  rcases hS k hs with h1 | ⟨cs, T, hb, hT⟩
  · have := (h p hp).2 k hk; omega
  · exact own_neB (h p hp).1 hb (Ne.symm hT) hk), (h p hp).2⟩
theorem PcOk.snoc {w : World} {g g2 : Nat} {l : List PcM} {p : PcM} (h : PcOk w g l) (hg : g ≤ g2) (hp : w.ownsRow 0 5 1 (.slice p.2.1 p.2.2.1 p.2.2.2) p.2.2.1 (ints .u8 p.1.1)) (hl : ∀ k, (Value.slice p.2.1 p.2.2.1 p.2.2.2).ownBlock = some k → k < g2) : PcOk w g2 (l ++ [p]) := fun q hq => by
  rcases List.mem_append.1 hq with hq | hq
  · exact ⟨(h q hq).1, fun k hk => Nat.lt_of_lt_of_le ((h q hq).2 k hk) hg⟩
  · rw [List.mem_singleton.1 hq]; exact ⟨hp, hl⟩
/-- a row of pieces that is read -/
structure PcsR (w : World) (a : Option Addr) (n c : Nat) (l : List PcM) : Prop where
  sl : Sl w a n c 2 (pcsC l)
  ok : ∀ p ∈ l, Sl w p.2.1 p.2.2.1 p.2.2.2 1 (ints .u8 p.1.1)
theorem PcsR.mono {w w' : World} {a : Option Addr} {n c : Nat} {l : List PcM} (h : PcsR w a n c l) (hb : Below w.heap.size w w') : PcsR w' a n c l := ⟨h.sl.mono hb, fun p hp => (h.ok p hp).mono hb⟩
theorem PcsR.ilen {w : World} {a : Option Addr} {n c : Nat} {l : List PcM} (h : PcsR w a n c l) : l.length = n := by
  have := h.sl.len; rw [pcsC_len] at this; omega
theorem PcsR.elem {w : World} {a : Option Addr} {n c : Nat} {l : List PcM} (h : PcsR w a n c l) {j : Nat} {p : PcM} (hp : l[j]? = some p) :
    ∃ b o, a = some ⟨b, o, none⟩ ∧ b < w.heap.size ∧ w.cell? ⟨b, o + j * 2, none⟩ = some (.slice p.2.1 p.2.2.1 p.2.2.2) ∧ w.cell? ⟨b, o + j * 2 + 1, none⟩ = some (.int .i64 p.1.2) := by
  have hj : j < n := by rw [← h.ilen]; exact (List.getElem?_eq_some_iff.1 hp).1
  obtain ⟨b, o, e, hb, _, hc⟩ := h.sl.elem hj; unfold pcsC at hc; rw [flat_elem pcC 2 l (fun q hq => rfl) j p hp] at hc; exact ⟨b, o, e, hb, hc 0 _ rfl, hc 1 _ rfl⟩
end Go.Proofs.Ytpjopeojeglogaa

namespace Go.Proofs.Ytpjopeojeglogaa
open Go.RowKit Tt
set_option linter.unusedVariables false
set_option linter.unusedSimpArgs false

theorem fillS_no {B : List Int} {k : Nat} (h : B[k]? = some 0) : fillS B = false := by
  unfold fillS; rw [Bool.and_eq_false_iff]
  right
  rw [List.all_eq_false]; exact ⟨0, List.mem_of_getElem? h, by simp⟩
theorem fillS_all {B : List Int} (h : ∀ (j : Nat) x, B[j]? = some x → x = 1) : fillS B = decide (B.length < 8) := by
  unfold fillS; rw [List.all_eq_true.2, Bool.and_true]; intro x hx; obtain ⟨j, hj, e⟩ := List.mem_iff_getElem.1 hx; have := h j x (by rw [List.getElem?_eq_getElem hj, e])
  simp [this]
set_option maxRecDepth 100000 in
set_option maxHeartbeats 1000000 in
theorem rfilled_any (a : Option Addr) (n c : Nat) (L : List Int) (w : World) (hs : Sl w a n c 1 (ints .i64 L)) (hL : BitL L) (hn : n ≤ 1000000) :
    Calls Try.prog 107 #[.slice a n c] w fun e w' => e = .returned (.bool (fillS L)) ∧ Below w.heap.size w w' := by
  have hl := hs.ilen; have hno := fun k => @fillS_no L k; have hall := @fillS_all L; obtain ⟨R, hR⟩ : ∃ R, fillS L = R := ⟨_, rfl⟩; rw [hR] at hall ⊢; have hno : ∀ k : Nat, L[k]? = some 0 → R = false := fun k h => hR ▸ hno k h; rw [hl] at hall; have hs' := Lib.hid hs; have hL' := Lib.hid hL; have hl' := Lib.hid hl; have hno' := Lib.hid hno; have hall' := Lib.hid hall; have hR' := Lib.hid hR; clear hs hL hl hno hall hR
  go_enter Try.func107, Try.ntmps107
  go_wp2
  go_loopw [3] (fun iv wr => ∃ i : Nat, i ≤ n ∧ iv = .int .i64 i ∧ Hid (∀ (j : Nat) x, j < i → L[j]? = some x → x = 1) ∧ Hid (Below w.heap.size w wr)) (fun iv _ => n - (intOf iv).toNat)
  case atStart => exact ⟨0, by omega, rfl, Lib.hid (fun j x h => by omega), Lib.hid (Below.refl _ _)⟩
  case round =>
    rename World => wr
    obtain ⟨i, hi, rfl, hone, hbel⟩ := hrel
    by_cases hlt : i < n
    · obtain ⟨x, hx⟩ : ∃ x, L[i]? = some x := ⟨_, List.getElem?_eq_getElem (by rw [hl'.out]; exact hlt)⟩
      obtain ⟨g, o, rfl, hg, f⟩ := (hs'.out.mono hbel.out).at hlt; have f0 : wr.cell? ⟨g, o + i, none⟩ = some (.int .i64 x) := f i _ (by unfold ints; rw [List.getElem?_map, hx]; rfl); clear f
      rcases hL'.out x (List.mem_of_getElem? hx) with rfl | rfl
      · obtain rfl : R = false := hno'.out i hx
        have hx' := Lib.hid hx; clear hx
        go_wp2
        go_ret
        exact ⟨rfl, hbel.out⟩
      · have h2 : ∀ (j : Nat) x, j < i + 1 → L[j]? = some x → x = 1 := fun j x hj hx2 => by
          rcases Nat.lt_or_ge j i with h | h
          · exact hone.out j x h hx2
          · obtain rfl : j = i := by omega
            rw [hx] at hx2; injection hx2 with hx2; exact hx2.symm
        have hx' := Lib.hid hx; have h2' := Lib.hid h2; clear hx h2
        go_wp2
        go_roundw
        case rel => exact ⟨i + 1, by omega, by go_num, h2', hbel⟩
        case measure => simp [intOf]; omega
    · have h2 := hall'.out (fun j x hx => hone.out j x (by have := (List.getElem?_eq_some_iff.1 hx).1; have := hl'.out; omega) hx)
      by_cases c8 : n < 8
      · obtain rfl : R = true := by rw [h2]; exact decide_eq_true c8
        have d8 : decide ((n : Int) < 8) = true := decide_eq_true (by omega); clear h2
        go_wp2
        go_ret
        exact ⟨rfl, hbel.out⟩
      · obtain rfl : R = false := by rw [h2]; exact decide_eq_false c8
        have d8 : decide ((n : Int) < 8) = false := decide_eq_false (by omega); clear h2
        go_wp2
        go_ret
        exact ⟨rfl, hbel.out⟩
theorem unitN_snoc {ps : List PtM} {k : Nat} {p : PtM} (h : ps[k]? = some p) : unitN (ps.take (k + 1)) = unitN (ps.take k) + p.1.toNat * p.2.1.toNat := by
  unfold unitN; rw [List.take_add_one, h, List.map_append, List.sum_append]
  simp
set_option maxRecDepth 100000 in
set_option maxHeartbeats 1000000 in
theorem runit12_any (s : ScT) (pa : Option Addr) (pn pc : Nat) (w : World) (hs : PtsR w pa pn pc s.ps) (hpts : ∀ (k : Nat) p, s.ps[k]? = some p → mayPt p = true) (hp4 : pn ≤ 4) :
    Calls Try.prog 96 #[.agg #[.int .i64 s.ax, .int .i64 s.dn, .slice pa pn pc, .int .i64 s.iv]] w fun e w' => e = .returned (.int .i64 (unitN s.ps : Nat)) ∧ Below w.heap.size w w' := by
  have hl := hs.ilen; obtain ⟨ax, dn, iv, ps⟩ := s; simp only at hs hl hpts ⊢; have b1 := Blk.new w 24 #[.int .i64 ax, .int .i64 dn, .slice pa pn pc, .int .i64 iv]; have hb1 := (Below.refl w.heap.size w).alloc (Nat.le_refl _) (.cells #[.int .i64 ax, .int .i64 dn, .slice pa pn pc, .int .i64 iv] 24); obtain ⟨W1, hW1⟩ : ∃ W1, w.alloc (.cells #[.int .i64 ax, .int .i64 dn, .slice pa pn pc, .int .i64 iv] 24) = W1 := ⟨_, rfl⟩; rw [hW1] at b1 hb1; have k2 : W1.cell? ⟨w.heap.size, 2, none⟩ = some (.slice pa pn pc) := b1.cell rfl; have hs' := Lib.hid hs; have hl' := Lib.hid hl; have b1' := Lib.hid b1; have hb1' := Lib.hid hb1; have hW1' := Lib.hid hW1; have hpts' := Lib.hid hpts; clear hs hl b1 hb1 hW1 hpts
  go_enter Try.func96, Try.ntmps96
  go_upto_region 1 with fail
  rw [hW1'.out]
  go_wp2
  clear k2
  go_loopw [3, 4] (fun nv iv wr => ∃ (k m : Nat), k ≤ pn ∧ m ≤ 16 * k ∧ iv = .int .i64 k ∧ nv = .int .i64 m ∧ Hid (m = unitN (ps.take k)) ∧ Hid (Below W1.heap.size W1 wr)) (fun _ iv _ => pn - (intOf iv).toNat)
  case atStart => exact ⟨0, 0, by omega, by omega, rfl, rfl, Lib.hid rfl, Lib.hid (Below.refl _ _)⟩
  case round =>
    rename World => wr
    obtain ⟨k, m, hk, hm, rfl, rfl, hmk, hbel⟩ := hrel; have k2 : wr.cell? ⟨w.heap.size, 2, none⟩ = some (.slice pa pn pc) := (b1'.out.late hbel.out).cell rfl; have hbw := hb1'.out.trans (hbel.out.mono hb1'.out.size)
    by_cases hlt : k < pn
    · obtain ⟨p, hp⟩ : ∃ p, ps[k]? = some p := ⟨_, List.getElem?_eq_getElem (by rw [hl'.out]; exact hlt)⟩
      obtain ⟨g, o, rfl, hg, f⟩ := (hs'.out.mono hbw).elem hp; have hmp := mayPt_bd (hpts'.out k p hp); have hun := unitN_snoc hp; obtain ⟨h, hh⟩ : ∃ h : Nat, p.1 = h := ⟨p.1.toNat, by omega⟩; obtain ⟨v, hv⟩ : ∃ v : Nat, p.2.1 = v := ⟨p.2.1.toNat, by omega⟩; have f0 : wr.cell? ⟨g, o + k * 36, none⟩ = some (.int .i64 h) := by have := f 0 (.int .i64 p.1) rfl; rw [hh] at this; exact this
      have f1 : wr.cell? ⟨g, o + k * 36 + 1, none⟩ = some (.int .i64 v) := by have := f 1 (.int .i64 p.2.1) rfl; rw [hv] at this; exact this
      rw [hh, hv, Int.toNat_natCast, Int.toNat_natCast] at hun; rw [hh, hv] at hmp; obtain ⟨z, hz⟩ : ∃ z, h * v = z := ⟨_, rfl⟩; have hz16 : z ≤ 16 := by rw [← hz]; exact Nat.le_trans (Nat.mul_le_mul (show h ≤ 4 by omega) (show v ≤ 4 by omega)) (by decide)
      rw [hz] at hun; have ew : IntKind.i64.wrap ((h : Int) * v) = z := by rw [← Int.natCast_mul, hz]; exact wrapN (by omega)
      have hm2 : m + z = unitN (ps.take (k + 1)) := by rw [hun, hmk.out]
      clear f hmp hun hz; have hp' := Lib.hid hp; have hh' := Lib.hid hh; have hv' := Lib.hid hv; have hm2' := Lib.hid hm2; have hbw' := Lib.hid hbw; clear hp hh hv hm2 hbw
      go_wp2
      go_quiet (fail)
      go_wp2
      go_roundw
      case rel => exact ⟨k + 1, m + z, by omega, by omega, by go_num, by go_num, hm2', Lib.hid (below_dN hbel.out)⟩
      case measure => simp [intOf]; omega
    · have hkn : k = pn := by omega
      have hm3 := hmk.out; rw [List.take_of_length_le (by rw [hl'.out]; omega)] at hm3; subst hm3; have hbw' := Lib.hid hbw; clear hbw
      go_wp2
      go_ret
      exact ⟨rfl, hbw'.out⟩
end Go.Proofs.Ytpjopeojeglogaa
