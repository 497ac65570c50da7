/- Chapter 3, the document's side: Stuff, Bytes. | Chapter 4 (plain): each code of a table from the one ahead of it. -/
import Derived.Test.YtpjopeojeglogaaCw33
import Derived.Test.YtpjopeojeglogaaCw06
import Derived.Test.YtpjopeojeglogaaCw07
namespace Go.Proofs.Ytpjopeojeglogaa
open Go.RowKit Tt
set_option linter.unusedVariables false
set_option linter.unusedSimpArgs false

set_option maxRecDepth 100000 in
set_option maxHeartbeats 4000000 in
theorem rstuff_any (a : Option Addr) (n c : Nat) (z : List Int) (w : World) (hs : Sl w a n c 1 (ints .u8 z)) (hn : n ≤ 1000000) :
    Calls Try.prog 147 #[.slice a n c] w fun e w' => ∃ a2 m c2, e = .returned (.slice a2 m c2) ∧ w'.ownsRow w.heap.size 5 1 (.slice a2 m c2) m (ints .u8 (stuffS z)) ∧ Below w.heap.size w w' := by
  obtain ⟨i0, hi, hz0, hz1, hz2⟩ := info_parts info8; have hl := hs.ilen; have hs' := Lib.hid hs; have hl' := Lib.hid hl; clear hs hl
  go_enter Try.func147, Try.ntmps147
  go_wp2
  go_loopw [3, 4] (fun ov uv wr => ∃ (k m : Nat) (a2 : Option Addr) (c2 : Nat), k ≤ n ∧ m ≤ 2 * k ∧ uv = .int .i64 k ∧ ov = .slice a2 m c2 ∧ Hid (wr.ownsRow w.heap.size 5 1 (.slice a2 m c2) m (ints .u8 (stuffS (z.take k)))) ∧ Hid (Below w.heap.size w wr)) (fun _ uv _ => n - (intOf uv).toNat)
  case atStart => exact ⟨0, 0, none, 0, by omega, by omega, rfl, rfl, Lib.hid (own_nil _ _ _ _), Lib.hid (Below.refl _ _)⟩
  case round =>
    rename World => wr
    obtain ⟨k, m, a2, c2, hk, hm, rfl, rfl, hown, hbel⟩ := hrel
    by_cases hlt : k < n
    · obtain ⟨b, oo, rfl, hb, f⟩ := (hs'.out.mono hbel.out).at hlt
      have f0 := f k _ (ints_get (by rw [hl'.out]; exact hlt)); have hsz := hbel.out.size; have hst := stuffS_take (l := z) (k := k) (by rw [hl'.out]; exact hlt); obtain ⟨x, hx⟩ : ∃ x, z.getD k 0 = x := ⟨_, rfl⟩; rw [hx] at f0 hst
      by_cases hc : x = 255
      · subst hc
        rw [if_pos rfl] at hst; clear f; have hst' := Lib.hid hst; have hx' := Lib.hid hx; clear hst hx
        go_upto_region 6 with (at_builtin; refine wpList_app_lit rfl _ _ 30 rfl w.heap.size 5 i0 _ 1 1 Try.underlying30 hi hz0 (by assumption) hz2 rfl (by decide) _ m _ rfl hown.out #[.int .u8 255] rfl rfl (by simp [Value.oneCell']) (by omega) (by decide) w hbel.out hsz ?_; intro a5 c5 w5 ho5 hb5; have Ho5 := Lib.hid ho5; have Hb5 := Lib.hid hb5; have S5 := (hs'.out.mono hb5); obtain ⟨b5, oo5, e5, hb5', f5⟩ := S5.at hlt; cases e5; have f6 := f5 k _ (ints_get (by rw [hl'.out]; exact hlt)); rw [hx'.out] at f6; clear ho5 hb5 S5 f5 hb5')
        clear hown hbel hsz; have hown := Lib.hid (ints_append (k := .u8) ▸ Ho5.out : w5.ownsRow w.heap.size 5 1 (.slice a5 (m + 1) c5) (m + 1) (ints .u8 (stuffS (z.take k) ++ [255]))); have hbel := Hb5; have hsz := hbel.out.size
        go_wp2_with (at_builtin; refine wpList_app_lit rfl _ _ 30 rfl w.heap.size 5 i0 _ 1 1 Try.underlying30 hi hz0 (by assumption) hz2 rfl (by decide) _ (m + 1) _ rfl hown.out #[.int .u8 0] rfl rfl (by simp [Value.oneCell']) (by omega) (by decide) w hbel.out hsz ?_; intro a7 c7 w7 ho7 hb7; have Ho7 := Lib.hid ho7; have Hb7 := Lib.hid hb7; clear ho7 hb7)
        go_roundw
        case rel => exact ⟨k + 1, m + 2, a7, c7, by omega, by omega, by go_num, by first | rfl | go_num, Lib.hid (by rw [hst'.out, show stuffS (z.take k) ++ [255, 0] = (stuffS (z.take k) ++ [255]) ++ [0] by simp]; exact ints_append (k := .u8) ▸ Ho7.out), Hb7⟩
        case measure => simp [intOf]; omega
      · have hcd : (x == 255) = false := by simpa using hc
        rw [if_neg hc] at hst; clear f hc; have hst' := Lib.hid hst; have hx' := Lib.hid hx; clear hst hx
        go_wp2_with (at_builtin; refine wpList_app_lit rfl _ _ 30 rfl w.heap.size 5 i0 _ 1 1 Try.underlying30 hi hz0 (by assumption) hz2 rfl (by decide) _ m _ rfl hown.out #[.int .u8 x] rfl rfl (by simp [Value.oneCell']) (by omega) (by decide) w hbel.out hsz ?_; intro a5 c5 w5 ho5 hb5; have Ho5 := Lib.hid ho5; have Hb5 := Lib.hid hb5; have S5 := (hs'.out.mono hb5); obtain ⟨b5, oo5, e5, hb5', f5⟩ := S5.at hlt; cases e5; have f6 := f5 k _ (ints_get (by rw [hl'.out]; exact hlt)); rw [hx'.out] at f6; clear ho5 hb5 S5 f5 hb5' hsz)
        go_roundw
        case rel => exact ⟨k + 1, m + 1, a5, c5, by omega, by omega, by go_num, rfl, Lib.hid (by rw [hst'.out]; exact ints_append (k := .u8) ▸ Ho5.out), Hb5⟩
        case measure => simp [intOf]; omega
    · obtain rfl : k = n := by omega
      have hall : z.take k = z := List.take_of_length_le (Nat.le_of_eq hl'.out); have ho := hown.out; rw [hall] at ho; clear hall; have ho' := Lib.hid ho; clear ho
      go_wp2
      go_ret
      exact ⟨a2, m, c2, rfl, ho'.out, hbel.out⟩
theorem padS_full {l : List Int} (h : l.length % 8 = 0) : padS l = l := by unfold padS; rw [h]; simp
theorem padS_more {l : List Int} (h : l.length % 8 ≠ 0) : padS (l ++ [1]) = padS l := by
  unfold padS; rw [List.length_append, List.length_singleton, List.append_assoc, List.append_cancel_left_eq]; rw [show (8 - l.length % 8) % 8 = (8 - (l.length + 1) % 8) % 8 + 1 by omega, List.replicate_succ]
  rfl
theorem numL_take {l : List Int} {j : Nat} (h : j < l.length) : numL (l.take (j + 1)) = 2 * numL (l.take j) + l.getD j 0 := by
  unfold numL; rw [List.take_add_one, List.getElem?_eq_getElem h, List.foldl_append, List.getD_eq_getElem?_getD, List.getElem?_eq_getElem h]
  rfl
set_option maxRecDepth 100000 in
set_option maxHeartbeats 4000000 in
theorem rbytes_any (a : Option Addr) (n c : Nat) (z : List Int) (w : World) (hs : Sl w a n c 1 (ints .i64 z)) (hn : n ≤ 1000000) (hz : BitL z) :
    Calls Try.prog 98 #[.slice a n c] w fun e w' => ∃ a2 m c2, e = .returned (.slice a2 m c2) ∧ w'.ownsRow w.heap.size 5 1 (.slice a2 m c2) m (ints .u8 (bytesS z)) ∧ Below w.heap.size w w' := by
  obtain ⟨i0, hi, hz0, hz1, hz2⟩ := info_parts infoI; obtain ⟨i8, hi8, hz80, hz81, hz82⟩ := info_parts info8; have hl := hs.ilen; have O0 := own_new w w.heap.size 3 1 0 #[] (Nat.le_refl _) (by unfold maxLen; omega) rfl; have hal0 := (Below.refl w.heap.size w).alloc (Nat.le_refl _) (.cells #[] 3); have hsz0 := hal0.size; have sa0 := hs.mono hal0; have hs' := Lib.hid hs; have hl' := Lib.hid hl; have hz' := Lib.hid hz; have O0' := Lib.hid O0; have hal0' := Lib.hid hal0; have sa0' := Lib.hid sa0; clear hs hl hz O0 hal0 sa0
  go_enter Try.func98, Try.ntmps98
  go_wp2_with (at_builtin; refine wpList_app rfl _ _ 35 rfl w.heap.size 3 i0 _ 1 8 Try.underlying35 hi hz0 hz1 hz2 rfl (by decide) _ 0 [] rfl O0'.out a n c _ rfl sa0'.out ints_one (by omega) (by decide) hsz0 ?_; intro a5 c5 w5 ob5 hb5 hg5; simp only [Nat.zero_add, List.nil_append] at ob5 ⊢; have Ob5 := Lib.hid ob5; have Hb5 := Lib.hid (hal0'.out.trans hb5); clear ob5 hb5 hg5)
  clear O0' hal0' sa0' hsz0; obtain ⟨M, hM, hM8, hMn⟩ : ∃ M, n ≤ M ∧ M % 8 = 0 ∧ M ≤ n + 7 := ⟨n + (8 - n % 8) % 8, by omega, by omega, by omega⟩
  go_loopw [0] (fun lv wr => ∃ (m : Nat) (a2 : Option Addr) (c2 : Nat) (L : List Int), m ≤ M ∧ lv = .slice a2 m c2 ∧ Hid (wr.ownsRow w.heap.size 3 1 (.slice a2 m c2) m (ints .i64 L)) ∧ Hid (L.length = m ∧ BitL L ∧ padS L = padS z) ∧ Hid (Below w.heap.size w wr)) (fun lv _ => (8 - (sliceLen lv) % 8) % 8)
  case atStart => exact ⟨n, a5, c5, z, by omega, rfl, Ob5, Lib.hid ⟨hl'.out, hz'.out, rfl⟩, Hb5⟩
  case round =>
    rename World => wr
    obtain ⟨m, a2, c2, L, hm, rfl, hown, hL, hbel⟩ := hrel; have emod : Int.tmod (m : Int) 8 = ((m % 8 : Nat) : Int) := (Int.ofNat_tmod m 8).symm; obtain ⟨r, hr⟩ : ∃ r, m % 8 = r := ⟨_, rfl⟩; rw [hr] at emod; have hr8 : r < 8 := by omega
    have hsz := hbel.out.size
    by_cases hlt : r = 0
    · subst hlt
      have hP : padS z = L := by rw [← hL.out.2.2, padS_full (by rw [hL.out.1]; exact hr)]
      have sL := (Sl.of_own hown.out).1; have hbit := hL.out.2.1; have hbs : bytesS z = stuffS (packS L) := by unfold bytesS; rw [hP]
      obtain ⟨q, hq⟩ : ∃ q, m / 8 = q := ⟨_, rfl⟩; have hmq : m = 8 * q := by omega
      have hpk : packS L = packN L q := by unfold packS; rw [hL.out.1, hq]
      have hLl := hL.out.1; clear hr hL hown hP hq; have sL' := Lib.hid sL; have hbit' := Lib.hid hbit; have hbs' := Lib.hid hbs; have hpk' := Lib.hid hpk; have hLl' := Lib.hid hLl; have hsz' := Lib.hid hsz; clear sL hbit hbs hpk hLl hsz
      go_wp2
      go_loopw [3, 4, 5, 6] (fun ov iv _ _ wr2 => ∃ (k : Nat) (a3 : Option Addr) (c3 : Nat), k ≤ q ∧ iv = .int .i64 ((8 * k : Nat) : Int) ∧ ov = .slice a3 k c3 ∧ Hid (wr2.ownsRow wr.heap.size 5 1 (.slice a3 k c3) k (ints .u8 (packN L k))) ∧ Hid (Below wr.heap.size wr wr2)) (fun _ iv _ _ _ => m - (intOf iv).toNat)
      case atStart => exact ⟨0, none, 0, by omega, by go_num, rfl, Lib.hid (own_nil _ _ _ _), Lib.hid (Below.refl _ _)⟩
      case round =>
        rename World => w2
        obtain ⟨k, a3, c3, hk, rfl, rfl, hown, hb2⟩ := hrel
        by_cases hlt : k < q
        · have hbl2 := hbel.out.trans (hb2.out.mono hbel.out.size)
          have hX : ((L.drop (8 * k)).take 8).length = 8 := by rw [List.length_take, List.length_drop, hLl'.out]; omega
          have hXb : BitL ((L.drop (8 * k)).take 8) := (hbit'.out.drop _).take _
          have hXg : ∀ j, j < 8 → L.getD (8 * k + j) 0 = ((L.drop (8 * k)).take 8).getD j 0 := fun j hj => by
            rw [List.getD_eq_getElem?_getD, List.getD_eq_getElem?_getD, List.getElem?_take_of_lt hj, List.getElem?_drop]
          have hps := packN_succ L k; obtain ⟨X, hXe⟩ : ∃ X, (L.drop (8 * k)).take 8 = X := ⟨_, rfl⟩; rw [hXe] at hX hXb hXg hps; have hbd := numL_bound X hXb; rw [hX] at hbd; obtain ⟨nX, hnX⟩ : ∃ v, numL X = v := ⟨_, rfl⟩; rw [hnX] at hbd hps; have hs2 := hb2.out.size; have hlt8 : 8 * k + 8 ≤ m := by omega
          clear hXe; have hX' := Lib.hid hX; have hXb' := Lib.hid hXb; have hXg' := Lib.hid hXg; have hps' := Lib.hid hps; have hbl2' := Lib.hid hbl2; have hnX' := Lib.hid hnX; have hown' := Lib.hid hown; clear hX hXb hXg hps hbl2 hnX hown
          go_wp2
          go_loopw [5, 6] (fun cv jv wx => ∃ j : Nat, j ≤ 8 ∧ jv = .int .i64 j ∧ cv = .int .i64 (numL (X.take j)) ∧ wx = w2) (fun _ jv _ => 8 - (intOf jv).toNat)
          case atStart => exact ⟨0, by omega, rfl, rfl, rfl⟩
          case round =>
            rename World => wx
            obtain ⟨j, hj, rfl, rfl, rfl⟩ := hrel
            by_cases hj8 : j < 8
            · obtain ⟨b, oo, e, hb, f⟩ := ((sL'.out.mono hb2.out).at (show 8 * k + j < m by omega))
              have f0 := f (8 * k + j) _ (ints_get (by rw [hLl'.out]; omega)); rw [hXg'.out j hj8] at f0; have hst := numL_take (l := X) (j := j) (by rw [hX'.out]; exact hj8); have hb1 := numL_bound _ (hXb'.out.take j); have hb3 := numL_bound _ (hXb'.out.take (j + 1))
              have hp1 : (2 : Int) ^ (X.take j).length ≤ 256 := by
                have h1 : (X.take j).length ≤ 8 := by rw [List.length_take]; omega
                have h2 : 2 ^ (X.take j).length ≤ 2 ^ 8 := Nat.pow_le_pow_right (by decide) h1
                exact_mod_cast h2
              have hp2 : (2 : Int) ^ (X.take (j + 1)).length ≤ 256 := by
                have h1 : (X.take (j + 1)).length ≤ 8 := by rw [List.length_take]; omega
                have h2 : 2 ^ (X.take (j + 1)).length ≤ 2 ^ 8 := Nat.pow_le_pow_right (by decide) h1
                exact_mod_cast h2
              obtain ⟨v1, hv1⟩ : ∃ v, numL (X.take j) = v := ⟨_, rfl⟩; obtain ⟨v2, hv2⟩ : ∃ v, numL (X.take (j + 1)) = v := ⟨_, rfl⟩; obtain ⟨xb, hxb⟩ : ∃ v, X.getD j 0 = v := ⟨_, rfl⟩; rw [hv1, hv2, hxb] at hst; rw [hv1] at hb1; rw [hv2] at hb3; rw [hxb] at f0; rw [hv1]; have hb1' : 0 ≤ v1 ∧ v1 < 256 := by omega
              have hb3' : 0 ≤ v2 ∧ v2 < 256 := by omega
              have hst2 : 2 * v1 + xb = v2 := hst.symm; subst e; clear f hst hb1 hb3 hp1 hp2; have hv1' := Lib.hid hv1; have hv2' := Lib.hid hv2; have hxb' := Lib.hid hxb; clear hv1 hv2 hxb
              go_wp2
              go_roundw
              case rel => exact ⟨j + 1, by omega, by go_num, by rw [hv2'.out], trivial⟩
              case measure => simp [intOf]; omega
            · have hj8 : j = 8 := by omega
              have hall : X.take j = X := List.take_of_length_le (by rw [hX'.out, hj8]; exact Nat.le_refl 8); rw [hall, hnX'.out]; have hcv : IntKind.u8.wrap nX = nX := by rw [IntKind.wrap_u8]; omega
              have ho := hown'.out.out; clear hall; have ho' := Lib.hid ho; clear ho
              go_wp2_with (at_builtin; refine wpList_app_lit rfl _ _ 30 rfl wr.heap.size 5 i8 _ 1 1 Try.underlying30 hi8 hz80 (by assumption) hz82 rfl (by decide) _ k _ rfl ho'.out #[.int .u8 nX] rfl rfl (by simp [Value.oneCell']) (by omega) (by decide) wr hb2.out hs2 ?_; intro a5 c5 w5 ho5 hb5; have Ho5 := Lib.hid ho5; have Hb5 := Lib.hid hb5; clear ho5 hb5)
              go_roundw
              case rel => exact ⟨k + 1, by omega, by go_num, a5, c5, ⟨rfl, rfl, rfl⟩, Lib.hid (by rw [hps'.out]; exact ints_append (k := .u8) ▸ Ho5.out)⟩
              case measure => simp [intOf]; omega
        · obtain rfl : k = q := by omega
          have hbl2 := hbel.out.trans (hb2.out.mono hbel.out.size); have HS := rstuff_any a3 k c3 (packN L k) w2 (Sl.of_own hown.out).1 (by omega); clear hown hlt; have hbl2' := Lib.hid hbl2; have HS' := Lib.hid HS; clear hbl2 HS
          go_wp2_with fail
          refine HS'.out.mono ?_; rintro e w5 ⟨a5, n5, c5, rfl, ho5, hb5⟩; have hfin := hbl2'.out.trans (hb5.mono hbl2'.out.size)
          have hof : w5.ownsRow w.heap.size 5 1 (.slice a5 n5 c5) n5 (ints .u8 (bytesS z)) := by
            rw [hbs'.out, hpk'.out]; exact own_mono ho5 hbl2'.out.size
          clear ho5 hb5; have hfin' := Lib.hid hfin; have hof' := Lib.hid hof; clear hfin hof
          go_wp2
          go_ret
          exact ⟨a5, n5, c5, rfl, hof'.out, hfin'.out⟩
    · have ho := hown.out
      have hmore := padS_more (l := L) (by rw [hL.out.1, hr]; exact hlt); have hmM : m < M := by omega
      have hrb : ((r : Int) != 0) = true := by simp; omega
      clear hown; have ho' := Lib.hid ho; have hmore' := Lib.hid hmore; have hr' := Lib.hid hr; clear ho hmore hr
      go_wp2_with (at_builtin; refine wpList_app_lit rfl _ _ 35 rfl w.heap.size 3 i0 _ 1 8 Try.underlying35 hi hz0 (by assumption) hz2 rfl (by decide) _ m _ rfl ho'.out #[.int .i64 1] rfl rfl (by simp [Value.oneCell']) (by omega) (by decide) w hbel.out hsz ?_; intro a7 c7 w7 ho7 hb7; have Ho7 := Lib.hid ho7; have Hb7 := Lib.hid hb7; clear ho7 hb7)
      go_roundw
      case rel => exact ⟨m + 1, a7, c7, L ++ [1], by omega, rfl, Lib.hid (ints_append (k := .i64) ▸ Ho7.out), Lib.hid ⟨by rw [List.length_append, hL.out.1]; rfl, hL.out.2.1.app (fun x hx => .inr (List.mem_singleton.1 hx)), hmore'.out.trans hL.out.2.2⟩, Hb7⟩
      case measure => have := hr'.out; simp [sliceLen]; omega
end Go.Proofs.Ytpjopeojeglogaa

namespace Go.Proofs.Ytpjopeojeglogaa
set_option linter.unusedVariables false
set_option linter.unusedSimpArgs false

/-- the codes of less than i + 1 bits, and k of i + 1 bits -/
def upTo (c : List Int) (i k : Nat) : List (Int × Nat) := codesTo c i ++ (lvlS c i).take k
theorem lvl_len (c : List Int) (i : Nat) : (lvlS c i).length = (c.getD i 0).toNat := by simp [lvlS]
theorem upTo_succ {c : List Int} {i k : Nat} (hk : k < (c.getD i 0).toNat) : upTo c i (k + 1) = upTo c i k ++ [(valS c i + k, i + 1)] := by
  unfold upTo; rw [List.take_add_one, List.append_assoc]
  congr 2
  unfold lvlS; rw [List.getElem?_map, List.getElem?_range hk]
  rfl
theorem upTo_full {c : List Int} {i k : Nat} (hk : (c.getD i 0).toNat ≤ k) : upTo c i k = upTo c (i + 1) 0 := by
  unfold upTo; rw [List.take_of_length_le (by rw [lvl_len]; exact hk), codesTo_succ, List.take_zero, List.append_nil]
theorem upTo_all (c : List Int) : upTo c 16 0 = codesS c := by unfold upTo codesS; rw [List.take_zero, List.append_nil]
def NextP (c : List Int) (i k : Nat) : Prop := (upTo c i k = [] ∧ valS c i + k = 0) ∨ ∃ x, (upTo c i k).getLast? = some x ∧ 1 ≤ x.2 ∧ x.2 ≤ i + 1 ∧ (x.1 + 1) * 2 ^ (i + 1 - x.2) = valS c i + k
theorem nextP_in {c : List Int} {i : Nat} (h0 : NextP c i 0) : ∀ k, k ≤ (c.getD i 0).toNat → NextP c i k := by
  intro k
  induction k with
  | zero => intro _; exact h0
  | succ k ih =>
    intro hk; refine .inr ⟨(valS c i + k, i + 1), ?_, by simp, by simp, ?_⟩
    · rw [upTo_succ (by omega)]; simp
    · simp only [Nat.sub_self, Int.pow_zero, Int.mul_one]; omega
theorem codes_last {c : List Int} (hc : ∀ i, i < 16 → 0 ≤ c.getD i 0) : ∀ i, i < 16 → ∀ k, k ≤ (c.getD i 0).toNat → NextP c i k := by
  intro i
  induction i with
  | zero => intro _; exact nextP_in (.inl ⟨by simp [upTo, codesTo], by simp [valS]⟩)
  | succ i ih =>
    intro hi; refine nextP_in ?_; have h1 := ih (by omega) (c.getD i 0).toNat (Nat.le_refl _); have h2 := upTo_full (c := c) (i := i) (Nat.le_refl _); have hn := hc i (by omega); have hv : valS c (i + 1) = 2 * (valS c i + c.getD i 0) := rfl; unfold NextP at h1 ⊢; rw [h2] at h1
    rcases h1 with ⟨e, h⟩ | ⟨x, e, h3, h4, h⟩
    · exact .inl ⟨e, by rw [hv]; omega⟩
    · refine .inr ⟨x, e, h3, by omega, ?_⟩
      rw [show i + 1 + 1 - x.2 = (i + 1 - x.2) + 1 by omega, Int.pow_succ, ← Int.mul_assoc, h, hv]
      omega
end Go.Proofs.Ytpjopeojeglogaa
