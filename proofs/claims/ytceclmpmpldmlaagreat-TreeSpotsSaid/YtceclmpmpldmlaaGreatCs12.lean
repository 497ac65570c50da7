/- Chapter 20: is any of a directory's values one that may not be: the program. | Chapter 21: is a tag one of a shape's own: the program. | Chapter 20: Of: the program, may being given. | Chapter 20: Long: the program, may being given. | Bytes of one's own (chapter 1); a tag among a shape's links, one of its own (chapter 21): the document. -/
import Derived.Test.YtceclmpmpldmlaaGreatCs11
import Derived.Lib.SliceRun
import Derived.Test.YtceclmpmpldmlaaGreatCs02
import Derived.Test.YtceclmpmpldmlaaGreatCs03
import Derived.Test.YtceclmpmpldmlaaGreatCs00
import Derived.Test.YtceclmpmpldmlaaGreatCs04
import Derived.Test.YtceclmpmpldmlaaGreatCs07
import Derived.Test.YtceclmpmpldmlaaGreatCs08
namespace Go.Proofs.YtceclmpmpldmlaaGreat
open Go.RowKit Tt
set_option linter.unusedVariables false
set_option linter.unusedSimpArgs false

theorem may1_any (y t k : Int) (xa : Option Addr) (xn xc : Nat) (d : List Int) (w : World) (hs : Sl w xa xn xc 1 (ints .u8 d)) (hd : Byt d) :
    Calls Tryz.prog 101 #[.agg #[.int .i64 y, .int .i64 t, .int .i64 k, .slice xa xn xc]] w fun e w' => e = .returned (.bool (!mayS t k d)) ∧ Below w.heap.size w w' := by
  have hb1 := (Below.refl w.heap.size w).alloc (Nat.le_refl _) (.cells #[.int .i64 y, .int .i64 t, .int .i64 k, .slice xa xn xc] 74); have hM := may_any t k xa xn xc d _ (hs.mono hb1) hd
  generalize mayS t k d = r at *
  have hb1' := Lib.hid hb1; have hM' := Lib.hid hM; have hs' := Lib.hid hs; have hd' := Lib.hid hd; clear hb1 hM hs hd
  go_enter Tryz.func101, Tryz.ntmps101
  go_wp2_with fail
  refine hM'.out.mono ?_; rintro e w2 ⟨rfl, hb2⟩; have hb := hb1'.out.trans (hb2.mono hb1'.out.size); clear hb2; have hb' := Lib.hid hb; clear hb
  go_wp2_with fail
  go_ret
  exact ⟨rfl, hb'.out⟩
def badT (x : Tgs) : Bool := !okT x
set_option maxHeartbeats 1000000 in
theorem tidx_any (a : Option Addr) (n c : Nat) (zs : List Tz) (w : World) (hs : Tgr w a n c zs) (hbt : ∀ z ∈ zs, Byt z.2) :
    Calls Tryz.prog 158 #[.slice a n c, .func (.func 101) #[] #[]] w fun e w' => e = .returned (.int .i64 (fst badT (zs.map tagz))) ∧ Below w.heap.size w w' := by
  have hl : (zs.map tagz).length = n := by rw [List.length_map]; exact hs.len
  have hzl := hs.len; have hm := hs.row.max; have hle := hs.row.le; have hs' := Lib.hid hs; have hl' := Lib.hid hl; have hbt' := Lib.hid hbt; clear hs hl hbt
  go_enter Tryz.func158, Tryz.ntmps158
  go_wp2
  go_loopw [8] (fun iv wr => ∃ k : Nat, k ≤ n ∧ iv = .int .i64 k ∧ Hid (∀ i (hi : i < (zs.map tagz).length), i < k → badT (zs.map tagz)[i] = false) ∧ Hid (Below w.heap.size w wr)) (fun iv _ => n - (intOf iv).toNat)
  case atStart => exact ⟨0, by omega, rfl, Lib.hid (fun j _ hj => by omega), Lib.hid (Below.refl _ _)⟩
  case round =>
    obtain ⟨i, hk, rfl, hall, hb⟩ := hrel
    by_cases hlt : i < n
    · have hww : IntKind.i64.wrap ((i : Int) + 1) = i + 1 := by rw [IntKind.wrap_i64]; omega
      have hil : (i : Int) < (n : Int) := by omega
      have hkl : i < (zs.map tagz).length := by rw [hl'.out]; exact hlt
      have hkz : i < zs.length := by omega
      obtain ⟨b, o, rfl, hbb, f0, f1, f2, f3, hrd⟩ := (hs'.out.mono hb.out).at hlt; have hxk : (zs.map tagz)[i] = tagz (zs.getD i tz0) := by rw [List.getElem_map, getD_el hkz]
      have hbd : Byt (zs.getD i tz0).2 := by rw [getD_el hkz]; exact hbt'.out _ (List.getElem_mem hkz)
      obtain ⟨⟨⟨y, t, kk, xa, xn, xc⟩, dd⟩, hzi⟩ : ∃ z, zs.getD i tz0 = z := ⟨_, rfl⟩; rw [hzi] at f0 f1 f2 f3 hrd hxk hbd; simp only [tagz] at f0 f1 f2 f3 hxk hrd hbd; have HC := may1_any y t kk xa xn xc dd wr hrd hbd; have hbx : badT (zs.map tagz)[i] = !mayS t kk dd := by rw [hxk]; rfl
      obtain ⟨r, hr⟩ : ∃ r, (!mayS t kk dd) = r := ⟨_, rfl⟩; rw [hr] at HC hbx; clear hxk; have HC' := Lib.hid HC; have hr' := Lib.hid hr; have hbx' := Lib.hid hbx; have hrd' := Lib.hid hrd; have hbd' := Lib.hid hbd; have hzi' := Lib.hid hzi; clear HC hr hbx hrd hbd hzi
      go_wp2_with fail
      refine HC'.out.mono ?_; rintro e w2 ⟨rfl, hb2⟩; have hbw := hb.out.trans (hb2.mono hb.out.size); clear hb2 f0 f1 f2 f3
      cases r with
      | true =>
        have hbw' := Lib.hid hbw; clear hbw
        go_wp2
        go_ret
        exact ⟨by rw [fst_at hkl hbx'.out (fun j hj => hall.out j (by omega) hj)]; rfl, hbw'.out⟩
      | false =>
        have hall2 : ∀ j (hj : j < (zs.map tagz).length), j < i + 1 → badT (zs.map tagz)[j] = false := fun j hj h => by
          rcases Nat.lt_or_ge j i with h1 | h1
          · exact hall.out j hj h1
          · obtain rfl : j = i := by omega
            exact hbx'.out
        have hbw' := Lib.hid hbw; have hall2' := Lib.hid hall2; clear hbw hall2
        go_wp2
        go_roundw
        case rel => exact ⟨i + 1, by omega, by go_num, hall2', hbw'⟩
        case measure => simp [intOf]; omega
    · obtain rfl : i = n := by omega
      go_wp2
      go_ret
      exact ⟨by rw [fst_no (fun j hj => hall.out j hj (by rw [hl'.out] at hj; exact hj))]; rfl, hb.out⟩
theorem tcon_any (a : Option Addr) (n c : Nat) (zs : List Tz) (w : World) (hs : Tgr w a n c zs) (hbt : ∀ z ∈ zs, Byt z.2) :
    Calls Tryz.prog 100 #[.slice a n c, .func (.func 101) #[] #[]] w fun e w' => e = .returned (.bool (!(zs.map tagz).all okT)) ∧ Below w.heap.size w w' := by
  have hI := tidx_any a n c zs w hs hbt
  have e1 : (!(zs.map tagz).all okT) = decide (0 ≤ fst badT (zs.map tagz)) := by
    rw [fst_any]
    generalize zs.map tagz = l
    induction l with
    | nil => rfl
    | cons x l ih => simp only [List.all_cons, List.any_cons, badT] at ih ⊢; rw [← ih]; cases okT x <;> rfl
  rw [e1]
  generalize fst badT (zs.map tagz) = q at *
  have hI' := Lib.hid hI; have hs' := Lib.hid hs; have hbt' := Lib.hid hbt; clear hI hs hbt
  go_enter Tryz.func100, Tryz.ntmps100
  go_wp2_with fail
  refine hI'.out.mono ?_; rintro e w2 ⟨rfl, hb2⟩; have hb2' := Lib.hid hb2; clear hb2
  go_wp2_with fail
  go_ret
  exact ⟨by congr 2, hb2'.out⟩
end Go.Proofs.YtceclmpmpldmlaaGreat

namespace Go.Proofs.YtceclmpmpldmlaaGreat
open Go.RowKit Tt
set_option linter.unusedVariables false
set_option linter.unusedSimpArgs false

set_option maxHeartbeats 1000000 in
theorem lidxt_any (fid : Nat) (hf : fid = 228 ∨ fid = 108) (cap : Value) (a : Option Addr) (n c : Nat) (ls : List Lk) (p : Lk → Bool) (w : World) (hs : Sl w a n c 2 (fl lkc ls))
    (hc : ∀ W (x : Lk), Below w.heap.size w W → Calls Tryz.prog fid #[.agg #[.int .i64 x.1, .int .i64 x.2], cap] W fun e W' => e = .returned (.bool (p x)) ∧ Below W.heap.size W W') :
    Calls Tryz.prog 91 #[.slice a n c, .func (.func fid) #[] #[cap]] w fun e w' => e = .returned (.int .i64 (fst p ls)) ∧ Below w.heap.size w w' := by
  have hl := hs.flen lkc_len (by decide); have hm := hs.max; have hle := hs.le; have hs' := Lib.hid hs; have hc' := Lib.hid hc; have hl' := Lib.hid hl; clear hs hc hl
  rcases hf with rfl | rfl
  all_goals
    go_enter Tryz.func91, Tryz.ntmps91
    go_wp2
    go_loopw [8] (fun iv wr => ∃ k : Nat, k ≤ n ∧ iv = .int .i64 k ∧ Hid (∀ i (hi : i < ls.length), i < k → p ls[i] = false) ∧ Hid (Below w.heap.size w wr)) (fun iv _ => n - (intOf iv).toNat)
    case atStart => exact ⟨0, by omega, rfl, Lib.hid (fun j _ hj => by omega), Lib.hid (Below.refl _ _)⟩
    case round =>
      obtain ⟨k, hk, rfl, hall, hb⟩ := hrel
      by_cases hlt : k < n
      · have hww : IntKind.i64.wrap ((k : Int) + 1) = k + 1 := by rw [IntKind.wrap_i64]; omega
        have hkl : k < ls.length := by rw [hl'.out]; exact hlt
        obtain ⟨b, o, rfl, hbb, f⟩ := (hs'.out.mono hb.out).elem lkc_len (by decide) (0, 0) hlt; rw [getD_el hkl] at f; have f0 := f 0 _ rfl; have f1 := f 1 _ rfl; clear f; rw [Nat.add_zero] at f0; obtain ⟨r, hr⟩ : ∃ r, p (ls[k]'hkl) = r := ⟨_, rfl⟩; have HC := hc'.out wr (ls[k]'hkl) hb.out; rw [hr] at HC
        generalize (ls[k]'hkl).1 = x1 at *
        generalize (ls[k]'hkl).2 = x2 at *
        have HC' := Lib.hid HC; have hr' := Lib.hid hr; clear HC hr
        go_wp2_with fail
        refine HC'.out.mono ?_; rintro e w2 ⟨rfl, hb2⟩; have hbw := hb.out.trans (hb2.mono hb.out.size); clear hb2
        cases r with
        | true =>
          have hbw' := Lib.hid hbw; clear hbw
          go_wp2
          go_ret
          exact ⟨by rw [fst_at hkl hr'.out (fun i hi => hall.out i (by omega) hi)]; rfl, hbw'.out⟩
        | false =>
          have hall2 : ∀ i (hi : i < ls.length), i < k + 1 → p ls[i] = false := fun i hi h => by
            rcases Nat.lt_or_ge i k with h1 | h1
            · exact hall.out i hi h1
            · obtain rfl : i = k := by omega
              exact hr'.out
          have hbw' := Lib.hid hbw; have hall2' := Lib.hid hall2; clear hbw hall2
          go_wp2
          go_roundw
          case rel => exact ⟨k + 1, by omega, by go_num, hall2', hbw'⟩
          case measure => simp [intOf]; omega
      · obtain rfl : k = n := by omega
        go_wp2
        go_ret
        exact ⟨by rw [fst_no (fun i hi => hall.out i hi (by rw [hl'.out] at hi; exact hi))]; rfl, hb.out⟩
set_option maxHeartbeats 1000000 in
theorem lhast_any (fid : Nat) (hf : fid = 228 ∨ fid = 108) (cap : Value) (a : Option Addr) (n c : Nat) (ls : List Lk) (p : Lk → Bool) (w : World) (hs : Sl w a n c 2 (fl lkc ls))
    (hc : ∀ W (x : Lk), Below w.heap.size w W → Calls Tryz.prog fid #[.agg #[.int .i64 x.1, .int .i64 x.2], cap] W fun e W' => e = .returned (.bool (p x)) ∧ Below W.heap.size W W') :
    Calls Tryz.prog 227 #[.slice a n c, .func (.func fid) #[] #[cap]] w fun e w' => e = .returned (.bool (ls.any p)) ∧ Below w.heap.size w w' := by
  have HX := lidxt_any fid hf cap a n c ls p w hs hc; obtain ⟨r, hr⟩ : ∃ r, fst p ls = r := ⟨_, rfl⟩; have ha := fst_any (p := p) (l := ls); rw [hr] at HX ha; obtain ⟨q, hq⟩ : ∃ q, ls.any p = q := ⟨_, rfl⟩; rw [hq] at ha ⊢; clear hs hc; have HX' := Lib.hid HX; have hr' := Lib.hid hr; have hq' := Lib.hid hq; clear HX hr hq
  rcases hf with rfl | rfl
  all_goals
    go_enter Tryz.func227, Tryz.ntmps227
    go_wp2_with fail
    refine HX'.out.mono ?_; rintro e w2 ⟨rfl, hb2⟩; have hb2' := Lib.hid hb2; clear hb2
    go_wp2
    go_ret
    exact ⟨rfl, hb2'.out⟩
theorem taken1_any (g : Nat) (tag u v : Int) (w : World) (h : w.cell? ⟨g, 0, none⟩ = some (.int .i64 tag)) (hg : g < w.heap.size) :
    Calls Tryz.prog 228 #[.agg #[.int .i64 u, .int .i64 v], .pointer (some ⟨g, 0, none⟩)] w fun e w' => e = .returned (.bool (u == tag)) ∧ Below w.heap.size w w' := by
  have hb := (Below.refl w.heap.size w).alloc (Nat.le_refl _) (.cells #[.int .i64 u, .int .i64 v] 32); have hb' := Lib.hid hb; clear hb
  go_enter Tryz.func228, Tryz.ntmps228
  go_wp2_with fail
  go_ret
  exact ⟨rfl, hb'.out⟩
set_option maxHeartbeats 1000000 in
theorem taken_any (la : Option Addr) (ln lc : Nat) (lks : List Lk) (sat slong snx tag : Int) (w : World) (hl : Sl w la ln lc 2 (fl lkc lks)) :
    Calls Tryz.prog 162 #[.agg #[.slice la ln lc, .int .i64 sat, .int .i64 slong, .int .i64 snx], .int .i64 tag] w fun e w' => e = .returned (.bool ((decide (0 < sat) && (tag == sat || tag == slong)) || lks.any fun y => y.1 == tag)) ∧ Below w.heap.size w w' := by
  have hb1 := ((Below.refl w.heap.size w).alloc (Nat.le_refl _) (.cells #[.slice la ln lc, .int .i64 sat, .int .i64 slong, .int .i64 snx] 35)).alloc (by simp) (.cells #[.int .i64 tag] 3); obtain ⟨W1, hW1⟩ : ∃ W1, (w.alloc (.cells #[.slice la ln lc, .int .i64 sat, .int .i64 slong, .int .i64 snx] 35)).alloc (.cells #[.int .i64 tag] 3) = W1 := ⟨_, rfl⟩; have hcl : W1.cell? ⟨w.heap.size + 1, 0, none⟩ = some (.int .i64 tag) := by rw [← hW1]; simp
  have hsz : w.heap.size + 1 < W1.heap.size := by rw [← hW1]; simp
  rw [hW1] at hb1; have hH := lhast_any 228 (.inl rfl) (.pointer (some ⟨w.heap.size + 1, 0, none⟩)) la ln lc lks (fun y => y.1 == tag) W1 (hl.mono hb1) (fun W x hb => taken1_any _ tag x.1 x.2 W (late hb hsz hcl) (Nat.lt_of_lt_of_le hsz hb.size)); rw [← hW1] at hH hb1; clear hcl hsz hW1
  generalize (lks.any fun y => y.1 == tag) = r at *
  have hl' := Lib.hid hl; have hb1' := Lib.hid hb1; have hH' := Lib.hid hH; clear hl hb1 hH; obtain ⟨p, hp⟩ : ∃ p, decide (0 < sat) = p := ⟨_, rfl⟩; obtain ⟨q, hq⟩ : ∃ q, (tag == sat) = q := ⟨_, rfl⟩; obtain ⟨s, hs⟩ : ∃ s, (tag == slong) = s := ⟨_, rfl⟩; rw [hp, hq, hs]
  cases p with
  | false =>
    go_enter Tryz.func162, Tryz.ntmps162
    go_wp2_with fail
    refine hH'.out.mono ?_; rintro e w2 ⟨rfl, hb2⟩; have hb := hb1'.out.trans (hb2.mono hb1'.out.size); have hb' := Lib.hid hb; have hb2' := Lib.hid hb2; clear hb hb2
    go_wp2_with fail
    go_ret
    exact ⟨rfl, hb'.out⟩
  | true =>
    cases q with
    | true =>
      go_enter Tryz.func162, Tryz.ntmps162
      go_wp2_with fail
      go_ret
      exact ⟨rfl, hb1'.out⟩
    | false =>
      cases s with
      | true =>
        go_enter Tryz.func162, Tryz.ntmps162
        go_wp2_with fail
        go_ret
        exact ⟨rfl, hb1'.out⟩
      | false =>
        go_enter Tryz.func162, Tryz.ntmps162
        go_wp2_with fail
        refine hH'.out.mono ?_; rintro e w2 ⟨rfl, hb2⟩; have hb := hb1'.out.trans (hb2.mono hb1'.out.size); have hb' := Lib.hid hb; have hb2' := Lib.hid hb2; clear hb hb2
        go_wp2_with fail
        go_ret
        exact ⟨rfl, hb'.out⟩
end Go.Proofs.YtceclmpmpldmlaaGreat

namespace Go.Proofs.YtceclmpmpldmlaaGreat
open Go.RowKit Tt
set_option linter.unusedVariables false
set_option linter.unusedSimpArgs false

set_option maxRecDepth 20000 in
set_option maxHeartbeats 4000000 in
theorem plof_may (f : Nat) (o : Int) (sa : Option Addr) (sn sc : Nat) (ds : List (DirT f)) (w : World) (h : DirsR f w sa sn sc ds) (hs : ∀ d ∈ ds, smallD f d) (hN : (flatT f ds).length < 1000)
    (hmay : ∀ W, Below w.heap.size w W → Calls Tryz.prog 44 #[.agg #[.int .i64 o, .slice sa sn sc]] W fun e W' => e = .returned (.bool (okAll f ds)) ∧ Below W.heap.size W W') :
    Calls Tryz.prog 11 #[.agg #[.int .i64 o, .slice sa sn sc]] w fun e w' => ((fitT f ds = true ∧ ∃ v, e = .returned (.tuple #[v, .bool true]) ∧ Spr w.heap.size w' v (layT f ds)) ∨ (fitT f ds = false ∧ e = .returned (.tuple #[.slice none 0 0, .bool false]))) ∧ Below w.heap.size w w' := by
  have hb1 := (Below.refl w.heap.size w).alloc (Nat.le_refl _) (.cells #[.int .i64 o, .slice sa sn sc] 39); have bk := Blk.new w 39 #[.int .i64 o, .slice sa sn sc]; obtain ⟨W1, hW1⟩ : ∃ W1, w.alloc (.cells #[.int .i64 o, .slice sa sn sc] 39) = W1 := ⟨_, rfl⟩; rw [hW1] at hb1 bk; have hM := hmay W1 hb1; have d0 : W1.cell? ⟨w.heap.size, 0, none⟩ = some (.int .i64 o) := bk.cell rfl; have d1 : W1.cell? ⟨w.heap.size, 1, none⟩ = some (.slice sa sn sc) := bk.cell rfl
  have hdn : ds.length = sn := by
    obtain ⟨dvs, hdl, hsl, _⟩ := h; rw [← hdl]; exact hsl.flen dvC_len (by decide)
  have hpl : (prs f ds).length = sn := by unfold prs; rw [List.length_map]; exact hdn
  have hsml : ∀ x ∈ prs f ds, smallD f x.2 := fun x hx => by
    obtain ⟨d, hd, rfl⟩ := List.mem_map.1 hx; exact hs d hd
  have hfl0 : flats f (prs f ds) = flatT f ds := flats_prs f ds; obtain ⟨q, hq⟩ : ∃ q, okAll f ds = q := ⟨_, rfl⟩; rw [hq] at hM; have hfit : fitT f ds = (q && decide (endS (layT f ds) ≤ 4294967295)) := by unfold fitT; rw [hq]
  clear hmay hq; have h' := Lib.hid h; have hb1' := Lib.hid hb1; have bk' := Lib.hid bk; have hM' := Lib.hid hM; have hs' := Lib.hid hs; have hfit' := Lib.hid hfit; have hdn' := Lib.hid hdn; have hpl' := Lib.hid hpl; have hsml' := Lib.hid hsml; have hfl0' := Lib.hid hfl0; clear h hb1 bk hM hs hfit hdn hpl hsml hfl0
  go_enter Tryz.func11, Tryz.ntmps11
  go_wp2_with fail
  refine hM'.out.mono ?_; rintro e w2 ⟨rfl, hb2⟩; have bk2 := bk'.out.late hb2; have hbw2 := hb1'.out.trans (hb2.mono hb1'.out.size); have hlt2 := bk2.lt; clear d0 d1
  cases q with
  | false =>
    have hb2' := Lib.hid hb2; have bk2' := Lib.hid bk2; have hbw2' := Lib.hid hbw2; clear hb2 bk2 hbw2
    go_wp2_with fail
    refine bodyPost_ret (results_tmp2 rfl _ _ _) rfl ?_; exact ⟨.inr ⟨hfit'.out, rfl⟩, hbw2'.out⟩
  | true =>
    have hal := (Below.refl w2.heap.size w2).alloc (Nat.le_refl _) (.cells #[.int .i64 0, .int .i64 0, .slice none 0 0] 98); have hpn : Pln w2.heap.size (w2.alloc (.cells #[.int .i64 0, .int .i64 0, .slice none 0 0] 98)) 0 (.slice none 0 0) [] := ⟨Blk.new w2 98 #[.int .i64 0, .int .i64 0, .slice none 0 0], own_nil _ _ _ _⟩; have hP := pput_any w2.heap.size 0 (.slice none 0 0) [] 1 (-1) 0 8 _ hpn (by decide) (by decide) (by decide) (by decide) (by decide); have hb2' := Lib.hid hb2; have bk2' := Lib.hid bk2; have hbw2' := Lib.hid hbw2; have hal' := Lib.hid hal; have hpn' := Lib.hid hpn; have hP' := Lib.hid hP; clear hb2 bk2 hbw2 hal hpn hP
    go_wp2_with fail
    refine hP'.out.mono ?_; rintro e w3 ⟨v3, rfl, hp3, hm3⟩; have bk3 := (bk2'.out.late hal'.out).mv hm3 (by omega) (by omega) (by intro h; cases h); have d1 : w3.cell? ⟨w.heap.size, 1, none⟩ = some (.slice sa sn sc) := bk3.cell rfl; have hp3' := Lib.hid hp3; have hm3' := Lib.hid hm3; have bk3' := Lib.hid bk3; clear hp3 hm3 bk3
    go_wp2_with fail
    obtain ⟨g, hg⟩ : ∃ g, g = w2.heap.size := ⟨_, rfl⟩; rw [← hg] at hp3' hm3' ⊢; have hmm : Hid (Mv g g (.slice none 0 0) v3 w2 w3) := Lib.hid ((Mv.of_below hal'.out).trans hm3'.out); have hwg : w.heap.size ≤ g := by rw [hg]; exact hbw2'.out.size
    have hgw : w2.heap.size ≤ g := by omega
    clear hm3' bk3' hP' hpn' hg
    go_loopw [17] (fun iv wx => ∃ (i : Nat) (v' : Value), i ≤ sn ∧ iv = .int .i64 i ∧ Hid (Pln g wx (laySubs f ((prs f ds).take i) (addS [] 1 (-1) 0 8, 0)).2 v' (laySubs f ((prs f ds).take i) (addS [] 1 (-1) 0 8, 0)).1) ∧ Hid (Mv g g (.slice none 0 0) v' w2 wx)) (fun iv _ => sn - (intOf iv).toNat)
    case atStart => exact ⟨0, v3, by omega, rfl, Lib.hid (by simpa [laySubs] using hp3'.out), hmm⟩
    clear hp3' hmm
    case round =>
      obtain ⟨i, v', hin, rfl, hpr, hmr⟩ := hrel; have hbo := hmr.out.below hgw hgw (fun k e => by cases e) (Nat.le_refl _); have hbw0 := hbw2'.out.trans (hbo.mono hbw2'.out.size); have he8 : endS (addS [] 1 (-1) 0 8) = 8 := rfl; have hbd := laySubs_le f (layS_le f) ((prs f ds).take i) (addS [] 1 (-1) 0 8, 0) (fun x hx => hsml'.out x (List.mem_of_mem_take hx)) (by decide); have hftl := flats_take_le f (prs f ds) i; have hal1 : (addS [] 1 (-1) 0 8).length = 1 := rfl; simp only [he8, hal1] at hbd
      by_cases hi : i < sn
      · have hil : (i : Int) < (sn : Int) := by omega
        obtain ⟨dvs, hdl, hsl, hsub⟩ := h'.out; have hmx := hsl.max; have hml := hsl.le; have hw5 : IntKind.i64.wrap ((i : Int) + 1) = i + 1 := by rw [IntKind.wrap_i64]; omega
        have hid : i < ds.length := by rw [hdn'.out]; exact hi
        have hids : i < dvs.length := by omega
        have hip : i < (prs f ds).length := by rw [hpl'.out]; exact hi
        have hpi := prs_get f ds hip hid; obtain ⟨b, o', rfl, hblt, fe⟩ := hsl.elem dvC_len (by decide) dzz hi; rw [getD_el hids] at fe; have hq2 := hsub i hids hid; obtain ⟨ua, un, uc, pa, pn, pc, ra, rn, rc, hv⟩ := hq2.v; have k0 := fe 0 _ rfl; have k1 := fe 1 _ rfl; have k2 := fe 2 _ rfl; clear fe; rw [hv] at hq2 k0 k1 k2; simp only [Nat.add_zero] at k0 k1 k2; have g0 := late hbw0 hblt k0; have g1 := late hbw0 hblt k1; have g2 := late hbw0 hblt k2; have hst := laySubs_step f (prs f ds) (addS [] 1 (-1) 0 8, 0) hip; have hft := flats_step f (prs f ds) hip; have hftl2 := flats_take_le f (prs f ds) (i + 1); rw [hpi] at hst hft; have hsm : smallD f ds[i] := hs'.out _ (List.getElem_mem hid); rw [hfl0'.out] at hftl hftl2
        generalize ds[i] = dd at hst hft hsm hq2
        generalize laySubs f ((prs f ds).take i) (addS [] 1 (-1) 0 8, 0) = R at hst hbd hpr
        obtain ⟨Ls, ns⟩ := R; simp only at hbd hpr hst; have hal2 := (Below.refl wr.heap.size wr).alloc (Nat.le_refl _) (.cells #[.slice ua un uc, .slice pa pn pc, .slice ra rn rc] 26); have hI := pdir_any f g ns v' Ls w _ dd _ hq2 (hbw0.trans (hal2.mono hbw0.size)) hwg (hpr.out.later hal2) hsm (by omega) (by omega) hbd.1 (by omega) (by omega); simp only at hI; clear hsl hsub hv hdl k0 k1 k2; have hbo' := Lib.hid hbo; have hbw0' := Lib.hid hbw0; have he8' := Lib.hid he8; have hbd' := Lib.hid hbd; have hal1' := Lib.hid hal1; have hpi' := Lib.hid hpi; have hq2' := Lib.hid hq2; have hst' := Lib.hid hst; have hft' := Lib.hid hft; have hsm' := Lib.hid hsm; have hI' := Lib.hid hI; have hal2' := Lib.hid hal2; clear hbo hbw0 he8 hbd hal1 hpi hq2 hst hft hsm hI hal2
        go_wp2_with fail
        refine hI'.out.mono ?_; rintro e w7 ⟨v7, rfl, hp7, hm7⟩; have hm7 := (hmr.out.later hal2'.out).trans hm7; clear g0 g1 g2; have hp7' := Lib.hid hp7; have hm7' := Lib.hid hm7; clear hp7 hm7
        go_wp2_with fail
        go_roundw
        case rel => exact ⟨i + 1, v7, by omega, by go_num, by rw [hst'.out]; exact hp7', hm7'⟩
        case measure => simp [intOf]; omega
      · obtain rfl : i = sn := by omega
        have hfull : (prs f ds).take i = prs f ds := List.take_of_length_le (by rw [hpl'.out]; omega); rw [hfull] at hpr; have hLe : (laySubs f (prs f ds) (addS [] 1 (-1) 0 8, 0)).1 = layT f ds := rfl; rw [hLe] at hpr; have q0 := hpr.out.blk.cell (i := 0) rfl; have q2 := hpr.out.blk.cell (i := 2) rfl; have hspr : Spr w.heap.size wr v' (layT f ds) := own_mono hpr.out.spots (by omega); have hbw0' := Lib.hid hbw0; have hbo' := Lib.hid hbo; have hspr' := Lib.hid hspr; have hbd' := Lib.hid hbd; clear hbw0 hbo hspr hbd
        by_cases hfi : endS (layT f ds) ≤ 4294967295
        · have hdc : decide ((4294967295 : Int) < endS (layT f ds)) = false := by simp; omega
          rw [decide_eq_true hfi] at hfit'
          go_wp2_with fail
          refine bodyPost_ret (results_tmp2 rfl _ _ _) rfl ?_; exact ⟨.inl ⟨hfit'.out, v', rfl, hspr'.out⟩, hbw0'.out⟩
        · have hdc : decide ((4294967295 : Int) < endS (layT f ds)) = true := by simp; omega
          rw [decide_eq_false hfi] at hfit'
          go_wp2_with fail
          refine bodyPost_ret (results_tmp2 rfl _ _ _) rfl ?_; exact ⟨.inr ⟨hfit'.out, rfl⟩, hbw0'.out⟩
end Go.Proofs.YtceclmpmpldmlaaGreat

namespace Go.Proofs.YtceclmpmpldmlaaGreat
open Go.RowKit Tt
set_option linter.unusedVariables false
set_option linter.unusedSimpArgs false

theorem valsS_ge (no : Int) : ∀ (ts : List Tgs) (l : List Spt), l.length ≤ (valsS no ts l).length
  | [], l => Nat.le_refl _
  | x :: ts, l => by
    have e : valsS no (x :: ts) l = valsS no ts (if 0 < outS x.2.1 x.2.2.1 then addS l 3 no x.1 (outS x.2.1 x.2.2.1) else l) := rfl; rw [e]; refine Nat.le_trans ?_ (valsS_ge no ts _)
    split
    · rw [addS_len]; omega
    · exact Nat.le_refl _
theorem laySubs_ge (f : Nat) (ih : ∀ (d : DirT f) (no : Int) (l : List Spt), l.length ≤ (layS f d no l).length) : ∀ (ss : List (Int × DirT f)) (r : List Spt × Int), r.1.length ≤ (laySubs f ss r).1.length
  | [], r => Nat.le_refl _
  | s :: ss, r => by
    rw [laySubs_cons]; exact Nat.le_trans (ih s.2 r.2 r.1) (laySubs_ge f ih ss (layS f s.2 r.2 r.1, r.2 + (flatS f s.2).length))
theorem layS_ge : ∀ (f : Nat) (d : DirT f) (no : Int) (l : List Spt), l.length ≤ (layS f d no l).length := by
  intro f
  induction f with
  | zero => intro d no l; exact Nat.le_refl _
  | succ f ih =>
    intro d no l; have h1 := valsS_ge no d.1 (addS l 2 no 0 (6 + 12 * (entN d.1.length d.2.1.length d.2.2.length : Nat))); have h2 := laySubs_ge f ih d.2.1 (valsS no d.1 (addS l 2 no 0 (6 + 12 * (entN d.1.length d.2.1.length d.2.2.length : Nat))), no + 1); rw [addS_len] at h1; simp only at h2; rw [layS_succ]
    split
    · rw [addS_len]; omega
    · omega
theorem layT_pos (f : Nat) (ds : List (DirT f)) (hs : ∀ d ∈ ds, smallD f d) (hN : (flatT f ds).length < 1000) : ∃ n, (layT f ds).length = n + 1 := by
  have h := laySubs_ge f (layS_ge f) (prs f ds) (addS [] 1 (-1) 0 8, 0); have hal1 : (addS [] 1 (-1) 0 8).length = 1 := rfl; simp only [hal1] at h; exact ⟨(layT f ds).length - 1, by unfold layT; omega⟩
set_option maxHeartbeats 1000000 in
theorem plng_may (f : Nat) (o : Int) (sa : Option Addr) (sn sc : Nat) (ds : List (DirT f)) (w : World) (h : DirsR f w sa sn sc ds) (hs : ∀ d ∈ ds, smallD f d) (hN : (flatT f ds).length < 1000)
    (hmay : ∀ W, Below w.heap.size w W → Calls Tryz.prog 44 #[.agg #[.int .i64 o, .slice sa sn sc]] W fun e W' => e = .returned (.bool (okAll f ds)) ∧ Below W.heap.size W W') :
    Calls Tryz.prog 12 #[.agg #[.int .i64 o, .slice sa sn sc]] w fun e w' => e = .returned (.int .i64 (longT f ds)) ∧ Below w.heap.size w w' := by
  have hbd := layT_bounds f ds hs hN; obtain ⟨n, hn⟩ := layT_pos f ds hs hN; have hla := endS_last hn; have hb1 := (Below.refl w.heap.size w).alloc (Nat.le_refl _) (.cells #[.int .i64 o, .slice sa sn sc] 39); have hO := plof_may f o sa sn sc ds _ (h.mono hb1) hs hN (fun W hW => hmay W (hb1.trans (hW.mono hb1.size))); have hx1 : fitT f ds = true → longT f ds = endS (layT f ds) := fun e => by unfold longT; rw [if_pos e]
  have hx2 : fitT f ds = false → longT f ds = 0 := fun e => by unfold longT; rw [if_neg (by rw [e]; decide)]
  generalize longT f ds = x at *
  have hb1' := Lib.hid hb1; have hO' := Lib.hid hO; have hs' := Lib.hid hs; have h' := Lib.hid h; have hx1' := Lib.hid hx1; have hx2' := Lib.hid hx2; have hmay' := Lib.hid hmay; clear hb1 hO hs h hx1 hx2 hmay
  go_enter Tryz.func12, Tryz.ntmps12
  go_wp2_with fail
  refine hO'.out.mono ?_; rintro e w2 ⟨hc, hb2⟩; have hbw := hb1'.out.trans (hb2.mono hb1'.out.size)
  rcases hc with ⟨hf, v, rfl, hsp⟩ | ⟨hf, rfl⟩
  · obtain ⟨xa, xc, rfl⟩ := row_slice hsp
    obtain rfl := hx1'.out hf; clear hx1' hx2'; have hsl := (Sl.of_own hsp).1; have hm := hsl.max; have hle := hsl.le; rw [hn] at hsl hle; obtain ⟨b, o', rfl, hb, fe⟩ := hsl.elem spC_len (by decide) (0, 0, 0, 0, 0) (show n < n + 1 by omega); have f0 := fe 0 _ rfl; have f1 := fe 1 _ rfl; have f2 := fe 2 _ rfl; have f3 := fe 3 _ rfl; have f4 := fe 4 _ rfl; simp only [Nat.add_zero] at f0 f1 f2 f3 f4; clear fe hsl hsp; obtain ⟨r, hr⟩ : ∃ r, endS (layT f ds) = r := ⟨_, rfl⟩; rw [hr] at hla hbd
    generalize (layT f ds).getD n (0, 0, 0, 0, 0) = z at *
    obtain ⟨z0, z1, z2, z3, z4⟩ := z; simp only at f0 f1 f2 f3 f4 hla; have hw : IntKind.i64.wrap (z3 + z4) = r := by rw [IntKind.wrap_i64]; omega
    have hw1 : IntKind.i64.wrap (((n + 1 : Nat) : Int) - 1) = n := by rw [IntKind.wrap_i64]; omega
    have d1 : (0 : Int) ≤ (n : Int) := by omega
    have d2 : (n : Int) < ((n + 1 : Nat) : Int) := by omega
    have hbz := hbw.alloc hbw.size (.cells #[.int .i64 z0, .int .i64 z1, .int .i64 z2, .int .i64 z3, .int .i64 z4] 50); rw [hn]; have hbw' := Lib.hid hbw; have hb2' := Lib.hid hb2; have hla' := Lib.hid hla; have hbz' := Lib.hid hbz; have hn' := Lib.hid hn; have hr' := Lib.hid hr; clear hbw hb2 hla hbz hn hr
    go_wp2_with fail
    go_ret
    exact ⟨ret_int hr'.out.symm, hbz'.out⟩
  · obtain rfl := hx2'.out hf
    clear hx1' hx2'; have hbw' := Lib.hid hbw; have hb2' := Lib.hid hb2; clear hbw hb2
    go_wp2_with fail
    go_ret
    exact ⟨rfl, hbw'.out⟩
end Go.Proofs.YtceclmpmpldmlaaGreat

namespace Go.Proofs.YtceclmpmpldmlaaGreat
open Go.RowKit Tt
set_option linter.unusedVariables false
set_option linter.unusedSimpArgs false
theorem infoB : (Tryz.prog.info? 5).map (fun i => (i.zero, i.size, i.bytes)) = some (some (.int .u8 0), 1, 1) := by kernel_rfl
end Go.Proofs.YtceclmpmpldmlaaGreat
