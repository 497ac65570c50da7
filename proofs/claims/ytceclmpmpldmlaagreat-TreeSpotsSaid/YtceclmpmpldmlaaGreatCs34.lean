/- Chapter 21: the chapter's examples. | Chapter 20: values, tags and directories in memory of their own: the document. -/
import Derived.Test.YtceclmpmpldmlaaGreatCs33
import Derived.Test.YtceclmpmpldmlaaGreatCs10
import Derived.Test.YtceclmpmpldmlaaGreatCs12
import Derived.Test.YtceclmpmpldmlaaGreatCs01
import Derived.Test.YtceclmpmpldmlaaGreatCs11
import Derived.Test.YtceclmpmpldmlaaGreatCs13
namespace Go.Proofs.YtceclmpmpldmlaaGreat
open Go.RowKit Tt
set_option linter.unusedVariables false
set_option linter.unusedSimpArgs false

def xT (n : Int) : Tgs := (256, 3, 1, putS n 2 2)
def xD : DirT 2 := ([xT 258], [], [])
def xE : DirT 1 := ([xT 258], [], [])
def xB : DirT 2 := ([xT 258], [], [1])
def xS : DirT 2 := ([], [(1, xE)], [])
def xW : DirT 2 := ([xT 1, xT 1], [], [])
theorem xc1 : checkS 2 2 [xD] shp1 = 0 := by decide +kernel
theorem xc2 : checkS 2 2 [xD, xD] shp1 = 1 := by decide +kernel
theorem xc3 : checkS 2 2 [xB] shp1 = 6 := by decide +kernel
theorem xc4 : checkS 2 2 [xS] shp1 = 6 := by decide +kernel
theorem xc5 : checkS 2 2 [xW] shp1 = 6 := by decide +kernel
def xby : List Int := [77, 77, 0, 42, 0, 0, 0, 8, 0, 1, 1, 0, 0, 3, 0, 0, 0, 1, 1, 2, 0, 0, 0, 0, 0, 0]
theorem xw1 : wrtS 2 2 [xD] shp1 = xby := by decide +kernel
theorem xokV : okV (layT 2 [xD]) 26 2 0 (xT 258) := .inl (by decide +kernel)
theorem xok1 : OKT 2 2 [xD] shp1 where
  shp := by decide +kernel
  ord := .inr rfl
  n8 := by decide +kernel
  n1 := by decide +kernel
  fit := by decide +kernel
  nx := fun k hk => by
    obtain rfl : k = 0 := by simpa using hk
    decide +kernel
  dir := fun k hk => by
    obtain rfl : k = 0 := by simpa using hk
    have e : (longT 2 [xD]).toNat = 26 := by decide +kernel
    rw [e]; refine ⟨fun x hx => ?_, fun j hj => absurd hj (Nat.not_lt_zero _), fun h => absurd h (Nat.not_lt_zero _), ⟨by decide +kernel, by decide +kernel, by decide +kernel⟩, by decide +kernel, by decide +kernel, .inr rfl, ?_, ?_⟩
    · have hx' : x ∈ [xT 258] := hx
      obtain rfl : x = xT 258 := by simpa using hx'
      exact ⟨xokV, by decide +kernel⟩
    · decide +kernel
    · decide +kernel
  lnk := fun k hk => by
    obtain rfl : k = 0 := by simpa using hk
    decide +kernel
  pk := fun k hk => by
    obtain rfl : k = 0 := by simpa using hk
    decide +kernel
theorem dirR0 {w : World} {f : Nat} {ta : Option Addr} {tn tc : Nat} {zs : List Tz} (h : Tgr w ta tn tc zs) {ba : Option Addr} {bn bc : Nat} {b : List Int} (hb : Sl w ba bn bc 1 (ints .u8 b)) :
    DirR w (f + 1) (zs.map tagz, [], b) (.slice ta tn tc, .slice none 0 0, .slice ba bn bc) :=
  ⟨ta, tn, tc, zs, none, 0, 0, [], ba, bn, bc, rfl, h, rfl, Sl.nil _ _, rfl, fun i hi => absurd hi (by simp), hb⟩
theorem dirs1_r {w : World} {f : Nat} {a : Option Addr} {c : Nat} {d : DirT f} {dv : Dz} (h : DirR w f d dv) (hs : Sl w a 1 c 3 (fl dvC [dv])) : DirsR f w a 1 c [d] :=
  ⟨[dv], rfl, hs, fun i hi hi' => by
    obtain rfl : i = 0 := by simpa using hi
    exact h⟩
theorem dirs2_r {w : World} {f : Nat} {a : Option Addr} {c : Nat} {d e : DirT f} {dv ev : Dz} (h : DirR w f d dv) (h2 : DirR w f e ev) (hs : Sl w a 2 c 3 (fl dvC [dv, ev])) : DirsR f w a 2 c [d, e] :=
  ⟨[dv, ev], rfl, hs, fun i hi hi' => by
    have h0 : i < 2 := by simpa using hi
    rcases (show i = 0 ∨ i = 1 by omega) with rfl | rfl
    · exact h
    · exact h2⟩
def dOne (g : Nat) : Dz := (.slice (some ⟨g, 0, none⟩) 1 1, nilV, nilV)
theorem one_tg {w : World} {a : Option Addr} {c : Nat} (n : Int) (hs : Sl w a 2 c 1 (ints .u8 (putS n 2 2))) :
    Tgr (w.alloc (.cells #[.int .i64 256, .int .i64 3, .int .i64 1, .slice a 2 c] 74)) (some ⟨w.heap.size, 0, none⟩) 1 1 [((256, 3, 1, a, 2, c), putS n 2 2)] := by
  have hal := (Below.refl w.heap.size w).alloc (Nat.le_refl _) (.cells #[.int .i64 256, .int .i64 3, .int .i64 1, .slice a 2 c] 74); refine ⟨Sl.new w 74 4 1 _ (0, 0) (by omega) rfl, fun z hz => ?_⟩; obtain rfl : z = ((256, 3, 1, a, 2, c), putS n 2 2) := by simpa using hz
  exact hs.mono hal
theorem two_tg {w : World} {a a2 : Option Addr} {c c2 : Nat} (n : Int) (hs : Sl w a 2 c 1 (ints .u8 (putS n 2 2))) (hs2 : Sl w a2 2 c2 1 (ints .u8 (putS n 2 2))) :
    Tgr (w.alloc (.cells #[.int .i64 256, .int .i64 3, .int .i64 1, .slice a 2 c, .int .i64 256, .int .i64 3, .int .i64 1, .slice a2 2 c2] 74)) (some ⟨w.heap.size, 0, none⟩) 2 2 [((256, 3, 1, a, 2, c), putS n 2 2), ((256, 3, 1, a2, 2, c2), putS n 2 2)] := by
  have hal := (Below.refl w.heap.size w).alloc (Nat.le_refl _) (.cells #[.int .i64 256, .int .i64 3, .int .i64 1, .slice a 2 c, .int .i64 256, .int .i64 3, .int .i64 1, .slice a2 2 c2] 74); refine ⟨Sl.new w 74 4 2 _ (0, 0) (by omega) rfl, fun z hz => ?_⟩; simp only [List.mem_cons, List.not_mem_nil, or_false] at hz
  rcases hz with rfl | rfl
  · exact hs.mono hal
  · exact hs2.mono hal
theorem one_r {w : World} {f : Nat} {g : Nat} {a : Option Addr} {c : Nat} {n : Int} (h : Tgr w (some ⟨g, 0, none⟩) 1 1 [((256, 3, 1, a, 2, c), putS n 2 2)]) : DirR w (f + 1) ([xT n], [], []) (dOne g) := dirR0 (b := []) h (Sl.nil _ _)
theorem sub_r {W : World} {g : Nat} (h : DirR W 1 xE (dOne g)) : DirR (W.alloc (.cells #[.int .i64 1, .slice (some ⟨g, 0, none⟩) 1 1, .slice none 0 0, .slice none 0 0] 28)) 2 xS (nilV, .slice (some ⟨W.heap.size, 0, none⟩) 1 1, nilV) := by
  have hal := (Below.refl W.heap.size W).alloc (Nat.le_refl _) (.cells #[.int .i64 1, .slice (some ⟨g, 0, none⟩) 1 1, .slice none 0 0, .slice none 0 0] 28); refine ⟨none, 0, 0, [], some ⟨W.heap.size, 0, none⟩, 1, 1, [(1, dOne g)], none, 0, 0, rfl, ⟨Sl.nil _ _, fun z hz => absurd hz (by simp)⟩, rfl, Sl.new W 28 4 1 _ (0, 0) (by omega) rfl, rfl, fun i hi hi' => ?_, Sl.nil _ _⟩; obtain rfl : i = 0 := by simpa using hi
  exact ⟨rfl, h.mono hal⟩
theorem dirs1_new {W : World} {f : Nat} {d : DirT f} {dv : Dz} (h : DirR W f d dv) : DirsR f (W.alloc (.cells #[dv.1, dv.2.1, dv.2.2] 26)) (some ⟨W.heap.size, 0, none⟩) 1 1 [d] :=
  dirs1_r (h.mono ((Below.refl _ _).alloc (Nat.le_refl _) _)) (Sl.new W 26 3 1 _ (0, 0) (by omega) rfl)
theorem dirs2_new {W : World} {f : Nat} {d e : DirT f} {dv ev : Dz} (h : DirR W f d dv) (h2 : DirR W f e ev) : DirsR f (W.alloc (.cells #[dv.1, dv.2.1, dv.2.2, ev.1, ev.2.1, ev.2.2] 26)) (some ⟨W.heap.size, 0, none⟩) 2 2 [d, e] :=
  dirs2_r (h.mono ((Below.refl _ _).alloc (Nat.le_refl _) _)) (h2.mono ((Below.refl _ _).alloc (Nat.le_refl _) _)) (Sl.new W 26 3 2 _ (0, 0) (by omega) rfl)
theorem shz1_new (W : World) (g : Nat) (hg : W.heap.size = g) : ShR (W.alloc (.cells #[.slice none 0 0, .int .i64 0, .int .i64 0, .int .i64 (-1)] 35)) (some ⟨g, 0, none⟩) 1 1 shz1 := by rw [← hg]; exact shz1_r W
theorem sm1 : ∀ d ∈ [xD], smallD 2 d := by
  intro d hd; obtain rfl : d = xD := by simpa using hd
  exact ⟨by decide, by decide, by decide, fun s hs => absurd hs (by simp [xD])⟩
theorem by1 : ∀ d ∈ [xD], bytD 2 d := by
  intro d hd; obtain rfl : d = xD := by simpa using hd
  refine ⟨fun t ht => ?_, fun s hs => absurd hs (by simp [xD]), fun x hx => absurd hx (by simp [xD])⟩; have ht' : t ∈ [xT 258] := ht; obtain rfl : t = xT 258 := by simpa using ht'
  intro x hx
  have : x = 1 ∨ x = 2 := by
    have h : x ∈ [(1 : Int), 2] := hx
    simpa using h
  omega
theorem sm2 : ∀ d ∈ [xD, xD], smallD 2 d := fun d hd => sm1 d (by simpa using hd)
theorem by2 : ∀ d ∈ [xD, xD], bytD 2 d := fun d hd => by1 d (by simpa using hd)
theorem byp {n : Int} (h : putS n 2 2 = [1, 2] ∨ putS n 2 2 = [0, 1]) : Byt (putS n 2 2) := by
  intro x hx
  rcases h with h | h <;> rw [h] at hx <;> simp at hx <;> omega
theorem sm3 : ∀ d ∈ [xB], smallD 2 d := by
  intro d hd; obtain rfl : d = xB := by simpa using hd
  exact ⟨by decide, by decide, by decide, fun s hs => absurd hs (by simp [xB])⟩
theorem by3 : ∀ d ∈ [xB], bytD 2 d := by
  intro d hd; obtain rfl : d = xB := by simpa using hd
  refine ⟨fun t ht => ?_, fun s hs => absurd hs (by simp [xB]), fun x hx => ?_⟩
  · have ht' : t ∈ [xT 258] := ht
    obtain rfl : t = xT 258 := by simpa using ht'
    exact byp (n := 258) (.inl (by decide))
  · have hx' : x ∈ [(1 : Int)] := hx
    have : x = 1 := by simpa using hx'
    omega
theorem sm4 : ∀ d ∈ [xS], smallD 2 d := by
  intro d hd; obtain rfl : d = xS := by simpa using hd
  refine ⟨by decide, by decide, by decide, fun s hs => ?_⟩; have hs' : s ∈ [((1 : Int), xE)] := hs; obtain rfl : s = (1, xE) := by simpa using hs'
  exact ⟨by decide, by decide, by decide, fun s hs => absurd hs (by simp [xE])⟩
theorem by4 : ∀ d ∈ [xS], bytD 2 d := by
  intro d hd; obtain rfl : d = xS := by simpa using hd
  refine ⟨fun t ht => absurd ht (by simp [xS]), fun s hs => ?_, fun x hx => absurd hx (by simp [xS])⟩; have hs' : s ∈ [((1 : Int), xE)] := hs; obtain rfl : s = (1, xE) := by simpa using hs'
  refine ⟨fun t ht => ?_, fun s hs => absurd hs (by simp [xE]), fun x hx => absurd hx (by simp [xE])⟩; have ht' : t ∈ [xT 258] := ht; obtain rfl : t = xT 258 := by simpa using ht'
  exact byp (n := 258) (.inl (by decide))
theorem sm5 : ∀ d ∈ [xW], smallD 2 d := by
  intro d hd; obtain rfl : d = xW := by simpa using hd
  exact ⟨by decide, by decide, by decide, fun s hs => absurd hs (by simp [xW])⟩
theorem by5 : ∀ d ∈ [xW], bytD 2 d := by
  intro d hd; obtain rfl : d = xW := by simpa using hd
  refine ⟨fun t ht => ?_, fun s hs => absurd hs (by simp [xW]), fun x hx => absurd hx (by simp [xW])⟩; have ht' : t ∈ [xT 1, xT 1] := ht; obtain rfl : t = xT 1 := by simpa using ht'
  exact byp (n := 1) (.inr (by decide))
set_option maxRecDepth 20000 in
set_option maxHeartbeats 8000000 in
theorem awake_any (w : World) : Calls Tryz.prog 9 #[] w fun e w' => e = .returned (.bool true) ∧ Below w.heap.size w w' := by
  have hS1 := lshort_any 256 258 (by decide) (by decide) w; have hS1' := Lib.hid hS1; clear hS1
  go_enter Tryz.func9, Tryz.ntmps9
  go_wp2_with fail
  refine hS1'.out.mono ?_; rintro e w2 ⟨a2, c2, rfl, ho2, hb2⟩; have hsl2 := (Sl.of_own ho2).1; have htg := one_tg 258 hsl2; obtain ⟨W3, hW3, b0, bO, hb3, s3⟩ := two_boxes w2 74 #[.int .i64 256, .int .i64 3, .int .i64 1, .slice a2 2 c2] 26 #[.slice (some ⟨w2.heap.size, 0, none⟩) 1 1, nilV, nilV]; have ht3 : Tgr W3 (some ⟨w2.heap.size, 0, none⟩) 1 1 [((256, 3, 1, a2, 2, c2), putS 258 2 2)] := by rw [← hW3]; exact htg.mono ((Below.refl _ _).alloc (Nat.le_refl _) _)
  have hD3 : DirR W3 2 xD (dOne w2.heap.size) := one_r ht3; have hbw3 := hb2.trans (hb3.mono hb2.size); have p0 : W3.cell? ⟨w2.heap.size + 1, 0, none⟩ = some (.slice (some ⟨w2.heap.size, 0, none⟩) 1 1) := bO.cell rfl; have p1 : W3.cell? ⟨w2.heap.size + 1, 1, none⟩ = some (.slice none 0 0) := bO.cell rfl; have p2 : W3.cell? ⟨w2.heap.size + 1, 2, none⟩ = some (.slice none 0 0) := bO.cell rfl; have hlt3 : w2.heap.size + 1 < W3.heap.size := bO.lt; have hds := dirs1_new hD3; have ha4 := (Below.refl W3.heap.size W3).alloc (Nat.le_refl _) (.cells #[.slice (some ⟨w2.heap.size, 0, none⟩) 1 1, .slice none 0 0, .slice none 0 0] 26); have hsz4 : (W3.alloc (.cells #[.slice (some ⟨w2.heap.size, 0, none⟩) 1 1, .slice none 0 0, .slice none 0 0] 26)).heap.size = W3.heap.size + 1 := by simp
  obtain ⟨W4, hW4⟩ : ∃ W4, W3.alloc (.cells #[.slice (some ⟨w2.heap.size, 0, none⟩) 1 1, .slice none 0 0, .slice none 0 0] 26) = W4 := ⟨_, rfl⟩; have hds4 : DirsR 2 W4 (some ⟨W3.heap.size, 0, none⟩) 1 1 [xD] := by rw [← hW4]; exact hds
  have hsh := shz1_new W4 (W3.heap.size + 1) (by rw [← hW4]; exact hsz4); have ha5 := (Below.refl W4.heap.size W4).alloc (Nat.le_refl _) (.cells #[.slice none 0 0, .int .i64 0, .int .i64 0, .int .i64 (-1)] 35); have hT := twrite_any 2 2 _ 1 1 [xD] _ 1 1 shz1 _ (hds4.mono ha5) hsh sm1 by1 (by decide) (by omega) (fun _ => xok1); rw [shz1_shp, xc1, xw1] at hT; rw [hW4] at ha4; have hb5 := ha4.trans (ha5.mono ha4.size); have ho2' := Lib.hid ho2; have hb2' := Lib.hid hb2; have hsl2' := Lib.hid hsl2; have htg' := Lib.hid htg; have ht3' := Lib.hid ht3; have hW3' := Lib.hid hW3; have b0' := Lib.hid b0; have bO' := Lib.hid bO; have hb3' := Lib.hid hb3; have s3' := Lib.hid s3; have hD3' := Lib.hid hD3; have hbw3' := Lib.hid hbw3; have hds' := Lib.hid hds; have ha4' := Lib.hid ha4; have hsz4' := Lib.hid hsz4; have hW4' := Lib.hid hW4; have hds4' := Lib.hid hds4; have hsh' := Lib.hid hsh; have ha5' := Lib.hid ha5; have hT' := Lib.hid hT; have hb5' := Lib.hid hb5; clear ho2 hb2 hsl2 htg ht3 hW3 b0 bO hb3 s3 hD3 hbw3 hds ha4 hsz4 hW4 hds4 hsh ha5 hT hb5
  go_upto_region 2 with fail
  rw [hW3'.out]
  go_wp2_with fail
  rw [hW4'.out]; refine hT'.out.mono ?_; rintro e w6 ⟨a6, m6, c6, rfl, ho6, hb6⟩; clear p0 p1 p2; have hb36 := hb5'.out.trans (hb6.mono hb5'.out.size); have ht6 := ht3'.out.mono hb36; have bO6 := bO'.out.late hb36; have hbw6 := hbw3'.out.trans (hb36.mono hbw3'.out.size); have hs6 := (Sl.of_own ho6).1; obtain rfl : m6 = 26 := by have := hs6.ilen; exact this.symm
  have ha7 := (Below.refl w6.heap.size w6).alloc (Nat.le_refl _) (.cells #[.int .u8 77, .int .u8 77, .int .u8 0, .int .u8 42, .int .u8 0, .int .u8 0, .int .u8 0, .int .u8 8, .int .u8 0, .int .u8 1, .int .u8 1, .int .u8 0, .int .u8 0, .int .u8 3, .int .u8 0, .int .u8 0, .int .u8 0, .int .u8 1, .int .u8 1, .int .u8 2, .int .u8 0, .int .u8 0, .int .u8 0, .int .u8 0, .int .u8 0, .int .u8 0] 5); have hl7 : Sl (w6.alloc (.cells #[.int .u8 77, .int .u8 77, .int .u8 0, .int .u8 42, .int .u8 0, .int .u8 0, .int .u8 0, .int .u8 8, .int .u8 0, .int .u8 1, .int .u8 1, .int .u8 0, .int .u8 0, .int .u8 3, .int .u8 0, .int .u8 0, .int .u8 0, .int .u8 1, .int .u8 1, .int .u8 2, .int .u8 0, .int .u8 0, .int .u8 0, .int .u8 0, .int .u8 0, .int .u8 0] 5)) (some ⟨w6.heap.size, 0, none⟩) 26 26 1 (ints .u8 xby) := Sl.new w6 5 1 26 _ (0, 0) (by omega) rfl; have hSm := same01 a6 _ 26 26 c6 26 xby xby _ (hs6.mono ha7) hl7; rw [show (xby == xby) = true by decide] at hSm; have hlt6 : w2.heap.size + 1 < w6.heap.size := bO6.lt; have p0 : w6.cell? ⟨w2.heap.size + 1, 0, none⟩ = some (.slice (some ⟨w2.heap.size, 0, none⟩) 1 1) := bO6.cell rfl; have p1 : w6.cell? ⟨w2.heap.size + 1, 1, none⟩ = some (.slice none 0 0) := bO6.cell rfl; have p2 : w6.cell? ⟨w2.heap.size + 1, 2, none⟩ = some (.slice none 0 0) := bO6.cell rfl; have ho6' := Lib.hid ho6; have hb6' := Lib.hid hb6; have hb36' := Lib.hid hb36; have ht6' := Lib.hid ht6; have bO6' := Lib.hid bO6; have hbw6' := Lib.hid hbw6; have hs6' := Lib.hid hs6; have ha7' := Lib.hid ha7; have hl7' := Lib.hid hl7; have hSm' := Lib.hid hSm; clear ho6 hb6 hb36 ht6 bO6 hbw6 hs6 ha7 hl7 hSm
  go_wp2_with fail
  refine hSm'.out.mono ?_; rintro e w7 ⟨rfl, hq7⟩; clear p0 p1 p2; have hb67 := ha7'.out.trans ((hq7.below _).mono ha7'.out.size); have ht7 := ht6'.out.mono hb67; have bO7 := bO6'.out.late hb67; have hbw7 := hbw6'.out.trans (hb67.mono hbw6'.out.size); have hlt7 : w2.heap.size + 1 < w7.heap.size := bO7.lt; have p0 : w7.cell? ⟨w2.heap.size + 1, 0, none⟩ = some (.slice (some ⟨w2.heap.size, 0, none⟩) 1 1) := bO7.cell rfl; have p1 : w7.cell? ⟨w2.heap.size + 1, 1, none⟩ = some (.slice none 0 0) := bO7.cell rfl; have p2 : w7.cell? ⟨w2.heap.size + 1, 2, none⟩ = some (.slice none 0 0) := bO7.cell rfl; have ht7' := Lib.hid ht7; have bO7' := Lib.hid bO7; have hbw7' := Lib.hid hbw7; clear ht7 bO7 hbw7; have ha8 := (Below.refl w7.heap.size w7).alloc (Nat.le_refl _) (.cells #[.slice (some ⟨w2.heap.size, 0, none⟩) 1 1, .slice none 0 0, .slice none 0 0, .slice (some ⟨w2.heap.size, 0, none⟩) 1 1, .slice none 0 0, .slice none 0 0] 26); have hA8 := answered_any 2 _ 2 2 [xD, xD] 1 _ (dirs2_new (one_r (f := 1) ht7'.out) (one_r (f := 1) ht7'.out)) sm2 by2 (by decide) (by omega) xc2 (by decide); have hq7' := Lib.hid hq7; have hb67' := Lib.hid hb67; have ha8' := Lib.hid ha8; have hA8' := Lib.hid hA8; clear hq7 hb67 ha8 hA8
  go_wp2_with fail
  refine hA8'.out.mono ?_; rintro e w8 ⟨rfl, hb8⟩; clear p0 p1 p2; have hb78 := ha8'.out.trans (hb8.mono ha8'.out.size); have ht8 := ht7'.out.mono hb78; have bO8 := bO7'.out.late hb78; have hbw8 := hbw7'.out.trans (hb78.mono hbw7'.out.size); have hlt8 : w2.heap.size + 1 < w8.heap.size := bO8.lt; have p0 : w8.cell? ⟨w2.heap.size + 1, 0, none⟩ = some (.slice (some ⟨w2.heap.size, 0, none⟩) 1 1) := bO8.cell rfl; have p1 : w8.cell? ⟨w2.heap.size + 1, 1, none⟩ = some (.slice none 0 0) := bO8.cell rfl; have p2 : w8.cell? ⟨w2.heap.size + 1, 2, none⟩ = some (.slice none 0 0) := bO8.cell rfl; have ht8' := Lib.hid ht8; have bO8' := Lib.hid bO8; have hbw8' := Lib.hid hbw8; clear ht8 bO8 hbw8; have ha9 := (Below.refl w8.heap.size w8).alloc (Nat.le_refl _) (.cells #[.int .u8 1] 5); have hl9 : Sl (w8.alloc (.cells #[.int .u8 1] 5)) (some ⟨w8.heap.size, 0, none⟩) 1 1 1 (ints .u8 [1]) := Sl.new w8 5 1 1 _ (0, 0) (by omega) rfl; have hDB := dirR0 (f := 1) (ht8'.out.mono ha9) hl9; have hsB : (w8.alloc (.cells #[.int .u8 1] 5)).heap.size = w8.heap.size + 1 := by simp
  have hdB := dirs1_new hDB; rw [hsB] at hdB; have hA9 := answered_any 2 _ 1 1 [xB] 6 _ hdB sm3 by3 (by decide) (by omega) xc3 (by decide); have haB := (Below.refl _ (w8.alloc (.cells #[.int .u8 1] 5))).alloc (Nat.le_refl _) (.cells #[.slice (some ⟨w2.heap.size, 0, none⟩) 1 1, .slice none 0 0, .slice (some ⟨w8.heap.size, 0, none⟩) 1 1] 26); have haC := ha9.trans (haB.mono ha9.size); have hb8' := Lib.hid hb8; have hb78' := Lib.hid hb78; have ha9' := Lib.hid ha9; have hl9' := Lib.hid hl9; have hDB' := Lib.hid hDB; have hsB' := Lib.hid hsB; have hdB' := Lib.hid hdB; have hA9' := Lib.hid hA9; have haB' := Lib.hid haB; have haC' := Lib.hid haC; clear hb8 hb78 ha9 hl9 hDB hsB hdB hA9 haB haC
  go_wp2_with fail
  refine hA9'.out.mono ?_; rintro e w9 ⟨rfl, hb9⟩; clear p0 p1 p2; have hb89 := haC'.out.trans (hb9.mono haC'.out.size); have ht9 := ht8'.out.mono hb89; have bO9 := bO8'.out.late hb89; have hbw9 := hbw8'.out.trans (hb89.mono hbw8'.out.size); have hlt9 : w2.heap.size + 1 < w9.heap.size := bO9.lt; have p0 : w9.cell? ⟨w2.heap.size + 1, 0, none⟩ = some (.slice (some ⟨w2.heap.size, 0, none⟩) 1 1) := bO9.cell rfl; have p1 : w9.cell? ⟨w2.heap.size + 1, 1, none⟩ = some (.slice none 0 0) := bO9.cell rfl; have p2 : w9.cell? ⟨w2.heap.size + 1, 2, none⟩ = some (.slice none 0 0) := bO9.cell rfl; have ht9' := Lib.hid ht9; have bO9' := Lib.hid bO9; have hbw9' := Lib.hid hbw9; clear ht9 bO9 hbw9; have ha10 := (Below.refl w9.heap.size w9).alloc (Nat.le_refl _) (.cells #[.int .i64 1, .slice (some ⟨w2.heap.size, 0, none⟩) 1 1, .slice none 0 0, .slice none 0 0] 28); have hDS := sub_r (one_r (f := 0) ht9'.out); have hsS : (w9.alloc (.cells #[.int .i64 1, .slice (some ⟨w2.heap.size, 0, none⟩) 1 1, .slice none 0 0, .slice none 0 0] 28)).heap.size = w9.heap.size + 1 := by simp
  have hdS := dirs1_new hDS; rw [hsS] at hdS; have hA10 := answered_any 2 _ 1 1 [xS] 6 _ hdS sm4 by4 (by decide) (by omega) xc4 (by decide); have haS := (Below.refl _ (w9.alloc (.cells #[.int .i64 1, .slice (some ⟨w2.heap.size, 0, none⟩) 1 1, .slice none 0 0, .slice none 0 0] 28))).alloc (Nat.le_refl _) (.cells #[.slice none 0 0, .slice (some ⟨w9.heap.size, 0, none⟩) 1 1, .slice none 0 0] 26); have haT := ha10.trans (haS.mono ha10.size); have hb9' := Lib.hid hb9; have hb89' := Lib.hid hb89; have ha10' := Lib.hid ha10; have hDS' := Lib.hid hDS; have hsS' := Lib.hid hsS; have hdS' := Lib.hid hdS; have hA10' := Lib.hid hA10; have haS' := Lib.hid haS; have haT' := Lib.hid haT; clear hb9 hb89 ha10 hDS hsS hdS hA10 haS haT
  go_wp2_with fail
  refine hA10'.out.mono ?_; rintro e w10 ⟨rfl, hb10⟩; clear p0 p1 p2; have hbw10 := hbw9'.out.trans ((haT'.out.trans (hb10.mono haT'.out.size)).mono hbw9'.out.size); have hS2 := lshort_any 256 1 (by decide) (by decide) w10; have hb10' := Lib.hid hb10; have hbw10' := Lib.hid hbw10; have hS2' := Lib.hid hS2; clear hb10 hbw10 hS2
  go_wp2_with fail
  refine hS2'.out.mono ?_; rintro e w11 ⟨a11, c11, rfl, ho11, hb11⟩; have hS3 := lshort_any 256 1 (by decide) (by decide) w11; have hbw11 := hbw10'.out.trans (hb11.mono hbw10'.out.size); have hb11' := Lib.hid hb11; have hbw11' := Lib.hid hbw11; have hS3' := Lib.hid hS3; have ho11' := Lib.hid ho11; clear hb11 hbw11 hS3 ho11
  go_wp2_with fail
  refine hS3'.out.mono ?_; rintro e w12 ⟨a12, c12, rfl, ho12, hb12⟩; have hbw12 := hbw11'.out.trans (hb12.mono hbw11'.out.size); have htw := two_tg 1 (Sl.of_own (own_later ho11'.out hb12)).1 (Sl.of_own ho12).1; have hDW := dirR0 (f := 1) (ba := none) (bn := 0) (bc := 0) (b := []) htw (Sl.nil _ _); have hsW : (w12.alloc (.cells #[.int .i64 256, .int .i64 3, .int .i64 1, .slice a11 2 c11, .int .i64 256, .int .i64 3, .int .i64 1, .slice a12 2 c12] 74)).heap.size = w12.heap.size + 1 := by simp
  have ha13 := (Below.refl w12.heap.size w12).alloc (Nat.le_refl _) (.cells #[.int .i64 256, .int .i64 3, .int .i64 1, .slice a11 2 c11, .int .i64 256, .int .i64 3, .int .i64 1, .slice a12 2 c12] 74); have hdW := dirs1_new hDW; rw [hsW] at hdW; have hA13 := answered_any 2 _ 1 1 [xW] 6 _ hdW sm5 by5 (by decide) (by omega) xc5 (by decide); have haW := (Below.refl _ (w12.alloc (.cells #[.int .i64 256, .int .i64 3, .int .i64 1, .slice a11 2 c11, .int .i64 256, .int .i64 3, .int .i64 1, .slice a12 2 c12] 74))).alloc (Nat.le_refl _) (.cells #[.slice (some ⟨w12.heap.size, 0, none⟩) 2 2, .slice none 0 0, .slice none 0 0] 26); have haX := ha13.trans (haW.mono ha13.size); have ho12' := Lib.hid ho12; have hb12' := Lib.hid hb12; have hbw12' := Lib.hid hbw12; have htw' := Lib.hid htw; have hDW' := Lib.hid hDW; have hsW' := Lib.hid hsW; have ha13' := Lib.hid ha13; have hdW' := Lib.hid hdW; have hA13' := Lib.hid hA13; have haW' := Lib.hid haW; have haX' := Lib.hid haX; clear ho12 hb12 hbw12 htw hDW hsW ha13 hdW hA13 haW haX
  go_wp2_with fail
  refine hA13'.out.mono ?_; rintro e w13 ⟨rfl, hb13⟩; have hbw13 := hbw12'.out.trans ((haX'.out.trans (hb13.mono haX'.out.size)).mono hbw12'.out.size); have hb13' := Lib.hid hb13; have hbw13' := Lib.hid hbw13; clear hb13 hbw13
  go_wp2_with fail
  go_ret
  exact ⟨rfl, hbw13'.out⟩
end Go.Proofs.YtceclmpmpldmlaaGreat

namespace Go.Proofs.YtceclmpmpldmlaaGreat
open Go.RowKit Tt
set_option linter.unusedVariables false
set_option linter.unusedSimpArgs false

def dataD : (f : Nat) → DirT f → Prop
  | 0, _ => True
  | f + 1, d => (∀ t ∈ d.1, t.2.2.2.length ≤ 600) ∧ ∀ s ∈ d.2.1, dataD f s.2
end Go.Proofs.YtceclmpmpldmlaaGreat
