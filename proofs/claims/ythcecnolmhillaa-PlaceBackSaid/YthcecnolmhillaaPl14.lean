/- Chapter 29: Find, of two small streams. -/
import Derived.Test.YthcecnolmhillaaPl10
import Derived.Test.YthcecnolmhillaaMr7
import Derived.Test.YthcecnolmhillaaRange
namespace Go.Proofs.Ythcecnolmhillaa
open Go.RowKit Tt
attribute [local go_sem] Oper.semAt_some
set_option linter.unusedVariables false
set_option linter.unusedSimpArgs false

def core30 : List Int := core15 ++ core15
theorem core30_byt : Byt core30 := by
  intro x hx
  have : ∀ x ∈ core30, 0 ≤ x ∧ x < 256 := by decide
  exact this x hx
theorem core30_at {k : Nat} (hk : k < 2) : (core30.drop (15 * k)).take 15 = core15 := by
  have : k = 0 ∨ k = 1 := by omega
  rcases this with rfl | rfl <;> decide
def beg (k : Nat) : List Int := (List.range k).map fun i => ((15 * i : Nat) : Int)
theorem beg_succ (k : Nat) : beg (k + 1) = beg k ++ [((15 * k : Nat) : Int)] := by unfold beg; rw [List.range_succ, List.map_append]; rfl

/-- behind k images -/
structure FS (w : World) (N c : Nat) (a : Option Addr) (l : Loop) (k : Nat) (W : World) : Prop where
  below : Below N w W
  b0 : Blk W N 22 #[.slice none 0 0]
  b1 : Blk W (N + 1) 37 #[.int .i64 0]
  out : ∃ (a' : Option Addr) (c' : Nat), Blk W (N + 2) 22 #[.slice a' k c'] ∧ W.ownsRow (N + 6) 3 1 (.slice a' k c') k (ints .i64 (beg k))
  bx : Blk W (N + 3) 40 #[.slice a 30 c]
  df : W.heap[N + 4]? = some (.deferred (some []))
  lb : W.heap[N + 5]? = some (.loop l)
theorem FS.later {w : World} {N c : Nat} {a : Option Addr} {l : Loop} {k : Nat} {W W' : World} (h : FS w N c a l k W) (hb : Below W.heap.size W W') : FS w N c a l k W' := by
  obtain ⟨h1, h2, h3, ⟨a', c', h4, h5⟩, h6, h7, h8⟩ := h
  have lt : ∀ {k o}, W.heap[k]? = some o → k < W.heap.size := fun h => (Array.getElem?_eq_some_iff.1 h).1
  have e8 := lt h8
  exact ⟨h1.trans (hb.mono (by omega)), h2.late hb, h3.late hb, ⟨a', c', h4.late hb, own_later h5 hb⟩, h6.late hb, (hb.block _ (lt h7)).trans h7, (hb.block _ e8).trans h8⟩

set_option maxRecDepth 100000 in
set_option maxHeartbeats 2000000 in
theorem images1_in (w : World) (N c : Nat) (a : Option Addr) (l : Loop) (hN : N = w.heap.size) (hs : Sl w a 30 c 1 (ints .u8 core30))
    (hround : ∀ k W, k < 2 → FS w N c a l k W →
      YieldAt Fence.wide 8 Try.prog (N + 5) #[.int .i64 ((15 * k : Nat) : Int), .int .i64 ((15 * k + 15 : Nat) : Int)] W fun e W' => e = .returned (.bool true) ∧ FS w N c a l (k + 1) W')
    (W : World) (h0 : FS w N c a l 0 W) :
    CallsIn Fence.wide 9 Try.prog 23 #[.func (.yield (N + 5)) #[] #[], .pointer (some ⟨N + 3, 0, none⟩)] W fun e W' =>
      (∃ v, e = .returned v) ∧ FS w N c a l 2 W' := by
  have hround' := Lib.hid hround
  have h0' := Lib.hid h0
  have hs' := Lib.hid hs
  have hN' := Lib.hid hN
  clear hround h0 hs hN
  refine callsIn_of_wp Try.func23 rfl trivial ?_ rfl
  simp only [Try.ntmps23, List.size_toArray, List.length_cons, List.length_nil, Nat.reduceAdd, Nat.reduceSub, Array.replicate_succ, Array.replicate_zero, List.push_toArray, List.append_toArray, List.nil_append, List.cons_append]
  gi_wp2
  gi_loopw [3] (fun v wr => ∃ k : Nat, k ≤ 2 ∧ v = .int .i64 ((15 * k : Nat) : Int) ∧ Hid (FS w N c a l k wr)) (fun v _ => 30 - (intOf v).toNat)
  case atStart => exact ⟨0, by omega, rfl, h0'⟩
  case round =>
    obtain ⟨k, hk, rfl, hf⟩ := hrel
    have c1 : wr.cell? ⟨N + 3, 0, none⟩ = some (.slice a 30 c) := hf.out.bx.cell rfl
    by_cases hlt : k < 2
    · obtain ⟨p, hp⟩ : ∃ p, 15 * k = p := ⟨_, rfl⟩
      have hE := end_core 30 c a core30 p wr (hs'.out.mono (hN'.out ▸ hf.out.below)) core30_byt (by rw [← hp]; exact core30_at hlt) (by omega) (by omega)
      have hr := hround'.out k
      rw [hp] at hr ⊢
      have hp2 : 15 * (k + 1) = p + 15 := by omega
      have hpl : (p : Int) < 30 := by omega
      have hpl2 : p < 30 := by omega
      have hpl3 : decide ((p : Int) < 30) = true := by simp; omega
      obtain ⟨q, hq⟩ : ∃ q, p + 15 = q := ⟨_, rfl⟩
      rw [hq] at hE hr hp2
      have hE' := Lib.hid hE
      have hr' := Lib.hid hr
      have hp2' := Lib.hid hp2
      have hp' := Lib.hid hp
      have hq' := Lib.hid hq
      clear hE hr hp2 hp hq
      gi_wp2_with (refine ⟨trivial, ?_⟩; gi_at_call 24; refine (callsIn_wide.2 hE'.out).mono ?_; rintro e w2 ⟨rfl, hb2⟩; have F2 := Lib.hid (hf.out.later hb2); clear hb2; obtain ⟨fn, tmps, assign, body, hy, hR⟩ := hr'.out _ hlt F2.out; have hR' := Lib.hid hR; clear hR)
      refine hR'.out.mono ?_
      rintro e3 W3 ⟨rfl, hk3⟩
      have F3 := Lib.hid hk3
      clear hk3 hy
      gi_wp2
      go_roundw
      case rel => exact ⟨k + 1, by omega, by rw [hp2'.out], F3⟩
      case measure => simp [intOf]; have := hq'.out; omega
    · obtain rfl : k = 2 := by omega
      have hpl : (((15 * 2 : Nat) : Int) < 30) = False := by simp
      gi_wp2
      go_end0
      exact ⟨⟨_, rfl⟩, hf.out⟩
end Go.Proofs.Ythcecnolmhillaa
