/- Chapter 23: the iterator of maps.Keys over the rules, for a body that keeps a row of those keys that it wants. -/
import Derived.Test.YtnhcmibngcmebaaReg1
import Derived.Test.YtnhcmibngcmebaaL6
import Derived.Test.YtnhcmibngcmebaaRange
import Derived.Maps.RangeRun
namespace Go.Proofs.Ytnhcmibngcmebaa
open Go.RowKit Tt
set_option linter.unusedVariables false

/-- what a body's choice of keys is -/
def pick (dir : Int) (ks : List (Int × Int)) : List Int := ks.filterMap fun k => if k.1 = dir then some k.2 else none

/-- The state between two rounds: N: the block of what the caller boxed first; B: the iterator's own box. -/
structure Ks (w : World) (N B b : Nat) (es : Array MapEntry) (clock : Nat) (l : Loop) (dir : Int) (xs : List Int) (W : World) : Prop where
  bel : Below N w W
  bd : W.heap[N]? = some (.cells #[.int .i64 dir] 3)
  ob : ∃ a c, W.heap[N + 1]? = some (.cells #[.slice a xs.length c] 30) ∧ W.ownsRow (B + 4) 3 1 (.slice a xs.length c) xs.length (ints .i64 xs)
  mb : W.heap[b]? = some (.map es clock)
  kb : W.heap[B]? = some (.cells #[.map (some b)] 58)
  db : W.heap[B + 1]? = some (.deferred (some []))
  lb : W.heap[B + 2]? = some (.loop l)

theorem Ks.of_block {w : World} {N B b : Nat} {es : Array MapEntry} {clock : Nat} {l : Loop} {dir : Int} {xs : List Int} {W W' : World} (h : Ks w N B b es clock l dir xs W) (hNb : N + 1 < b) (hbB : b < B)
    (hh : ∀ k, k ≠ B + 3 → k < W.heap.size → W'.heap[k]? = W.heap[k]?) (hsz : W.heap.size ≤ W'.heap.size) (hos : W'.os = W.os) (hta : W'.tape = W.tape) (hou : W'.output = W.output) : Ks w N B b es clock l dir xs W' := by
  obtain ⟨h1, h2, ⟨a, c, h3, h4⟩, h5, h6, h7, h8⟩ := h
  have lt : ∀ {k o}, W.heap[k]? = some o → k < W.heap.size := fun h => (Array.getElem?_eq_some_iff.1 h).1
  have e8 := lt h8
  refine ⟨h1.trans ⟨hos, hta, hou, hsz, fun k hk => hh k (by omega) (by omega)⟩, (hh _ (by omega) (lt h2)).trans h2, ⟨a, c, (hh _ (by omega) (lt h3)).trans h3, own_above h4 fun k hk hk2 => hh k (by omega) hk2⟩, (hh _ (by omega) (lt h5)).trans h5, (hh _ (by omega) (lt h6)).trans h6, (hh _ (by omega) (lt h7)).trans h7, (hh _ (by omega) e8).trans h8⟩

/-- what the iterator has handed out: by the stamps of the entries -/
def keysOf (l : List Ent) (ss : List Nat) : List (Int × Int) := ss.map fun i => (l.getD i ((0, 0), ([], 0))).1

theorem nodup_len : ∀ (n : Nat) (ss : List Nat), ss.Nodup → (∀ i ∈ ss, i < n) → ss.length ≤ n
  | 0, [], _, _ => Nat.le_refl _
  | 0, x :: _, _, h => absurd (h x (List.mem_cons_self ..)) (Nat.not_lt_zero _)
  | n + 1, ss, hn, h => by
    have h1 := nodup_len n (ss.erase n) (hn.erase n) (fun i hi => by
      have hm := List.mem_of_mem_erase hi
      have hne : i ≠ n := by
        rintro rfl
        exact (List.Nodup.not_mem_erase hn) hi
      have := h i hm
      omega)
    have h2 : ss.length - 1 ≤ (ss.erase n).length := by
      rw [List.length_erase]
      split <;> omega
    omega
theorem keysOf_snoc (E : List Ent) (ss : List Nat) (i : Nat) : keysOf E (ss ++ [i]) = keysOf E ss ++ [(E.getD i ((0, 0), ([], 0))).1] := by simp [keysOf]
theorem pick_append (dir : Int) (x y : List (Int × Int)) : pick dir (x ++ y) = pick dir x ++ pick dir y := by simp [pick]

set_option maxRecDepth 100000 in
set_option maxHeartbeats 1000000 in
theorem keys1_in (w : World) (N B b : Nat) (es : Array MapEntry) (clock : Nat) (l : Loop) (dir : Int) (E : List Ent) (hNb : N + 1 < b) (hbB : b < B)
    (hes : es.size = E.length) (hek : ∀ (i : Nat) e, es[i]? = some e → e.key = plc (E.getD i ((0, 0), ([], 0))).1.1 (E.getD i ((0, 0), ([], 0))).1.2) (hcl : clock = es.size) (hborn : ∀ (i : Nat) e, es[i]? = some e → e.born = i)
    (hround : ∀ d t xs W, Ks w N B b es clock l dir xs W → B + 3 < W.heap.size → xs.length ≤ E.length →
      YieldAt Fence.wide 8 Try.prog (B + 2) #[plc d t] W fun e W' => e = .returned (.bool true) ∧ Ks w N B b es clock l dir (xs ++ pick dir [(d, t)]) W' ∧ W'.heap[B + 3]? = W.heap[B + 3]?)
    (W : World) (h0 : Ks w N B b es clock l dir [] W) (hsz : W.heap.size = B + 3) :
    CallsIn Fence.wide 9 Try.prog 72 #[.func (.yield (B + 2)) #[] #[], .pointer (some ⟨B, 0, none⟩)] W fun e W' =>
      (∃ v, e = .returned v) ∧ ∃ ss : List Nat, ss.Nodup ∧ (∀ i, i ∈ ss ↔ i < E.length) ∧ Ks w N B b es clock l dir (pick dir (keysOf E ss)) W' := by
  have Hround := Lib.hid hround
  have Hes := Lib.hid hes
  have Hek := Lib.hid hek
  have Hcl := Lib.hid hcl
  have Hborn := Lib.hid hborn
  have H0 := Lib.hid h0
  have Hsz := Lib.hid hsz
  have HbB := Lib.hid hbB
  have HNb := Lib.hid hNb
  have c0 : W.cell? ⟨B, 0, none⟩ = some (.map (some b)) := by unfold World.cell?; rw [h0.kb]; rfl
  have hrun := run_range_map (P := Try.prog) W 58 _ _ b es clock Try.underlying58 h0.mb
  rw [hsz] at hrun
  clear hround hes hek hcl hborn h0 hsz
  refine callsIn_of_wp Try.func72 rfl trivial ?_ rfl
  simp only [Try.ntmps72, List.size_toArray, List.length_cons, List.length_nil, Nat.reduceAdd, Nat.reduceSub, Array.replicate_succ, Array.replicate_zero, List.push_toArray, List.append_toArray, List.nil_append, List.cons_append]
  gi_wp2
  gi_loopw [7] (fun v wr => ∃ ss : List Nat, Hid (ss.Nodup ∧ (∀ i ∈ ss, i < E.length) ∧ Ks w N B b es clock l dir (pick dir (keysOf E ss)) wr ∧ wr.heap[B + 3]? = some (.mapIter (some b) clock ss.toArray clock))) (fun v wr => E.length - (wr.iterSeen (B + 3)).size)
  case atStart =>
    refine ⟨[], Lib.hid ⟨List.nodup_nil, (fun i hi => by cases hi), ?_, ?_⟩⟩
    · exact H0.out.of_block HNb.out HbB.out (fun k _ hk => heap_old _ _ hk) (by simp) rfl rfl rfl
    · exact heap_new' _ _ Hsz.out.symm
  case round =>
    obtain ⟨ss, hs⟩ := hrel
    have hms : (wr.iterSeen (B + 3)).size = ss.length := by unfold World.iterSeen; rw [hs.out.2.2.2]; simp
    have Hms := Lib.hid hms
    clear hms
    rcases run_next_at (P := Try.prog) wr 0 (B + 3) b clock clock ss.toArray es clock hs.out.2.2.2 hs.out.2.2.1.mb (fun x hx => by
        obtain ⟨i, hi, hix⟩ := List.mem_iff_getElem.1 hx
        have hi' : i < es.size := by simpa using hi
        have := Hborn.out i x (by rw [← hix]; simp [hi'])
        rw [this, Hcl.out]; exact hi') (Nat.le_refl _) with ⟨hl, hrn⟩ | ⟨e, he, w1, hw1, hrn⟩
    · have hall : ∀ i, i < E.length → i ∈ ss := fun i hi => by
        have hi' : i < es.size := by rw [Hes.out]; exact hi
        by_cases hc : i ∈ ss
        · exact hc
        · exfalso
          have hm : es[i] ∈ leftOf es ss.toArray := by
            unfold leftOf
            rw [Array.mem_filter]
            refine ⟨Array.getElem_mem hi', ?_⟩
            rw [Hborn.out i es[i] (by simp [hi'])]
            simpa using hc
          have h0 : leftOf es ss.toArray = #[] := Array.eq_empty_of_size_eq_zero hl
          rw [h0] at hm
          simp at hm
      have Hall := Lib.hid hall
      clear hall hl
      gi_wp2
      go_end0
      exact ⟨⟨_, rfl⟩, ss, hs.out.1, fun i => ⟨hs.out.2.1 i, Hall.out i⟩, hs.out.2.2.1⟩
    · have hme : e ∈ es.toList ∧ e.born ∉ ss := by
        unfold leftOf at he
        have h1 := Array.mem_toList_iff.1 he
        rw [Array.mem_filter] at h1
        exact ⟨Array.mem_toList_iff.2 h1.1, by simpa using h1.2⟩
      obtain ⟨i, hi, hix⟩ := List.mem_iff_getElem.1 hme.1
      have hi' : i < es.size := by simpa using hi
      have hie : es[i]? = some e := by rw [← hix]; simp [hi']
      have hbi : e.born = i := Hborn.out i e hie
      have hnd : (es.toList.map (·.born)).Nodup := by
        have : es.toList.map (·.born) = List.range es.size := by
          apply List.ext_getElem?
          intro j
          by_cases hj : j < es.size
          · rw [List.getElem?_map, Array.getElem?_toList, List.getElem?_range hj, Array.getElem?_eq_getElem hj, Option.map_some, Hborn.out j es[j] (by simp [hj])]
          · rw [List.getElem?_eq_none (by simp; omega), List.getElem?_eq_none (by simp; omega)]
        rw [this]
        exact List.nodup_range
      obtain ⟨W2, hW2⟩ : ∃ W2, W2 = ChangeMaps.setBlock w1 (B + 3) (.mapIter (some b) clock (ss.toArray.push e.born) clock) := ⟨_, rfl⟩
      rw [← hW2] at hrn
      have hw1h : w1.heap = wr.heap := by rcases hw1 with rfl | rfl <;> rfl
      have hlt3 : B + 3 < wr.heap.size := (Array.getElem?_eq_some_iff.1 hs.out.2.2.2).1
      have g3 : W2.heap[B + 3]? = some (.mapIter (some b) clock (ss.toArray.push e.born) clock) := by rw [hW2]; simp [ChangeMaps.setBlock, hw1h, hlt3]
      have go : ∀ k, k ≠ B + 3 → W2.heap[k]? = wr.heap[k]? := fun k hk => by rw [hW2]; simp [ChangeMaps.setBlock, hw1h, Ne.symm hk]
      have gs : W2.heap.size = wr.heap.size := by rw [hW2]; simp [ChangeMaps.setBlock, hw1h]
      have gos : W2.os = wr.os ∧ W2.tape = wr.tape ∧ W2.output = wr.output := by rw [hW2]; rcases hw1 with rfl | rfl <;> exact ⟨rfl, rfl, rfl⟩
      have K2 := hs.out.2.2.1.of_block HNb.out HbB.out (fun k hk _ => go k hk) (Nat.le_of_eq gs.symm) gos.1 gos.2.1 gos.2.2
      have hen := run_entry_at (P := Try.prog) W2 (B + 3) b clock ss.toArray es clock e g3 K2.mb hme.1 hnd
      obtain ⟨⟨d, t⟩, hdt⟩ : ∃ x : Int × Int, (E.getD i ((0, 0), ([], 0))).1 = x := ⟨_, rfl⟩
      have hkey : e.key = plc d t := by have := Hek.out i e hie; rw [hdt] at this; exact this
      obtain ⟨val, hval⟩ : ∃ val, val = e.val := ⟨_, rfl⟩
      rw [hkey, ← hval] at hen hrn
      have K3 := K2.of_block (W' := W2.alloc (.cells #[.int .i64 d, .int .i64 t] 61)) HNb.out HbB.out (fun k _ hk => heap_old _ _ hk) (by simp) rfl rfl rfl
      have g4 : (W2.alloc (.cells #[.int .i64 d, .int .i64 t] 61)).heap[B + 3]? = some (.mapIter (some b) clock (ss.toArray.push i) clock) := by rw [heap_old _ _ (by rw [gs]; exact hlt3), g3, hbi]
      obtain ⟨fn, tmps, assign, body, hy, hR⟩ := Hround.out d t _ _ K3 (by rw [World.size_alloc, gs]; omega) (by
        have h1 := nodup_len E.length ss hs.out.1 hs.out.2.1
        have h2 : (pick dir (keysOf E ss)).length ≤ (keysOf E ss).length := List.length_filterMap_le _ _
        have h3 : (keysOf E ss).length = ss.length := by simp [keysOf]
        omega)
      rw [g4] at hR
      have HR := Lib.hid hR
      have Hme := Lib.hid hme
      have Hbi := Lib.hid hbi
      have Hi := Lib.hid hi'
      have Hdt := Lib.hid hdt
      clear hR hme hbi hi' hdt K3 K2 g4 g3 go gs gos hw1h hW2 hkey hval hnd hie hix hi hlt3 he hw1
      unfold plc at hrn hen hy
      gi_wp2
      refine HR.out.mono ?_
      rintro e3 W3 ⟨rfl, hk3, hi3⟩
      have Hk3 := Lib.hid hk3
      have Hi3 := Lib.hid hi3
      clear hk3 hi3 hy hrn hen
      gi_wp2
      have hsnoc : ss.toArray.push i = (ss ++ [i]).toArray := by simp
      have hlt : i < E.length := by rw [← Hes.out]; exact Hi.out
      have hni : i ∉ ss := by rw [← Hbi.out]; exact Hme.out.2
      have hnd2 : (ss ++ [i]).Nodup := by
        rw [List.nodup_append]
        refine ⟨hs.out.1, by simp, ?_⟩
        rintro a ha c hc rfl
        rw [List.mem_singleton] at hc
        exact hni (hc ▸ ha)
      have hbd2 : ∀ j ∈ ss ++ [i], j < E.length := fun j hj => by
        rcases List.mem_append.1 hj with h | h
        · exact hs.out.2.1 j h
        · rw [List.mem_singleton] at h; omega
      have hit : W3.heap[B + 3]? = some (.mapIter (some b) clock (ss ++ [i]).toArray clock) := by rw [Hi3.out, hsnoc]
      have hks : Ks w N B b es clock l dir (pick dir (keysOf E (ss ++ [i]))) W3 := by rw [keysOf_snoc, pick_append, Hdt.out]; exact Hk3.out
      have hms2 : (W3.iterSeen (B + 3)).size = ss.length + 1 := by unfold World.iterSeen; rw [hit]; simp
      have hle2 := nodup_len E.length _ hnd2 hbd2
      rw [List.length_append] at hle2
      simp only [List.length_cons, List.length_nil] at hle2
      have Hle2 := Lib.hid hle2
      have Hms2 := Lib.hid hms2
      have Hfin := Lib.hid (show (ss ++ [i]).Nodup ∧ (∀ j ∈ ss ++ [i], j < E.length) ∧ Ks w N B b es clock l dir (pick dir (keysOf E (ss ++ [i]))) W3 ∧ W3.heap[B + 3]? = some (.mapIter (some b) clock (ss ++ [i]).toArray clock) from ⟨hnd2, hbd2, hks, hit⟩)
      clear hle2 hms2 hks hit hbd2 hnd2 hni hlt hsnoc
      go_roundw
      case rel => exact ⟨ss ++ [i], Hfin⟩
      case measure => rw [Hms.out, Hms2.out]; have := Hle2.out; omega
end Go.Proofs.Ytnhcmibngcmebaa
