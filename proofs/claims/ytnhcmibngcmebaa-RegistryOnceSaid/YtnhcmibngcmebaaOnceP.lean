/- Chapter 23: the plain law of RegistryOnce: the tags of a directory in order, values that are made. -/
import Derived.Test.YtnhcmibngcmebaaReg16
import Derived.Test.YtnhcmibngcmebaaMk
namespace Go.Proofs.Ytnhcmibngcmebaa
open Go.RowKit Tt
set_option linter.unusedVariables false

def ins (x : Int) : List Int → List Int
  | [] => [x]
  | y :: r => if x ≤ y then x :: y :: r else y :: ins x r
def isort : List Int → List Int
  | [] => []
  | x :: r => ins x (isort r)
theorem ins_perm (x : Int) : ∀ l : List Int, (ins x l).Perm (x :: l)
  | [] => List.Perm.refl _
  | y :: r => by
    unfold ins
    split
    · exact List.Perm.refl _
    · exact ((ins_perm x r).cons y).trans (List.Perm.swap x y r)
theorem isort_perm : ∀ l : List Int, (isort l).Perm l
  | [] => List.Perm.refl _
  | x :: r => (ins_perm x (isort r)).trans ((isort_perm r).cons x)
theorem ins_sorted (x : Int) : ∀ l : List Int, l.Pairwise (· ≤ ·) → (ins x l).Pairwise (· ≤ ·)
  | [], _ => List.pairwise_singleton ..
  | y :: r, h => by
    unfold ins
    have h2 := List.pairwise_cons.1 h
    split
    · rename_i hxy
      refine List.pairwise_cons.2 ⟨fun z hz => ?_, h⟩
      rcases List.mem_cons.1 hz with rfl | h3
      · exact hxy
      · exact Int.le_trans hxy (h2.1 z h3)
    · rename_i hxy
      refine List.pairwise_cons.2 ⟨fun z hz => ?_, ins_sorted x r h2.2⟩
      rcases List.mem_cons.1 ((ins_perm x r).mem_iff.1 hz) with rfl | h3
      · omega
      · exact h2.1 z h3
theorem isort_sorted : ∀ l : List Int, (isort l).Pairwise (· ≤ ·)
  | [] => List.Pairwise.nil
  | x :: r => ins_sorted x _ (isort_sorted r)

def allS (dir : Int) : List Int := isort (pick dir (allE.map (·.1)))
theorem all_sorted (dir : Int) {ss : List Nat} (hnd : ss.Nodup) (hm : ∀ i, i ∈ ss ↔ i < allE.length) : (pick dir (keysOf allE ss)).mergeSort (fun x y => decide (x ≤ y)) = allS dir := by
  have hp : ss.Perm (List.range allE.length) := (List.perm_ext_iff_of_nodup hnd List.nodup_range).2 (fun i => by rw [hm, List.mem_range])
  have hk : keysOf allE (List.range allE.length) = allE.map (·.1) := by
    unfold keysOf
    apply List.ext_getElem?
    intro i
    by_cases hi : i < allE.length
    · rw [List.getElem?_map, List.getElem?_range hi, List.getElem?_map, List.getElem?_eq_getElem hi, Option.map_some, Option.map_some, List.getD_eq_getElem?_getD, List.getElem?_eq_getElem hi]
      rfl
    · rw [List.getElem?_eq_none (by simp; omega), List.getElem?_eq_none (by simp; omega)]
  have hp2 : (pick dir (keysOf allE ss)).Perm (pick dir (allE.map (·.1))) := by
    rw [← hk]
    exact (hp.map _).filterMap _
  refine List.Perm.eq_of_pairwise (le := (· ≤ ·)) (fun a b _ _ h1 h2 => Int.le_antisymm h1 h2) ?_ (isort_sorted _) ?_
  · have := List.pairwise_mergeSort (le := fun x y : Int => decide (x ≤ y)) (fun a b c h1 h2 => by simp at *; omega) (fun a b => by simp; omega) (pick dir (keysOf allE ss))
    exact this.imp (fun h => by simpa using h)
  · exact ((List.mergeSort_perm _ _).trans hp2).trans (isort_perm _).symm
theorem allE_dirs : allE.all (fun x => decide (0 ≤ x.1.1) && decide (x.1.1 ≤ 5)) = true := by decide +kernel
theorem allS_out {dir : Int} (h : dir < 0 ∨ 5 < dir) : allS dir = [] := by
  unfold allS
  have : pick dir (allE.map (·.1)) = [] := by
    unfold pick
    rw [List.filterMap_eq_nil_iff]
    intro x hx
    obtain ⟨y, hy, rfl⟩ := List.mem_map.1 hx
    have := List.all_eq_true.1 allE_dirs y hy
    simp only [Bool.and_eq_true, decide_eq_true_eq] at this
    rw [if_neg (by omega)]
  rw [this]
  rfl

/-- what a value that is made holds -/
def madeB (kind count : Int) : List Int :=
  let n := (max 0 (min (count * (kindS kind).1) 1000)).toNat
  if kind = 2 then List.replicate (n - 1) 97 ++ List.replicate (min n 1) 0 else List.replicate n 0
def onceK (dir t : Int) (ts : List Int) (m k : Int) : Bool :=
  (tmayS dir t k (max m 1) (madeB k (max m 1)) == ts.contains k) && (decide (m ≤ 0) || !tmayS dir t k (m + 1) (madeB k (m + 1)))
def onceT (dir t : Int) : Bool :=
  decide (0 ≤ (knownS dir t).2) && decide ((knownS dir t).2 ≤ 100) && !(knownS dir t).1.isEmpty && !resS dir t && (Lit.int .i64 t).wf && [1, 2, 3, 4, 5, 6, 7, 8, 9, 10, 11, 12].all (onceK dir t (knownS dir t).1 (knownS dir t).2)
def rise (l : List Int) : Bool := (List.range (l.length - 1)).all fun i => decide (l.getD i 0 < l.getD (i + 1) 0)
theorem once0 : (allS 0).all (onceT 0) = true := by decide +kernel
theorem once1 : (allS 1).all (onceT 1) = true := by decide +kernel
theorem once2 : (allS 2).all (onceT 2) = true := by decide +kernel
theorem once3 : (allS 3).all (onceT 3) = true := by decide +kernel
theorem once4 : (allS 4).all (onceT 4) = true := by decide +kernel
theorem once5 : (allS 5).all (onceT 5) = true := by decide +kernel
theorem rise_all : [0, 1, 2, 3, 4, 5].all (fun d => rise (allS d)) = true := by decide +kernel
theorem made_may : (List.range 12).all (fun k => (List.range 101).all fun c => mayS ((k : Int) + 1) ((c : Int) + 1) (madeB ((k : Int) + 1) ((c : Int) + 1))) = true := by decide +kernel
end Go.Proofs.Ytnhcmibngcmebaa
