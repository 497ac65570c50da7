/- General words on slices that are read, and appended to: of whatever program. | More general words: a row that the call made and writes; a copy into it; bytes of a conversion. | A block of cells that is known whole (a struct variable). | Only one of the old blocks has turned. | Sub-slices, with what block they lie in; stores. -/
import Derived.WalkKit
import Derived.WalkSpells
import Derived.WalkLawsBesides
import Derived.BigQuiet
import Derived.Lib.Hide
import Derived.Deep.QuietTactic
import Derived.Laws.AppendOwnNone
import Derived.Laws.BytesArg
import Derived.Lib.Bytes
import Derived.Lib.SlBytesConst
import Derived.Test.YtceclmpmpldmlaaGreatRows
import Derived.Laws.CopyOwn
import Derived.ArgAppend
import Derived.Laws.ResultCell
import Derived.Laws.Rows
import Derived.StillTail
import Derived.StillTailTactics
import Derived.Deep.RegionLaw
import Derived.Deep.CutRange
import Derived.Deep.Cut
import Derived.BigRegion
import Derived.Lib.SliceRun
namespace Tt
open Go Go.RowKit

theorem ret_int {k : IntKind} {a b : Int} (h : a = b) : Ending.returned (.int k a) = .returned (.int k b) := by rw [h]
theorem ret_bool {a b : Bool} (h : a = b) : Ending.returned (.bool a) = .returned (.bool b) := by rw [h]
/-- A slice value (address 'a', length 'n', capacity 'cap', elements of 'sz' cells) that reads as the cells 'cs'. -/
structure Sl (w : World) (a : Option Addr) (n cap sz : Nat) (cs : List Value) : Prop where
  len : cs.length = n * sz
  le : n ≤ cap
  max : cap ≤ 9223372036854775807
  lies : ∀ i, i < n → ∃ b off, a = some ⟨b, off, none⟩ ∧ b < w.heap.size ∧ ∀ j v, cs[j]? = some v → w.cell? ⟨b, off + j, none⟩ = some v
  fit : a = none → cap = 0

def ints (k : IntKind) (l : List Int) : List Value := l.map (Value.int k)

theorem ints_get {k : IntKind} {l : List Int} {i : Nat} (h : i < l.length) : (ints k l)[i]? = some (.int k (l.getD i 0)) := by
  simp [ints, h]
theorem ints_len {k : IntKind} {l : List Int} : (ints k l).length = l.length := by simp [ints]
theorem ints_one {k : IntKind} {l : List Int} : ∀ u ∈ ints k l, u.oneCell' = true := by
  intro u hu; simp only [ints, List.mem_map] at hu; obtain ⟨x, _, rfl⟩ := hu; rfl
theorem ints_append {k : IntKind} {x y : List Int} : ints k (x ++ y) = ints k x ++ ints k y := by simp [ints]

theorem Sl.at {w : World} {a : Option Addr} {n cap sz : Nat} {cs : List Value} (h : Sl w a n cap sz cs) {i : Nat} (hi : i < n) :
    ∃ b off, a = some ⟨b, off, none⟩ ∧ b < w.heap.size ∧ ∀ j v, cs[j]? = some v → w.cell? ⟨b, off + j, none⟩ = some v := h.lies i hi
theorem Sl.ilen {w : World} {a : Option Addr} {n cap : Nat} {k : IntKind} {l : List Int} (h : Sl w a n cap 1 (ints k l)) : l.length = n := by
  rw [← @ints_len k, h.len, Nat.mul_one]

theorem Sl.mono {w w' : World} {a : Option Addr} {n cap sz : Nat} {cs : List Value} (h : Sl w a n cap sz cs) (hb : Below w.heap.size w w') : Sl w' a n cap sz cs :=
  ⟨h.len, h.le, h.max, fun i hi => by
    obtain ⟨b, off, e, hlt, hc⟩ := h.lies i hi; exact ⟨b, off, e, Nat.lt_of_lt_of_le hlt hb.size, fun j v hv => by rw [hb.cell (p := ⟨b, off + j, none⟩) hlt]; exact hc j v hv⟩, h.fit⟩

theorem Sl.drewN {w : World} {m : Nat} {a : Option Addr} {n cap sz : Nat} {cs : List Value} (h : Sl w a n cap sz cs) : Sl (w.drewN m) a n cap sz cs := ⟨h.len, h.le, h.max, h.lies, h.fit⟩

/-- Only draws lie between. -/
def Qt (w w' : World) : Prop := ∃ m, w' = w.drewN m
theorem Qt.refl (w : World) : Qt w w := ⟨0, rfl⟩
theorem Qt.step {a b : World} (h : Qt a b) (m : Nat) : Qt a (b.drewN m) := by obtain ⟨k, rfl⟩ := h; exact ⟨k + m, World.drewN_drewN ..⟩
theorem Qt.below {a b : World} (h : Qt a b) (B : Nat) : Below B a b := by obtain ⟨k, rfl⟩ := h; exact ⟨rfl, rfl, rfl, Nat.le_refl _, fun _ _ => rfl⟩
theorem Sl.qt {w w' : World} {a : Option Addr} {n cap sz : Nat} {cs : List Value} (h : Sl w a n cap sz cs) (q : Qt w w') : Sl w' a n cap sz cs := h.mono (q.below _)
theorem Qt.ex {w w' : World} (h : Qt w w') : ∃ m, w' = w.drewN m := h

theorem Sl.nil (w : World) (sz : Nat) : Sl w none 0 0 sz [] := ⟨by simp, Nat.le_refl _, by omega, fun i hi => by omega, fun _ => rfl⟩

theorem Sl.of_own {w : World} {B : Nat} {E : TypeId} {sz : Nat} {a : Option Addr} {n c m : Nat} {xs : List Value} (h : w.ownsRow B E sz (.slice a n c) m xs) : Sl w a n c sz xs ∧ m = n := by
  obtain ⟨hl, hr⟩ := h
  rcases hr with ⟨hv, rfl⟩ | ⟨g, cap, cur, hv, hB, hg, hnc, hcm, hcs, htk⟩
  · injection hv with h1 h2 h3
    subst h1 h2 h3; rw [Nat.zero_mul] at hl; obtain rfl := List.eq_nil_of_length_eq_zero hl; exact ⟨Sl.nil _ _, rfl⟩
  · injection hv with h1 h2 h3
    subst h1 h2 h3; refine ⟨⟨hl, hnc, hcm, fun i hi => ⟨g, 0, rfl, (Array.getElem?_eq_some_iff.1 hg).1, fun j v hj => ?_⟩, (fun h => by cases h)⟩, rfl⟩; rw [← htk] at hj
    have hj' : cur.toList[j]? = some v := by
      rw [List.getElem?_take] at hj
      split at hj
      · exact hj
      · cases hj
    simp [World.cell?, hg]
    simpa using hj'

/-- The owned row moves up: what is owned from B on is owned from a smaller number on. -/
theorem own_mono {w : World} {B B' : Nat} {E : TypeId} {sz : Nat} {v : Value} {n : Nat} {xs : List Value} (h : w.ownsRow B E sz v n xs) (hB : B' ≤ B) : w.ownsRow B' E sz v n xs := by
  obtain ⟨hl, hr⟩ := h; refine ⟨hl, ?_⟩
  rcases hr with hn | ⟨g, cap, cur, hv, hb, r⟩
  · exact .inl hn
  · exact .inr ⟨g, cap, cur, hv, Nat.le_trans hB hb, r⟩

theorem own_later {w w' : World} {B : Nat} {E : TypeId} {sz : Nat} {v : Value} {n : Nat} {xs : List Value} (h : w.ownsRow B E sz v n xs) (hb : Below w.heap.size w w') : w'.ownsRow B E sz v n xs := by
  obtain ⟨hl, hr⟩ := h; refine ⟨hl, ?_⟩
  rcases hr with hn | ⟨g, cap, cur, hv, hB, hg, r⟩
  · exact .inl hn
  · exact .inr ⟨g, cap, cur, hv, hB, by rw [hb.block g (Array.getElem?_eq_some_iff.1 hg).1]; exact hg, r⟩

theorem own_above {w w' : World} {B : Nat} {E : TypeId} {sz : Nat} {v : Value} {n : Nat} {xs : List Value} (h : w.ownsRow B E sz v n xs) (hk : ∀ k, B ≤ k → k < w.heap.size → w'.heap[k]? = w.heap[k]?) : w'.ownsRow B E sz v n xs := by
  obtain ⟨hl, hr⟩ := h; refine ⟨hl, ?_⟩
  rcases hr with hn | ⟨g, cap, cur, hv, hB, hg, r⟩
  · exact .inl hn
  · exact .inr ⟨g, cap, cur, hv, hB, by rw [hk g hB (Array.getElem?_eq_some_iff.1 hg).1]; exact hg, r⟩

theorem own_nil (w : World) (B : Nat) (E : TypeId) (sz : Nat) : w.ownsRow B E sz (.slice none 0 0) 0 [] := ⟨by simp, .inl ⟨rfl, rfl⟩⟩

theorem heap_new (w : World) (o : Obj) : (w.alloc o).heap[w.heap.size]? = some o := by show (w.heap.push o)[w.heap.size]? = some o; simp

theorem heap_new' (w : World) (o : Obj) {n : Nat} (h : n = w.heap.size) : (w.alloc o).heap[n]? = some o := by rw [h]; exact heap_new w o
theorem heap_old (w : World) (o : Obj) {n : Nat} (h : n < w.heap.size) : (w.alloc o).heap[n]? = w.heap[n]? := Below.heap_alloc w o n h

theorem own_new (w : World) (B : Nat) (E : TypeId) (sz n : Nat) (cur : Array Value) (hB : B ≤ w.heap.size) (hn : n ≤ maxLen) (hs : cur.size = n * sz) :
    (w.alloc (.cells cur E)).ownsRow B E sz (.slice (some ⟨w.heap.size, 0, none⟩) n n) n cur.toList := by
  refine ⟨by simpa using hs, .inr ⟨w.heap.size, n, cur, rfl, hB, heap_new w _, Nat.le_refl _, hn, hs, ?_⟩⟩; rw [← hs, ← Array.length_toList, List.take_length]

theorem Sl.new (w : World) (E : TypeId) (sz n : Nat) (cur : Array Value) (fz : Nat × Nat) (hn : n ≤ 9223372036854775807) (hs : cur.size = n * sz) :
    Sl (w.alloc (.cells cur E fz)) (some ⟨w.heap.size, 0, none⟩) n n sz cur.toList :=
  ⟨by simpa using hs, Nat.le_refl _, hn, fun i hi => ⟨w.heap.size, 0, rfl, by simp, fun j v hj => by
    have h := heap_new w (.cells cur E fz); unfold World.cell?; rw [h]
    simpa using hj⟩, (fun h => by cases h)⟩

theorem below_grown {B : Nat} {W w w' : World} {v : Value} {E : TypeId} {sz n : Nat} {xs : List Value} (h : Below B W w) (hg : w.grownBy w' v.ownBlock) (hB : B ≤ w.heap.size) (ho : w.ownsRow B E sz v n xs) : Below B W w' :=
  h.grown hg hB fun k e => (ho.lt k e).1

theorem sl_alloc {w : World} {a : Option Addr} {n cap sz : Nat} {cs : List Value} (h : Sl w a n cap sz cs) (x : Obj) : Sl (w.alloc x) a n cap sz cs := h.mono ((Below.refl _ _).alloc (Nat.le_refl _) _)

theorem sl_sub {w : World} {a : Option Addr} {n c sz : Nat} {cs : List Value} (h : Sl w a n c sz cs) (l hi : Nat) (h1 : l ≤ hi) (h2 : hi ≤ n) (n2 c2 : Nat) (hn2 : n2 = hi - l) (hc2 : c2 = c - l) :
    Sl w (if c = l then a else a.map (·.add (l * sz))) n2 c2 sz ((cs.drop (l * sz)).take (n2 * sz)) := by
  have hle := h.le; have hmul : (l + n2) * sz ≤ n * sz := Nat.mul_le_mul_right _ (by omega); rw [Nat.add_mul] at hmul; refine ⟨?_, by omega, by have := h.max; omega, fun i hi => ?_, fun he => ?_⟩
  · rw [List.length_take, List.length_drop, h.len]; omega
  · rw [if_neg (by omega)]
    obtain ⟨b, off, e, hlt, hcell⟩ := h.lies 0 (by omega); refine ⟨b, off + l * sz, by rw [e]; simp [Addr.add_lit], hlt, fun j v hj => ?_⟩
    have hj2 : cs[l * sz + j]? = some v := by
      rw [List.getElem?_take] at hj
      split at hj
      · rw [List.getElem?_drop] at hj; exact hj
      · cases hj
    rw [Nat.add_assoc]; exact hcell _ v hj2
  · split at he
    · have := h.fit he; omega
    · cases a with
      | none => have := h.fit rfl; omega
      | some y => cases he

section
variable {P : Program} {T E : TypeId} {sz : Nat} (ht : P.underlying T = some (.slice E)) (hE : ∀ w, (Go.sizeOf E).run P w = .ok sz w)
include ht hE
end

theorem late {W w1 : World} {p : Addr} {z : Value} (h : Below W.heap.size W w1) (hp : p.block < W.heap.size) (hz : W.cell? p = some z) : w1.cell? p = some z := (h.cell hp).trans hz

/-- Bytes. -/
def Byt (l : List Int) : Prop := ∀ x ∈ l, 0 ≤ x ∧ x < 256
theorem Byt.append {x y : List Int} (hx : Byt x) (hy : Byt y) : Byt (x ++ y) := fun z hz => by
  rcases List.mem_append.1 hz with h | h
  · exact hx z h
  · exact hy z h
theorem Byt.take {x : List Int} (hx : Byt x) (k : Nat) : Byt (x.take k) := fun z hz => hx z (List.mem_of_mem_take hz)
theorem Byt.drop {x : List Int} (hx : Byt x) (k : Nat) : Byt (x.drop k) := fun z hz => hx z (List.mem_of_mem_drop hz)
theorem Byt.get {x : List Int} (hx : Byt x) (k : Nat) : 0 ≤ x.getD k 0 ∧ x.getD k 0 < 256 := by
  rw [List.getD_eq_getElem?_getD]
  rcases Nat.lt_or_ge k x.length with h | h
  · rw [List.getElem?_eq_getElem h]; exact hx _ (List.getElem_mem h)
  · rw [List.getElem?_eq_none h]; simp
theorem byt_inj : ∀ {x y : List Int}, Byt x → Byt y → (x.map fun n => UInt8.ofNat n.toNat) = (y.map fun n => UInt8.ofNat n.toNat) → x = y
  | [], [], _, _, _ => rfl
  | [], _ :: _, _, _, h => by simp at h
  | _ :: _, [], _, _, h => by simp at h
  | a :: x, b :: y, hx, hy, h => by
    simp only [List.map_cons, List.cons.injEq] at h; obtain ⟨h1, h2⟩ := h; have ha := hx a (List.mem_cons_self ..); have hb := hy b (List.mem_cons_self ..); have h3 := congrArg UInt8.toNat h1
    simp [Nat.mod_eq_of_lt (show a.toNat < 256 by omega), Nat.mod_eq_of_lt (show b.toNat < 256 by omega)] at h3
    have : a = b := by omega
    rw [this, byt_inj (fun z hz => hx z (List.mem_cons_of_mem _ hz)) (fun z hz => hy z (List.mem_cons_of_mem _ hz)) h2]
theorem str_beq {x y : List Int} (hx : Byt x) (hy : Byt y) : ((strOfNums x).toList == (strOfNums y).toList) = (x == y) := by
  rw [Lib.strOfNums_toList, Lib.strOfNums_toList, Bool.eq_iff_iff, beq_iff_eq, beq_iff_eq]; exact ⟨fun h => byt_inj hx hy h, fun h => by rw [h]⟩

theorem conv_run {P : Program} {w : World} {a : Option Addr} {n c : Nat} {xs : List Int} (h : Sl w a n c 1 (ints .u8 xs)) (src e dst : TypeId) (hs : P.underlying src = some (.slice e)) (he : P.underlying e = some (.int .u8)) (hd : P.underlying dst = some .string) :
    (convert src dst (.slice a n c)).run P w = .ok (.string (strOfNums xs)) w := by
  have hl := h.ilen
  rcases Nat.eq_zero_or_pos n with h0 | h0
  · subst h0
    have hx : xs = [] := List.eq_nil_of_length_eq_zero hl; subst hx; rw [run_convert_bytes_string w src dst e _ 0 c hs he hd]
    cases a <;> simp [Conv.bytesToString, loadCells]
    all_goals rfl
  · obtain ⟨b, off, rfl, _, hc⟩ := h.at h0
    exact run_convert_bytes_arg w src e hs he b off n c xs hl (fun i hi => hc i _ (ints_get (by omega))) dst hd

section
variable {P : Program} {w : World} {ops : Array Oper} {rest : List Oper} {o : Oper} {a : Act} {Q : Exit → Act → World → Prop}
/-- 'append(s, x...)' onto what the call owns; x reads as 'news' (nil, empty or not). -/
theorem wpList_app (hgd : o.guard = none) (s x : Operand) (t : TypeId)
    (ho : o.op = .call { callee := .builtin .append, args := #[s, x], argTypes := #[t, t] })
    (base : Nat) (e : TypeId) (i : TypeInfo) (z : Value) (size bytes : Nat) (ht : P.underlying t = some (.slice e)) (hi : P.info? e = some i) (hz : i.zero = some z)
    (hsize : i.size = size) (hby : i.bytes = bytes) (hzs : z.cells.size = size) (hsz : 0 < size)
    (v : Value) (n : Nat) (xs : List Value) (hs : a.eval s = v) (hown : w.ownsRow base e size v n xs)
    (xa : Option Addr) (m c : Nat) (news : List Value) (hx : a.eval x = .slice xa m c) (hS : Sl w xa m c size news) (h1 : ∀ u ∈ news, u.oneCell' = true)
    (hbytes : (n + m) * bytes ≤ 140737488355328) (hb0 : 0 < bytes) (hbase : base ≤ w.heap.size)
    (h : ∀ (a' : Option Addr) (c' : Nat) (w' : World), w'.ownsRow base e size (.slice a' (n + m) c') (n + m) (xs ++ news) → Below base w w' → w.grownBy w' v.ownBlock → wpList P ops Q rest (a.put o.dst (.slice a' (n + m) c')) w') : wpList P ops Q (o :: rest) a w := by
  have h63 : n + m ≤ maxLen := by
    have : (n + m) * 1 ≤ (n + m) * bytes := Nat.mul_le_mul_left _ hb0; unfold maxLen; omega
  have hv' : ∀ (v' : Value) (w' : World), w'.ownsRow base e size v' (n + m) (xs ++ news) → ∃ (a' : Option Addr) (c' : Nat), v' = .slice a' (n + m) c' := by
    intro v' w' hw
    rcases hw.2 with ⟨rfl, h0⟩ | ⟨g, cap, cur, rfl, _⟩
    · exact ⟨none, 0, by rw [h0]⟩
    · exact ⟨_, _, rfl⟩
  cases xa with
  | none =>
    have hc := hS.fit rfl; subst hc; have hm : m = 0 := by have := hS.le; omega
    subst hm; have hn0 : news = [] := List.eq_nil_of_length_eq_zero (by rw [hS.len]; simp); subst hn0; rw [Nat.add_zero, List.append_nil] at h; refine wpList_append_own_none hgd s x t ho base e i size ht hi v n xs hs hown hx ?_; obtain ⟨a', c', rfl⟩ := hv' v w (by simpa using hown); exact h _ _ w hown (Below.refl _ _) (World.grownBy.refl _ _)
  | some ad =>
    refine wpList_append_own w hgd s x t ho base e i z size bytes ht hi hz hsize hby hzs hsz v n xs hs hown ad m c news hx hS.len ?_ h1 h63 hbytes hbase ?_
    · intro j u hu
      have hj : j < news.length := (List.getElem?_eq_some_iff.1 hu).1
      have hm : 0 < m := by
        rcases Nat.eq_zero_or_pos m with h0 | h0
        · rw [hS.len, h0] at hj; omega
        · exact h0
      obtain ⟨b, off, e1, _, hc⟩ := hS.lies 0 hm; injection e1 with e1; subst e1; rw [Addr.add_lit]; exact hc j u hu
    · intro v' w' h2 h3 _
      obtain ⟨a', c', rfl⟩ := hv' v' w' h2; exact h _ _ w' h2 (below_grown (Below.refl _ _) h3 hbase hown) h3
end

theorem take_succ_eq {x y : List Int} {k n : Nat} (hx : x.length = n) (hy : y.length = n) (hk : k < n) (h : x.take k = y.take k) (he : x.getD k 0 = y.getD k 0) : x.take (k + 1) = y.take (k + 1) := by
  rw [List.take_add_one, List.take_add_one, h]
  congr 1
  simp only [List.getD_eq_getElem?_getD] at he; rw [List.getElem?_eq_getElem (by omega), List.getElem?_eq_getElem (by omega)] at he ⊢
  simpa using he
theorem ne_of_at {x y : List Int} {k : Nat} (he : ¬ x.getD k 0 = y.getD k 0) : (x == y) = false := by
  rw [beq_eq_false_iff_ne]; rintro rfl; exact he rfl
theorem eq_of_take {x y : List Int} {k n : Nat} (hx : x.length = n) (hy : y.length = n) (hk : n ≤ k) (h : x.take k = y.take k) : (x == y) = true := by
  rw [List.take_of_length_le (by omega), List.take_of_length_le (by omega)] at h
  simp [h]

end Tt

namespace Tt
open Go Go.RowKit

/-- Block g is a row of one-cell elements of type E, holding the numbers 'l'. -/
def Row (w : World) (g : Nat) (E : TypeId) (k : IntKind) (l : List Int) : Prop := w.heap[g]? = some (.cells (ints k l).toArray E (0, 0))
theorem Row.own {w : World} {g B : Nat} {E : TypeId} {k : IntKind} {l : List Int} {n : Nat} (h : Row w g E k l) (hl : l.length = n) (hB : B ≤ g) (hm : n ≤ maxLen) : w.ownsRow B E 1 (.slice (some ⟨g, 0, none⟩) n n) n (ints k l) :=
  ⟨by rw [ints_len, hl, Nat.mul_one], .inr ⟨g, n, _, rfl, hB, h, Nat.le_refl _, hm, by simp [ints_len, hl], by simp; rw [List.take_of_length_le (by rw [ints_len, hl]; exact Nat.le_refl _)]⟩⟩
theorem Row.of_own {w : World} {g B : Nat} {E : TypeId} {k : IntKind} {l : List Int} {n : Nat} (h : w.ownsRow B E 1 (.slice (some ⟨g, 0, none⟩) n n) n (ints k l)) : Row w g E k l := by
  rcases h.2 with ⟨hv, _⟩ | ⟨g', cap, cur, hv, _, hg, _, _, hcs, htk⟩
  · cases hv
  · injection hv with h1 h2 h3
    injection h1 with h1; injection h1 with h1; subst h1 h3; unfold Row; rw [hg, ← htk, List.take_of_length_le (by rw [Array.length_toList, hcs]; exact Nat.le_refl _)]
theorem Row.cell {w : World} {g : Nat} {E : TypeId} {k : IntKind} {l : List Int} (h : Row w g E k l) {i : Nat} (hi : i < l.length) : w.cell? ⟨g, i, none⟩ = some (.int k (l.getD i 0)) := by
  unfold World.cell?; rw [h]
  simpa using ints_get (k := k) hi
theorem Row.frozen {w : World} {g : Nat} {E : TypeId} {k : IntKind} {l : List Int} (h : Row w g E k l) (i : Nat) : w.frozen? ⟨g, i, none⟩ = false := by
  unfold World.frozen?; rw [h]
  simp
theorem Row.set {w : World} {g : Nat} {E : TypeId} {k : IntKind} {l : List Int} (h : Row w g E k l) (i : Nat) (v : Int) : Row (w.setCell ⟨g, i, none⟩ (.int k v)) g E k (l.set i v) := by
  unfold Row at *
  simp [World.setCell, Array.getElem?_modify, h, ints, List.map_set]
theorem ints_splice {k : IntKind} {l cs : List Int} (i : Nat) : splice (ints k l) i (ints k cs) = ints k (splice l i cs) := by
  unfold splice ints
  simp
theorem Row.lt {w : World} {g : Nat} {E : TypeId} {k : IntKind} {l : List Int} (h : Row w g E k l) : g < w.heap.size := (Array.getElem?_eq_some_iff.1 h).1

theorem Sl.new' {b : Nat} (w : World) (E : TypeId) (sz n : Nat) (cur : Array Value) (fz : Nat × Nat) (hb : b = w.heap.size) (hn : n ≤ 9223372036854775807) (hs : cur.size = n * sz) :
    Sl (w.alloc (.cells cur E fz)) (some ⟨b, 0, none⟩) n n sz cur.toList := by rw [hb]; exact Sl.new w E sz n cur fz hn hs

section
variable {P : Program} {w : World} {ops : Array Oper} {rest : List Oper} {o : Oper} {a : Act} {Q : Exit → Act → World → Prop}
/-- 'copy(d, s)' into a row of the call's own. -/
theorem wpList_copy_row (hgd : o.guard = none) (d s : Operand) (dT sT : TypeId)
    (ho : o.op = .call { callee := .builtin .copy, args := #[d, s], argTypes := #[dT, sT] }) (elem : TypeId) (hu : P.underlying dT = some (.slice elem)) (hsz : (P.info? elem).map (·.size) = some 1)
    (g n : Nat) (k : IntKind) (l : List Int) (hd : a.eval d = .slice (some ⟨g, 0, none⟩) n n) (hR : Row w g elem k l) (hl : l.length = n)
    (sa : Option Addr) (m c : Nat) (cs : List Int) (hs : a.eval s = .slice sa m c) (hS : Sl w sa m c 1 (ints k cs)) (B : Nat) (w0 : World) (hb : Below B w0 w) (hBg : B ≤ g)
    (h : ∀ w', Row w' g elem k (splice l 0 (cs.take n)) → Below B w0 w' → wpList P ops Q rest (a.put o.dst (goInt ((min m n : Nat) : Int))) w') : wpList P ops Q (o :: rest) a w := by
  have hml := hS.ilen; have hcl : (ints k (cs.take n)).length = min m n := by rw [ints_len, List.length_take, hml, Nat.min_comm]
  refine wpList_copy_splice hgd d s dT sT ho elem hu hsz (some ⟨g, 0, none⟩) sa n n m c hd hs g 0 (ints k l) elem hR (ints k (cs.take n)) hcl ?_ (by rw [hcl, ints_len, hl]; omega) ints_one B w0 hb hBg ?_
  · intro hp
    rw [hcl] at hp; obtain ⟨b, off, e, _, hc⟩ := hS.lies 0 (by omega); refine ⟨rfl, ⟨b, off, none⟩, e, fun j v hj => ?_⟩; rw [Addr.add_lit]; refine hc j v ?_; rw [ints, List.map_take] at hj; rw [List.getElem?_take] at hj
    split at hj
    · exact hj
    · cases hj
  · intro w' hw hb'
    rw [ints_splice] at hw; rw [hcl]; exact h w' hw.out hb'
end
end Tt

namespace Tt
open Go Go.RowKit
set_option linter.unusedVariables false

def Blk (w : World) (g : Nat) (T : TypeId) (cs : Array Value) : Prop := w.heap[g]? = some (.cells cs T (0, 0))
theorem Blk.lt {w : World} {g : Nat} {T : TypeId} {cs : Array Value} (h : Blk w g T cs) : g < w.heap.size := (Array.getElem?_eq_some_iff.1 h).1
theorem Blk.cell {w : World} {g : Nat} {T : TypeId} {cs : Array Value} (h : Blk w g T cs) {i : Nat} {v : Value} (hv : cs[i]? = some v) : w.cell? ⟨g, i, none⟩ = some v := by
  unfold World.cell?; rw [h]
  simpa using hv
theorem Blk.frozen {w : World} {g : Nat} {T : TypeId} {cs : Array Value} (h : Blk w g T cs) (i : Nat) : w.frozen? ⟨g, i, none⟩ = false := by
  unfold World.frozen?; rw [h]
  simp
theorem Blk.mono {B : Nat} {w w' : World} {g : Nat} {T : TypeId} {cs : Array Value} (h : Blk w g T cs) (hb : Below B w w') (hg : g < B) : Blk w' g T cs := (hb.block g hg).trans h
theorem Blk.late {w w' : World} {g : Nat} {T : TypeId} {cs : Array Value} (h : Blk w g T cs) (hb : Below w.heap.size w w') : Blk w' g T cs := h.mono hb h.lt
theorem Blk.set {w : World} {g : Nat} {T : TypeId} {cs : Array Value} (h : Blk w g T cs) (i : Nat) (v : Value) : Blk (w.setCell ⟨g, i, none⟩ v) g T (cs.setIfInBounds i v) := by
  unfold Blk at *
  simp [World.setCell, Array.getElem?_modify, h]
theorem Blk.set_other {w : World} {g g' : Nat} {T : TypeId} {cs : Array Value} (h : Blk w g T cs) (hne : g ≠ g') (i : Nat) (v : Value) : Blk (w.setCell ⟨g', i, none⟩ v) g T cs :=
  (Below.heap_setCell w ⟨g', i, none⟩ v g hne).trans h
theorem Blk.new (w : World) (T : TypeId) (cs : Array Value) : Blk (w.alloc (.cells cs T (0, 0))) w.heap.size T cs := heap_new w _
theorem Blk.alloc {w : World} {g : Nat} {T : TypeId} {cs : Array Value} (h : Blk w g T cs) (o : Obj) : Blk (w.alloc o) g T cs := (heap_old w o h.lt).trans h
theorem own_set_other {w : World} {B : Nat} {E : TypeId} {sz : Nat} {v : Value} {n : Nat} {xs : List Value} (h : w.ownsRow B E sz v n xs) {g : Nat} (hg : g < B) (i : Nat) (u : Value) : (w.setCell ⟨g, i, none⟩ u).ownsRow B E sz v n xs :=
  own_above h fun k hk _ => Below.heap_setCell w ⟨g, i, none⟩ u k (by show k ≠ g; omega)
/-- Three cells stored, one behind the other. -/
theorem Blk.set3 {w : World} {g : Nat} {T : TypeId} {x y z : Value} (h : Blk w g T #[x, y, z]) (a b c : Value) : Blk (((w.setCell ⟨g, 0, none⟩ a).setCell ⟨g, 1, none⟩ b).setCell ⟨g, 2, none⟩ c) g T #[a, b, c] := ((h.set 0 a).set 1 b).set 2 c
theorem below_set3 {B : Nat} {a w : World} (h : Below B a w) {g : Nat} (hg : B ≤ g) (x y z : Value) : Below B a (((w.setCell ⟨g, 0, none⟩ x).setCell ⟨g, 1, none⟩ y).setCell ⟨g, 2, none⟩ z) := ((h.setCell hg _).setCell hg _).setCell hg _
theorem own_set3 {w : World} {B : Nat} {E : TypeId} {sz : Nat} {v : Value} {n : Nat} {xs : List Value} (h : w.ownsRow B E sz v n xs) {g : Nat} (hg : g < B) (x y z : Value) : (((w.setCell ⟨g, 0, none⟩ x).setCell ⟨g, 1, none⟩ y).setCell ⟨g, 2, none⟩ z).ownsRow B E sz v n xs := own_set_other (own_set_other (own_set_other h hg 0 x) hg 1 y) hg 2 z
theorem Blk.set4 {w : World} {g : Nat} {T : TypeId} {x y z u : Value} (h : Blk w g T #[x, y, z, u]) (a b c d : Value) : Blk ((((w.setCell ⟨g, 0, none⟩ a).setCell ⟨g, 1, none⟩ b).setCell ⟨g, 2, none⟩ c).setCell ⟨g, 3, none⟩ d) g T #[a, b, c, d] := (((h.set 0 a).set 1 b).set 2 c).set 3 d
theorem below_set4 {B : Nat} {a w : World} (h : Below B a w) {g : Nat} (hg : B ≤ g) (x y z u : Value) : Below B a ((((w.setCell ⟨g, 0, none⟩ x).setCell ⟨g, 1, none⟩ y).setCell ⟨g, 2, none⟩ z).setCell ⟨g, 3, none⟩ u) := (below_set3 h hg x y z).setCell hg _
theorem results_blk_tmp {P : Program} {fn : Func} {p u : Tmp} {ty : TypeId} (h : fn.results = #[.cell p ty, .tmp u]) (tmps : Array Value) (w : World) (g : Nat) (t : TypeId) (cs : Array Value) (d : TypeDesc)
    (hp : tmps.getD p undef = .pointer (some ⟨g, 0, none⟩)) (hg : Blk w g t cs)
    (hu : P.underlying ty = some d) (hd : (match d with | .struct _ | .array _ _ => true | _ => false) = true) (hi : (P.info? ty).map (·.size) = some cs.size) :
    (results fn tmps).run P w = .ok (.tuple #[.agg cs, tmps.getD u undef]) w := by
  rw [results_cell_tmp h, hp]
  simp [asAddr, Result.andThen, run_loadVar_row w g t ty cs (0, 0) d hg hu hd hi]
/-- A drawn region whose operations yield the same values in every world of a class, and leave it. -/
theorem wp_quiet_in {P : Program} {S : Type} (f : S → World) {id : Nat} {Q : Exit → Act → World → Prop} {a : Act} {w : World} {l : List Oper} (hm : P.follows .mixedOrders = true) (hB : Region.lexB .any l.toArray = true)
    (hC : ∃ s, w.drew = f s) (h : wpQuiet P l.toArray (fun W => ∃ s, W = f s) (fun a' => ∀ s, Q .normal a' (f s)) l a) : (Code.region id l.toArray true).wp P Q a w := by
  refine wp_region_quiet (C := fun W => ∃ s, W = f s) hm hB hC ?_
  have : (fun a' => ∀ s, Q .normal a' (f s)) = (fun a' => ∀ w', (∃ s, w' = f s) → Q .normal a' w') := by
    funext a'
    apply propext
    exact ⟨fun h w' ⟨s, e⟩ => e ▸ h s, fun h s => h _ ⟨s, rfl⟩⟩
  rw [this] at h
  simpa using h
theorem later_worlds (w : World) : ∃ (S : Type) (f : S → World), Nonempty S ∧ (∀ s, Below w.heap.size w (f s)) ∧ ∀ W, Below w.heap.size w W → ∃ s, W = f s :=
  ⟨{W // Below w.heap.size w W}, Subtype.val, ⟨⟨w, Below.refl _ _⟩⟩, fun s => s.2, fun W h => ⟨⟨W, h⟩, rfl⟩⟩
end Tt

namespace Tt
open Go Go.RowKit
set_option linter.unusedVariables false

structure But (b : Nat) (w w' : World) : Prop where
  os : w'.os = w.os
  tape : w'.tape = w.tape
  output : w'.output = w.output
  size : w.heap.size ≤ w'.heap.size
  block : ∀ k, k < w.heap.size → k ≠ b → w'.heap[k]? = w.heap[k]?
theorem But.refl (b : Nat) (w : World) : But b w w := ⟨rfl, rfl, rfl, Nat.le_refl _, fun _ _ _ => rfl⟩
theorem But.trans {b : Nat} {w w' w'' : World} (h : But b w w') (k : But b w' w'') : But b w w'' :=
  ⟨k.os.trans h.os, k.tape.trans h.tape, k.output.trans h.output, Nat.le_trans h.size k.size, fun i hi hb => (k.block i (Nat.lt_of_lt_of_le hi h.size) hb).trans (h.block i hi hb)⟩
theorem But.of_below {b : Nat} {w w' : World} (h : Below w.heap.size w w') : But b w w' := ⟨h.os, h.tape, h.output, h.size, fun k hk _ => h.block k hk⟩
theorem But.below {b : Nat} {w w' : World} (h : But b w w') {B : Nat} (h1 : B ≤ b) (h2 : B ≤ w.heap.size) : Below B w w' := ⟨h.os, h.tape, h.output, h.size, fun k hk => h.block k (by omega) (by omega)⟩
theorem But.set {b : Nat} {w w' : World} (h : But b w w') (i : Nat) (v : Value) : But b w (w'.setCell ⟨b, i, none⟩ v) :=
  h.trans ⟨rfl, rfl, rfl, by simp, fun k _ hk => Below.heap_setCell w' ⟨b, i, none⟩ v k hk⟩
theorem Blk.but {b : Nat} {w w' : World} {g : Nat} {T : TypeId} {cs : Array Value} (h : Blk w g T cs) (hb : But b w w') (hg : g ≠ b) : Blk w' g T cs := (hb.block g h.lt hg).trans h
theorem own_but {b : Nat} {w w' : World} {B : Nat} {E : TypeId} {sz : Nat} {v : Value} {n : Nat} {xs : List Value} (h : w.ownsRow B E sz v n xs) (hb : But b w w') (hv : v.ownBlock ≠ some b) : w'.ownsRow B E sz v n xs := by
  obtain ⟨hl, hr⟩ := h; refine ⟨hl, ?_⟩
  rcases hr with hn | ⟨g, cap, cur, rfl, hB, hg, r⟩
  · exact .inl hn
  · exact .inr ⟨g, cap, cur, rfl, hB, by rw [hb.block g (Array.getElem?_eq_some_iff.1 hg).1 (fun e => hv (by rw [e]; rfl))]; exact hg, r⟩
end Tt

namespace Tt
open Go Go.RowKit
set_option linter.unusedVariables false

theorem add_block (a : Addr) (k : Nat) : (a.add k).block = a.block := by
  unfold Addr.add
  split <;> rfl
/-- the slice value lies where the other one does -/
def In (a2 a : Option Addr) : Prop := ∀ x, a2 = some x → ∃ y, a = some y ∧ y.block = x.block
theorem In.sub (a : Option Addr) (c l k : Nat) : In (if c = l then a else a.map (·.add k)) a := fun x hx => by
  split at hx
  · exact ⟨x, hx, rfl⟩
  · cases a with
    | none => cases hx
    | some y =>
      simp only [Option.map_some, Option.some.injEq] at hx; exact ⟨y, rfl, by rw [← hx, add_block]⟩
section
variable {P : Program} {T E : TypeId} {sz : Nat} (ht : P.underlying T = some (.slice E)) (hE : ∀ w, (Go.sizeOf E).run P w = .ok sz w)
include ht hE
theorem sub_lh {w : World} {a : Option Addr} {n c : Nat} {cs : List Value} (h : Sl w a n c sz cs) (l hi : Int) (h0 : 0 ≤ l) (h1 : l ≤ hi) (h2 : hi ≤ n) (n2 c2 : Nat) (hn2 : (n2 : Int) = hi - l) (hc2 : (c2 : Int) = c - l) :
    ∃ a2, (∀ W, (Instr.sliceAt T (.slice a n c) (some (.int .i64 l)) (some (.int .i64 hi)) none).run P W = .ok (.slice a2 n2 c2) W) ∧ Sl w a2 n2 c2 sz ((cs.drop (l.toNat * sz)).take (n2 * sz)) ∧ In a2 a := by
  have he : P.elem T = E := by unfold Program.elem; rw [ht]
  have hle := h.le; refine ⟨_, fun W => ?_, sl_sub h l.toNat hi.toNat (by omega) (by omega) n2 c2 (by omega) (by omega), In.sub _ _ _ _⟩; rw [run_sliceAt_slice (h := by rw [he]; exact ht), run_slice_lh (ht := by rw [he]; exact ht) (h0 := h0) (h1 := h1) (h2 := by omega), he, hE]; simp only [Result.andThen, sliced]
  congr 2 <;> omega
theorem sub_h {w : World} {a : Option Addr} {n c : Nat} {cs : List Value} (h : Sl w a n c sz cs) (hi : Int) (h1 : 0 ≤ hi) (h2 : hi ≤ n) (n2 : Nat) (hn2 : (n2 : Int) = hi) :
    ∃ a2, (∀ W, (Instr.sliceAt T (.slice a n c) none (some (.int .i64 hi)) none).run P W = .ok (.slice a2 n2 c) W) ∧ Sl w a2 n2 c sz (cs.take (n2 * sz)) ∧ In a2 a := by
  have he : P.elem T = E := by unfold Program.elem; rw [ht]
  have hle := h.le; have hs := sl_sub h 0 hi.toNat (by omega) (by omega) n2 c (by omega) (by omega); rw [Nat.zero_mul, List.drop_zero] at hs; refine ⟨_, fun W => ?_, hs, In.sub _ _ _ _⟩; rw [run_sliceAt_slice (h := by rw [he]; exact ht), run_slice_h (ht := by rw [he]; exact ht) (h0 := h1) (h2 := by omega), he, hE]; simp only [Result.andThen, sliced, Nat.zero_mul]
  congr 2; omega
theorem sub_l {w : World} {a : Option Addr} {n c : Nat} {cs : List Value} (h : Sl w a n c sz cs) (l : Int) (h0 : 0 ≤ l) (h1 : l ≤ n) (n2 c2 : Nat) (hn2 : (n2 : Int) = n - l) (hc2 : (c2 : Int) = c - l) :
    ∃ a2, (∀ W, (Instr.sliceAt T (.slice a n c) (some (.int .i64 l)) none none).run P W = .ok (.slice a2 n2 c2) W) ∧ Sl w a2 n2 c2 sz (cs.drop (l.toNat * sz)) ∧ In a2 a := by
  have he : P.elem T = E := by unfold Program.elem; rw [ht]
  have hle := h.le; have hs := sl_sub h l.toNat n (by omega) (by omega) n2 c2 (by omega) (by omega); rw [List.take_of_length_le (by rw [List.length_drop, h.len, show n2 = n - l.toNat by omega, Nat.sub_mul]; omega)] at hs; refine ⟨_, fun W => ?_, hs, In.sub _ _ _ _⟩; rw [run_sliceAt_slice (h := by rw [he]; exact ht), run_slice_l (ht := by rw [he]; exact ht) (h0 := h0) (h1 := by omega), he, hE]; simp only [Result.andThen, sliced]
  congr 2 <;> omega
end
end Tt
