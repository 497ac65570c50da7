import Derived.ArgAppend
import Derived.BigQuiet
import Derived.BigRegion
import Derived.Deep.Cut
import Derived.Deep.CutRange
import Derived.Deep.QuietTactic
import Derived.Deep.RegionHeld
import Derived.Deep.RegionLaw
import Derived.Laws.AppendOwnNone
import Derived.Laws.BytesArg
import Derived.Laws.CopyOwn
import Derived.Laws.ResultCell
import Derived.Laws.Rows
import Derived.Lib.Bytes
import Derived.Lib.Hide
import Derived.Lib.SlBytesConst
import Derived.Lib.SliceRun
import Derived.StillTail
import Derived.StillTailTactics
import Derived.WalkKit
import Derived.WalkLawsBesides
import Derived.WalkSpells
namespace Go.RowKit
theorem Hid.o {p:Prop}(h:Hid p):p:=h
theorem Below.tm {w w1 w2:World}(h:Below w.heap.size w w1)(k:Below w1.heap.size w1 w2):Below w.heap.size w w2:=h.trans (k.mono h.size)
end Go.RowKit
namespace Tt
open Go Go.RowKit
theorem aA {p:Prop}(h:p):Hid p:=h
theorem aJ {a b:Prop}(A:a)(B:b):Hid a∧Hid b:=⟨A,B⟩
theorem aK {a b c:Prop}(A:a)(B:b)(C:c):Hid a∧Hid b∧Hid c:=⟨A,B,C⟩
theorem aL {a b c d:Prop}(A:a)(B:b)(C:c)(D:d):Hid a∧Hid b∧Hid c∧Hid d:=⟨A,B,C,D⟩
theorem aM {a b c d e:Prop}(A:a)(B:b)(C:c)(D:d)(E:e):Hid a∧Hid b∧Hid c∧Hid d∧Hid e:=⟨A,B,C,D,E⟩
theorem aN {a b c d e f:Prop}(A:a)(B:b)(C:c)(D:d)(E:e)(F:f):Hid a∧Hid b∧Hid c∧Hid d∧Hid e∧Hid f:=⟨A,B,C,D,E,F⟩
theorem aO {a b c d e f g:Prop}(A:a)(B:b)(C:c)(D:d)(E:e)(F:f)(G:g):Hid a∧Hid b∧Hid c∧Hid d∧Hid e∧Hid f∧Hid g:=⟨A,B,C,D,E,F,G⟩
theorem aP {a b c d e f g h:Prop}(A:a)(B:b)(C:c)(D:d)(E:e)(F:f)(G:g)(H:h):Hid a∧Hid b∧Hid c∧Hid d∧Hid e∧Hid f∧Hid g∧Hid h:=⟨A,B,C,D,E,F,G,H⟩
theorem aQ {a b c d e f g h i:Prop}(A:a)(B:b)(C:c)(D:d)(E:e)(F:f)(G:g)(H:h)(I:i):Hid a∧Hid b∧Hid c∧Hid d∧Hid e∧Hid f∧Hid g∧Hid h∧Hid i:=⟨A,B,C,D,E,F,G,H,I⟩
theorem aR {a b c d e f g h i j:Prop}(A:a)(B:b)(C:c)(D:d)(E:e)(F:f)(G:g)(H:h)(I:i)(J:j):Hid a∧Hid b∧Hid c∧Hid d∧Hid e∧Hid f∧Hid g∧Hid h∧Hid i∧Hid j:=⟨A,B,C,D,E,F,G,H,I,J⟩
theorem aS {a b c d e f g h i j k:Prop}(A:a)(B:b)(C:c)(D:d)(E:e)(F:f)(G:g)(H:h)(I:i)(J:j)(K:k):Hid a∧Hid b∧Hid c∧Hid d∧Hid e∧Hid f∧Hid g∧Hid h∧Hid i∧Hid j∧Hid k:=⟨A,B,C,D,E,F,G,H,I,J,K⟩
theorem aT {a b c d e f g h i j k l:Prop}(A:a)(B:b)(C:c)(D:d)(E:e)(F:f)(G:g)(H:h)(I:i)(J:j)(K:k)(L:l):Hid a∧Hid b∧Hid c∧Hid d∧Hid e∧Hid f∧Hid g∧Hid h∧Hid i∧Hid j∧Hid k∧Hid l:=⟨A,B,C,D,E,F,G,H,I,J,K,L⟩
theorem aB (x:Int)(h:-9223372036854775808≤x∧x<9223372036854775808):IntKind.i64.wrap x=x:=by rw[IntKind.wrap_i64];omega
theorem aC.{u} {α:Sort u}(a:α):∃b,a=b:=⟨a,rfl⟩
theorem aD (w:World)(o:Obj):Below w.heap.size w (w.alloc o):=(Below.refl w.heap.size w).alloc (Nat.le_refl _) o
theorem aF {p:Prop}(h:p:=by kernel_rfl):p:=h
theorem aG {p:Prop}(h:p:=by omega):p:=h
theorem aH {p:Prop}(h:p:=by decide):p:=h
theorem aI {p:Prop}(h:p:=by intro d _ _ _ _ h;cases d <;> exact h):p:=h
theorem aU:type_of% @List.getD_cons_succ:=@List.getD_cons_succ
theorem aV:type_of% @List.getD_cons_zero:=@List.getD_cons_zero
theorem aW:type_of% @List.map_cons:=@List.map_cons
theorem aX:type_of% @List.map_nil:=@List.map_nil
theorem aY:type_of% @Below.refl:=@Below.refl
theorem aZ:type_of% @Nat.le_refl:=@Nat.le_refl
theorem bF:type_of% @IntKind.wrap_i64:=@IntKind.wrap_i64
theorem bH:type_of% @List.getD_eq_getElem?_getD:=@List.getD_eq_getElem?_getD
theorem bI:type_of% @List.getElem?_eq_getElem:=@List.getElem?_eq_getElem
theorem bJ:type_of% @List.getElem_mem:=@List.getElem_mem
theorem bK:type_of% @List.take_of_length_le:=@List.take_of_length_le
theorem bL:type_of% @List.length_map:=@List.length_map
theorem bM:type_of% @Int.toNat_natCast:=@Int.toNat_natCast
theorem bP:type_of% @List.mem_append:=@List.mem_append
theorem bQ:type_of% @Nat.le_trans:=@Nat.le_trans
theorem bU:type_of% @Nat.add_zero:=@Nat.add_zero
theorem bV:type_of% @Bool.and_eq_true:=@Bool.and_eq_true
theorem bW:type_of% @Array.getElem?_eq_some_iff:=@Array.getElem?_eq_some_iff
theorem cB:type_of% @List.mem_cons:=@List.mem_cons
theorem cK:type_of% @Nat.lt_of_lt_of_le:=@Nat.lt_of_lt_of_le
theorem cO:type_of% @List.length_append:=@List.length_append
theorem cZ:type_of% @List.mem_cons_of_mem:=@List.mem_cons_of_mem
theorem dA:type_of% @Array.length_toList:=@Array.length_toList
theorem dB:type_of% @List.mem_cons_self:=@List.mem_cons_self
theorem dD:type_of% @Bool.true_and:=@Bool.true_and
theorem dF:type_of% @List.mem_range:=@List.mem_range
theorem dG:type_of% @List.mem_map:=@List.mem_map
theorem dH:type_of% @List.append_assoc:=@List.append_assoc
theorem dI:type_of% @List.map_append:=@List.map_append
theorem dJ:type_of% @List.flatMap_append:=@List.flatMap_append
theorem dK:type_of% @List.not_mem_nil:=@List.not_mem_nil
theorem dL:type_of% @List.mem_singleton:=@List.mem_singleton
theorem dM:type_of% @Nat.lt_or_ge:=@Nat.lt_or_ge
theorem dN:type_of% @List.eq_nil_of_length_eq_zero:=@List.eq_nil_of_length_eq_zero
theorem dO:type_of% @List.getElem?_eq_some_iff:=@List.getElem?_eq_some_iff
theorem dP:type_of% @List.length_cons:=@List.length_cons
theorem dQ:type_of% @List.all_eq_true:=@List.all_eq_true
theorem dR:type_of% @List.append_nil:=@List.append_nil
theorem dS:type_of% @List.take_add_one:=@List.take_add_one
theorem dU:type_of% @Nat.zero_add:=@Nat.zero_add
theorem dV:type_of% @List.length_take:=@List.length_take
theorem dW:type_of% @List.getElem?_take:=@List.getElem?_take
theorem dX:type_of% @Array.getElem?_setIfInBounds_ne:=@Array.getElem?_setIfInBounds_ne
theorem dY:type_of% @Nat.le_add_right:=@Nat.le_add_right
theorem dZ:type_of% @List.getElem_map:=@List.getElem_map
theorem eB:type_of% @Bool.not_eq_true':=@Bool.not_eq_true'
theorem eD:type_of% @Bool.eq_iff_iff:=@Bool.eq_iff_iff
theorem eF:type_of% @Below.heap_setCell:=@Below.heap_setCell
theorem eG:type_of% @World.ownsRow.alloc:=@World.ownsRow.alloc
theorem eH:type_of% @List.getElem_of_mem:=@List.getElem_of_mem
theorem eO:type_of% @List.range_succ:=@List.range_succ
theorem eP:type_of% @List.take_succ_eq_append_getElem:=@List.take_succ_eq_append_getElem
theorem eT:type_of% @List.mem_of_mem_take:=@List.mem_of_mem_take
theorem eU:type_of% @List.getElem_append_left:=@List.getElem_append_left
theorem eX:type_of% @List.nil_append:=@List.nil_append
theorem eY:type_of% @Bool.or_eq_true:=@Bool.or_eq_true
theorem eZ:type_of% @Bool.not_eq_true:=@Bool.not_eq_true
theorem fA:type_of% @List.flatMap_cons:=@List.flatMap_cons
theorem fB:type_of% @List.take_append_of_le_length:=@List.take_append_of_le_length
theorem fC:type_of% @List.getElem_append_right:=@List.getElem_append_right
theorem fD:type_of% @List.filter_append:=@List.filter_append
theorem fE:type_of% @List.ext_getElem:=@List.ext_getElem
theorem fF:type_of% @List.take_append_drop:=@List.take_append_drop
theorem fG:type_of% @Option.some.injEq:=@Option.some.injEq
theorem fH:type_of% @Addr.add_lit:=@Addr.add_lit
theorem fI:type_of% @List.filter_cons_of_pos:=@List.filter_cons_of_pos
theorem fJ:type_of% @Option.toList_some:=@Option.toList_some
theorem fK:type_of% @List.pairwise_append:=@List.pairwise_append
theorem fM:type_of% @List.mem_iff_getElem:=@List.mem_iff_getElem
theorem fO:type_of% @List.pairwise_iff_getElem:=@List.pairwise_iff_getElem
theorem fP:type_of% @List.mem_map_of_mem:=@List.mem_map_of_mem
theorem fQ:type_of% @Prod.mk.injEq:=@Prod.mk.injEq
theorem fT:type_of% @Nat.eq_zero_or_pos:=@Nat.eq_zero_or_pos
theorem fU:type_of% @List.pairwise_cons:=@List.pairwise_cons
theorem fV:type_of% @List.getElem?_drop:=@List.getElem?_drop
theorem fZ:type_of% @List.filter_cons_of_neg:=@List.filter_cons_of_neg
theorem gB:type_of% @And.intro:=@And.intro
theorem gF:type_of% @Nat.zero_mul:=@Nat.zero_mul
theorem gG:type_of% @List.size_toArray:=@List.size_toArray
theorem gH:type_of% @Int.tmod_eq_emod_of_nonneg:=@Int.tmod_eq_emod_of_nonneg
theorem gI:type_of% @List.getElem?_eq_none:=@List.getElem?_eq_none
theorem gJ:type_of% @List.contains_iff_mem:=@List.contains_iff_mem
theorem gK:type_of% @Array.getElem?_modify:=@Array.getElem?_modify
theorem gL:type_of% @List.Perm.refl:=@List.Perm.refl
theorem gM:type_of% @List.length_range:=@List.length_range
theorem gN:type_of% @List.foldl_append:=@List.foldl_append
theorem gP:type_of% @List.take_succ_cons:=@List.take_succ_cons
theorem gQ:type_of% @List.mergeSort_perm:=@List.mergeSort_perm
theorem gT:type_of% @Nat.le_of_eq:=@Nat.le_of_eq
theorem gU:type_of% @List.getElem_cons_zero:=@List.getElem_cons_zero
theorem gV:type_of% @List.drop_of_length_le:=@List.drop_of_length_le
theorem gW:type_of% @Array.getElem?_eq_none:=@Array.getElem?_eq_none
theorem gX:type_of% @List.map_take:=@List.map_take
theorem gY:type_of% @Nat.mod_eq_of_lt:=@Nat.mod_eq_of_lt
theorem gZ:type_of% @List.mem_flatMap:=@List.mem_flatMap
theorem iA:type_of% @List.takeWhile_cons_of_neg:=@List.takeWhile_cons_of_neg
theorem iB:type_of% @List.getElem?_append_right:=@List.getElem?_append_right
theorem iC:type_of% @List.Pairwise.cons:=@List.Pairwise.cons
theorem iD:type_of% @List.getElem?_append_left:=@List.getElem?_append_left
theorem iE:type_of% @Option.map_some:=@Option.map_some
theorem iF:type_of% @List.mem_filter:=@List.mem_filter
theorem iG:type_of% @List.length_nil:=@List.length_nil
theorem iH:type_of% @Nat.mul_le_mul_right:=@Nat.mul_le_mul_right
theorem iI:type_of% @Nat.le_of_lt:=@Nat.le_of_lt
theorem iJ:type_of% @List.getElem?_map:=@List.getElem?_map
theorem iK:type_of% @List.Pairwise.imp_of_mem:=@List.Pairwise.imp_of_mem
theorem iL:type_of% @List.getElem?_cons_zero:=@List.getElem?_cons_zero
theorem iM:type_of% @List.getElem?_cons_succ:=@List.getElem?_cons_succ
theorem iO:type_of% @Int.mul_le_mul:=@Int.mul_le_mul
theorem iP:type_of% @Nat.sub_self:=@Nat.sub_self
theorem iQ:type_of% @Bool.false_ne_true:=@Bool.false_ne_true
theorem iR:type_of% @List.nodup_cons:=@List.nodup_cons
theorem iT:type_of% @List.cons.injEq:=@List.cons.injEq
theorem iU:type_of% @List.all_append:=@List.all_append
theorem iV:type_of% @List.length_singleton:=@List.length_singleton
theorem iW:type_of% @List.nodup_append:=@List.nodup_append
theorem iX:type_of% @Int.mul_nonneg:=@Int.mul_nonneg
theorem iY:type_of% @Int.le_refl:=@Int.le_refl
theorem iZ:type_of% @BitVec.ofInt_natCast:=@BitVec.ofInt_natCast
theorem j4:type_of% @Sem.run_pure:=@Sem.run_pure
theorem j5:type_of% @Sem.run_bind:=@Sem.run_bind
theorem j6:type_of% @List.length_drop:=@List.length_drop
theorem jA:type_of% @Bool.false_or:=@Bool.false_or
theorem jB:type_of% @Bool.and_true:=@Bool.and_true
theorem jC:type_of% @Nat.min_eq_left:=@Nat.min_eq_left
theorem jD:type_of% @Nat.mul_one:=@Nat.mul_one
theorem jE:type_of% @Nat.min_def:=@Nat.min_def
end Tt
