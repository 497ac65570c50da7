import Derived.ArgAppend
import Derived.BigQuiet
import Derived.BigRegion
import Derived.Deep.Cut
import Derived.Deep.CutRange
import Derived.Deep.QuietTactic
import Derived.Deep.RegionHeld
import Derived.Deep.RegionLaw
import Derived.Laws.AppendOwnNone
import Derived.Laws.BytesArg
import Derived.Laws.CopyOwn
import Derived.Laws.ResultCell
import Derived.Laws.Rows
import Derived.Lib.Bytes
import Derived.Lib.Hide
import Derived.Lib.SlBytesConst
import Derived.Lib.SliceRun
import Derived.StillTail
import Derived.StillTailTactics
import Derived.WalkKit
import Derived.WalkLawsBesides
import Derived.WalkSpells
namespace Go.RowKit
theorem Hid.o {p:Prop}(h:Hid p):p:=h
theorem Below.tm {w w1 w2:World}(h:Below w.heap.size w w1)(k:Below w1.heap.size w1 w2):Below w.heap.size w w2:=h.trans (k.mono h.size)
end Go.RowKit
namespace Tt
open Go Go.RowKit
theorem aA {p:Prop}(h:p):Hid p:=h
theorem aJ {a b:Prop}(A:a)(B:b):Hid a∧Hid b:=⟨A,B⟩
theorem aK {a b c:Prop}(A:a)(B:b)(C:c):Hid a∧Hid b∧Hid c:=⟨A,B,C⟩
theorem aL {a b c d:Prop}(A:a)(B:b)(C:c)(D:d):Hid a∧Hid b∧Hid c∧Hid d:=⟨A,B,C,D⟩
theorem aM {a b c d e:Prop}(A:a)(B:b)(C:c)(D:d)(E:e):Hid a∧Hid b∧Hid c∧Hid d∧Hid e:=⟨A,B,C,D,E⟩
theorem aN {a b c d e f:Prop}(A:a)(B:b)(C:c)(D:d)(E:e)(F:f):Hid a∧Hid b∧Hid c∧Hid d∧Hid e∧Hid f:=⟨A,B,C,D,E,F⟩
theorem aO {a b c d e f g:Prop}(A:a)(B:b)(C:c)(D:d)(E:e)(F:f)(G:g):Hid a∧Hid b∧Hid c∧Hid d∧Hid e∧Hid f∧Hid g:=⟨A,B,C,D,E,F,G⟩
theorem aP {a b c d e f g h:Prop}(A:a)(B:b)(C:c)(D:d)(E:e)(F:f)(G:g)(H:h):Hid a∧Hid b∧Hid c∧Hid d∧Hid e∧Hid f∧Hid g∧Hid h:=⟨A,B,C,D,E,F,G,H⟩
theorem aQ {a b c d e f g h i:Prop}(A:a)(B:b)(C:c)(D:d)(E:e)(F:f)(G:g)(H:h)(I:i):Hid a∧Hid b∧Hid c∧Hid d∧Hid e∧Hid f∧Hid g∧Hid h∧Hid i:=⟨A,B,C,D,E,F,G,H,I⟩
theorem aR {a b c d e f g h i j:Prop}(A:a)(B:b)(C:c)(D:d)(E:e)(F:f)(G:g)(H:h)(I:i)(J:j):Hid a∧Hid b∧Hid c∧Hid d∧Hid e∧Hid f∧Hid g∧Hid h∧Hid i∧Hid j:=⟨A,B,C,D,E,F,G,H,I,J⟩
theorem aS {a b c d e f g h i j k:Prop}(A:a)(B:b)(C:c)(D:d)(E:e)(F:f)(G:g)(H:h)(I:i)(J:j)(K:k):Hid a∧Hid b∧Hid c∧Hid d∧Hid e∧Hid f∧Hid g∧Hid h∧Hid i∧Hid j∧Hid k:=⟨A,B,C,D,E,F,G,H,I,J,K⟩
theorem aT {a b c d e f g h i j k l:Prop}(A:a)(B:b)(C:c)(D:d)(E:e)(F:f)(G:g)(H:h)(I:i)(J:j)(K:k)(L:l):Hid a∧Hid b∧Hid c∧Hid d∧Hid e∧Hid f∧Hid g∧Hid h∧Hid i∧Hid j∧Hid k∧Hid l:=⟨A,B,C,D,E,F,G,H,I,J,K,L⟩
theorem aB (x:Int)(h:-9223372036854775808≤x∧x<9223372036854775808):IntKind.i64.wrap x=x:=by rw[IntKind.wrap_i64];omega
theorem aC.{u} {α:Sort u}(a:α):∃b,a=b:=⟨a,rfl⟩
theorem aD (w:World)(o:Obj):Below w.heap.size w (w.alloc o):=(Below.refl w.heap.size w).alloc (Nat.le_refl _) o
theorem aF {p:Prop}(h:p:=by kernel_rfl):p:=h
theorem aG {p:Prop}(h:p:=by omega):p:=h
theorem aH {p:Prop}(h:p:=by decide):p:=h
theorem aI {p:Prop}(h:p:=by intro d _ _ _ _ h;cases d <;> exact h):p:=h
theorem aU:type_of% @List.getD_cons_succ:=@List.getD_cons_succ
theorem aV:type_of% @List.getD_cons_zero:=@List.getD_cons_zero
theorem aW:type_of% @List.map_cons:=@List.map_cons
theorem aX:type_of% @List.map_nil:=@List.map_nil
theorem aY:type_of% @Nat.le_refl:=@Nat.le_refl
theorem aZ:type_of% @List.getD_eq_getElem?_getD:=@List.getD_eq_getElem?_getD
theorem bF:type_of% @Below.refl:=@Below.refl
theorem bH:type_of% @List.getElem?_eq_getElem:=@List.getElem?_eq_getElem
theorem bJ:type_of% @IntKind.wrap_i64:=@IntKind.wrap_i64
theorem bK:type_of% @Bool.and_eq_true:=@Bool.and_eq_true
theorem bL:type_of% @List.mem_cons_of_mem:=@List.mem_cons_of_mem
theorem bO:type_of% @List.mem_append:=@List.mem_append
theorem bP:type_of% @List.getElem_mem:=@List.getElem_mem
theorem bQ:type_of% @List.mem_cons_self:=@List.mem_cons_self
theorem bU:type_of% @Nat.le_trans:=@Nat.le_trans
theorem bW:type_of% @List.take_of_length_le:=@List.take_of_length_le
theorem cB:type_of% @Int.toNat_natCast:=@Int.toNat_natCast
theorem cK:type_of% @List.mem_cons:=@List.mem_cons
theorem cO:type_of% @List.length_append:=@List.length_append
theorem cZ:type_of% @List.mem_range:=@List.mem_range
theorem dA:type_of% @Array.getElem?_eq_some_iff:=@Array.getElem?_eq_some_iff
theorem dB:type_of% @Nat.add_zero:=@Nat.add_zero
theorem dD:type_of% @Nat.lt_of_lt_of_le:=@Nat.lt_of_lt_of_le
theorem dF:type_of% @List.length_map:=@List.length_map
theorem dG:type_of% @Array.length_toList:=@Array.length_toList
theorem dH:type_of% @List.mem_map:=@List.mem_map
theorem dI:type_of% @List.all_eq_true:=@List.all_eq_true
theorem dJ:type_of% @List.append_assoc:=@List.append_assoc
theorem dK:type_of% @List.mem_singleton:=@List.mem_singleton
theorem dL:type_of% @Bool.true_and:=@Bool.true_and
theorem dM:type_of% @List.getElem?_take:=@List.getElem?_take
theorem dN:type_of% @Bool.or_eq_true:=@Bool.or_eq_true
theorem dO:type_of% @List.length_cons:=@List.length_cons
theorem dP:type_of% @List.getElem?_eq_some_iff:=@List.getElem?_eq_some_iff
theorem dQ:type_of% @List.flatMap_append:=@List.flatMap_append
theorem dR:type_of% @List.take_add_one:=@List.take_add_one
theorem dS:type_of% @List.eq_nil_of_length_eq_zero:=@List.eq_nil_of_length_eq_zero
theorem dU:type_of% @List.append_nil:=@List.append_nil
theorem dV:type_of% @List.take_append_of_le_length:=@List.take_append_of_le_length
theorem dW:type_of% @Bool.not_eq_true':=@Bool.not_eq_true'
theorem dX:type_of% @Nat.le_add_right:=@Nat.le_add_right
theorem dY:type_of% @Bool.eq_iff_iff:=@Bool.eq_iff_iff
theorem dZ:type_of% @Array.getElem?_setIfInBounds_ne:=@Array.getElem?_setIfInBounds_ne
theorem eB:type_of% @Nat.lt_or_ge:=@Nat.lt_or_ge
theorem eD:type_of% @Nat.le_succ:=@Nat.le_succ
theorem eF:type_of% @List.flatMap_cons:=@List.flatMap_cons
theorem eG:type_of% @List.not_mem_nil:=@List.not_mem_nil
theorem eH:type_of% @List.mem_flatMap:=@List.mem_flatMap
theorem eO:type_of% @List.map_append:=@List.map_append
theorem eP:type_of% @List.pairwise_cons:=@List.pairwise_cons
theorem eT:type_of% @List.filter_append:=@List.filter_append
theorem eU:type_of% @Nat.zero_add:=@Nat.zero_add
theorem eX:type_of% @List.length_take:=@List.length_take
theorem eY:type_of% @List.getElem?_drop:=@List.getElem?_drop
theorem eZ:type_of% @Below.heap_setCell:=@Below.heap_setCell
theorem fA:type_of% @List.take_append_drop:=@List.take_append_drop
theorem fB:type_of% @World.ownsRow.alloc:=@World.ownsRow.alloc
theorem fC:type_of% @List.take_succ_eq_append_getElem:=@List.take_succ_eq_append_getElem
theorem fD:type_of% @List.size_toArray:=@List.size_toArray
theorem fE:type_of% @List.getElem?_eq_none:=@List.getElem?_eq_none
theorem fF:type_of% @Addr.add_lit:=@Addr.add_lit
theorem fG:type_of% @List.nil_append:=@List.nil_append
theorem fH:type_of% @Nat.mod_eq_of_lt:=@Nat.mod_eq_of_lt
theorem fI:type_of% @List.getElem_map:=@List.getElem_map
theorem fJ:type_of% @List.getElem?_append_left:=@List.getElem?_append_left
theorem fK:type_of% @Option.toList_some:=@Option.toList_some
theorem fM:type_of% @Nat.zero_mul:=@Nat.zero_mul
theorem fO:type_of% @And.intro:=@And.intro
theorem fP:type_of% @List.getElem_of_mem:=@List.getElem_of_mem
theorem fQ:type_of% @Option.some.injEq:=@Option.some.injEq
theorem fT:type_of% @List.foldl_append:=@List.foldl_append
theorem fU:type_of% @List.pairwise_append:=@List.pairwise_append
theorem fV:type_of% @BitVec.ofInt_natCast:=@BitVec.ofInt_natCast
theorem fZ:type_of% @List.range_succ:=@List.range_succ
theorem gF:type_of% @List.length_drop:=@List.length_drop
theorem gG:type_of% @List.ext_getElem:=@List.ext_getElem
theorem gH:type_of% @List.pairwise_iff_getElem:=@List.pairwise_iff_getElem
theorem gI:type_of% @List.getElem_append_right:=@List.getElem_append_right
theorem gJ:type_of% @List.Pairwise.nil:=@List.Pairwise.nil
theorem gK:type_of% @List.getElem_append_left:=@List.getElem_append_left
theorem gL:type_of% @List.drop_zero:=@List.drop_zero
theorem gM:type_of% @Option.map_some:=@Option.map_some
theorem gN:type_of% @List.Pairwise.cons:=@List.Pairwise.cons
theorem gP:type_of% @BitVec.toNat_ofNat:=@BitVec.toNat_ofNat
theorem gQ:type_of% @List.mem_of_mem_take:=@List.mem_of_mem_take
theorem gT:type_of% @List.mem_of_mem_drop:=@List.mem_of_mem_drop
theorem gU:type_of% @List.mem_iff_getElem:=@List.mem_iff_getElem
theorem gV:type_of% @List.filter_cons_of_pos:=@List.filter_cons_of_pos
theorem gW:type_of% @List.filter_cons_of_neg:=@List.filter_cons_of_neg
theorem gX:type_of% @Int.le_refl:=@Int.le_refl
theorem gY:type_of% @List.findIdx?_eq_some_iff_getElem:=@List.findIdx?_eq_some_iff_getElem
theorem gZ:type_of% @Sem.run_bind:=@Sem.run_bind
theorem iA:type_of% @List.getElem?_append_right:=@List.getElem?_append_right
theorem iB:type_of% @List.drop_of_length_le:=@List.drop_of_length_le
theorem iC:type_of% @List.length_nil:=@List.length_nil
theorem iD:type_of% @Array.getElem?_modify:=@Array.getElem?_modify
theorem iE:type_of% @Nat.eq_zero_or_pos:=@Nat.eq_zero_or_pos
theorem iF:type_of% @Prod.mk.injEq:=@Prod.mk.injEq
theorem iG:type_of% @Nat.le_of_eq:=@Nat.le_of_eq
theorem iH:type_of% @Nat.mul_one:=@Nat.mul_one
theorem iI:type_of% @List.Perm.refl:=@List.Perm.refl
theorem iJ:type_of% @Nat.min_eq_left:=@Nat.min_eq_left
theorem iK:type_of% @List.mem_filter:=@List.mem_filter
theorem iL:type_of% @List.take_succ_cons:=@List.take_succ_cons
theorem iM:type_of% @List.mergeSort_perm:=@List.mergeSort_perm
theorem iO:type_of% @List.mem_map_of_mem:=@List.mem_map_of_mem
theorem iP:type_of% @Nat.sub_self:=@Nat.sub_self
theorem iQ:type_of% @Array.getElem?_eq_none:=@Array.getElem?_eq_none
theorem iR:type_of% @Int.tmod_eq_emod_of_nonneg:=@Int.tmod_eq_emod_of_nonneg
theorem iT:type_of% @List.length_singleton:=@List.length_singleton
theorem iU:type_of% @List.cons.injEq:=@List.cons.injEq
theorem iV:type_of% @Sem.run_pure:=@Sem.run_pure
theorem iW:type_of% @Nat.mul_le_mul_right:=@Nat.mul_le_mul_right
theorem iX:type_of% @List.pairwise_map:=@List.pairwise_map
theorem iY:type_of% @Array.replicate_zero:=@Array.replicate_zero
theorem iZ:type_of% @Array.replicate_succ:=@Array.replicate_succ
theorem j3:type_of% @List.map_take:=@List.map_take
theorem j4:type_of% @List.Pairwise.imp_of_mem:=@List.Pairwise.imp_of_mem
theorem j5:type_of% @List.toList_toArray:=@List.toList_toArray
theorem j6:type_of% @List.append_toArray:=@List.append_toArray
theorem jA:type_of% @List.take_take:=@List.take_take
theorem jB:type_of% @List.getElem?_cons_zero:=@List.getElem?_cons_zero
theorem jC:type_of% @List.getElem?_cons_succ:=@List.getElem?_cons_succ
theorem jD:type_of% @List.cons_append:=@List.cons_append
theorem jE:type_of% @List.getElem_cons_zero:=@List.getElem_cons_zero
theorem jF:type_of% @Bool.false_ne_true:=@Bool.false_ne_true
theorem jG:type_of% @List.nodup_cons:=@List.nodup_cons
theorem jH:type_of% @List.foldl_cons:=@List.foldl_cons
theorem jI:type_of% @List.push_toArray:=@List.push_toArray
theorem jJ:type_of% @List.nodup_append:=@List.nodup_append
theorem jK:type_of% @List.getElem?_map:=@List.getElem?_map
theorem jL:type_of% @Int.mul_le_mul:=@Int.mul_le_mul
theorem jM:type_of% @Bool.or_eq_false_iff:=@Bool.or_eq_false_iff
theorem jN:type_of% @Bool.false_and:=@Bool.false_and
theorem jO:type_of% @Nat.le_of_lt:=@Nat.le_of_lt
theorem jP:type_of% @List.any_eq_true:=@List.any_eq_true
theorem jQ:type_of% @List.all_cons:=@List.all_cons
theorem jR:type_of% @List.all_append:=@List.all_append
theorem jS:type_of% @Nat.min_def:=@Nat.min_def
theorem jT:type_of% @Int.mul_nonneg:=@Int.mul_nonneg
theorem jU:type_of% @Nat.zero_le:=@Nat.zero_le
end Tt
