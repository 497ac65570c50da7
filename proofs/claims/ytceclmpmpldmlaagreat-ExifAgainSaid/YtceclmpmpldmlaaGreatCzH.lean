import Derived.ArgAppend
import Derived.BigQuiet
import Derived.BigRegion
import Derived.Deep.Cut
import Derived.Deep.CutRange
import Derived.Deep.QuietTactic
import Derived.Deep.RegionHeld
import Derived.Deep.RegionLaw
import Derived.Laws.AppendOwnNone
import Derived.Laws.BytesArg
import Derived.Laws.CopyOwn
import Derived.Laws.ResultCell
import Derived.Laws.Rows
import Derived.Lib.Bytes
import Derived.Lib.Hide
import Derived.Lib.SlBytesConst
import Derived.Lib.SliceRun
import Derived.StillTail
import Derived.StillTailTactics
import Derived.WalkKit
import Derived.WalkLawsBesides
import Derived.WalkSpells
namespace Go.RowKit
theorem Hid.o {p:Prop}(h:Hid p):p:=h
theorem Below.tm {w w1 w2:World}(h:Below w.heap.size w w1)(k:Below w1.heap.size w1 w2):Below w.heap.size w w2:=h.trans (k.mono h.size)
end Go.RowKit
namespace Tt
open Go Go.RowKit
theorem aA {p:Prop}(h:p):Hid p:=h
theorem aF {a b:Prop}(A:a)(B:b):Hid a∧Hid b:=⟨A,B⟩
theorem aG {a b c:Prop}(A:a)(B:b)(C:c):Hid a∧Hid b∧Hid c:=⟨A,B,C⟩
theorem aH {a b c d:Prop}(A:a)(B:b)(C:c)(D:d):Hid a∧Hid b∧Hid c∧Hid d:=⟨A,B,C,D⟩
theorem aI {a b c d e:Prop}(A:a)(B:b)(C:c)(D:d)(E:e):Hid a∧Hid b∧Hid c∧Hid d∧Hid e:=⟨A,B,C,D,E⟩
theorem aJ {a b c d e f:Prop}(A:a)(B:b)(C:c)(D:d)(E:e)(F:f):Hid a∧Hid b∧Hid c∧Hid d∧Hid e∧Hid f:=⟨A,B,C,D,E,F⟩
theorem aK {a b c d e f g:Prop}(A:a)(B:b)(C:c)(D:d)(E:e)(F:f)(G:g):Hid a∧Hid b∧Hid c∧Hid d∧Hid e∧Hid f∧Hid g:=⟨A,B,C,D,E,F,G⟩
theorem aL {a b c d e f g h:Prop}(A:a)(B:b)(C:c)(D:d)(E:e)(F:f)(G:g)(H:h):Hid a∧Hid b∧Hid c∧Hid d∧Hid e∧Hid f∧Hid g∧Hid h:=⟨A,B,C,D,E,F,G,H⟩
theorem aM {a b c d e f g h i:Prop}(A:a)(B:b)(C:c)(D:d)(E:e)(F:f)(G:g)(H:h)(I:i):Hid a∧Hid b∧Hid c∧Hid d∧Hid e∧Hid f∧Hid g∧Hid h∧Hid i:=⟨A,B,C,D,E,F,G,H,I⟩
theorem aN {a b c d e f g h i j:Prop}(A:a)(B:b)(C:c)(D:d)(E:e)(F:f)(G:g)(H:h)(I:i)(J:j):Hid a∧Hid b∧Hid c∧Hid d∧Hid e∧Hid f∧Hid g∧Hid h∧Hid i∧Hid j:=⟨A,B,C,D,E,F,G,H,I,J⟩
theorem aO {a b c d e f g h i j k:Prop}(A:a)(B:b)(C:c)(D:d)(E:e)(F:f)(G:g)(H:h)(I:i)(J:j)(K:k):Hid a∧Hid b∧Hid c∧Hid d∧Hid e∧Hid f∧Hid g∧Hid h∧Hid i∧Hid j∧Hid k:=⟨A,B,C,D,E,F,G,H,I,J,K⟩
theorem aP {a b c d e f g h i j k l:Prop}(A:a)(B:b)(C:c)(D:d)(E:e)(F:f)(G:g)(H:h)(I:i)(J:j)(K:k)(L:l):Hid a∧Hid b∧Hid c∧Hid d∧Hid e∧Hid f∧Hid g∧Hid h∧Hid i∧Hid j∧Hid k∧Hid l:=⟨A,B,C,D,E,F,G,H,I,J,K,L⟩
theorem aB (x:Int)(h:-9223372036854775808≤x∧x<9223372036854775808):IntKind.i64.wrap x=x:=by rw[IntKind.wrap_i64];omega
theorem aC.{u} {α:Sort u}(a:α):∃b,a=b:=⟨a,rfl⟩
theorem aD (w:World)(o:Obj):Below w.heap.size w (w.alloc o):=(Below.refl w.heap.size w).alloc (Nat.le_refl _) o
theorem aQ:type_of% @List.getD_cons_succ:=@List.getD_cons_succ
theorem aR:type_of% @List.getD_cons_zero:=@List.getD_cons_zero
theorem aS:type_of% @List.map_cons:=@List.map_cons
theorem aT:type_of% @List.map_nil:=@List.map_nil
theorem aU:type_of% @Nat.le_refl:=@Nat.le_refl
theorem aV:type_of% @List.getD_eq_getElem?_getD:=@List.getD_eq_getElem?_getD
theorem aW:type_of% @Below.refl:=@Below.refl
theorem aX:type_of% @List.getElem?_eq_getElem:=@List.getElem?_eq_getElem
theorem aY:type_of% @IntKind.wrap_i64:=@IntKind.wrap_i64
theorem aZ:type_of% @List.mem_cons_of_mem:=@List.mem_cons_of_mem
theorem bF:type_of% @Bool.and_eq_true:=@Bool.and_eq_true
theorem bH:type_of% @List.mem_append:=@List.mem_append
theorem bJ:type_of% @List.mem_cons_self:=@List.mem_cons_self
theorem bK:type_of% @Nat.le_trans:=@Nat.le_trans
theorem bL:type_of% @List.getElem_mem:=@List.getElem_mem
theorem bO:type_of% @List.length_append:=@List.length_append
theorem bP:type_of% @List.take_of_length_le:=@List.take_of_length_le
theorem bQ:type_of% @List.mem_cons:=@List.mem_cons
theorem bU:type_of% @Int.toNat_natCast:=@Int.toNat_natCast
theorem bW:type_of% @List.mem_range:=@List.mem_range
theorem bX:type_of% @List.length_map:=@List.length_map
theorem bY:type_of% @Array.getElem?_eq_some_iff:=@Array.getElem?_eq_some_iff
theorem cB:type_of% @List.mem_map:=@List.mem_map
theorem cK:type_of% @Nat.add_zero:=@Nat.add_zero
theorem cO:type_of% @Nat.lt_of_lt_of_le:=@Nat.lt_of_lt_of_le
theorem cZ:type_of% @List.all_eq_true:=@List.all_eq_true
theorem dA:type_of% @Array.length_toList:=@Array.length_toList
theorem dB:type_of% @List.append_assoc:=@List.append_assoc
theorem dD:type_of% @List.mem_singleton:=@List.mem_singleton
theorem dF:type_of% @List.length_cons:=@List.length_cons
theorem dG:type_of% @Bool.or_eq_true:=@Bool.or_eq_true
theorem dH:type_of% @Bool.true_and:=@Bool.true_and
theorem dI:type_of% @List.getElem?_take:=@List.getElem?_take
theorem dJ:type_of% @List.filter_cons_of_neg:=@List.filter_cons_of_neg
theorem dK:type_of% @List.mem_flatMap:=@List.mem_flatMap
theorem dL:type_of% @List.map_append:=@List.map_append
theorem dM:type_of% @List.append_nil:=@List.append_nil
theorem dN:type_of% @List.take_add_one:=@List.take_add_one
theorem dO:type_of% @List.flatMap_cons:=@List.flatMap_cons
theorem dP:type_of% @List.eq_nil_of_length_eq_zero:=@List.eq_nil_of_length_eq_zero
theorem dQ:type_of% @Exit.noGoto_ret:=@Exit.noGoto_ret
theorem dR:type_of% @List.pairwise_cons:=@List.pairwise_cons
theorem dS:type_of% @Bool.not_eq_true':=@Bool.not_eq_true'
theorem dU:type_of% @List.take_append_of_le_length:=@List.take_append_of_le_length
theorem dV:type_of% @Nat.le_add_right:=@Nat.le_add_right
theorem dW:type_of% @List.flatMap_append:=@List.flatMap_append
theorem dX:type_of% @Array.getElem?_setIfInBounds_ne:=@Array.getElem?_setIfInBounds_ne
theorem dY:type_of% @List.filter_cons_of_pos:=@List.filter_cons_of_pos
theorem dZ:type_of% @List.getElem?_eq_some_iff:=@List.getElem?_eq_some_iff
theorem eB:type_of% @Nat.le_succ:=@Nat.le_succ
theorem eD:type_of% @List.not_mem_nil:=@List.not_mem_nil
theorem eF:type_of% @List.filter_append:=@List.filter_append
theorem eG:type_of% @List.nil_append:=@List.nil_append
theorem eH:type_of% @Nat.lt_or_ge:=@Nat.lt_or_ge
theorem eO:type_of% @List.length_take:=@List.length_take
theorem eP:type_of% @Bool.eq_iff_iff:=@Bool.eq_iff_iff
theorem eT:type_of% @List.getElem?_drop:=@List.getElem?_drop
theorem eU:type_of% @Below.heap_setCell:=@Below.heap_setCell
theorem eX:type_of% @Nat.zero_add:=@Nat.zero_add
theorem eY:type_of% @List.take_append_drop:=@List.take_append_drop
theorem eZ:type_of% @List.mem_filter:=@List.mem_filter
theorem fA:type_of% @List.take_succ_eq_append_getElem:=@List.take_succ_eq_append_getElem
theorem fB:type_of% @List.size_toArray:=@List.size_toArray
theorem fC:type_of% @Nat.mod_eq_of_lt:=@Nat.mod_eq_of_lt
theorem fD:type_of% @List.getElem_map:=@List.getElem_map
theorem fE:type_of% @List.pairwise_append:=@List.pairwise_append
theorem fF:type_of% @List.mem_of_mem_drop:=@List.mem_of_mem_drop
theorem fG:type_of% @Option.toList_some:=@Option.toList_some
theorem fH:type_of% @List.length_drop:=@List.length_drop
theorem fI:type_of% @List.getElem_of_mem:=@List.getElem_of_mem
theorem fJ:type_of% @Nat.zero_mul:=@Nat.zero_mul
theorem fK:type_of% @List.pairwise_map:=@List.pairwise_map
theorem fM:type_of% @List.foldl_append:=@List.foldl_append
theorem fO:type_of% @List.mem_of_mem_take:=@List.mem_of_mem_take
theorem fP:type_of% @Int.le_refl:=@Int.le_refl
theorem fQ:type_of% @Option.map_some:=@Option.map_some
theorem fT:type_of% @List.pairwise_iff_getElem:=@List.pairwise_iff_getElem
theorem fU:type_of% @List.getElem_append_right:=@List.getElem_append_right
theorem fV:type_of% @List.getElem?_append_left:=@List.getElem?_append_left
theorem fZ:type_of% @List.getElem?_eq_none:=@List.getElem?_eq_none
theorem gF:type_of% @List.getElem_append_left:=@List.getElem_append_left
theorem gG:type_of% @List.drop_zero:=@List.drop_zero
theorem gH:type_of% @List.ext_getElem:=@List.ext_getElem
theorem gI:type_of% @IntKind.wrap_u64:=@IntKind.wrap_u64
theorem gJ:type_of% @List.findIdx?_eq_some_iff_getElem:=@List.findIdx?_eq_some_iff_getElem
theorem gK:type_of% @List.drop_of_length_le:=@List.drop_of_length_le
theorem gL:type_of% @List.mem_map_of_mem:=@List.mem_map_of_mem
theorem gM:type_of% @List.range_succ:=@List.range_succ
theorem gN:type_of% @List.length_nil:=@List.length_nil
theorem gP:type_of% @Array.getElem?_modify:=@Array.getElem?_modify
theorem gQ:type_of% @Nat.eq_zero_or_pos:=@Nat.eq_zero_or_pos
theorem gT:type_of% @Nat.le_of_eq:=@Nat.le_of_eq
theorem gU:type_of% @Nat.mul_one:=@Nat.mul_one
theorem gV:type_of% @List.mem_iff_getElem:=@List.mem_iff_getElem
theorem gW:type_of% @Nat.min_eq_left:=@Nat.min_eq_left
theorem gX:type_of% @List.take_succ_cons:=@List.take_succ_cons
theorem gY:type_of% @List.mergeSort_perm:=@List.mergeSort_perm
theorem gZ:type_of% @Nat.sub_self:=@Nat.sub_self
theorem iA:type_of% @Array.getElem?_eq_none:=@Array.getElem?_eq_none
theorem iB:type_of% @List.getElem?_append_right:=@List.getElem?_append_right
theorem iC:type_of% @Int.tmod_eq_emod_of_nonneg:=@Int.tmod_eq_emod_of_nonneg
theorem iD:type_of% @List.length_singleton:=@List.length_singleton
theorem iE:type_of% @Nat.mul_le_mul_right:=@Nat.mul_le_mul_right
theorem iF:type_of% @Array.replicate_zero:=@Array.replicate_zero
theorem iG:type_of% @Array.replicate_succ:=@Array.replicate_succ
theorem iH:type_of% @List.map_take:=@List.map_take
theorem iI:type_of% @List.toList_toArray:=@List.toList_toArray
theorem iJ:type_of% @List.append_toArray:=@List.append_toArray
theorem iK:type_of% @List.take_take:=@List.take_take
theorem iL:type_of% @List.getElem?_cons_zero:=@List.getElem?_cons_zero
theorem iM:type_of% @List.getElem?_cons_succ:=@List.getElem?_cons_succ
theorem iO:type_of% @List.cons_append:=@List.cons_append
theorem iP:type_of% @Nat.zero_le:=@Nat.zero_le
theorem iQ:type_of% @List.getElem_cons_zero:=@List.getElem_cons_zero
theorem iR:type_of% @Bool.false_ne_true:=@Bool.false_ne_true
theorem iT:type_of% @List.nodup_cons:=@List.nodup_cons
theorem iU:type_of% @List.foldl_cons:=@List.foldl_cons
theorem iV:type_of% @List.push_toArray:=@List.push_toArray
theorem iW:type_of% @List.nodup_append:=@List.nodup_append
theorem iX:type_of% @Int.mul_le_mul:=@Int.mul_le_mul
theorem iY:type_of% @Bool.false_and:=@Bool.false_and
theorem iZ:type_of% @Nat.le_of_lt:=@Nat.le_of_lt
theorem j3:type_of% @List.all_cons:=@List.all_cons
theorem j4:type_of% @List.all_append:=@List.all_append
theorem j5:type_of% @Nat.min_def:=@Nat.min_def
theorem j6:type_of% @Int.mul_nonneg:=@Int.mul_nonneg
end Tt
