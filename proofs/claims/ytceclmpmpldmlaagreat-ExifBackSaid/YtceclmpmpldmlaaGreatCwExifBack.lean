/- The statement, of every input; no condition. -/
import Derived.Test.YtceclmpmpldmlaaGreatCw40
import Derived.Test.YtceclmpmpldmlaaGreatCw41
import Derived.Test.YtceclmpmpldmlaaGreatCw42
set_option linter.unusedSimpArgs false
set_option linter.unusedVariables false
namespace Go.Proofs.YtceclmpmpldmlaaGreat.exifBack
open Go.ChangeShapes Go.WideShapes Go.ChangeAt Go.RowKit Tt
theorem own:ownKnob Tryz.prog.godebug=none:=by kernel_rfl
theorem bT7:aA8:=fun K t ho JR f p sh s sv tk w=>b6Q K t ho JR f p sh s sv tk w
theorem laidOut:laidOutB Tryz.prog=true:=by kernel_rfl
set_option maxRecDepth 100000 in
theorem contract (H:Type) (enc:TypeId×Value→H) (W:World) (base:Nat) (args:Array Value) (ds gs:List (DataW H)) (before:List MemPlace)
  (JR:∀(j:Nat) t v,Tryz.f7.params[j]? =some t→args[j]? =some v→Value.okWide Tryz.prog W .any base t v)
  (hW:DataW.Whole enc Tryz.prog Tryz.f7.params.toList Rows.exifBackSpec.vars false W args.toList ds gs before)
  (tC:(DataW.weightsEach Tryz.prog (Tryz.f7.params.toList++Rows.exifBackSpec.plain.varTypes Tryz.prog) (ds++gs)).all (·≤reachBytes)=true):
  Calls Tryz.prog 7 args W fun e W'=>∃v,e= .returned v∧Rows.exifBackSpec.post enc Tryz.prog Tryz.f7 false true false false W args v W':=by
 have WH:=hW;obtain⟨p,q,hA0,hV,rfl,hfz,hnd⟩:=hW;have hA:DataW.TrodAll enc Tryz.prog W 0 (fun _=>true) true Tryz.f7.params.toList args.toList ds p:=hA0;rw[Tryz.params7]at hA JR tC;obtain⟨v0,vs0,d0,ds0,p0,q0,c3X,rfl,rfl,h0,r0⟩:=trodAll_cons hA;obtain⟨v1,vs1,d1,ds1,p1,q1,rfl,rfl,rfl,h1,r1⟩:=trodAll_cons r0;obtain⟨rfl,rfl,rfl⟩:=trodAll_nil r1;obtain rfl:args=#[v0,v1]:=by cases args;simp_all
 obtain⟨rfl,rfl⟩:=trodVars_none hV;have k0:=h0;have lt0:∀x∈p0,x.block<W.heap.size:=by obtain⟨m,hm⟩:=k0;exact DataW.trod_lt m _ _ _ hm
 obtain⟨x0,A0,rfl,w0,s0,f0,b0⟩:=aAE (JR 0 61 v0 rfl rfl) h0;have k1:=h1;have lt1:∀x∈p1,x.block<W.heap.size:=by obtain⟨m,hm⟩:=k1;exact DataW.trod_lt m _ _ _ hm
 obtain⟨x1,A1,rfl,w1,s1,f1,b1⟩:=aAE (JR 1 61 v1 rfl rfl) h1;clear hA0;simp only[dU]at WH;refine(aLX bT7 x0 A0 x1 A1 W s0 f0 b0 s1 f1 b1).mono fun e W' ⟨he,bel⟩=>?_;subst he;exact⟨_,rfl,_,_,_, [],_, [],WH,trodAll_mk1 (shut_bool Tryz.underlying4 _),(trodAll_cons_mk (Below.trod laidOut aF (of_decide_eq_true aF) k0 bel lt0) (trodAll_cons_mk (Below.trod laidOut aF (of_decide_eq_true aF) k1 bel lt1) trodAll_mk0)),rfl,bel.frame _,fun h=>by cases h⟩
set_option maxRecDepth 100000 in
theorem lifted (os:Os) (started:os.Started) (H:Type) (enc:TypeId×Value→H):
  ReturnsInHanded {} Tryz.checked os 7 .any (Rows.exifBackSpec.pre6 enc Tryz.prog Tryz.f7 Rows.exifBackRow.domain false) (Rows.exifBackSpec.post enc Tryz.prog Tryz.f7 false true false false):=by
 refine returnsInHanded_of_change_sized (C:=Tryz.checked) own started aF Tryz.func7
  (ChangeSpec.witness6 (enc:=enc) (C:=Tryz.checked) false ⟨#[],#[.agg #[.int .i64 0,.slice none 0 0,.slice none 0 0,.slice none 0 0,.slice none 0 0,.slice none 0 0,.slice none 0 0,.slice none 0 0],.agg #[.int .i64 0,.slice none 0 0,.slice none 0 0,.slice none 0 0,.slice none 0 0,.slice none 0 0,.slice none 0 0,.slice none 0 0]], []⟩ 8 aF aF aF aF) ?_
 intro W base args ds gs before JR hW _ tC _;exact contract H enc W base args ds gs before JR hW tC
theorem said:Rows.ExifBackSaid:=
 OpenClaim.holds_of_wide 7 Tryz.f7 rfl rfl rfl rfl rfl rfl rfl ⟨rfl,rfl,rfl,rfl,rfl⟩ rfl rfl rfl rfl rfl aF Tryz.func7 aF
  (of_decide_eq_true aF) (by unfold Func.isWrapper;first|(rw[if_pos (by decide+kernel)];kernel_rfl)|(rw[if_neg (by decide+kernel)];exact⟨rfl,rfl⟩))
  (fun os started H enc _=>lifted os started H enc)
#print axioms said
end Go.Proofs.YtceclmpmpldmlaaGreat.exifBack
