/- The statement, of every input; no condition. -/
import Derived.Test.YtceclmpmpldmlaaGreatCx43
set_option linter.unusedSimpArgs false
set_option linter.unusedVariables false
namespace Go.Proofs.YtceclmpmpldmlaaGreat.exifTells
open Go.ChangeShapes Go.WideShapes Go.ChangeAt Go.RowKit Tt
theorem own:ownKnob Tryz.prog.godebug=none:=by kernel_rfl
theorem laidOut:laidOutB Tryz.prog=true:=by kernel_rfl
set_option maxRecDepth 100000 in
theorem contract (H:Type) (enc:TypeId×Value→H) (W:World) (base:Nat) (args:Array Value) (ds gs:List (DataW H)) (before:List MemPlace)
  (MS:∀(j:Nat) t v,Tryz.f4.params[j]? =some t→args[j]? =some v→Value.okWide Tryz.prog W .any base t v)
  (hW:DataW.Whole enc Tryz.prog Tryz.f4.params.toList Rows.exifTellsSpec.vars false W args.toList ds gs before)
  (rX:(DataW.weightsEach Tryz.prog (Tryz.f4.params.toList++Rows.exifTellsSpec.plain.varTypes Tryz.prog) (ds++gs)).all (·≤reachBytes)=true):
  Calls Tryz.prog 4 args W fun e W'=>∃v,e= .returned v∧Rows.exifTellsSpec.post enc Tryz.prog Tryz.f4 false true false false W args v W':=by
 have I5:=hW;obtain⟨p,q,hA0,hV,rfl,hfz,hnd⟩:=hW;have hA:DataW.TrodAll enc Tryz.prog W 0 (fun _=>true) true Tryz.f4.params.toList args.toList ds p:=hA0;rw[Tryz.params4]at hA MS rX;obtain⟨v0,vs0,d0,ds0,p0,q0,bUQ,rfl,rfl,h0,r0⟩:=trodAll_cons hA;obtain⟨v1,vs1,d1,ds1,p1,q1,rfl,rfl,rfl,h1,r1⟩:=trodAll_cons r0;obtain⟨rfl,rfl,rfl⟩:=trodAll_nil r1;obtain rfl:args=#[v0,v1]:=by cases args;simp_all
 obtain⟨rfl,rfl⟩:=trodVars_none hV;have k0:=h0;have lt0:∀x∈p0,x.block<W.heap.size:=by obtain⟨m,hm⟩:=k0;exact DataW.trod_lt m _ _ _ hm
 obtain⟨x0,A0,rfl,w0,s0,f0,b0⟩:=a8N (MS 0 61 v0 rfl rfl) h0;have k1:=h1;have lt1:∀x∈p1,x.block<W.heap.size:=by obtain⟨m,hm⟩:=k1;exact DataW.trod_lt m _ _ _ hm
 obtain⟨x1,A1,rfl,w1,s1,f1,b1⟩:=a8N (MS 1 61 v1 rfl rfl) h1;clear hA0;simp only[dR]at I5;refine(aOV x0 A0 x1 A1 W s0 f0 b0 s1 f1 b1).mono fun e W' ⟨he,CZ⟩=>?_;subst he;exact⟨_,rfl,_,_,_, [],_, [],I5,trodAll_mk1 (shut_bool Tryz.underlying4 _),(trodAll_cons_mk (Below.trod laidOut aF (of_decide_eq_true aF) k0 CZ lt0) (trodAll_cons_mk (Below.trod laidOut aF (of_decide_eq_true aF) k1 CZ lt1) trodAll_mk0)),rfl,CZ.frame _,fun h=>by cases h⟩
set_option maxRecDepth 100000 in
theorem lifted (os:Os) (started:os.Started) (H:Type) (enc:TypeId×Value→H):
  ReturnsInHanded {} Tryz.checked os 4 .any (Rows.exifTellsSpec.pre6 enc Tryz.prog Tryz.f4 Rows.exifTellsRow.domain false) (Rows.exifTellsSpec.post enc Tryz.prog Tryz.f4 false true false false):=by
 refine returnsInHanded_of_change_sized (C:=Tryz.checked) own started aF Tryz.func4
  (ChangeSpec.witness6 (enc:=enc) (C:=Tryz.checked) false ⟨#[],#[.agg #[.int .i64 0,.slice none 0 0,.slice none 0 0,.slice none 0 0,.slice none 0 0,.slice none 0 0,.slice none 0 0,.slice none 0 0],.agg #[.int .i64 0,.slice none 0 0,.slice none 0 0,.slice none 0 0,.slice none 0 0,.slice none 0 0,.slice none 0 0,.slice none 0 0]], []⟩ 8 aF aF aF aF) ?_
 intro W base args ds gs before MS hW _ rX _;exact contract H enc W base args ds gs before MS hW rX
theorem said:Rows.ExifTellsSaid:=
 OpenClaim.holds_of_wide 4 Tryz.f4 rfl rfl rfl rfl rfl rfl rfl ⟨rfl,rfl,rfl,rfl,rfl⟩ rfl rfl rfl rfl rfl aF Tryz.func4 aF
  (of_decide_eq_true aF) (by unfold Func.isWrapper;first|(rw[if_pos (by decide+kernel)];kernel_rfl)|(rw[if_neg (by decide+kernel)];exact⟨rfl,rfl⟩))
  (fun os started H enc _=>lifted os started H enc)
#print axioms said
end Go.Proofs.YtceclmpmpldmlaaGreat.exifTells
