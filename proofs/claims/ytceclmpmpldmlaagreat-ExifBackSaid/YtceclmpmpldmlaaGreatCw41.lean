import Derived.Test.YtceclmpmpldmlaaGreatCw30
set_option linter.unusedSimpArgs false
set_option linter.unusedVariables false
namespace Go.Proofs.YtceclmpmpldmlaaGreat
open Go.RowKit Tt
theorem aLY {sh:nP} {es:List oJ} {i:Nat} (h:i<es.length):nY sh (es.drop i)=if xI sh (es.getD i (0,0,0,0)).1=true then nY sh (es.drop (i+1))else es.getD i (0,0,0,0)::nY sh (es.drop (i+1)):=by
 unfold nY;rw[List.drop_eq_getElem_cons h,List.filter_cons,kF h];cases hp:xI sh es[i].1 <;> simp[hp]
theorem aRV {sh:nP} {es:List oJ} {x:oJ} {r:List oJ} (h:nY sh es=x::r):xI sh x.1=false:=by
 have:x∈nY sh es:=by rw[h];simp
 unfold nY at this;have h2:=(iK.1 this).2;simpa using h2
theorem a0S {z:List Int} (hb:pF z) {o p:Int} {k:Nat} {x:oJ} (h:x∈BM z o p k):0≤x.2.2.2∧x.2.2.2≤4294967295:=by
 unfold BM at h;obtain⟨i,_,rfl⟩:=dH.1 h;have:=YF hb (p+2+12*i+8) 4 o;rw[show((4:Nat):Int)=4 from rfl,show(256:Int) ^ 4=4294967296 by decide]at this;exact⟨this.1,by have:=this.2;show mM z (p+2+12*i+8) 4 o≤_;omega⟩
theorem aLZ {z:List Int} {o p no:Int} {s:St} {l:List oJ} {s':St} (h:nU z o p no s= .ok (l,s')):l=BM z o p l.length∧1≤l.length∧l.length<65536∨¬pF z:=by
 by_cases hb:pF z
 ·refine .inl ?_;unfold nU at h;split at h
  ·split at h
   ·rename_i h0;cases ht:oG z.length (2,no,0,p,6+12*mM z p 2 o) s with
    |error e=>rw[ht]at h;cases h
    |ok s1=>
     rw[ht]at h;simp only at h;split at h
     ·injection h with h
      injection h with h1 h2;have hv:=YF hb p 2 o;rw[show((2:Nat):Int)=2 from rfl,show(256:Int) ^ 2=65536 by decide]at hv;rw[←h1,a0F];exact⟨rfl,by omega,by omega⟩
     ·cases h
   ·cases h
  ·cases h
 ·exact .inr hb
theorem a0T {f:Nat} {rec:Int→Int→St→Except Int ((jY f×Int)×St)} {sh:nP}:∀{l:List oJ} {acc:List (Int×jY f)×St},loopS (vF rec sh) l acc=loopS (vF rec sh) (VO sh l) acc
 | [],acc=>rfl
 |x::r,acc=>by
  unfold VO;rw[List.filter_cons];by_cases h:nQ sh x.1=true
  ·rw[if_pos h];simp only[loopS];cases vF rec sh acc x with
   |error e=>rfl
   |ok a=>exact a0T
  ·rw[if_neg h];have e:vF rec sh acc x= .ok acc:=by unfold vF;rw[if_neg h]
   rw[EO e];exact a0T
theorem aRW {z:List Int} {sh:nP} {l:List oJ} {x y:oJ} {no:Int} {s:St} (h:sG sh l= [x,y]):zB z sh l no s=if 0<y.2.2.2 then
   match oG z.length (4,no,0,x.2.2.2,y.2.2.2) s with
   | .error e=> .error e
   | .ok s'=> .ok ((z.drop x.2.2.2.toNat).take y.2.2.2.toNat,s')
  else .error 6:=by
 unfold zB;rw[show l.filter (fun x=> !nQ sh x.1&&yT sh x.1)= [x,y]from h];rfl
theorem aRX {z:List Int} {sh:nP} {l:List oJ} {no:Int} {s:St} (h:(sG sh l).length≠2):zB z sh l no s= .ok ([],s):=by
 unfold zB;split
 ·rename_i h2;exact absurd (show(sG sh l).length=2 by rw[show sG sh l=_ from h2];rfl) h
 ·rfl
theorem bHS:(Tryz.prog.info? 74).map (fun i=>(i.size,i.bytes))=some (4,48):=by kernel_rfl
theorem b6I:(Tryz.prog.info? 74).map (fun i=>i.zero.map (fun z=>z.cells.size))=some (some 4):=by kernel_rfl
theorem bHT:(Tryz.prog.info? 28).map (fun i=>(i.size,i.bytes))=some (4,80):=by kernel_rfl
theorem b6J:(Tryz.prog.info? 28).map (fun i=>i.zero.map (fun z=>z.cells.size))=some (some 4):=by kernel_rfl
set_option maxRecDepth 30000 in
set_option maxHeartbeats 40000000 in
theorem b0N (K:WkS) (t:WkT K) (ho:K.o=1∨K.o=2) (JR:mW (kK K.zs)=true) (f:Nat)
  (IH:∀(p:Int) (sh:Nat) (s:St) (sv:Value) (tk:List Nat) (w:World),zJ K s sv tk w→Inv K.n s→0≤p→p≤4294967295→sh<K.sn→K.sn≤sh+f→
   Calls Tryz.prog 145 #[.pointer (some ⟨K.g,0,none⟩),.int .i64 p,.int .i64 sh] w (a1E K sv w (rV K.z K.o (kK K.zs) f p sh s) (aNI f w)))
  (p:Int) (sh:Nat) (s:St) (sv:Value) (tk:List Nat) (w:World) (wP:zJ K s sv tk w) (bIW:Inv K.n s) (h0:0≤p) (h1:p≤4294967295) (b0O:sh<K.sn) (c6Q:K.sn≤sh+(f+1)):
  Calls Tryz.prog 145 #[.pointer (some ⟨K.g,0,none⟩),.int .i64 p,.int .i64 sh] w (a1E K sv w (rV K.z K.o (kK K.zs) (f+1) p sh s) (aNI (f+1) w)):=by
  have hn:=t.n1;have vO:=t.hs.p9;have qU:=t.hsh.len;obtain⟨R,hR⟩:=aC (rV K.z K.o (kK K.zs) (f+1) p sh s);rw[hR];simp only[rV]at hR;rw[cB,y9 (by rw[qU];exact b0O)]at hR;obtain⟨zz,hzz⟩:∃z,K.zs.getD sh BL=z:=⟨_,rfl⟩;have XB:=t.hsh.at b0O;rw[hzz]at hR XB;obtain⟨⟨la,ln,lc⟩,⟨oN,sat,kC,oM⟩⟩:=zz;simp only at hR XB;-- the directory's variable,the bTX copy
  have bD0:=kG.new w 26 #[.slice none 0 0,.slice none 0 0,.slice none 0 0];have hbA:=aD w (.cells #[.slice none 0 0,.slice none 0 0,.slice none 0 0] 26);have a7I:=wP.later hbA;have bTU:(w.alloc (.cells #[.slice none 0 0,.slice none 0 0,.slice none 0 0] 26)).heap.size=w.heap.size+1:=by simp
  obtain⟨wA,hwA⟩:=aC (w.alloc (.cells #[.slice none 0 0,.slice none 0 0,.slice none 0 0] 26));rw[hwA]at bD0 hbA a7I bTU;obtain⟨no1,aQ8⟩:∃n1,IntKind.i64.wrap (s.no+1)=n1:=⟨_,rfl⟩;rw[aQ8]at hR;have hgA:K.g<w.heap.size:=wP.blk.lt;have c0N:K.gt<w.heap.size:=kG.lt (T:=214) wP.tak;obtain⟨bb,oo,hsa,EI,fe⟩:=((a7I.kK t).row).elem zQ aH BL b0O;rw[hzz]at fe;have f0:=fe 0 _ rfl;have f1:=fe 1 _ rfl;have f2:=fe 2 _ rfl;have f3:=fe 3 _ rfl;simp only[dB]at f0 f1 f2 f3;clear fe;obtain⟨Ty,ff,pQ,kI,kE⟩:=kM wA;have q2:∀s,(ff s).cell? ⟨K.g,2,none⟩=some (.slice (some ⟨bb,oo,none⟩) K.sn K.sc):=fun s=>by rw[←hsa];exact(kG.late a7I.blk (kI s)).cell rfl
  have q5:=fun s'=>(kG.late a7I.blk (kI s')).cell (i:=5) rfl;have r0:∀s,(ff s).cell? ⟨bb,oo+sh*4,none⟩=some (.slice la ln lc):=fun s=>late (kI s) EI f0;have r1:∀s,(ff s).cell? ⟨bb,oo+sh*4+1,none⟩=some (.int .i64 sat):=fun s=>late (kI s) EI f1;have r2:∀s,(ff s).cell? ⟨bb,oo+sh*4+2,none⟩=some (.int .i64 kC):=fun s=>late (kI s) EI f2;have r3:∀s,(ff s).cell? ⟨bb,oo+sh*4+3,none⟩=some (.int .i64 oM):=fun s=>late (kI s) EI f3;obtain⟨HS,HD⟩:=aJ (kE _ ((bF _ _).drew)) ((bF wA.heap.size wA).drew);have bNZ:(sh:Int)<K.sn:=by omega
  clear f0 f1 f2 f3;obtain⟨IH',t',nJ,bAK,oC,yB,qM,c0O,IU,bRS,bHU,aNS⟩:=aT IH t wP bIW vO qU hR hzz XB bD0 hbA a7I;obtain⟨kD,jV⟩:=aJ kI kE;clear IH t wP bIW vO qU hR hzz XB bD0 hbA a7I kI kE;go_enter Tryz.func145,Tryz.ntmps145;go_upto_region 1 with fail
  try rw[hwA]
  clear hwA;refine kR (S:=fun W=>∃s,W=ff s) aF 14 rfl ?_;refine jZ [0,1,2,3,4,5,6,7,8,9,10] 3 aF aI aF aF aF HS.o ?_;simp only[jW,aW,aX,aU,aV];iterate 11 (go_big_quiet_step (fail))
  refine wpQuiet_nil ?_;refine jX 11 2 aF aF ?_;simp only[jW,aW,aX,aU,aV];go_wp2_with fail
  have kU:=(aD wA (.cells #[.slice none 0 0,.int .i64 0,.int .i64 0,.int .i64 0] 35)).drew;have bS1:kG (wA.alloc (.cells #[.slice none 0 0,.int .i64 0,.int .i64 0,.int .i64 0] 35)).drew wA.heap.size 35 #[.slice none 0 0,.int .i64 0,.int .i64 0,.int .i64 0]:=kG.new wA _ _;obtain⟨w1,xR⟩:∃w1,(wA.alloc (.cells #[.slice none 0 0,.int .i64 0,.int .i64 0,.int .i64 0] 35)).drew=w1:=⟨_,rfl⟩;rw[xR]at kU bS1;rw[xR];clear xR;obtain⟨gs,GZ⟩:=aC (w.heap.size+1);rw[bTU,GZ]at bS1;rw[GZ];have HS:=aA (jV.o _ kU);have p0:=bS1.cell (i:=0) rfl;have p1:=bS1.cell (i:=1) rfl;have p2:=bS1.cell (i:=2) rfl;have p3:=bS1.cell (i:=3) rfl;have y0:=bS1.frozen 0;have y1:=bS1.frozen 1;have y2:=bS1.frozen 2;have y3:=bS1.frozen 3;have c6R:wA.heap.size≤gs:=by omega
  have c3V:w.heap.size<gs:=by omega
  have JM:=kU;obtain⟨qR,bRT,a2M,U1⟩:=aL kU bS1 GZ JM;clear kU bS1 GZ JM;first|refine Mid.mk ⟨HS.o,?_⟩|refine Mid.mk ?_
  refine jX 12 1 aF aF ?_;simp only[jW,aW,aX,aU,aV];go_wp2_with fail
  have bS2:=bRT.o.a3E (.slice la ln lc) (.int .i64 sat) (.int .i64 kC) (.int .i64 oM);have kP:=IC qR.o (show wA.heap.size≤gs by omega) (.slice la ln lc) (.int .i64 sat) (.int .i64 kC) (.int .i64 oM);have HS:=aA (jV.o _ kP);refine Mid.mk ⟨HS.o,?_⟩;refine jZ [13] 0 aF aI aF aF aF HS.o ?_;simp only[jW,aW,aX,aU,aV];iterate 1 (go_big_quiet_step (fail))
  refine wpQuiet_nil ?_;refine kH aF ?_;clear p0 p1 p2 p3 y0 y1 y2 y3 bRT qR U1 q2 q5 r0 r1 r2 r3 HS HD kD jV;generalize ((((w1.setCell ⟨gs,0,none⟩ (.slice la ln lc)).setCell ⟨gs,1,none⟩ (.int .i64 sat)).setCell ⟨gs,2,none⟩ (.int .i64 kC)).setCell ⟨gs,3,none⟩ (.int .i64 oM))=wB at*;-- one more number
  have YT:=aNS.o.later kP;have bDB:=bRS.o.late kP;have bRU:=bHU.o.tm kP;have c5:=YT.blk.cell (i:=5) rfl;have y5:=YT.blk.frozen 5;have mQ:=(But.refl K.g wB).set 5 (.int .i64 no1);have OJ:zJ K {s with no:=no1} sv tk (wB.setCell ⟨K.g,5,none⟩ (.int .i64 no1)):=
   ⟨YT.old.trans (mQ.below t'.o.gB YT.old.size),YT.blk.set 5 _,kG.but (T:=214) YT.tak mQ (Ne.symm t'.o.ne),YT.tkl,YT.tkb,YT.bits,mV YT.spot mQ YT.sg,YT.sg,YT.sgt⟩
  have bD2:=bDB.but mQ (show w.heap.size≠K.g by omega);have bS2:=bS2.but mQ (show gs≠K.g by omega);have aTM:=(Mv.of_below (g:=K.g) (gt:=K.gt) (sv:=sv) bRU).trans (Mv.E5 mQ (.inl rfl));have aWK:∀k,sv.ownBlock=some k→k<w.heap.size:=fun k e=>(nJ.o.spot.lt k e).2;have bOD:=bS2.lt;clear mQ YT bDB kP bRU aNS bRS bHU;obtain⟨a1G,bRV,bRW,aEA,YG⟩:=aM OJ bD2 bS2 aTM aWK;clear OJ bD2 bS2 aTM aWK;go_upto_region 3 with fail
  clear c5 y5;generalize wB.setCell ⟨K.g,5,none⟩ (.int .i64 no1)=w2 at*;-- the entries
  have bAL:Inv K.n {s with no:=no1}:=bAK.o.a6G rfl;have HE:=aGF K t'.o ho {s with no:=no1} sv tk w2 p s.no a1G.o h0 h1 (by have:=bAK.o.le;show s.o5.length≤_;omega);obtain⟨RE,hRE⟩:∃RE,nU K.z K.o p s.no {s with no:=no1}=RE:=⟨_,rfl⟩;have hR1:=qM.o;rw[hRE]at HE hR1;clear qM;obtain⟨HE',V9⟩:=aJ HE hR1;clear HE hR1;go_wp2_with fail
  refine HE'.o.mono ?_;rintro e w3 nW;cases RE with
  |error x=>
   obtain rfl:R= .error x:=by rw[←V9.o]
   obtain⟨rfl,zS,yJ⟩:=nW;clear V9 hRE HE';have IQ:=aA yJ;clear yJ;go_wp2_with fail
   exact⟨rfl,rfl,zS,aEA.o.trans IQ.o⟩
  |ok r=>
   obtain⟨es,s3⟩:=r;obtain⟨sv3,tk3,a8S,aRY,ae,me,ce,rfl,aDA⟩:=nW;have bAM:Inv K.n s3:=by have h:=YH hRE (by rw[oC.o];exact bAL);rw[oC.o]at h;exact h
   have hes:(es=BM K.z K.o p es.length∧1≤es.length∧es.length<65536):=(aLZ hRE).resolve_right (fun h=>h t'.o.byt);have OD:=V9.o;simp only at OD;clear V9 HE' hRE bAL;have bD3:=bRV.o.mv aRY (show w.heap.size≠K.g by omega) (show w.heap.size≠K.gt by omega) (fun e=>by have:=YG.o _ e;omega);have bS3:=bRW.o.mv aRY (show gs≠K.g by omega) (show gs≠K.gt by omega) (fun e=>by have:=YG.o _ e;omega);have hme:me=es.length:=by have h:=aDA.sl.xZ nT aH;exact h.symm
   subst hme;have bAN:=aEA.o.trans aRY;have aB2:=aRY.size;have c0:=bS3.cell (i:=0) rfl;have c1:=bS3.cell (i:=1) rfl;have c2:=bS3.cell (i:=2) rfl;have c3:=bS3.cell (i:=3) rfl;have HL:=aR4 ae es.length ce es ((la,ln,lc),(oN,sat,kC,oM)) w3 aDA.sl (IU.o.mono a8S.old) aG;simp only at HL;obtain⟨zG,bHV⟩:∃q:nP,(oN,sat,kC,oM)=q:=⟨_,rfl⟩;rw[bHV]at HL OD;obtain⟨U7,bAO,aEY,b0P,b6W,BJ,bRX,bRY,b0Q,HL',bAP⟩:=aS a8S aRY aDA bAM hes OD bD3 bS3 bAN HL bHV;clear a8S aRY aDA bAM hes OD bD3 bS3 bAN HL bHV;go_wp2_with fail
   refine HL'.o.mono ?_;rintro e w4 ⟨v1,v2,v3,rfl,h3,mX⟩;have bRZ:=mX.size;obtain⟨B,hB⟩:=aC w2.heap.size;obtain⟨B2,hB2⟩:=aC w4.heap.size;have bS0:Pst K w.heap.size B B2 w.heap.size gs:=⟨hgA,c0N,bU nJ.o.old.size (aY _),aY _,by omega,by omega,by omega,by omega,by omega⟩;have bS5:∀k,sv3.ownBlock=some k→k<w3.heap.size:=fun k e=>(U7.o.spot.lt k e).2;have aGM:∀{v:Value} {l:List oJ},w4.ownsRow w3.heap.size 55 4 v l.length (fl oF l)→Sk (Xv sv3) B B2 w4 v 4 l.length (fl oF l):=fun h=>Sk.kZ (lN h aG) aG (fun k e e2=>by have:=(h.lt k e).1;have:=bS5 k e2;omega);have hto:=aGM h3.r1;have hpa:=aGM h3.r2;have hre:=aGM h3.r3;have hen:Sk (Xv sv3) B B2 w4 (.slice ae es.length ce) 4 es.length (fl oF es):=Sk.kZ (lN (l6 aEY.o.1 mX) aG) aG aEY.o.2;have CZ:Pk K w.heap.size B B2 w.heap.size gs w w4 sv sv3 #[.slice la ln lc,.int .i64 sat,.int .i64 kC,.int .i64 oM] s3 sv3 tk3 (.slice none 0 0) (.slice none 0 0) (.slice none 0 0) [] w4:=
    ⟨U7.o.later mX,b0P.o,b0Q.o.later mX,fun k e=>by rcases bAO.o.own k e with h|h <;> first|exact .inl (YG.o k h)|exact .inr aG,Kp.same (fun _ _ _ h=>h),lX.nil _ _ _,bRX.o.late mX,bRY.o.late mX,iG hB2.symm⟩
   clear c0 c1 c2 c3 mX h3 aGM U7 bAO aEY bRX bRY b0Q a1G bRV bRW aEA HL' b0P;obtain⟨BZ,b4T,bHW,c0P,b26,a8V,hB'⟩:=aO bS0 hto hpa hre hen CZ hB;clear bS0 hto hpa hre hen CZ hB;go_wp2_with fail
   obtain⟨i0,z0,AY,hz,qC,wY,ZA⟩:=SK bHS b6I;obtain⟨RT,hRT⟩:=aC (loopS (stepT K.z K.o zG s.no) es ([],s3));have hR3:=BJ.o;rw[hRT]at hR3;have aIF:∀i,i<es.length→0≤(es.getD i (0,0,0,0)).2.2.2∧(es.getD i (0,0,0,0)).2.2.2≤4294967295:=fun i hi=>a0S t'.o.byt (by rw[←b6W.o.1,kF hi];exact bP _);have hnl:es.length<65536:=b6W.o.2.2;clear BJ bRZ bS5;obtain⟨a0G,bS6,b2A⟩:=aK hR3 hRT aIF;clear hR3 hRT aIF;go_loopw [13,54] (fun rv iv wr=>∃(i:Nat) (si:St) (EN:Value) (tki:List Nat) (vt:Value) (tags:List oZ),i≤es.length∧iv= .int .i64 i∧Hid (loopS (stepT K.z K.o zG s.no) (es.drop i) (tags,si)=RT)∧Hid (Pk K w.heap.size B B2 w.heap.size gs w w4 sv sv3 #[.slice la ln lc,.int .i64 sat,.int .i64 kC,.int .i64 oM] si EN tki vt (.slice none 0 0) (.slice none 0 0) tags wr)∧Hid (Sk (Xv EN) B B2 wr rv 4 (nY zG (es.drop i)).length (fl oF (nY zG (es.drop i))))∧tags.length≤i) (fun _ iv _=>es.length - (intOf iv).toNat)
   case atStart=>exact⟨0,s3,sv3,tk3,_, [],by omega,rfl,by rw[gL];exact bS6,a8V,by rw[gL];exact c0P,by simp⟩
   case round=>
    obtain⟨i,si,EN,tki,vt,tags,hi,rfl,hlp,TT,hrs,htl⟩:=hrel;by_cases kY:i<es.length
    ·have bS7:=(b26.o.keep TT.o.kp (iG hB2.symm)).sl.2;obtain⟨be,oe,rfl,hbe,fe⟩:=bS7.elem nT aH (0,0,0,0) kY;have b6X:=(b2A.o i kY);have hrc:=aLY (sh:=zG) kY;have hdc:es.drop i=es.getD i (0,0,0,0)::es.drop (i+1):=by rw[List.drop_eq_getElem_cons kY,kF kY]
     obtain⟨⟨x1,x2,x3,x4⟩,hx⟩:∃x,es.getD i (0,0,0,0)=x:=⟨_,rfl⟩;rw[hx]at fe b6X hrc hdc;have f0:=fe 0 _ rfl;have f1:=fe 1 _ rfl;have f2:=fe 2 _ rfl;have f3:=fe 3 _ rfl;simp only[dB]at f0 f1 f2 f3;simp only at b6X;clear fe bS7;have CY:(i:Int)<es.length:=by omega
     obtain⟨a3,c3,rfl⟩:=hrs.o.val;obtain⟨b0R,aRZ,TV⟩:=aK hrc hdc hx;clear hrc hdc hx;go_upto_region 8 with fail
     have be5:=kG.new wr 55 #[.int .i64 x1,.int .i64 x2,.int .i64 x3,.int .i64 x4];have kU:=aD wr (.cells #[.int .i64 x1,.int .i64 x2,.int .i64 x3,.int .i64 x4] 55);have YU:=TT.o.later kU;have bHX:=hrs.o.keep (Kp.later kU) TT.o.sz;have bSA:B2≤wr.heap.size:=TT.o.sz;clear f0 f1 f2 f3 kU;generalize wr.alloc (.cells #[.int .i64 x1,.int .i64 x2,.int .i64 x3,.int .i64 x4] 55)=w5 at*;generalize wr.heap.size=ge at*;have g0:=be5.cell (i:=0) rfl;have g1:=be5.cell (i:=1) rfl;have g2:=be5.cell (i:=2) rfl;have g3:=be5.cell (i:=3) rfl;obtain⟨ob,hob⟩:∃b,xI zG x1=b:=⟨_,rfl⟩;have bSB:=bHX.sl.2;obtain⟨b0S,M7,bAQ,b0T,aD1⟩:=aM be5 YU bHX bSB hob;clear be5 YU bHX bSB hob;go_cut [67]from 58 to 66 (fun v wx=>v= .bool (!ob)∧∃m,wx=w5.drewN m)
     case first=>
      -- DEV{L1a
      cases ob with
      |true=>
       by_cases hm:0<(nY zG (es.drop i)).length
       ·obtain⟨br,orr,rfl,nR,fr⟩:=b0T.o.elem nT aH (0,0,0,0) hm;have sJ:xI zG ((nY zG (es.drop i)).getD 0 (0,0,0,0)).1=false:=by
         cases hl:nY zG (es.drop i)with
         |nil=>rw[hl]at hm;simp at hm
         |cons y r=>exact aRV hl
        obtain⟨⟨y1,y2,y3,y4⟩,hy⟩:∃y,(nY zG (es.drop i)).getD 0 (0,0,0,0)=y:=⟨_,rfl⟩;rw[hy]at fr sJ;have e0:=fr 0 _ rfl;have e1:=fr 1 _ rfl;have e2:=fr 2 _ rfl;have e3:=fr 3 _ rfl;simp only[dB,fM]at e0 e1 e2 e3;have heq:=aNF (x1,x2,x3,x4) (y1,y2,y3,y4);simp only at heq sJ;have pQ:¬((x1,x2,x3,x4)=(y1,y2,y3,y4):Prop):=fun h=>by
         injection h with h _;rw[h,sJ]at aD1;exact Bool.noConfusion aD1.o
        rw[decide_eq_false pQ]at heq;have hmi:(0:Int)<((nY zG (es.drop i)).length:Int):=by omega
        generalize (nY zG (es.drop i)).length=m at*;have d1:decide ((0:Int)<(m:Int))=true:=by simp;omega
        have d2:decide (0<m)=true:=by simp;omega
        clear fr sJ pQ hy;go_quiet (fail)
        go_wp2_with fail
        go_meet
        exact⟨rfl,_,rfl⟩
       ·have hm0:(nY zG (es.drop i)).length=0:=by omega
        generalize (nY zG (es.drop i)).length=m at*;subst hm0;go_quiet (fail)
        go_wp2_with fail
        go_meet
        exact⟨rfl,_,rfl⟩
      |false=>
       have b6K:=b0R.o;rw[if_neg (by rw[aD1.o];simp)]at b6K;have hm:0<(nY zG (es.drop i)).length:=by rw[b6K];simp
       obtain⟨br,orr,rfl,nR,fr⟩:=b0T.o.elem nT aH (0,0,0,0) hm;have hy:(nY zG (es.drop i)).getD 0 (0,0,0,0)=(x1,x2,x3,x4):=by rw[b6K];rfl
       rw[hy]at fr;have e0:=fr 0 _ rfl;have e1:=fr 1 _ rfl;have e2:=fr 2 _ rfl;have e3:=fr 3 _ rfl;simp only[dB,fM]at e0 e1 e2 e3;have heq:=aNF (x1,x2,x3,x4) (x1,x2,x3,x4);simp only[decide_true]at heq;have hmi:(0:Int)<((nY zG (es.drop i)).length:Int):=by omega
       clear b6K;generalize (nY zG (es.drop i)).length=m at*;have d1:decide ((0:Int)<(m:Int))=true:=by simp;omega
       have d2:decide (0<m)=true:=by simp;omega
       clear fr hy;go_quiet (fail)
       go_wp2_with fail
       go_meet
       exact⟨rfl,_,rfl⟩
      -- }DEV
     case rest=>
      obtain⟨rfl,mm,hwx⟩:=hcut;rename World=>w6
      have AQ:Below w5.heap.size w5 w6:=by rw[hwx];exact below_drewN (bF _ _) _
      have be6:=b0S.o.late AQ;have RG:=M7.o.later AQ;have aM0:=bAQ.o.keep (Kp.later AQ) (bU M7.o.sz (aY _));clear hwx AQ g0 g1 g2 g3 b0S M7 bAQ b0T;cases ob with
      |true=>
       -- DEV{L1b
       have GD:stepT K.z K.o zG s.no (tags,si) (x1,x2,x3,x4)=if x2=4∧x3=1 then .ok (tags,si)else .error 6:=by
        unfold stepT;rw[if_pos aD1.o]
       have g1:=be6.cell (i:=1) rfl;have g2:=be6.cell (i:=2) rfl;have M8:=hlp.o;rw[aRZ.o]at M8;obtain⟨c6S,b0U,bSC⟩:=aK be6 RG aM0;clear be6 RG aM0;by_cases ZC:x2=4
       ·have d1:(x2==4)=true:=by simp[ZC]
        by_cases TD:x3=1
        ·have d2:(x3==1)=true:=by simp[TD]
         rw[if_pos ⟨ZC,TD⟩]at GD;rw[EO GD]at M8;have b0V:Sk (Xv EN) B B2 w6 (.slice a3 (nY zG (es.drop i)).length c3) 4 (nY zG (es.drop (i+1))).length (fl oF (nY zG (es.drop (i+1)))):=by
          have h:=bSC.o;rw[b0R.o,if_pos aD1.o]at h;rw[b0R.o,if_pos aD1.o];exact h
         clear ZC TD GD;obtain⟨aHY,aOG⟩:=aJ M8 b0V;clear M8 b0V;go_wp2_with (go_at_call 143;refine(lJ _ _ _).mono ?_;rintro e w3 ⟨rfl,rfl⟩;simp only[mF,mG])
         go_roundw
         case rel=>exact⟨i+1,si,EN,tki,vt,tags,by omega,by go_num,aHY,b0U,aOG,by omega⟩
         case measure=>simp[intOf];omega
        ·have d2:(x3==1)=false:=by simp[TD]
         rw[if_neg (fun h=>TD h.2)]at GD;rw[vK GD]at M8;subst M8;obtain rfl:R= .error 6:=by rw[←a0G.o]
         clear ZC TD GD;go_wp2_with (go_at_call 143;refine(lJ _ _ _).mono ?_;rintro e w3 ⟨rfl,rfl⟩;simp only[mF,mG])
         exact⟨rfl,rfl,EN,b0U.o.mv⟩
       ·have d1:(x2==4)=false:=by simp[ZC]
        rw[if_neg (fun h=>ZC h.1)]at GD;rw[vK GD]at M8;subst M8;obtain rfl:R= .error 6:=by rw[←a0G.o]
        clear ZC GD;go_wp2_with (go_at_call 143;refine(lJ _ _ _).mono ?_;rintro e w3 ⟨rfl,rfl⟩;simp only[mF,mG])
        exact⟨rfl,rfl,EN,b0U.o.mv⟩
       -- }DEV
      |false=>
       -- DEV{L1c
       have GD:stepT K.z K.o zG s.no (tags,si) (x1,x2,x3,x4)=match rY K.z K.o (x1,x2,x3,x4) s.no si with
         | .error e=> .error e
         | .ok (v,s')=> .ok (tags++ [v],s'):=by
        unfold stepT;rw[if_neg (by rw[aD1.o];simp)];rfl
       have M8:=hlp.o;rw[aRZ.o]at M8;obtain⟨zs0,c0Q,bBG⟩:=RG.tg.own;obtain⟨av,cv,rfl⟩:=FV bBG;obtain⟨mm2,b6L⟩:∃q,(nY zG (es.drop i)).length=q:=⟨_,rfl⟩;have OL:mm2=(nY zG (es.drop (i+1))).length+1:=by
        have h:=b0R.o;rw[if_neg (by rw[aD1.o];simp)]at h;rw[←b6L,h];simp
       have b28:=aM0.sl.2.le;have RJ:=(bF w6.heap.size w6).drew;have HV:=aKP K t'.o ho si EN tki w6.drew (x1,x2,x3,x4) s.no (RG.ok.later RJ) b6X.1 b6X.2 (by have:=RG.inv.le;omega);unfold aB3 at HV;simp only at HV;obtain⟨RV,hRV⟩:=aC (rY K.z K.o (x1,x2,x3,x4) s.no si);rw[hRV]at HV GD;have bAR:∀v s',RV= .ok (v,s')→Inv K.n s':=fun v s' e=>by
        have h:=a6H (hRV.trans e) (by rw[oC.o];exact RG.inv);rw[oC.o]at h;exact h
       rw[b6L]at aM0 b28;rw[b6L];obtain⟨a4,c6T,hs4,E8⟩:=aMF (P:=Tryz.prog) (T:=154) (E:=55) (sz:=4) Tryz.underlying154 (fun W=>by kernel_rfl) aM0.sl.2 (1:Int) aG aG (mm2 - 1) (c3 - 1) aG aG;have b3V:Sl w6 a4 (mm2 - 1) (c3 - 1) 4 (fl oF (nY zG (es.drop (i+1)))):=by
        have h:=hs4;rw[b0R.o,if_neg (by rw[aD1.o];simp)]at h;rw[show(1:Int).toNat*4=4 from rfl,b4P nT]at h;exact h
       have bAS:=aM0.tail b3V E8;clear hs4 b3V E8;obtain⟨Ty2,f2,EH,TA,wL⟩:=K7 (fun W=>kG W w.heap.size 26 #[.slice av tags.length cv,.slice none 0 0,.slice none 0 0]∧kG W ge 55 #[.int .i64 x1,.int .i64 x2,.int .i64 x3,.int .i64 x4]) w6 ⟨RG.bD,be6⟩;have d0:∀s,(f2 s).cell? ⟨w.heap.size,0,none⟩=some (.slice av tags.length cv):=fun s=>(TA s).1.cell rfl;have g0:∀s,(f2 s).cell? ⟨ge,0,none⟩=some (.int .i64 x1):=fun s=>(TA s).2.cell rfl;have g1:∀s,(f2 s).cell? ⟨ge,1,none⟩=some (.int .i64 x2):=fun s=>(TA s).2.cell rfl;have g2:∀s,(f2 s).cell? ⟨ge,2,none⟩=some (.int .i64 x3):=fun s=>(TA s).2.cell rfl;have g3:∀s,(f2 s).cell? ⟨ge,3,none⟩=some (.int .i64 x4):=fun s=>(TA s).2.cell rfl;have HS:=aA (wL w6.drew ⟨RG.bD,be6⟩);have c6U:ge<w6.heap.size:=be6.lt;have aHZ:=RG.later RJ;have bTV:Sk (Xv EN) B B2 w6.drew (.slice a4 (mm2 - 1) (c3 - 1)) 4 (mm2 - 1) (fl oF (nY zG (es.drop (i+1)))):=bAS.keep (Kp.later RJ) RG.sz;have c0R:w6.drew.heap.size=w6.heap.size:=rfl;have bed:kG w6.drew ge 55 #[.int .i64 x1,.int .i64 x2,.int .i64 x3,.int .i64 x4]:=be6;clear aM0 bAS be6 RJ b6L bBG c0Q RG;have hBB:=BZ.o.bb;have hgB:=BZ.o.gd2;obtain⟨HV',a0U,aHY,b0W,aTN,EM,DR,bAT,a8T,MI⟩:=aR HV GD M8 bAR TA wL aHZ bTV bed OL;clear HV GD M8 bAR TA wL aHZ bTV bed OL;go_wp2_with fail
       refine xX (t:=11) (C:=fun W=>∃s,W=f2 s) aF 13 rfl ?_;refine DX [0,2,4,8,9] 8 aF aI aF aF aF HS.o ?_;simp only[jW,aW,aX,aU,aV];iterate 5 (go_big_quiet_step (fail))
       refine wpQuiet_nil ?_;refine pR [1,3] 6 aF aI aF aF aF HS.o ?_;simp only[jW,aW,aX,aU,aV];iterate 2 (go_big_quiet_step (fail))
       refine wpQuiet_nil ?_;clear d0 g0 g1 g2 g3;refine mJ 5 5 aF aF ?_;simp only[jW,aW,aX,aU,aV];go_wp2_with fail
       refine HV'.o.mono ?_;rintro e w7 nW;cases RV with
       |error y=>
        obtain⟨rfl,zS,yJ⟩:=nW;have NI:=aHY.o;rw[vK (a0U.o.trans rfl)]at NI;subst NI;obtain rfl:R= .error y:=by rw[←a0G.o]
        clear HV' a0U;have IQ:=aA yJ;clear yJ;go_wp2_with fail
        refine ED ?_;go_wp2_with fail
        exact⟨rfl,rfl,zS,DR.o.mv.trans IQ.o⟩
       |ok rv=>
        obtain⟨v,s7⟩:=rv;obtain⟨YP,tk7,a0O,AV,a7,m7,c7,rfl,b0X⟩:=nW;have NI:=aHY.o;rw[EO (a0U.o.trans rfl)]at NI;have TU:=DR.o.mv2 BZ.o AV a0O (b0W.o v s7 rfl);have bSD:∀k,EN.ownBlock=some k→k<w6.heap.size∧k≠ge:=fun k e=>⟨(DR.o.ok.spot.lt k e).2,fun h=>lF DR.o.ok.spot a8T.o aH (by rw[e,h])⟩;have be7:=a8T.o.mv AV (show ge≠K.g by omega) (show ge≠K.gt by omega) (fun e=>(bSD _ e).2 rfl);have b0V:=bAT.o.keep (Kp.mv AV (show K.g<B by omega) (show K.gt<B by omega)) (show B2≤w6.drew.heap.size from DR.o.sz);have b0X:=b0X.mono (show B2≤w6.drew.heap.size from DR.o.sz);have hm7:m7=v.2.2.2.length:=by have h:=b0X.sl.p9;exact h.symm
        subst hm7;have HS:=aA (EM.o w7 ⟨TU.bD,be7⟩);clear AV a0O HV' a0U aHY b0W DR bAT a8T bSD;obtain⟨b0Y,U8,bSE,aOG,bAU⟩:=aM NI TU be7 b0V b0X;clear NI TU be7 b0V b0X;go_wp2_with fail
        first|refine Mid.mk ⟨fun _=>HS.o,?_⟩|refine Mid.mk ?_
        obtain⟨t1,t2,t3,td⟩:=v;refine mJ 6 4 aF aF ?_;simp only[jW,aW,aX,aU,aV];go_wp2_with fail
        have kU:=aD w7 (.cells #[.int .i64 t1,.int .i64 t2,.int .i64 t3,.slice a7 td.length c7] 74);have NJ:=U8.o.later kU;have be8:=bSE.o.late kU;have bHY:=aOG.o.keep (Kp.later kU) U8.o.sz;have bHZ:=bAU.o.keep (Kp.later kU);have C8:Sl (w7.alloc (.cells #[.int .i64 t1,.int .i64 t2,.int .i64 t3,.slice a7 td.length c7] 74)) (some ⟨w7.heap.size,0,none⟩) 1 1 4 (tzc ((t1,t2,t3,a7,td.length,c7),td)):=Sl.new w7 74 4 1 #[.int .i64 t1,.int .i64 t2,.int .i64 t3,.slice a7 td.length c7] (0,0) aG rfl;obtain⟨w8,hw8⟩:=aC (w7.alloc (.cells #[.int .i64 t1,.int .i64 t2,.int .i64 t3,.slice a7 td.length c7] 74));rw[hw8]at NJ be8 bHY bHZ C8;rw[hw8];obtain⟨gn,hgn⟩:=aC w7.heap.size;rw[hgn]at C8;rw[hgn];have HS:=aA (EM.o w8 ⟨NJ.bD,be8⟩);obtain⟨zs,UB,mK⟩:=NJ.tg.own;have b0Z:=NJ.sz;clear kU hw8 hgn U8 bSE aOG bAU;obtain⟨FH,bSF,bSG,bSH,NP,xQ,bTO⟩:=aO NJ be8 bHY bHZ C8 mK UB;clear NJ be8 bHY bHZ C8 mK UB;first|refine Mid.mk ⟨fun _=>HS.o,?_⟩|refine Mid.mk ?_
        refine mJ 7 3 aF aF ?_;simp only[jW,aW,aX,aU,aV];go_wp2_with (at_builtin;refine mU rfl _ _ 22 rfl B2 74 i0 z0 4 48 Tryz.underlying22 AY hz qC wY ZA aH (.slice av tags.length cv) tags.length _ rfl xQ.o ⟨gn,0,none⟩ 1 1 (tzc ((t1,t2,t3,a7,td.length,c7),td)) rfl NP.o (b2Z _) aG aH b0Z ?_;intro a9 c9 w9 ob hg9 TK;obtain⟨Ob,O9,Ho9⟩:=aK ob hg9 TK;clear ob hg9 TK)
        have bI0:∀k,(Value.slice av tags.length cv).ownBlock=some k→¬Xv YP k:=by
         obtain⟨_,_,h2,_⟩:=FH.o.tg;exact h2.2
        have b1A:(Value.slice av tags.length cv).ownBlock≠some w.heap.size:=lF xQ.o FH.o.bD aH;have bSI:(Value.slice av tags.length cv).ownBlock≠some ge:=lF xQ.o bSF.o aH;have bD9:=FH.o.bD.grown O9.o b1A;have be9:=bSF.o.grown O9.o bSI;have hX9:∀k,(Value.slice a9 (tags.length+1) c9).ownBlock=some k→¬Xv YP k:=fun k e h=>by
         rcases Ho9.o k e with h1|h1
         ·exact bI0 k h1 h
         ·have:=(FH.o.ok.spot.lt k h).2;omega
        have b1B:=FH.o.tg.snoc (v':= .slice a9 (tags.length+1) c9) (t:=(t1,t2,t3,td)) (z:=((t1,t2,t3,a7,td.length,c7),td)) rfl O9.o hX9 (fun zs2 h2=>by rw[SI h2 xQ.o];exact Ob.o) bSH.o;have bSJ:=bSG.o.grown O9.o (fun k e=>(xQ.o.lt k e).1);have HS:=aA (EM.o w9 ⟨bD9,be9⟩);have p0:=bD9.cell (i:=0) rfl;have y0:=bD9.frozen 0;have mQ:=(But.refl w.heap.size w9).set 0 (.slice a9 (tags.length+1) c9);have aI0:=FH.o.app BZ.o O9.o (fun r e=>⟨(xQ.o.lt r e).1,fun h=>bI0 r e h⟩) hB2 rfl mQ (bD9.set 0 (.slice a9 (tags.length+1) c9)) b1B;have bAV:=bSJ.keep (VQ mQ hgB) (bU b0Z O9.o.size);clear bI0 b1A bSI hX9 b1B bSJ be9 bD9;obtain⟨aM1,b1C,GN⟩:=aK aI0 bAV mQ;clear aI0 bAV mQ;first|refine Mid.mk ⟨fun _=>HS.o,?_⟩|refine Mid.mk ?_
        refine DX [10] 2 aF aI aF aF aF HS.o ?_;simp only[jW,aW,aX,aU,aV];iterate 1 (go_big_quiet_step (fail))
        refine wpQuiet_nil ?_;refine mJ 11 1 aF aF ?_;simp only[jW,aW,aX,aU,aV];go_wp2_with fail
        first|refine Mid.mk ⟨fun h=>(by simp[TF]at h),?_⟩|refine Mid.mk ?_
        refine mJ 12 0 aF aF ?_;simp only[jW,aW,aX,aU,aV];go_wp2_with fail
        first|refine Mid.mk ⟨fun h=>(by simp[TF]at h),?_⟩|refine Mid.mk ?_
        refine zY aF ?_;clear p0 y0;rw[show mm2 - 1=(nY zG (es.drop (i+1))).length by have:=MI.o;omega]at b1C;go_wp2_with fail
        go_roundw
        case rel=>exact⟨i+1,s7,YP,tk7,.slice a9 (tags.length+1) c9,tags++ [(t1,t2,t3,td)],by omega,by go_num,b0Y,aM1,(by have h:=b1C;rw[show mm2 - 1=(nY zG (es.drop (i+1))).length by have:=MI.o;omega];exact h),by simp;omega⟩
        case measure=>simp[intOf];omega
       -- }DEV
    ·obtain rfl:i=es.length:=by omega
     have M8:=hlp.o;rw[List.drop_length]at M8;simp only[loopS]at M8;subst M8;have hR4:=a0G.o;simp only at hR4;change (if(sG zG es).length=1 then _ else _)=R at hR4
     obtain⟨a2,c2,rfl⟩:=bHW.o.val;obtain⟨a1,c1,rfl⟩:=b4T.o.val;clear hlp hrs a0G bS6;have QO:=aA hR4;clear hR4;by_cases hp1:(sG zG es).length=1
     ·obtain rfl:R= .error 6:=by rw[←QO.o,if_pos hp1]
      have d1:(((sG zG es).length:Int) != 1)=false:=by simp[hp1]
      generalize (sG zG es).length=np at*;clear hp1;go_wp2_with (go_at_call 143;refine(lJ _ _ _).mono ?_;rintro e w3 ⟨rfl,rfl⟩;simp only[mF,mG])
      exact⟨rfl,rfl,EN,TT.o.mv⟩
     have d1:(((sG zG es).length:Int) != 1)=true:=by simp;omega
     have hR5:=QO.o;rw[if_neg hp1,a0T]at hR5;obtain⟨RD,hRD⟩:=aC (loopS (vF (rV K.z K.o (kK K.zs) f) zG) (VO zG es) ([],si));rw[hRD]at hR5;obtain⟨nt,hnt⟩:∃n,(VO zG es).length=n:=⟨_,rfl⟩;obtain⟨np,hnp⟩:∃n,(sG zG es).length=n:=⟨_,rfl⟩;have c6V:nt≤es.length:=by rw[←hnt];exact List.length_filter_le _ _
     rw[hnp]at d1 hp1;obtain⟨i1,z1,hi1,hy,hy1,hy2,hy3⟩:=SK bHT b6J;have hmf:∀(fn:Fn) (first cap:Array Value) (w:World),(Instr.makeFunc fn first cap).run Tryz.prog w= .ok (.func fn first cap) w:=fun _ _ _ _=>rfl;have hvl:∀j,j<nt→nQ zG ((VO zG es).getD j (0,0,0,0)).1=true∧0≤((VO zG es).getD j (0,0,0,0)).2.2.2∧((VO zG es).getD j (0,0,0,0)).2.2.2≤4294967295:=fun j hj=>by
      have hm:(VO zG es).getD j (0,0,0,0)∈VO zG es:=by rw[kF (by rw[hnt];exact hj)];exact bP _
      unfold VO at hm;obtain⟨h1,h2⟩:=iK.1 hm;have h3:=a0S t'.o.byt (by rw[←b6W.o.1];exact h1);exact⟨h2,h3.1,h3.2⟩
     have bSK:∀j,j<oN.length→∃sh':Nat,(oN.getD j (0,0)).2=sh'∧sh'<K.sn∧K.sn≤sh'+f:=fun j hj=>by
      have hv:=JR;unfold mW at hv;simp only[bK,decide_eq_true_eq]at hv;have h1:=dI.1 hv.2 sh (cZ.2 (by simp[kK];rw[yB.o];exact b0O));rw[y9 (by rw[yB.o];exact b0O),c0O.o]at h1;unfold mR at h1;simp only[bK]at h1;have h2:=dI.1 h1.1.1 j (cZ.2 hj);unfold tQ at h2;simp only[bK]at h2;have h3:=h2.1.2;unfold NN at h3;simp only[bK,decide_eq_true_eq,kK,dF,yB.o]at h3;exact⟨(oN.getD j (0,0)).2.toNat,by omega,by omega,by omega⟩
     have aRD:=b4T.o;have bI1:=bHW.o;rw[hnt]at aRD;rw[hnp]at bI1;rw[hnt,hnp];clear b4T bHW;obtain⟨b1D,b5L,bI2,b2B,bSL,bAW,a6P,bSM⟩:=aP hR5 hRD hnt hnp hvl bSK aRD bI1;clear hR5 hRD hnt hnp hvl bSK aRD bI1;clear QO;go_wp2_with (go_at_call 143;refine(lJ _ _ _).mono ?_;rintro e w3 ⟨rfl,rfl⟩;simp only[mF,mG])
     go_loopw [95] (fun iv wr=>∃(i:Nat) (si:St) (EN:Value) (tki:List Nat) (vs:Value) (subs:List (Int×jY f)),i≤nt∧iv= .int .i64 i∧Hid (loopS (vF (rV K.z K.o (kK K.zs) f) zG) ((VO zG es).drop i) (subs,si)=RD)∧Hid (Pk K w.heap.size B B2 w.heap.size gs w w4 sv sv3 #[.slice la ln lc,.int .i64 sat,.int .i64 kC,.int .i64 oM] si EN tki vt vs (.slice none 0 0) tags wr)∧Hid (oP (Xv EN) B2 wr f vs subs)∧subs.length≤i) (fun iv _=>nt - (intOf iv).toNat)
     case atStart=>exact⟨0,si,EN,tki,_, [],by omega,rfl,by rw[gL];exact b5L,TT,aA ⟨[],rfl,⟨lC _ _ _ _,fun k e=>by cases e⟩,(fun d hd=>by cases hd),fun i hi=>by cases hi⟩,by simp⟩
     case round=>
      obtain⟨i,si,EN,tki,vs,subs,hi,rfl,hlp,TT,hsu,aMA⟩:=hrel;by_cases kY:i<nt
      ·have bSN:=(a6P.o.keep TT.o.kp (iG hB2.symm)).sl.2;obtain⟨be,oe,rfl,hbe,fe⟩:=bSN.elem nT aH (0,0,0,0) kY;have hvi:=bSL.o i kY;have hdc:(VO zG es).drop i=(VO zG es).getD i (0,0,0,0)::(VO zG es).drop (i+1):=by rw[List.drop_eq_getElem_cons (by rw[bI2.o];exact kY),kF (by rw[bI2.o];exact kY)]
       obtain⟨⟨x1,x2,x3,x4⟩,hx⟩:∃x,(VO zG es).getD i (0,0,0,0)=x:=⟨_,rfl⟩;rw[hx]at fe hvi hdc;have f0:=fe 0 _ rfl;have f1:=fe 1 _ rfl;have f2:=fe 2 _ rfl;have f3:=fe 3 _ rfl;simp only[dB]at f0 f1 f2 f3;simp only at hvi;clear fe bSN;have CY:(i:Int)<nt:=by omega
       obtain⟨aRZ,TV⟩:=aJ hdc hx;clear hdc hx;go_upto_region 16 with fail
       have be5:=kG.new wr 55 #[.int .i64 x1,.int .i64 x2,.int .i64 x3,.int .i64 x4];have kU:=aD wr (.cells #[.int .i64 x1,.int .i64 x2,.int .i64 x3,.int .i64 x4] 55);have YU:=TT.o.later kU;have b1E:=hsu.o.keep (Kp.later kU);have bSA:B2≤wr.heap.size:=TT.o.sz;have hvs:∀k,vs.ownBlock=some k→k<wr.heap.size:=fun k e=>by obtain⟨_,_,h,_⟩:=hsu.o;exact(h.1.lt k e).2
       clear f0 f1 f2 f3 kU;generalize wr.alloc (.cells #[.int .i64 x1,.int .i64 x2,.int .i64 x3,.int .i64 x4] 55)=w5 at*;generalize wr.heap.size=ge at*;have c0:=YU.bS.cell (i:=0) rfl;have aWQ:=be5.lt;have bI3:=IU.o.mono YU.ok.old;have HC:=aE0 214 (.inr rfl) (.pointer (some ⟨ge,0,none⟩)) la ln lc oN (fun y=>y.1==x1) w5 bI3 (fun W y hW=>aWN y ge x1 W (late hW aWQ (be5.cell rfl)) (dD aWQ hW.size));have bAX:(oN.any fun y=>y.1==x1)=true:=by have h:=hvi.1;rw[←bAP.o]at h;exact h
       have hfp:0≤fst (fun(y:Lk)=>y.1==x1) oN:=of_decide_eq_true ((EL (p:=fun(y:Lk)=>y.1==x1) (l:=oN)).trans bAX);have hfl:fst (fun(y:Lk)=>y.1==x1) oN<(oN.length:Int):=by
        unfold fst;cases h:oN.findIdx? (fun(y:Lk)=>y.1==x1)with
        |none=>show(-1:Int)<_;omega
        |some j=>
         obtain⟨hj,_⟩:=gY.1 h;show(j:Int)<_;omega
       obtain⟨kk,hkk⟩:∃kk:Nat,fst (fun(y:Lk)=>y.1==x1) oN=kk:=⟨(fst (fun(y:Lk)=>y.1==x1) oN).toNat,by omega⟩;have b2Y:=bI3.xZ sO aH;have xK:kk<ln:=by omega
       obtain⟨sh',Z5,bAY,bAZ⟩:=bAW.o kk aG;obtain⟨bl,ol,bSO,D9,fl0⟩:=IU.o.elem sO aH (0,0) xK;have fl1:=fl0 1 _ rfl;rw[Z5]at fl1;rw[hkk]at HC;have c6W:(kk:Int)<ln:=by omega
       have GD:∀subs si,vF (rV K.z K.o (kK K.zs) f) zG (subs,si) (x1,x2,x3,x4)=match rV K.z K.o (kK K.zs) f x4 (sh':Int) si with
         | .error e=> .error e
         | .ok ((d,next),s')=>if next=0 then .ok (subs++ [(x1,d)],s')else .error 2:=fun subs si=>by
        unfold vF;rw[if_pos hvi.1];have e:(zG.1.getD (fst (fun(y:Lk)=>y.1==x1) zG.1).toNat (0,0)).2=(sh':Int):=by rw[←bAP.o];show(oN.getD (fst (fun(y:Lk)=>y.1==x1) oN).toNat (0,0)).2=_;rw[hkk,cB,Z5]
        show(match rV K.z K.o (kK K.zs) f x4 (zG.1.getD (fst (fun(y:Lk)=>y.1==x1) zG.1).toNat (0,0)).2 si with| .error e=>_| .ok ((d,next),s')=>_)=_
        rw[e]
       clear bAX hfp hfl hkk b2Y fl0 bI3;obtain⟨WO,b0S,M7,aI1,a0U,c3W,bSP,c0S⟩:=aP HC be5 YU b1E GD Z5 bSO hvs;clear HC be5 YU b1E GD Z5 bSO hvs;go_wp2_with fail
       refine WO.o.mono ?_;rintro e w6 ⟨rfl,vU⟩;have be6:=b0S.o.late vU;have RG:=M7.o.later vU;have bSQ:=aI1.o.keep (Kp.later vU);clear c0 vU WO b0S M7 aI1;obtain⟨Ty3,f3,aGM,hp3,aM2⟩:=K7 (fun W=>Below K.w0.heap.size K.w0 W∧kG W gs 35 #[.slice la ln lc,.int .i64 sat,.int .i64 kC,.int .i64 oM]∧kG W ge 55 #[.int .i64 x1,.int .i64 x2,.int .i64 x3,.int .i64 x4]) w6 ⟨RG.ok.old,RG.bS,be6⟩;have d0:∀s,(f3 s).cell? ⟨gs,0,none⟩=some (.slice (some ⟨bl,ol,none⟩) ln lc):=fun s=>by rw[←bSP.o];exact(hp3 s).2.1.cell rfl
       have d3:∀s,(f3 s).cell? ⟨ge,3,none⟩=some (.int .i64 x4):=fun s=>(hp3 s).2.2.cell rfl;have d4:∀s,(f3 s).cell? ⟨bl,ol+kk*2+1,none⟩=some (.int .i64 sh'):=fun s=>by have h:=(hp3 s).1;exact late (h.mono (aY _)) D9 fl1
       have RJ:=(bF w6.heap.size w6).drew;obtain⟨RI,hRI⟩:=aC (rV K.z K.o (kK K.zs) f x4 (sh':Int) si);have bB0:∀r s',RI= .ok (r,s')→Inv K.n s':=fun r s' e=>by
        have h:=a6I (hRI.trans e) (by rw[oC.o];exact RG.inv);rw[oC.o]at h;exact h
       have hIH:=IH'.o x4 sh' si EN tki;rw[hRI]at hIH;have bI4:=a0U.o subs si;rw[hRI]at bI4;have aHZ:=RG.later RJ;have HS:=aA (aM2 w6.drew ⟨aHZ.ok.old,aHZ.bS,be6⟩);have bSR:=bSQ.keep (Kp.later RJ);have bed:kG w6.drew ge 55 #[.int .i64 x1,.int .i64 x2,.int .i64 x3,.int .i64 x4]:=be6;have c0R:w6.drew.heap.size=w6.heap.size:=rfl;have c6X:ge<w6.heap.size:=be6.lt;have hBB:=BZ.o.bb;have hgB:=BZ.o.gd2;have c0T:B2≤w6.heap.size:=aHZ.sz;clear RJ be6 RG bSQ fl1 hRI;obtain⟨a4I,NK,DR,aI2,a8T,b1F,aAC,a7R⟩:=aP hp3 aM2 aHZ bSR bed hIH bI4 bB0;clear hp3 aM2 aHZ bSR bed hIH bI4 bB0;go_upto_region 17 with fail
       go_cut [19,20]from 103 to 115 (fun v u wx=>∃(g19:Nat) (d:jY f) (next:Int) (s7:St) (YP:Value) (tk7:List Nat) (dz:Dz),v= .pointer (some ⟨g19,0,none⟩)∧u= .int .i64 next∧Hid (RI= .ok ((d,next),s7))∧Hid (Pk K w.heap.size B B2 w.heap.size gs w w4 sv sv3 #[.slice la ln lc,.int .i64 sat,.int .i64 kC,.int .i64 oM] s7 YP tk7 vt vs (.slice none 0 0) tags wx)∧Hid (oP (Xv YP) B2 wx f vs subs)∧Hid (nX (Xv YP) w6.heap.size wx f d dz)∧Hid (kG wx g19 26 #[dz.1,dz.2.1,dz.2.2])∧Hid (kG wx ge 55 #[.int .i64 x1,.int .i64 x2,.int .i64 x3,.int .i64 x4]))
       case first=>
        -- DEV{R17
        refine kR (S:=fun W=>∃s,W=f3 s) aF 16 rfl ?_;refine jZ [0,1,2,3,4,5,6,7,8] 7 aF aI aF aF aF HS.o ?_;simp only[jW,aW,aX,aU,aV];iterate 9 (go_big_quiet_step (fail))
        refine wpQuiet_nil ?_;refine vC 9 13 6 aF aF ?_ ?_;all_goals simp only[jW,aW,aX,aU,aV]
        case refine_1=>
         -- DEV{c6Y
         clear d0 d3 d4;go_wp2_with fail
         refine(b1F.o w6.drew DR.o.ok DR.o.inv hvi.2.1 hvi.2.2 bAY bAZ).mono ?_;rintro e w7 nW;cases RI with
         |error y=>
          obtain⟨rfl,zS,yJ⟩:=nW;have NI:=hlp.o;rw[aRZ.o,vK (aAC.o.trans rfl)]at NI;subst NI;obtain rfl:R= .error y:=by rw[←b1D.o]
          have IQ:=aA yJ;clear yJ;go_wp2_with fail
          refine ED ?_;go_wp2_with fail
          exact⟨rfl,rfl,zS,DR.o.mv.trans IQ.o⟩
         |ok ri=>
          obtain⟨⟨d,next⟩,s7⟩:=ri;obtain⟨YP,tk7,a0O,AV,dz,rfl,yU⟩:=nW;obtain⟨a1',n1',c1',a2',n2',c2',a3',n3',c3',rfl⟩:=yU.slices;simp only at yU;have TU:=DR.o.mv2 BZ.o AV a0O (a7R.o _ s7 rfl);have bO4:w6.heap.size≤w7.heap.size:=AV.size;have aD2:=aI2.o.keep (Kp.mv AV (show K.g<B2 by omega) (show K.gt<B2 by omega));have aD3:=a8T.o.mv AV (show ge≠K.g by omega) (show ge≠K.gt by omega) (fun e=>lF DR.o.ok.spot a8T.o aH e);have HS:=aA (NK.o w7 ⟨a0O.old,TU.bS,aD3⟩);clear AV a0O DR aI2 a8T b1F aAC a7R;obtain⟨U8,b1G,aOH,a0P⟩:=aL TU aD2 aD3 yU;clear TU aD2 aD3 yU;go_wp2_with fail
          first|refine Mid.mk ⟨HS.o,?_⟩|refine Mid.mk ?_
          refine jZ [10,11,12] 3 aF aI aF aF aF HS.o ?_;simp only[jW,aW,aX,aU,aV];iterate 3 (go_big_quiet_step (fail))
          refine wpQuiet_nil ?_;refine jX 13 2 aF aF ?_;simp only[jW,aW,aX,aU,aV];go_wp2_with fail
          have kU:=aD w7 (.cells #[.slice none 0 0,.slice none 0 0,.slice none 0 0] 26);have NJ:=U8.o.later kU;have bI5:=aOH.o.late kU;have b19:=kG.new w7 26 #[.slice none 0 0,.slice none 0 0,.slice none 0 0];obtain⟨w8,hw8⟩:=aC (w7.alloc (.cells #[.slice none 0 0,.slice none 0 0,.slice none 0 0] 26));rw[hw8]at kU NJ bI5 b19;rw[hw8];obtain⟨g19,aD4⟩:∃g,w7.heap.size=g:=⟨_,rfl⟩;rw[aD4]at b19;rw[aD4];have HS:=aA (NK.o w8 ⟨NJ.ok.old,NJ.bS,bI5⟩);have p0:=b19.cell (i:=0) rfl;have p1:=b19.cell (i:=1) rfl;have p2:=b19.cell (i:=2) rfl;have y0:=b19.frozen 0;have y1:=b19.frozen 1;have y2:=b19.frozen 2;clear hw8 NJ bI5;obtain⟨qR,b6M,aOI⟩:=aK kU b19 aD4;clear kU b19 aD4;first|refine Mid.mk ⟨HS.o,?_⟩|refine Mid.mk ?_
          refine jX 14 1 aF aF ?_;simp only[jW,aW,aX,aU,aV];go_wp2_with fail
          have b1H:=lT qR.o (iG aOI.o) (.slice a1' n1' c1') (.slice a2' n2' c2') (.slice a3' n3' c3');have b1I:=b6M.o.D5 (.slice a1' n1' c1') (.slice a2' n2' c2') (.slice a3' n3' c3');have OA:=U8.o.later b1H;have a7S:=b1G.o.keep (Kp.later b1H);have aM3:=aOH.o.late b1H;have a1K:=a0P.o.keep (Kp.later b1H);have HS:=aA (NK.o _ ⟨OA.ok.old,OA.bS,aM3⟩);clear p0 p1 p2 y0 y1 y2 b1H;obtain⟨b1J,b1K,b1L,b1M,a0Q⟩:=aM b1I OA a7S aM3 a1K;clear b1I OA a7S aM3 a1K;refine Mid.mk ⟨HS.o,?_⟩;refine jZ [15] 0 aF aI aF aF aF HS.o ?_;simp only[jW,aW,aX,aU,aV];iterate 1 (go_big_quiet_step (fail))
          refine wpQuiet_nil ?_;refine kH aF ?_;go_wp2_with fail
          go_meet
          exact⟨g19,d,next,s7,YP,tk7,(.slice a1' n1' c1',.slice a2' n2' c2',.slice a3' n3' c3'),rfl,rfl,aA rfl,b1K,b1L,a0Q,b1J,b1M⟩
         -- }DEV
        case refine_2=>
         -- DEV{c6Z
         clear d0 d3 d4;go_wp2_with fail
         have kU:Below w6.drew.heap.size w6.drew (w6.alloc (.cells #[.slice none 0 0,.slice none 0 0,.slice none 0 0] 26)).drew:=aD w6.drew (.cells #[.slice none 0 0,.slice none 0 0,.slice none 0 0] 26);have b19:kG (w6.alloc (.cells #[.slice none 0 0,.slice none 0 0,.slice none 0 0] 26)).drew w6.heap.size 26 #[.slice none 0 0,.slice none 0 0,.slice none 0 0]:=kG.new w6 _ _;have b1N:=DR.o.later kU;have bI6:=aI2.o.keep (Kp.later kU);have b6N:=a8T.o.late kU;have bSS:∀k,EN.ownBlock=some k→k<w6.heap.size:=fun k e=>(DR.o.ok.spot.lt k e).2;obtain⟨wa,hwa⟩:∃wa,(w6.alloc (.cells #[.slice none 0 0,.slice none 0 0,.slice none 0 0] 26)).drew=wa:=⟨_,rfl⟩;rw[hwa]at kU b19 b1N bI6 b6N;rw[hwa];have bST:w6.heap.size≤wa.heap.size:=kU.size;have HS:=aA (NK.o wa ⟨b1N.ok.old,b1N.bS,b6N⟩);clear hwa kU;obtain⟨b6M,aAD,bB1,b1O,bSU⟩:=aM b19 b1N bI6 b6N bSS;clear b19 b1N bI6 b6N bSS;first|refine Mid.mk ⟨HS.o,?_⟩|refine Mid.mk ?_
         refine jX 9 5 aF aF ?_;simp only[jW,aW,aX,aU,aV];go_wp2_with fail
         refine(b1F.o wa aAD.o.ok aAD.o.inv hvi.2.1 hvi.2.2 bAY bAZ).mono ?_;rintro e w7 nW;cases RI with
         |error y=>
          obtain⟨rfl,zS,yJ⟩:=nW;have NI:=hlp.o;rw[aRZ.o,vK (aAC.o.trans rfl)]at NI;subst NI;obtain rfl:R= .error y:=by rw[←b1D.o]
          have IQ:=aA yJ;clear yJ;go_wp2_with fail
          refine ED ?_;go_wp2_with fail
          exact⟨rfl,rfl,zS,aAD.o.mv.trans IQ.o⟩
         |ok ri=>
          obtain⟨⟨d,next⟩,s7⟩:=ri;obtain⟨YP,tk7,a0O,AV,dz,rfl,yU⟩:=nW;obtain⟨a1',n1',c1',a2',n2',c2',a3',n3',c3',rfl⟩:=yU.slices;simp only at yU;have TU:=aAD.o.mv2 BZ.o AV a0O (a7R.o _ s7 rfl);have aD2:=bB1.o.keep (Kp.mv AV (show K.g<B2 by omega) (show K.gt<B2 by omega));have aD3:=b1O.o.mv AV (show ge≠K.g by omega) (show ge≠K.gt by omega) (fun e=>lF aAD.o.ok.spot b1O.o aH e);have YV:=b6M.o.mv AV (show w6.heap.size≠K.g by omega) (show w6.heap.size≠K.gt by omega) (fun e=>by have:=bSU.o _ e;omega);have HS:=aA (NK.o w7 ⟨a0O.old,TU.bS,aD3⟩);have yU:=yU.mono bST;clear AV a0O DR aI2 a8T b1F aAC a7R aAD bB1 b1O b6M;obtain⟨g19,aD4⟩:∃g,w6.heap.size=g:=⟨_,rfl⟩;rw[aD4]at YV;rw[aD4];have p0:=YV.cell (i:=0) rfl;have p1:=YV.cell (i:=1) rfl;have p2:=YV.cell (i:=2) rfl;have y0:=YV.frozen 0;have y1:=YV.frozen 1;have y2:=YV.frozen 2;obtain⟨U8,b1G,aOH,a0P,aI3,aOI⟩:=aN TU aD2 aD3 yU YV aD4;clear TU aD2 aD3 yU YV aD4;go_wp2_with fail
          first|refine Mid.mk ⟨HS.o,?_⟩|refine Mid.mk ?_
          refine jZ [10,11,12] 2 aF aI aF aF aF HS.o ?_;simp only[jW,aW,aX,aU,aV];iterate 3 (go_big_quiet_step (fail))
          refine wpQuiet_nil ?_;refine jX 14 1 aF aF ?_;simp only[jW,aW,aX,aU,aV];go_wp2_with fail
          have mQ:=((((But.refl g19 w7).set 0 (.slice a1' n1' c1')).set 1 (.slice a2' n2' c2')).set 2 (.slice a3' n3' c3'));have b1I:=aI3.o.D5 (.slice a1' n1' c1') (.slice a2' n2' c2') (.slice a3' n3' c3');have OA:=U8.o.bM3 (vt':=vt) (a6K:=tags) BZ.o mQ (by have:=aOI.o;omega) (lF U8.o.ok.spot aI3.o aH) hB2 rfl (U8.o.tg.D7 mQ aI3.o);have a7S:=b1G.o.D7 mQ aI3.o;have aM3:=aOH.o.but mQ (show ge≠g19 by have:=aOI.o;omega);have a1K:=a0P.o.D7 mQ aI3.o;have HS:=aA (NK.o _ ⟨OA.ok.old,OA.bS,aM3⟩);clear p0 p1 p2 y0 y1 y2 mQ;obtain⟨b1J,b1K,b1L,b1M,a0Q⟩:=aM b1I OA a7S aM3 a1K;clear b1I OA a7S aM3 a1K;refine Mid.mk ⟨HS.o,?_⟩;refine jZ [15] 0 aF aI aF aF aF HS.o ?_;simp only[jW,aW,aX,aU,aV];iterate 1 (go_big_quiet_step (fail))
          refine wpQuiet_nil ?_;refine kH aF ?_;go_wp2_with fail
          go_meet
          exact⟨g19,d,next,s7,YP,tk7,(.slice a1' n1' c1',.slice a2' n2' c2',.slice a3' n3' c3'),rfl,rfl,aA rfl,b1K,b1L,a0Q,b1J,b1M⟩
         -- }DEV
        -- }DEV
       case rest=>
        -- DEV{REST
        obtain⟨g19,d,next,s7,YP,tk7,dz,rfl,rfl,bI7,TU,aD2,yU,YV,aD3⟩:=hcut;rename World=>w7
        have aI4:=aAC.o;rw[bI7.o]at aI4;simp only at aI4;have NI:=hlp.o;rw[aRZ.o]at NI;clear b1F aAC a7R DR aI2 a8T NK a4I HS d0 d3 d4;by_cases KE:next=0
        ·have dn:(next==0)=true:=by simp[KE]
         rw[if_pos KE]at aI4;rw[EO aI4]at NI;obtain⟨a1',n1',c1',a2',n2',c2',a3',n3',c3',rfl⟩:=yU.o.slices;simp only at YV;obtain⟨dsz,aGT,aD5,_,_⟩:=aD2.o;rw[aGT]at aD5;obtain⟨as_,cs,rfl⟩:=FV aD5.1;have b1P:=aD5.1;have bSV:=aD5.2;have t0:=aD3.o.cell (i:=0) rfl;have q1:=TU.o.bD.cell (i:=1) rfl;have e0:=YV.o.cell (i:=0) rfl;have e1:=YV.o.cell (i:=1) rfl;have e2:=YV.o.cell (i:=2) rfl;clear KE aI4 aGT aD5 bI7;have kU:=aD w7 (.cells #[.int .i64 x1,.slice a1' n1' c1',.slice a2' n2' c2',.slice a3' n3' c3'] 28);have NJ:=TU.o.later kU;have b1Q:=aD2.o.keep (Kp.later kU);have aA9:=yU.o.keep (Kp.later kU);have zC:=l6 b1P kU;have C8:Sl (w7.alloc (.cells #[.int .i64 x1,.slice a1' n1' c1',.slice a2' n2' c2',.slice a3' n3' c3'] 28)) (some ⟨w7.heap.size,0,none⟩) 1 1 4 (sbC (x1,(.slice a1' n1' c1',.slice a2' n2' c2',.slice a3' n3' c3'))):=Sl.new w7 28 4 1 #[.int .i64 x1,.slice a1' n1' c1',.slice a2' n2' c2',.slice a3' n3' c3'] (0,0) aG rfl;have b0Z:=NJ.sz;have b1A:(Value.slice as_ subs.length cs).ownBlock≠some w.heap.size:=lF zC NJ.bD aH;clear kU TU aD2 yU;obtain⟨b0Y,bI8,bB6,FH,aI5,aCX,EF,NP,bSW,bSX⟩:=aR NI b1P bSV NJ b1Q aA9 zC C8 b1A b0Z;clear NI b1P bSV NJ b1Q aA9 zC C8 b1A b0Z;go_wp2_with (first|(go_at_call 143;refine(lJ _ _ _).mono ?_;rintro e w3 ⟨rfl,rfl⟩;simp only[mF,mG])|(at_builtin;refine mU rfl _ _ 23 rfl B2 28 i1 z1 4 80 Tryz.underlying23 hi1 hy hy1 hy2 hy3 aH (.slice as_ subs.length cs) subs.length _ rfl EF.o ⟨w7.heap.size,0,none⟩ 1 1 (sbC (x1,(.slice a1' n1' c1',.slice a2' n2' c2',.slice a3' n3' c3'))) rfl NP.o (aKL _ _ _ _ _ _ _ _ _ _) aG aH bSX.o ?_;intro a9 c9 w9 ob hg9 TK;have bD9:=FH.o.bD.grown hg9 bSW.o;have q1:=bD9.cell (i:=1) rfl;have y1:=bD9.frozen 1;obtain⟨BD9,Ob,O9,Ho9⟩:=aL bD9 ob hg9 TK;clear ob hg9 TK bD9))
         clear t0 e0 e1 e2 bI8;generalize w7.alloc (.cells #[.int .i64 x1,.slice a1' n1' c1',.slice a2' n2' c2',.slice a3' n3' c3'] 28)=w8 at*;have hX9:∀k,(Value.slice a9 (subs.length+1) c9).ownBlock=some k→¬Xv YP k:=fun k e h=>by
          rcases Ho9.o k e with h1|h1
          ·exact bB6.o k h1 h
          ·have:=(FH.o.ok.spot.lt k h).2;omega
         have mQ:=(But.refl w.heap.size w9).set 1 (.slice a9 (subs.length+1) c9);have b1B:=QH FH.o.tg EF.o O9.o aH aH;have aI0:=FH.o.app BZ.o O9.o (fun r e=>⟨(EF.o.lt r e).1,fun h=>bB6.o r e h⟩) hB2 rfl mQ (BD9.o.set 1 (.slice a9 (subs.length+1) c9)) b1B;have bB7:nX (fun k=>Xv YP k∨(Value.slice as_ subs.length cs).ownBlock=some k) B2 w8 f d (.slice a1' n1' c1',.slice a2' n2' c2',.slice a3' n3' c3'):=(aCX.o.keep (Kp.same (fun k hB hk hx e=>e.elim hx (fun e=>by have:=c0S.o k e;omega)))).mono c0T;have a7S:=oP.snoc (t:=x1) (v':= .slice a9 (subs.length+1) c9) aI5.o rfl O9.o Ho9.o (fun ds2 h2=>by rw[SI h2 EF.o];exact Ob.o) hX9 (a0D _ _ _ _ _ _ _ _ _) bB7;have bB8:=a7S.D7 mQ BD9.o;clear bB7 a7S b1B hX9 mQ q1 y1 Ob O9 Ho9 BD9 FH aI5 aCX EF NP;obtain⟨aM1,bI9⟩:=aJ aI0 bB8;clear aI0 bB8;go_roundw
         case rel=>exact⟨i+1,s7,YP,tk7,.slice a9 (subs.length+1) c9,subs++ [(x1,d)],by omega,by go_num,b0Y,aM1,bI9,by simp;omega⟩
         case measure=>simp[intOf];omega
        ·have dn:(next==0)=false:=by simp[KE]
         rw[if_neg KE]at aI4;rw[vK aI4]at NI;subst NI;obtain rfl:R= .error 2:=by rw[←b1D.o]
         clear KE aI4 bI7;go_wp2_with (go_at_call 143;refine(lJ _ _ _).mono ?_;rintro e w3 ⟨rfl,rfl⟩;simp only[mF,mG])
         exact⟨rfl,rfl,YP,TU.o.mv⟩
        -- }DEV
      ·have hie:i=nt:=by omega
       have M8:=hlp.o;rw[iB (by rw[bI2.o];omega)]at M8;simp only[loopS]at M8;subst M8;subst hie;have hR6:=b1D.o;simp only at hR6;clear hlp b1D b5L IH' bSL bAW a6P;obtain⟨zsT,c0U,bB9⟩:=TT.o.tg.own;obtain⟨av,cv,rfl⟩:=FV bB9;obtain⟨dsz,aGT,aD5,_,_⟩:=hsu.o;rw[aGT]at aD5;obtain⟨as_,cs,rfl⟩:=FV aD5.1;clear c0U bB9 aGT aD5;have hA2:w.heap.size≤B2:=by have h1:=BZ.o.gd1;have h2:=BZ.o.gd2;have h3:=BZ.o.bb;omega
       have hwm:IntKind.i64.wrap (12*(es.length:Int))=12*es.length:=by rw[bJ];omega
       have hwp:=aB (p+2) aG;have hwq:IntKind.i64.wrap (p+2+12*(es.length:Int))=p+2+12*es.length:=by rw[bJ];omega
       have HN:∀W,Sl W K.a K.n K.c 1 (ints .u8 K.z)→Calls Tryz.prog 209 #[.agg #[.slice K.a K.n K.c,.int .i64 K.o],.int .i64 (p+2+12*es.length),.int .i64 4] W fun e w'=>e= .returned (.int .i64 (mM K.z (p+2+12*es.length) 4 K.o))∧Below W.heap.size W w':=fun W h=>LX K.a K.n K.c K.z K.o (p+2+12*es.length) 4 W h t'.o.byt;obtain⟨nxv,bSY⟩:∃v,mM K.z (p+2+12*es.length) 4 K.o=v:=⟨_,rfl⟩;rw[bSY]at HN hR6;clear bSY;obtain⟨HN',aL1⟩:=aJ HN hR6;clear HN hR6;by_cases TA:np=2
       ·skip
        -- DEV{PAIR
        have d5:((np:Int)==2)=true:=by simp;omega
        have c71:(0:Int)<(np:Int):=by omega
        have c73:(1:Int)<(np:Int):=by omega
        have d6:decide ((0:Int)<(np:Int))=true:=by simp;omega
        have d7:decide (0<np)=true:=by simp;omega
        have d8:decide ((1:Int)<(np:Int))=true:=by simp;omega
        have d9:decide (1<np)=true:=by simp;omega
        have bTW:=(bSM.o.keep TT.o.kp (iG hB2.symm)).sl.2;obtain⟨X,Y,hXY⟩:∃X Y,sG zG es= [X,Y]:=by
         have h:=b2B.o;rw[TA]at h
         match hq:sG zG es,h with
         | [X,Y],_=>exact⟨X,Y,rfl⟩
        have hmX:∀Z∈sG zG es,0≤Z.2.2.2∧Z.2.2.2≤4294967295:=fun Z hZ=>by
         unfold sG at hZ;exact a0S t'.o.byt (by rw[←b6W.o.1];exact(iK.1 hZ).1)
        obtain⟨be,oe,rfl,hbe,fe⟩:=bTW.elem nT aH (0,0,0,0) (show 0<np by omega);obtain⟨be',oe',hae,_,fe'⟩:=bTW.elem nT aH (0,0,0,0) (show 1<np by omega);injection hae with hae;injection hae with c0V c0W _;subst c0V c0W;rw[hXY]at fe fe' hmX;obtain⟨X1,X2,X3,X4⟩:=X;obtain⟨Y1,Y2,Y3,Y4⟩:=Y;have hX4:=hmX (X1,X2,X3,X4) (by simp);have hY4:=hmX (Y1,Y2,Y3,Y4) (by simp);simp only at hX4 hY4;have nE:=aRW (z:=K.z) (no:=s.no) (s:=si) hXY;rw[oC.o]at nE;simp only at nE;have f3:=fe 3 _ rfl;have f3':=fe' 3 _ rfl;simp only[dB,fM]at f3;have f4':wr.cell? ⟨be,oe+4+3,none⟩=some (.int .i64 Y4):=f3';have f5':wr.cell? ⟨be,oe+7,none⟩=some (.int .i64 Y4):=f3';clear fe fe' hmX hXY TA hp1;have sS:=aA nE;clear nE
        go_upto_region 22 with fail
        go_cut [21,22]from 132 to 139 (fun v u wx=>v= .int .i64 X4∧u= .int .i64 Y4∧∃m,wx=wr.drewN m)
        case first=>
         go_quiet (fail)
         go_wp2_with fail
         go_meet
         exact⟨rfl,rfl,_,rfl⟩
        case rest=>
         obtain⟨rfl,rfl,mm,hwx⟩:=hcut;rename World=>w5
         have AQ:Below wr.heap.size wr w5:=by rw[hwx];exact below_drewN (bF _ _) _
         have YU:=TT.o.later AQ;have b1E:=hsu.o.keep (Kp.later AQ);clear hwx AQ f3 f3' f4' f5' TT hsu d6 d7 d8 d9;by_cases hy0:0<Y4
         ·have dy:decide (0<Y4)=true:=by simp;omega
          obtain⟨XN,rfl⟩:∃n:Nat,X4=n:=⟨X4.toNat,by omega⟩;obtain⟨YN,rfl⟩:∃n:Nat,Y4=n:=⟨Y4.toNat,by omega⟩;have dyn:decide (0<YN)=true:=by have:=of_decide_eq_true dy;simp;omega
          have b6O:=sS.o;rw[if_pos hy0]at b6O;have HT:=QM K t'.o si EN tki w5 (4,s.no,0,(XN:Int),(YN:Int)) YU.ok XN YN rfl rfl aG aG (by have:=YU.inv.le;omega);obtain⟨T,hT⟩:=aC (oG K.n (4,s.no,0,(XN:Int),(YN:Int)) si);rw[hT]at HT b6O;have hR7:=aL1.o;rw[b6O]at hR7;clear b6O sS aL1 hy0;obtain⟨HT',M7,aI1,b6P⟩:=aL HT YU b1E hR7;clear HT YU b1E hR7;go_wp2_with (go_at_call 143;refine(lJ _ _ _).mono ?_;rintro e w3 ⟨rfl,rfl⟩;simp only[mF,mG])
          refine HT'.o.mono ?_;rintro e w8 nW;cases T with
          |error y=>
           obtain rfl:R= .error y:=by rw[←b6P.o]
           obtain⟨rfl,zS,yJ⟩:=nW;clear b6P hT HT';have IQ:=aA yJ;clear yJ;go_wp2_with fail
           exact⟨rfl,rfl,zS,M7.o.mv.trans IQ.o⟩
          |ok s8=>
           obtain⟨sv8,tk8,pV,yA,rfl⟩:=nW;have JF:XN+YN≤K.n:=by
            have:=SL hT;unfold WX zZ at this;simp at this;omega
           have bBA:Inv K.n s8:=M0 hT (by show(1:Int)≤YN;have:=of_decide_eq_true dy;omega) M7.o.inv;have NJ:=M7.o.mv2 BZ.o yA pV bBA;have b1Q:=aI1.o.keep (Kp.mv yA (show K.g<B2 by have:=BZ.o.bb;have:=BZ.o.gd2;omega) (show K.gt<B2 by have:=BZ.o.bb;have:=BZ.o.gd2;omega));have hR8:=b6P.o;simp only[cB]at hR8;have rW:=pV.a2G t'.o;have c74:=rW.le;obtain⟨a7,qU,hs7,EY⟩:=bBH (P:=Tryz.prog) (T:=24) (E:=5) (sz:=1) Tryz.underlying24 (fun W=>by kernel_rfl) rW (XN:Int) ((XN:Int)+YN) aG aG aG YN (K.c - XN) aG aG;rw[iH,iH,cB,show((ints .u8 K.z).drop XN).take YN=ints .u8 ((K.z.drop XN).take YN) by simp[ints,j3,List.map_drop]]at hs7;have hwa:IntKind.i64.wrap ((XN:Int)+YN)=XN+YN:=by rw[bJ];omega
           have k0:=pV.blk.cell (i:=0) rfl;have D9:((K.z.drop XN).take YN).length=YN:=by rw[eX,gF,oC.o];omega
           obtain⟨bz,yV⟩:∃l,(K.z.drop XN).take YN=l:=⟨_,rfl⟩;rw[yV]at hs7 hR8 D9;have HCl:=aKR a7 YN (K.c - XN) bz w8 hs7 aG;clear yV hs7 EY pV yA rW b6P hT HT' M7 aI1 bBA;obtain⟨FH,aI5,c0X,bSZ,vE⟩:=aM NJ b1Q hR8 HCl D9;clear NJ b1Q hR8 HCl D9;go_wp2_with fail
           refine bSZ.o.mono ?_;rintro e w9 ⟨a9,c9,rfl,xP,vP⟩;have OA:=FH.o.later vP;have a7S:=aI5.o.keep (Kp.later vP);have bT0:Ck (Xv sv8) w8.heap.size w9 (.slice a9 YN c9) 5 1 YN (ints .u8 bz):=⟨xP,fun k e h=>by have h1:=(xP.lt k e).1;have h2:=(FH.o.ok.spot.lt k h).2;omega⟩;have mQ:=(But.refl w.heap.size w9).set 2 (.slice a9 YN c9);have aXT:B2≤w8.heap.size:=FH.o.sz;have q2:=OA.bD.cell (i:=2) rfl;have y2:=OA.bD.frozen 2;have bT2:=OA.bM2 BZ.o mQ (OA.bD.set 2 (.slice a9 YN c9)) OA.tg rfl;have bT3:=a7S.D7 mQ OA.bD;have aM4:=zR bT0 mQ OA.bD aH;replace aM4:Ck (Xv sv8) w8.heap.size (w9.setCell ⟨w.heap.size,2,none⟩ (.slice a9 YN c9)) (.slice a9 YN c9) 5 1 bz.length (ints .u8 bz):=by rw[vE.o];exact aM4
           clear xP vP OA a7S bT0 mQ k0 bSZ FH aI5;obtain⟨YX,b1R,b1S⟩:=aK bT2 bT3 aM4;clear bT2 bT3 aM4;go_upto_region 26 with fail
           clear q2 y2;generalize w9.setCell ⟨w.heap.size,2,none⟩ (.slice a9 YN c9)=wE at*;have hA3:w.heap.size≤w8.heap.size:=by omega
           obtain rfl:R= .ok (((tags,subs,bz),nxv),s8):=c0X.o.symm;have a7T:=YX.o.ok;have HNN:=fun W (h:Below wE.heap.size wE W)=>HN'.o W ((a7T.a2G t'.o).mono h);have bDE:=YX.o.bD;obtain⟨Ty4,f4,b3Y,JE,VX⟩:=kM wE;have q0:=fun s=>(kG.late a7T.blk (JE s)).cell (i:=0) rfl;have q1:=fun s=>(kG.late a7T.blk (JE s)).cell (i:=1) rfl;have e0:=fun s=>(kG.late bDE (JE s)).cell (i:=0) rfl;have e1:=fun s=>(kG.late bDE (JE s)).cell (i:=1) rfl;have e2:=fun s=>(kG.late bDE (JE s)).cell (i:=2) rfl;obtain⟨HS,HD,b1T,bIA,bIB,bIC,aD6⟩:=aO (VX _ ((bF _ _).drew)) ((bF wE.heap.size wE).drew) a7T HNN bDE JE VX;clear a7T HNN bDE JE VX;go_wp2_with fail
           refine kR (S:=fun W=>∃s,W=f4 s) aF 14 rfl ?_;refine jZ [0,1,2,3,4,5,6,7,8,9,10] 3 aF aI aF aF aF HS.o ?_;simp only[jW,aW,aX,aU,aV];iterate 11 (go_big_quiet_step (fail))
           refine wpQuiet_nil ?_;refine jX 11 2 aF aF ?_;simp only[jW,aW,aX,aU,aV];clear q0 q1 e0 e1 e2;go_wp2_with fail
           refine(bIA.o _ HD.o).mono ?_;rintro e wz ⟨rfl,yV⟩;have yV:=HD.o.tm yV;have HS:=aA (aD6.o _ yV);have bDz:=bIB.o.late yV;have e0:=bDz.cell (i:=0) rfl;have e1:=bDz.cell (i:=1) rfl;have e2:=bDz.cell (i:=2) rfl;have y0:=bDz.frozen 0;have y1:=bDz.frozen 1;have y2:=bDz.frozen 2;obtain⟨aCO,FR⟩:=aJ bDz yV;clear bDz yV;go_wp2_with fail
           first|refine Mid.mk ⟨HS.o,?_⟩|refine Mid.mk ?_
           refine jX 12 1 aF aF ?_;simp only[jW,aW,aX,aU,aV];go_wp2_with fail
           first|rw[aCO.o.ZR]|skip
           first|refine Mid.mk ⟨HS.o,?_⟩|refine Mid.mk ?_
           refine jZ [13] 0 aF aI aF aF aF HS.o ?_;simp only[jW,aW,aX,aU,aV];iterate 1 (go_big_quiet_step (fail))
           refine wpQuiet_nil ?_;refine kH aF ?_;go_wp2_with fail
           refine bodyPost_ret (kJ rfl _ _ w.heap.size 26 #[.slice av tags.length cv,.slice as_ subs.length cs,.slice a9 YN c9] _ rfl aCO.o Tryz.underlying26 rfl aF) rfl ?_;have hkz:=fun B=>Kp.later (X:=Xv sv8) (B:=B) FR.o;exact⟨sv8,tk8,b1T.o.later FR.o,YX.o.mv.later FR.o,(.slice av tags.length cv,.slice as_ subs.length cs,.slice a9 YN c9),rfl,QI (YX.o.tg.keep (hkz _)) (b1R.o.keep (hkz _)) (b1S.o.keep (hkz _)) hA2 hA3⟩
         ·have dy:decide (0<Y4)=false:=by simp;omega
          obtain rfl:R= .error 6:=by rw[←aL1.o,sS.o,if_neg hy0]
          clear hy0 sS;have M7:=aA YU;clear YU;go_wp2_with (go_at_call 143;refine(lJ _ _ _).mono ?_;rintro e w3 ⟨rfl,rfl⟩;simp only[mF,mG])
          exact⟨rfl,rfl,EN,M7.o.mv⟩
        -- }DEV
       ·skip
        -- DEV{c0Y
        have d5:((np:Int)==2)=false:=by simp;omega
        have nE:=aRX (z:=K.z) (no:=s.no) (s:=si) (show(sG zG es).length≠2 by rw[b2B.o];exact TA);have hR8:=aL1.o;rw[nE]at hR8;simp only at hR8;obtain rfl:R= .ok (((tags,subs, []),nxv),si):=hR8.symm;have aM4:Ck (Xv EN) w.heap.size wr (.slice none 0 0) 5 1 ([]:List Int).length (ints .u8 []):=⟨lC _ _ _ _,fun k e=>by cases e⟩;have hA3:w.heap.size≤w.heap.size:=aY _;have YX:=TT;have b1R:=hsu;clear TT hsu;generalize wr=wE at*;clear nE hR8 aL1 hp1 TA;have b1S:=aA aM4;clear aM4;go_upto_region 26 with fail
        have a7T:=YX.o.ok;have HNN:=fun W (h:Below wE.heap.size wE W)=>HN'.o W ((a7T.a2G t'.o).mono h);have bDE:=YX.o.bD;obtain⟨Ty4,f4,b3Y,JE,VX⟩:=kM wE;have q0:=fun s=>(kG.late a7T.blk (JE s)).cell (i:=0) rfl;have q1:=fun s=>(kG.late a7T.blk (JE s)).cell (i:=1) rfl;have e0:=fun s=>(kG.late bDE (JE s)).cell (i:=0) rfl;have e1:=fun s=>(kG.late bDE (JE s)).cell (i:=1) rfl;have e2:=fun s=>(kG.late bDE (JE s)).cell (i:=2) rfl;obtain⟨HS,HD,b1T,bIA,bIB,bIC,aD6⟩:=aO (VX _ ((bF _ _).drew)) ((bF wE.heap.size wE).drew) a7T HNN bDE JE VX;clear a7T HNN bDE JE VX;go_wp2_with fail
        refine kR (S:=fun W=>∃s,W=f4 s) aF 14 rfl ?_;refine jZ [0,1,2,3,4,5,6,7,8,9,10] 3 aF aI aF aF aF HS.o ?_;simp only[jW,aW,aX,aU,aV];iterate 11 (go_big_quiet_step (fail))
        refine wpQuiet_nil ?_;refine jX 11 2 aF aF ?_;simp only[jW,aW,aX,aU,aV];clear q0 q1 e0 e1 e2;go_wp2_with fail
        refine(bIA.o _ HD.o).mono ?_;rintro e wz ⟨rfl,yV⟩;have yV:=HD.o.tm yV;have HS:=aA (aD6.o _ yV);have bDz:=bIB.o.late yV;have e0:=bDz.cell (i:=0) rfl;have e1:=bDz.cell (i:=1) rfl;have e2:=bDz.cell (i:=2) rfl;have y0:=bDz.frozen 0;have y1:=bDz.frozen 1;have y2:=bDz.frozen 2;obtain⟨aCO,FR⟩:=aJ bDz yV;clear bDz yV;go_wp2_with fail
        first|refine Mid.mk ⟨HS.o,?_⟩|refine Mid.mk ?_
        refine jX 12 1 aF aF ?_;simp only[jW,aW,aX,aU,aV];go_wp2_with fail
        first|rw[aCO.o.ZR]|skip
        first|refine Mid.mk ⟨HS.o,?_⟩|refine Mid.mk ?_
        refine jZ [13] 0 aF aI aF aF aF HS.o ?_;simp only[jW,aW,aX,aU,aV];iterate 1 (go_big_quiet_step (fail))
        refine wpQuiet_nil ?_;refine kH aF ?_;go_wp2_with fail
        refine bodyPost_ret (kJ rfl _ _ w.heap.size 26 #[.slice av tags.length cv,.slice as_ subs.length cs,.slice none 0 0] _ rfl aCO.o Tryz.underlying26 rfl aF) rfl ?_;have hkz:=fun B=>Kp.later (X:=Xv EN) (B:=B) FR.o;exact⟨EN,tki,b1T.o.later FR.o,YX.o.mv.later FR.o,(.slice av tags.length cv,.slice as_ subs.length cs,.slice none 0 0),rfl,QI (YX.o.tg.keep (hkz _)) (b1R.o.keep (hkz _)) (b1S.o.keep (hkz _)) hA2 hA3⟩;-- }DEV
theorem b6Q (K:WkS) (t:WkT K) (ho:K.o=1∨K.o=2) (JR:mW (kK K.zs)=true) (f:Nat):∀(p:Int) (sh:Nat) (s:St) (sv:Value) (tk:List Nat) (w:World),zJ K s sv tk w→Inv K.n s→0≤p→p≤4294967295→sh<K.sn→K.sn≤sh+f→
  Calls Tryz.prog 145 #[.pointer (some ⟨K.g,0,none⟩),.int .i64 p,.int .i64 sh] w (a1E K sv w (rV K.z K.o (kK K.zs) f p sh s) (aNI f w)):=by
 induction f with
 |zero=>
  intro p sh s sv tk w wP bIW h0 h1 h2 h3;omega
 |succ f ih=>exact b0N K t ho JR f ih
