import Derived.Test.YtceclmpmpldmlaaGreatCz35
set_option linter.unusedSimpArgs false
set_option linter.unusedVariables false
namespace Go.Proofs.YtceclmpmpldmlaaGreat
open Go.RowKit Tt
theorem aGP {sh:lV} {es:List mK} {i:Nat} (h:i<es.length):mO sh (es.drop i)=if qQ sh (es.getD i (0,0,0,0)).1=true then mO sh (es.drop (i+1))else es.getD i (0,0,0,0)::mO sh (es.drop (i+1)):=by
 unfold mO;rw[List.drop_eq_getElem_cons h,List.filter_cons,jI h];cases hp:qQ sh es[i].1 <;> simp[hp]
theorem aMF {sh:lV} {es:List mK} {x:mK} {r:List mK} (h:mO sh es=x::r):qQ sh x.1=false:=by
 have:x∈mO sh es:=by rw[h];simp
 unfold mO at this;have h2:=(eZ.1 this).2;simpa using h2
theorem UK {z:List Int} (hb:mW z) {o p:Int} {k:Nat} {x:mK} (h:x∈uU z o p k):0≤x.2.2.2∧x.2.2.2≤4294967295:=by
 unfold uU at h;obtain⟨i,_,rfl⟩:=cB.1 h;have:=RO hb (p+2+12*i+8) 4 o;rw[show((4:Nat):Int)=4 from rfl,show(256:Int) ^ 4=4294967296 by decide]at this;exact⟨this.1,by have:=this.2;show kZ z (p+2+12*i+8) 4 o≤_;omega⟩
theorem aGQ {z:List Int} {o p no:Int} {s:St} {l:List mK} {s':St} (h:lM z o p no s= .ok (l,s')):l=uU z o p l.length∧1≤l.length∧l.length<65536∨¬mW z:=by
 by_cases hb:mW z
 ·refine .inl ?_;unfold lM at h;split at h
  ·split at h
   ·rename_i h0;cases ht:mH z.length (2,no,0,p,6+12*kZ z p 2 o) s with
    |error e=>rw[ht]at h;cases h
    |ok s1=>
     rw[ht]at h;simp only at h;split at h
     ·injection h with h
      injection h with h1 h2;have hv:=RO hb p 2 o;rw[show((2:Nat):Int)=2 from rfl,show(256:Int) ^ 2=65536 by decide]at hv;rw[←h1,UA];exact⟨rfl,by omega,by omega⟩
     ·cases h
   ·cases h
  ·cases h
 ·exact .inr hb
theorem UL {f:Nat} {rec:Int→Int→St→Except Int ((jD f×Int)×St)} {sh:lV}:∀{l:List mK} {acc:List (Int×jD f)×St},loopS (oJ rec sh) l acc=loopS (oJ rec sh) (OP sh l) acc
 | [],acc=>rfl
 |x::r,acc=>by
  unfold OP;rw[List.filter_cons];by_cases h:kT sh x.1=true
  ·rw[if_pos h];simp only[loopS];cases oJ rec sh acc x with
   |error e=>rfl
   |ok a=>exact UL
  ·rw[if_neg h];have e:oJ rec sh acc x= .ok acc:=by unfold oJ;rw[if_neg h]
   rw[yM e];exact UL
theorem aMG {z:List Int} {sh:lV} {l:List mK} {x y:mK} {no:Int} {s:St} (h:pY sh l= [x,y]):sQ z sh l no s=if 0<y.2.2.2 then
   match mH z.length (4,no,0,x.2.2.2,y.2.2.2) s with
   | .error e=> .error e
   | .ok s'=> .ok ((z.drop x.2.2.2.toNat).take y.2.2.2.toNat,s')
  else .error 6:=by
 unfold sQ;rw[show l.filter (fun x=> !kT sh x.1&&nY sh x.1)= [x,y]from h];rfl
theorem aMH {z:List Int} {sh:lV} {l:List mK} {no:Int} {s:St} (h:(pY sh l).length≠2):sQ z sh l no s= .ok ([],s):=by
 unfold sQ;split
 ·rename_i h2;exact absurd (show(pY sh l).length=2 by rw[show pY sh l=_ from h2];rfl) h
 ·rfl
theorem bAB:(Tryz.prog.info? 74).map (fun i=>(i.size,i.bytes))=some (4,48):=by kernel_rfl
theorem aZJ:(Tryz.prog.info? 74).map (fun i=>i.zero.map (fun z=>z.cells.size))=some (some 4):=by kernel_rfl
theorem bAC:(Tryz.prog.info? 28).map (fun i=>(i.size,i.bytes))=some (4,80):=by kernel_rfl
theorem aZK:(Tryz.prog.info? 28).map (fun i=>i.zero.map (fun z=>z.cells.size))=some (some 4):=by kernel_rfl
set_option maxRecDepth 30000 in
set_option maxHeartbeats 40000000 in
theorem aV0 (K:WkS) (t:WkT K) (ho:K.o=1∨K.o=2) (hval:l9 (jN K.zs)=true) (f:Nat)
  (IH:∀(p:Int) (sh:Nat) (s:St) (sv:Value) (tk:List Nat) (w:World),vL K s sv tk w→Inv K.n s→0≤p→p≤4294967295→sh<K.sn→K.sn≤sh+f→
   Calls Tryz.prog 145 #[.pointer (some ⟨K.g,0,none⟩),.int .i64 p,.int .i64 sh] w (V6 K sv w (nR K.z K.o (jN K.zs) f p sh s) (aIA f w)))
  (p:Int) (sh:Nat) (s:St) (sv:Value) (tk:List Nat) (w:World) (hok:vL K s sv tk w) (hinv:Inv K.n s) (h0:0≤p) (h1:p≤4294967295) (aV1:sh<K.sn) (bVQ:K.sn≤sh+(f+1)):
  Calls Tryz.prog 145 #[.pointer (some ⟨K.g,0,none⟩),.int .i64 p,.int .i64 sh] w (V6 K sv w (nR K.z K.o (jN K.zs) (f+1) p sh s) (aIA (f+1) w)):=by
  have hn:=t.n1;have hzl:=t.hs.nV;have hsl:=t.hsh.len;obtain⟨R,hR⟩:=aC (nR K.z K.o (jN K.zs) (f+1) p sh s);rw[hR];simp only[nR]at hR;rw[bU,tZ (by rw[hsl];exact aV1)]at hR;obtain⟨zz,hzz⟩:∃z,K.zs.getD sh wR=z:=⟨_,rfl⟩;have PY:=t.hsh.at aV1;rw[hzz]at hR PY;obtain⟨⟨la,ln,lc⟩,⟨nH,sat,jE,nD⟩⟩:=zz;simp only at hR PY;-- the directory's variable,the bKE copy
  have bD0:=jJ.new w 26 #[.slice none 0 0,.slice none 0 0,.slice none 0 0];have hbA:=aD w (.cells #[.slice none 0 0,.slice none 0 0,.slice none 0 0] 26);have a0X:=hok.later hbA;have hszA:(w.alloc (.cells #[.slice none 0 0,.slice none 0 0,.slice none 0 0] 26)).heap.size=w.heap.size+1:=by simp
  obtain⟨wA,hwA⟩:=aC (w.alloc (.cells #[.slice none 0 0,.slice none 0 0,.slice none 0 0] 26));rw[hwA]at bD0 hbA a0X hszA;obtain⟨no1,a5E⟩:∃n1,IntKind.i64.wrap (s.no+1)=n1:=⟨_,rfl⟩;rw[a5E]at hR;have hgA:K.g<w.heap.size:=hok.blk.lt;have bQO:K.gt<w.heap.size:=jJ.lt (T:=214) hok.tak;obtain⟨bb,oo,hsa,hbb,fe⟩:=((a0X.jN t).row).elem vN (by decide) wR aV1;rw[hzz]at fe;have f0:=fe 0 _ rfl;have f1:=fe 1 _ rfl;have f2:=fe 2 _ rfl;have f3:=fe 3 _ rfl;simp only[cK]at f0 f1 f2 f3;clear fe;obtain⟨Ty,ff,hne,hbel,jH⟩:=jR wA;have q2:∀s,(ff s).cell? ⟨K.g,2,none⟩=some (.slice (some ⟨bb,oo,none⟩) K.sn K.sc):=fun s=>by rw[←hsa];exact(jJ.late a0X.blk (hbel s)).cell rfl
  have q5:∀s',(ff s').cell? ⟨K.g,5,none⟩=some (.int .i64 s.no):=fun s'=>(jJ.late a0X.blk (hbel s')).cell rfl;have r0:∀s,(ff s).cell? ⟨bb,oo+sh*4,none⟩=some (.slice la ln lc):=fun s=>late (hbel s) hbb f0;have r1:∀s,(ff s).cell? ⟨bb,oo+sh*4+1,none⟩=some (.int .i64 sat):=fun s=>late (hbel s) hbb f1;have r2:∀s,(ff s).cell? ⟨bb,oo+sh*4+2,none⟩=some (.int .i64 jE):=fun s=>late (hbel s) hbb f2;have r3:∀s,(ff s).cell? ⟨bb,oo+sh*4+3,none⟩=some (.int .i64 nD):=fun s=>late (hbel s) hbb f3;obtain⟨HS,HD⟩:=aF (jH _ ((aW _ _).drew)) ((aW wA.heap.size wA).drew);have bGZ:(sh:Int)<K.sn:=by omega
  clear f0 f1 f2 f3;obtain⟨IH',t',hok',b3L,mV,uE,hR',bJ5,BR,bJ7,bAD,aID⟩:=aP IH t hok hinv hzl hsl hR hzz PY bD0 hbA a0X;obtain⟨jG,jA⟩:=aF hbel jH;clear IH t hok hinv hzl hsl hR hzz PY bD0 hbA a0X hbel jH;go_enter Tryz.func145,Tryz.ntmps145;go_upto_region 1 with fail
  try rw[hwA]
  clear hwA;refine jU (S:=fun W=>∃s,W=ff s) (by kernel_rfl) 14 rfl ?_;refine jF [0,1,2,3,4,5,6,7,8,9,10] 3 (by kernel_rfl) (fun d _ _ _ _ h=>by cases d <;> exact h) (by kernel_rfl) (by kernel_rfl) (by kernel_rfl) HS.o ?_;simp only[jB,aS,aT,aQ,aR];iterate 11 (go_big_quiet_step (fail))
  refine wpQuiet_nil ?_;refine jC 11 2 (by kernel_rfl) (by kernel_rfl) ?_;simp only[jB,aS,aT,aQ,aR];go_wp2_with fail
  have hal:=(aD wA (.cells #[.slice none 0 0,.int .i64 0,.int .i64 0,.int .i64 0] 35)).drew;have bS1:jJ (wA.alloc (.cells #[.slice none 0 0,.int .i64 0,.int .i64 0,.int .i64 0] 35)).drew wA.heap.size 35 #[.slice none 0 0,.int .i64 0,.int .i64 0,.int .i64 0]:=jJ.new wA _ _;obtain⟨w1,hw1⟩:∃w1,(wA.alloc (.cells #[.slice none 0 0,.int .i64 0,.int .i64 0,.int .i64 0] 35)).drew=w1:=⟨_,rfl⟩;rw[hw1]at hal bS1;rw[hw1];clear hw1;obtain⟨gs,hgs⟩:=aC (w.heap.size+1);rw[hszA,hgs]at bS1;rw[hgs];have HS:=aA (jA.o _ hal);have p0:w1.cell? ⟨gs,0,none⟩=some (.slice none 0 0):=bS1.cell rfl;have p1:w1.cell? ⟨gs,1,none⟩=some (.int .i64 0):=bS1.cell rfl;have p2:w1.cell? ⟨gs,2,none⟩=some (.int .i64 0):=bS1.cell rfl;have p3:w1.cell? ⟨gs,3,none⟩=some (.int .i64 0):=bS1.cell rfl;have y0:=bS1.frozen 0;have y1:=bS1.frozen 1;have y2:=bS1.frozen 2;have y3:=bS1.frozen 3;have bVR:wA.heap.size≤gs:=by omega
  have bT7:w.heap.size<gs:=by omega
  have D6:=hal;obtain⟨oM,bJ8,hgs',N7⟩:=aH hal bS1 hgs D6;clear hal bS1 hgs D6;first|refine Mid.mk ⟨HS.o,?_⟩|refine Mid.mk ?_
  refine jC 12 1 (by kernel_rfl) (by kernel_rfl) ?_;simp only[jB,aS,aT,aQ,aR];go_wp2_with fail
  have bS2:=bJ8.o.XD (.slice la ln lc) (.int .i64 sat) (.int .i64 jE) (.int .i64 nD);have hb2:=BL oM.o (show wA.heap.size≤gs by omega) (.slice la ln lc) (.int .i64 sat) (.int .i64 jE) (.int .i64 nD);have HS:=aA (jA.o _ hb2);refine Mid.mk ⟨HS.o,?_⟩;refine jF [13] 0 (by kernel_rfl) (fun d _ _ _ _ h=>by cases d <;> exact h) (by kernel_rfl) (by kernel_rfl) (by kernel_rfl) HS.o ?_;simp only[jB,aS,aT,aQ,aR];iterate 1 (go_big_quiet_step (fail))
  refine wpQuiet_nil ?_;refine jK (by kernel_rfl) ?_;clear p0 p1 p2 p3 y0 y1 y2 y3 bJ8 oM N7 q2 q5 r0 r1 r2 r3 HS HD jG jA;generalize ((((w1.setCell ⟨gs,0,none⟩ (.slice la ln lc)).setCell ⟨gs,1,none⟩ (.int .i64 sat)).setCell ⟨gs,2,none⟩ (.int .i64 jE)).setCell ⟨gs,3,none⟩ (.int .i64 nD))=wB at*;-- one more number
  have SA:=aID.o.later hb2;have bDB:=bJ7.o.late hb2;have bJ9:=bAD.o.tm hb2;have c5:wB.cell? ⟨K.g,5,none⟩=some (.int .i64 s.no):=SA.blk.cell rfl;have y5:=SA.blk.frozen 5;have hbt:=(But.refl K.g wB).set 5 (.int .i64 no1);have hok2:vL K {s with no:=no1} sv tk (wB.setCell ⟨K.g,5,none⟩ (.int .i64 no1)):=
   ⟨SA.old.trans (hbt.below t'.o.gB SA.old.size),SA.blk.set 5 _,jJ.but (T:=214) SA.tak hbt (Ne.symm t'.o.ne),SA.tkl,SA.tkb,SA.bits,lJ SA.spot hbt SA.sg,SA.sg,SA.sgt⟩
  have bD2:=bDB.but hbt (show w.heap.size≠K.g by omega);have bS2:=bS2.but hbt (show gs≠K.g by omega);have aND:=(Mv.of_below (g:=K.g) (gt:=K.gt) (sv:=sv) bJ9).trans (Mv.yA hbt (.inl rfl));have aRZ:∀k,sv.ownBlock=some k→k<w.heap.size:=fun k e=>(hok'.o.spot.lt k e).2;have bHD:=bS2.lt;clear hbt SA bDB hb2 bJ9 aID bJ7 bAD;obtain⟨V8,bJA,bJB,a8P,RP⟩:=aI hok2 bD2 bS2 aND aRZ;clear hok2 bD2 bS2 aND aRZ;go_upto_region 3 with fail
  clear c5 y5;generalize wB.setCell ⟨K.g,5,none⟩ (.int .i64 no1)=w2 at*;-- the entries
  have b3M:Inv K.n {s with no:=no1}:=b3L.o.a0F rfl;have HE:=aBJ K t'.o ho {s with no:=no1} sv tk w2 p s.no V8.o h0 h1 (by have:=b3L.o.le;show s.jQ.length≤_;omega);obtain⟨RE,hRE⟩:∃RE,lM K.z K.o p s.no {s with no:=no1}=RE:=⟨_,rfl⟩;have hR1:=hR'.o;rw[hRE]at HE hR1;clear hR';obtain⟨HE',O0⟩:=aF HE hR1;clear HE hR1;go_wp2_with fail
  refine HE'.o.mono ?_;rintro e w3 hpost;cases RE with
  |error x=>
   obtain rfl:R= .error x:=by rw[←O0.o]
   obtain⟨rfl,wG,hmv⟩:=hpost;clear O0 hRE HE';have BQ:=aA hmv;clear hmv;go_wp2_with fail
   exact⟨rfl,rfl,wG,a8P.o.trans BQ.o⟩
  |ok r=>
   obtain⟨es,s3⟩:=r;obtain⟨sv3,tk3,bAE,aMI,ae,me,ce,rfl,hent⟩:=hpost;have b3N:Inv K.n s3:=by have h:=RQ hRE (by rw[mV.o];exact b3M);rw[mV.o]at h;exact h
   have hes:(es=uU K.z K.o p es.length∧1≤es.length∧es.length<65536):=(aGQ hRE).resolve_right (fun h=>h t'.o.SI);have hR2:=O0.o;simp only at hR2;clear O0 HE' hRE b3M;have bD3:=bJA.o.mv aMI (show w.heap.size≠K.g by omega) (show w.heap.size≠K.gt by omega) (fun e=>by have:=RP.o _ e;omega);have bS3:=bJB.o.mv aMI (show gs≠K.g by omega) (show gs≠K.gt by omega) (fun e=>by have:=RP.o _ e;omega);have hme:me=es.length:=by have h:=hent.sl.uY mG (by decide);exact h.symm
   subst hme;have b3O:=a8P.o.trans aMI;have a4H:=aMI.size;have c0:w3.cell? ⟨gs,0,none⟩=some (.slice la ln lc):=bS3.cell rfl;have c1:w3.cell? ⟨gs,1,none⟩=some (.int .i64 sat):=bS3.cell rfl;have c2:w3.cell? ⟨gs,2,none⟩=some (.int .i64 jE):=bS3.cell rfl;have c3:w3.cell? ⟨gs,3,none⟩=some (.int .i64 nD):=bS3.cell rfl;have HL:=aLX ae es.length ce es ((la,ln,lc),(nH,sat,jE,nD)) w3 hent.sl (BR.o.mono bAE.old) (by omega);simp only at HL;obtain⟨vH,bAF⟩:∃q:lV,(nH,sat,jE,nD)=q:=⟨_,rfl⟩;rw[bAF]at HL hR2;obtain⟨aV2,b3P,a9I,aV3,hes',uZ,bJC,bJD,aV4,HL',b3Q⟩:=aO bAE aMI hent b3N hes hR2 bD3 bS3 b3O HL bAF;clear bAE aMI hent b3N hes hR2 bD3 bS3 b3O HL bAF;go_wp2_with fail
   refine HL'.o.mono ?_;rintro e w4 ⟨v1,v2,v3,rfl,h3,hb4⟩;have bJE:=hb4.size;obtain⟨B,hB⟩:=aC w2.heap.size;obtain⟨B2,hB2⟩:=aC w4.heap.size;have bJF:Pst K w.heap.size B B2 w.heap.size gs:=⟨hgA,bQO,bK hok'.o.old.size (aU _),aU _,by omega,by omega,by omega,by omega,by omega⟩;have bJG:∀k,sv3.ownBlock=some k→k<w3.heap.size:=fun k e=>(aV2.o.spot.lt k e).2;have aBB:∀{v:Value} {l:List mK},w4.ownsRow w3.heap.size 55 4 v l.length (fl mY l)→Sk (Xv sv3) B B2 w4 v 4 l.length (fl mY l):=fun h=>Sk.jX (kK h (by omega)) (by omega) (fun k e e2=>by have:=(h.lt k e).1;have:=bJG k e2;omega);have hto:=aBB h3.r1;have hpa:=aBB h3.r2;have hre:=aBB h3.r3;have hen:Sk (Xv sv3) B B2 w4 (.slice ae es.length ce) 4 es.length (fl mY es):=Sk.jX (kK (jY a9I.o.1 hb4) (by omega)) (by omega) a9I.o.2;have hpk:Pk K w.heap.size B B2 w.heap.size gs w w4 sv sv3 #[.slice la ln lc,.int .i64 sat,.int .i64 jE,.int .i64 nD] s3 sv3 tk3 (.slice none 0 0) (.slice none 0 0) (.slice none 0 0) [] w4:=
    ⟨aV2.o.later hb4,aV3.o,aV4.o.later hb4,fun k e=>by rcases b3P.o.own k e with h|h <;> first|exact .inl (RP.o k h)|exact .inr (by omega),Kp.same (fun _ _ _ h=>h),kR.nil _ _ _,bJC.o.late hb4,bJD.o.late hb4,gT hB2.symm⟩
   clear c0 c1 c2 c3 hb4 h3 aBB aV2 b3P a9I bJC bJD aV4 V8 bJA bJB a8P HL' aV3;obtain⟨xJ,aXY,bAG,bQP,hen',hpk',hB'⟩:=aK bJF hto hpa hre hen hpk hB;clear bJF hto hpa hre hen hpk hB;go_wp2_with fail
   obtain⟨i0,z0,hi0,hz,hz1,hz2,hz3⟩:=M9 bAB aZJ;obtain⟨RT,hRT⟩:=aC (loopS (stepT K.z K.o vH s.no) es ([],s3));have hR3:=uZ.o;rw[hRT]at hR3;have hmem:∀i,i<es.length→0≤(es.getD i (0,0,0,0)).2.2.2∧(es.getD i (0,0,0,0)).2.2.2≤4294967295:=fun i hi=>UK t'.o.SI (by rw[←hes'.o.1,jI hi];exact bL _);have hnl:es.length<65536:=hes'.o.2.2;clear uZ bJE bJG;obtain⟨OO,bJH,hmem'⟩:=aG hR3 hRT hmem;clear hR3 hRT hmem;go_loopw [13,54] (fun rv iv wr=>∃(i:Nat) (si:St) (yL:Value) (tki:List Nat) (vt:Value) (tags:List nC),i≤es.length∧iv= .int .i64 i∧Hid (loopS (stepT K.z K.o vH s.no) (es.drop i) (tags,si)=RT)∧Hid (Pk K w.heap.size B B2 w.heap.size gs w w4 sv sv3 #[.slice la ln lc,.int .i64 sat,.int .i64 jE,.int .i64 nD] si yL tki vt (.slice none 0 0) (.slice none 0 0) tags wr)∧Hid (Sk (Xv yL) B B2 wr rv 4 (mO vH (es.drop i)).length (fl mY (mO vH (es.drop i))))∧tags.length≤i) (fun _ iv _=>es.length - (intOf iv).toNat)
   case atStart=>exact⟨0,s3,sv3,tk3,_, [],by omega,rfl,by rw[gG];exact bJH,hpk',by rw[gG];exact bQP,by simp⟩
   case round=>
    obtain⟨i,si,yL,tki,vt,tags,hi,rfl,hlp,MW,hrs,htl⟩:=hrel;by_cases hlt:i<es.length
    ·have bJI:=(hen'.o.keep MW.o.kp (gT hB2.symm)).sl.2;obtain⟨be,oe,rfl,hbe,fe⟩:=bJI.elem mG (by decide) (0,0,0,0) hlt;have hsl0:=(hmem'.o i hlt);have hrc:=aGP (sh:=vH) hlt;have hdc:es.drop i=es.getD i (0,0,0,0)::es.drop (i+1):=by rw[List.drop_eq_getElem_cons hlt,jI hlt]
     obtain⟨⟨x1,x2,x3,x4⟩,hx⟩:∃x,es.getD i (0,0,0,0)=x:=⟨_,rfl⟩;rw[hx]at fe hsl0 hrc hdc;have f0:=fe 0 _ rfl;have f1:=fe 1 _ rfl;have f2:=fe 2 _ rfl;have f3:=fe 3 _ rfl;simp only[cK]at f0 f1 f2 f3;simp only at hsl0;clear fe bJI;have hin:(i:Int)<es.length:=by omega
     obtain⟨a3,c3,rfl⟩:=hrs.o.val;obtain⟨aCZ,aMJ,hx'⟩:=aG hrc hdc hx;clear hrc hdc hx;go_upto_region 8 with fail
     have be5:=jJ.new wr 55 #[.int .i64 x1,.int .i64 x2,.int .i64 x3,.int .i64 x4];have hal:=aD wr (.cells #[.int .i64 x1,.int .i64 x2,.int .i64 x3,.int .i64 x4] 55);have SB:=MW.o.later hal;have bAH:=hrs.o.keep (Kp.later hal) MW.o.sz;have bJJ:B2≤wr.heap.size:=MW.o.sz;clear f0 f1 f2 f3 hal;generalize wr.alloc (.cells #[.int .i64 x1,.int .i64 x2,.int .i64 x3,.int .i64 x4] 55)=w5 at*;generalize wr.heap.size=ge at*;have g0:w5.cell? ⟨ge,0,none⟩=some (.int .i64 x1):=be5.cell rfl;have g1:w5.cell? ⟨ge,1,none⟩=some (.int .i64 x2):=be5.cell rfl;have g2:w5.cell? ⟨ge,2,none⟩=some (.int .i64 x3):=be5.cell rfl;have g3:w5.cell? ⟨ge,3,none⟩=some (.int .i64 x4):=be5.cell rfl;obtain⟨ob,hob⟩:∃b,qQ vH x1=b:=⟨_,rfl⟩;have bJK:=bAH.sl.2;obtain⟨aV5,FT,b3R,aV6,a7T⟩:=aI be5 SB bAH bJK hob;clear be5 SB bAH bJK hob;go_cut [67]from 58 to 66 (fun v wx=>v= .bool (!ob)∧∃m,wx=w5.drewN m)
     case first=>
      -- DEV{L1a
      cases ob with
      |true=>
       by_cases hm:0<(mO vH (es.drop i)).length
       ·obtain⟨br,orr,rfl,hbr,fr⟩:=aV6.o.elem mG (by decide) (0,0,0,0) hm;have hno:qQ vH ((mO vH (es.drop i)).getD 0 (0,0,0,0)).1=false:=by
         cases hl:mO vH (es.drop i)with
         |nil=>rw[hl]at hm;simp at hm
         |cons y r=>exact aMF hl
        obtain⟨⟨y1,y2,y3,y4⟩,hy⟩:∃y,(mO vH (es.drop i)).getD 0 (0,0,0,0)=y:=⟨_,rfl⟩;rw[hy]at fr hno;have e0:=fr 0 _ rfl;have e1:=fr 1 _ rfl;have e2:=fr 2 _ rfl;have e3:=fr 3 _ rfl;simp only[cK,fJ]at e0 e1 e2 e3;have heq:=aI8 (x1,x2,x3,x4) (y1,y2,y3,y4);simp only at heq hno;have hne:¬((x1,x2,x3,x4)=(y1,y2,y3,y4):Prop):=fun h=>by
         injection h with h _;rw[h,hno]at a7T;exact Bool.noConfusion a7T.o
        rw[decide_eq_false hne]at heq;have hmi:(0:Int)<((mO vH (es.drop i)).length:Int):=by omega
        generalize (mO vH (es.drop i)).length=m at*;have d1:decide ((0:Int)<(m:Int))=true:=by simp;omega
        have d2:decide (0<m)=true:=by simp;omega
        clear fr hno hne hy;go_quiet (fail)
        go_wp2_with fail
        go_meet
        exact⟨rfl,_,rfl⟩
       ·have hm0:(mO vH (es.drop i)).length=0:=by omega
        generalize (mO vH (es.drop i)).length=m at*;subst hm0;go_quiet (fail)
        go_wp2_with fail
        go_meet
        exact⟨rfl,_,rfl⟩
      |false=>
       have aZL:=aCZ.o;rw[if_neg (by rw[a7T.o];simp)]at aZL;have hm:0<(mO vH (es.drop i)).length:=by rw[aZL];simp
       obtain⟨br,orr,rfl,hbr,fr⟩:=aV6.o.elem mG (by decide) (0,0,0,0) hm;have hy:(mO vH (es.drop i)).getD 0 (0,0,0,0)=(x1,x2,x3,x4):=by rw[aZL];rfl
       rw[hy]at fr;have e0:=fr 0 _ rfl;have e1:=fr 1 _ rfl;have e2:=fr 2 _ rfl;have e3:=fr 3 _ rfl;simp only[cK,fJ]at e0 e1 e2 e3;have heq:=aI8 (x1,x2,x3,x4) (x1,x2,x3,x4);simp only[decide_true]at heq;have hmi:(0:Int)<((mO vH (es.drop i)).length:Int):=by omega
       clear aZL;generalize (mO vH (es.drop i)).length=m at*;have d1:decide ((0:Int)<(m:Int))=true:=by simp;omega
       have d2:decide (0<m)=true:=by simp;omega
       clear fr hy;go_quiet (fail)
       go_wp2_with fail
       go_meet
       exact⟨rfl,_,rfl⟩
      -- }DEV
     case rest=>
      obtain⟨rfl,mm,hwx⟩:=hcut;rename World=>w6
      have hbq:Below w5.heap.size w5 w6:=by rw[hwx];exact below_drewN (aW _ _) _
      have be6:=aV5.o.late hbq;have LF:=FT.o.later hbq;have aGR:=b3R.o.keep (Kp.later hbq) (bK FT.o.sz (aU _));clear hwx hbq g0 g1 g2 g3 aV5 FT b3R aV6;cases ob with
      |true=>
       -- DEV{L1b
       have hstep:stepT K.z K.o vH s.no (tags,si) (x1,x2,x3,x4)=if x2=4∧x3=1 then .ok (tags,si)else .error 6:=by
        unfold stepT;rw[if_pos a7T.o]
       have g1:w6.cell? ⟨ge,1,none⟩=some (.int .i64 x2):=be6.cell rfl;have g2:w6.cell? ⟨ge,2,none⟩=some (.int .i64 x3):=be6.cell rfl;have FU:=hlp.o;rw[aMJ.o]at FU;obtain⟨bVS,aV7,bJL⟩:=aG be6 LF aGR;clear be6 LF aGR;by_cases hx2:x2=4
       ·have d1:(x2==4)=true:=by simp[hx2]
        by_cases hx3:x3=1
        ·have d2:(x3==1)=true:=by simp[hx3]
         rw[if_pos ⟨hx2,hx3⟩]at hstep;rw[yM hstep]at FU;have aV8:Sk (Xv yL) B B2 w6 (.slice a3 (mO vH (es.drop i)).length c3) 4 (mO vH (es.drop (i+1))).length (fl mY (mO vH (es.drop (i+1)))):=by
          have h:=bJL.o;rw[aCZ.o,if_pos a7T.o]at h;rw[aCZ.o,if_pos a7T.o];exact h
         clear hx2 hx3 hstep;obtain⟨aD0,aJ1⟩:=aF FU aV8;clear FU aV8;go_wp2_with (go_at_call 143;refine(kI _ _ _).mono ?_;rintro e w3 ⟨rfl,rfl⟩;simp only[kV,kW])
         go_roundw
         case rel=>exact⟨i+1,si,yL,tki,vt,tags,by omega,by go_num,aD0,aV7,aJ1,by omega⟩
         case measure=>simp[intOf];omega
        ·have d2:(x3==1)=false:=by simp[hx3]
         rw[if_neg (fun h=>hx3 h.2)]at hstep;rw[rG hstep]at FU;subst FU;obtain rfl:R= .error 6:=by rw[←OO.o]
         clear hx2 hx3 hstep;go_wp2_with (go_at_call 143;refine(kI _ _ _).mono ?_;rintro e w3 ⟨rfl,rfl⟩;simp only[kV,kW])
         exact⟨rfl,rfl,yL,aV7.o.mv⟩
       ·have d1:(x2==4)=false:=by simp[hx2]
        rw[if_neg (fun h=>hx2 h.1)]at hstep;rw[rG hstep]at FU;subst FU;obtain rfl:R= .error 6:=by rw[←OO.o]
        clear hx2 hstep;go_wp2_with (go_at_call 143;refine(kI _ _ _).mono ?_;rintro e w3 ⟨rfl,rfl⟩;simp only[kV,kW])
        exact⟨rfl,rfl,yL,aV7.o.mv⟩
       -- }DEV
      |false=>
       -- DEV{L1c
       have hstep:stepT K.z K.o vH s.no (tags,si) (x1,x2,x3,x4)=match oI K.z K.o (x1,x2,x3,x4) s.no si with
         | .error e=> .error e
         | .ok (v,s')=> .ok (tags++ [v],s'):=by
        unfold stepT;rw[if_neg (by rw[a7T.o];simp)];rfl
       have FU:=hlp.o;rw[aMJ.o]at FU;obtain⟨zs0,bQQ,hown0⟩:=LF.tg.own;obtain⟨av,cv,rfl⟩:=zW hown0;obtain⟨mm2,aZM⟩:∃q,(mO vH (es.drop i)).length=q:=⟨_,rfl⟩;have hm1:mm2=(mO vH (es.drop (i+1))).length+1:=by
        have h:=aCZ.o;rw[if_neg (by rw[a7T.o];simp)]at h;rw[←aZM,h];simp
       have hle3:=aGR.sl.2.le;have LG:=(aW w6.heap.size w6).drew;have HV:=aFX K t'.o ho si yL tki w6.drew (x1,x2,x3,x4) s.no (LF.ok.later LG) hsl0.1 hsl0.2 (by have:=LF.inv.le;omega);unfold a4I at HV;simp only at HV;obtain⟨RV,hRV⟩:=aC (oI K.z K.o (x1,x2,x3,x4) s.no si);rw[hRV]at HV hstep;have b3S:∀v s',RV= .ok (v,s')→Inv K.n s':=fun v s' e=>by
        have h:=a0G (hRV.trans e) (by rw[mV.o];exact LF.inv);rw[mV.o]at h;exact h
       rw[aZM]at aGR hle3;rw[aZM];obtain⟨a4,bVT,hs4,yC⟩:=aGZ (P:=Tryz.prog) (T:=154) (E:=55) (sz:=4) Tryz.underlying154 (fun W=>by kernel_rfl) aGR.sl.2 (1:Int) (by omega) (by omega) (mm2 - 1) (c3 - 1) (by omega) (by omega);have aWZ:Sl w6 a4 (mm2 - 1) (c3 - 1) 4 (fl mY (mO vH (es.drop (i+1)))):=by
        have h:=hs4;rw[aCZ.o,if_neg (by rw[a7T.o];simp)]at h;rw[show(1:Int).toNat*4=4 from rfl,aYB mG]at h;exact h
       have b3T:=aGR.tail aWZ yC;clear hs4 aWZ yC;obtain⟨Ty2,f2,hne2,hp2,sJ⟩:=DX (fun W=>jJ W w.heap.size 26 #[.slice av tags.length cv,.slice none 0 0,.slice none 0 0]∧jJ W ge 55 #[.int .i64 x1,.int .i64 x2,.int .i64 x3,.int .i64 x4]) w6 ⟨LF.bD,be6⟩;have d0:∀s,(f2 s).cell? ⟨w.heap.size,0,none⟩=some (.slice av tags.length cv):=fun s=>(hp2 s).1.cell rfl;have g0:∀s,(f2 s).cell? ⟨ge,0,none⟩=some (.int .i64 x1):=fun s=>(hp2 s).2.cell rfl;have g1:∀s,(f2 s).cell? ⟨ge,1,none⟩=some (.int .i64 x2):=fun s=>(hp2 s).2.cell rfl;have g2:∀s,(f2 s).cell? ⟨ge,2,none⟩=some (.int .i64 x3):=fun s=>(hp2 s).2.cell rfl;have g3:∀s,(f2 s).cell? ⟨ge,3,none⟩=some (.int .i64 x4):=fun s=>(hp2 s).2.cell rfl;have HS:=aA (sJ w6.drew ⟨LF.bD,be6⟩);have bVU:ge<w6.heap.size:=be6.lt;have aD1:=LF.later LG;have hrsd:Sk (Xv yL) B B2 w6.drew (.slice a4 (mm2 - 1) (c3 - 1)) 4 (mm2 - 1) (fl mY (mO vH (es.drop (i+1)))):=b3T.keep (Kp.later LG) LF.sz;have bQR:w6.drew.heap.size=w6.heap.size:=rfl;have bed:jJ w6.drew ge 55 #[.int .i64 x1,.int .i64 x2,.int .i64 x3,.int .i64 x4]:=be6;clear aGR b3T be6 LG aZM hown0 bQQ LF;have hBB:=xJ.o.bb;have hgB:=xJ.o.gd2;obtain⟨HV',UM,aD0,aV9,aNE,yK,xZ,b3U,a1Y,G6⟩:=aN HV hstep FU b3S hp2 sJ aD1 hrsd bed hm1;clear HV hstep FU b3S hp2 sJ aD1 hrsd bed hm1;go_wp2_with fail
       refine tV (t:=11) (C:=fun W=>∃s,W=f2 s) (by kernel_rfl) 13 rfl ?_;refine y8 [0,2,4,8,9] 8 (by kernel_rfl) (fun d _ _ _ _ h=>by cases d <;> exact h) (by kernel_rfl) (by kernel_rfl) (by kernel_rfl) HS.o ?_;simp only[jB,aS,aT,aQ,aR];iterate 5 (go_big_quiet_step (fail))
       refine wpQuiet_nil ?_;refine nU [1,3] 6 (by kernel_rfl) (fun d _ _ _ _ h=>by cases d <;> exact h) (by kernel_rfl) (by kernel_rfl) (by kernel_rfl) HS.o ?_;simp only[jB,aS,aT,aQ,aR];iterate 2 (go_big_quiet_step (fail))
       refine wpQuiet_nil ?_;clear d0 g0 g1 g2 g3;refine l6 5 5 (by kernel_rfl) (by kernel_rfl) ?_;simp only[jB,aS,aT,aQ,aR];go_wp2_with fail
       refine HV'.o.mono ?_;rintro e w7 hpost;cases RV with
       |error y=>
        obtain⟨rfl,wG,hmv⟩:=hpost;have I5:=aD0.o;rw[rG (UM.o.trans rfl)]at I5;subst I5;obtain rfl:R= .error y:=by rw[←OO.o]
        clear HV' UM;have BQ:=aA hmv;clear hmv;go_wp2_with fail
        refine yF ?_;go_wp2_with fail
        exact⟨rfl,rfl,wG,xZ.o.mv.trans BQ.o⟩
       |ok rv=>
        obtain⟨v,s7⟩:=rv;obtain⟨RY,tk7,UG,wK,a7,m7,c7,rfl,aVA⟩:=hpost;have I5:=aD0.o;rw[yM (UM.o.trans rfl)]at I5;have MX:=xZ.o.mv2 xJ.o wK UG (aV9.o v s7 rfl);have bJM:∀k,yL.ownBlock=some k→k<w6.heap.size∧k≠ge:=fun k e=>⟨(xZ.o.ok.spot.lt k e).2,fun h=>kE xZ.o.ok.spot a1Y.o (by decide) (by rw[e,h])⟩;have be7:=a1Y.o.mv wK (show ge≠K.g by omega) (show ge≠K.gt by omega) (fun e=>(bJM _ e).2 rfl);have aV8:=b3U.o.keep (Kp.mv wK (show K.g<B by omega) (show K.gt<B by omega)) (show B2≤w6.drew.heap.size from xZ.o.sz);have aVA:=aVA.mono (show B2≤w6.drew.heap.size from xZ.o.sz);have hm7:m7=v.2.2.2.length:=by have h:=aVA.sl.nV;exact h.symm
        subst hm7;have HS:=aA (yK.o w7 ⟨MX.bD,be7⟩);clear wK UG HV' UM aD0 aV9 xZ b3U a1Y bJM;obtain⟨aVB,NG,bJN,aJ1,b3V⟩:=aI I5 MX be7 aV8 aVA;clear I5 MX be7 aV8 aVA;go_wp2_with fail
        first|refine Mid.mk ⟨fun _=>HS.o,?_⟩|refine Mid.mk ?_
        obtain⟨t1,t2,t3,td⟩:=v;refine l6 6 4 (by kernel_rfl) (by kernel_rfl) ?_;simp only[jB,aS,aT,aQ,aR];go_wp2_with fail
        have hal:=aD w7 (.cells #[.int .i64 t1,.int .i64 t2,.int .i64 t3,.slice a7 td.length c7] 74);have I6:=NG.o.later hal;have be8:=bJN.o.late hal;have bAI:=aJ1.o.keep (Kp.later hal) NG.o.sz;have bAJ:=b3V.o.keep (Kp.later hal);have hnew:Sl (w7.alloc (.cells #[.int .i64 t1,.int .i64 t2,.int .i64 t3,.slice a7 td.length c7] 74)) (some ⟨w7.heap.size,0,none⟩) 1 1 4 (tzc ((t1,t2,t3,a7,td.length,c7),td)):=Sl.new w7 74 4 1 #[.int .i64 t1,.int .i64 t2,.int .i64 t3,.slice a7 td.length c7] (0,0) (by omega) rfl;obtain⟨w8,hw8⟩:=aC (w7.alloc (.cells #[.int .i64 t1,.int .i64 t2,.int .i64 t3,.slice a7 td.length c7] 74));rw[hw8]at I6 be8 bAI bAJ hnew;rw[hw8];obtain⟨gn,hgn⟩:=aC w7.heap.size;rw[hgn]at hnew;rw[hgn];have HS:=aA (yK.o w8 ⟨I6.bD,be8⟩);obtain⟨zs,hzs,hown⟩:=I6.tg.own;have aVC:=I6.sz;clear hal hw8 hgn NG bJN aJ1 b3V;obtain⟨zP,bJO,bJP,bJQ,I9,hown',hzs'⟩:=aK I6 be8 bAI bAJ hnew hown hzs;clear I6 be8 bAI bAJ hnew hown hzs;first|refine Mid.mk ⟨fun _=>HS.o,?_⟩|refine Mid.mk ?_
        refine l6 7 3 (by kernel_rfl) (by kernel_rfl) ?_;simp only[jB,aS,aT,aQ,aR];go_wp2_with (at_builtin;refine lI rfl _ _ 22 rfl B2 74 i0 z0 4 48 Tryz.underlying22 hi0 hz hz1 hz2 hz3 (by decide) (.slice av tags.length cv) tags.length _ rfl hown'.o ⟨gn,0,none⟩ 1 1 (tzc ((t1,t2,t3,a7,td.length,c7),td)) rfl I9.o (aW8 _) (by omega) (by decide) aVC ?_;intro a9 c9 w9 ob hg9 MK;obtain⟨Ob,IZ,Ho9⟩:=aG ob hg9 MK;clear ob hg9 MK)
        have bAK:∀k,(Value.slice av tags.length cv).ownBlock=some k→¬Xv RY k:=by
         obtain⟨_,_,h2,_⟩:=zP.o.tg;exact h2.2
        have aVD:(Value.slice av tags.length cv).ownBlock≠some w.heap.size:=kE hown'.o zP.o.bD (by decide);have bJR:(Value.slice av tags.length cv).ownBlock≠some ge:=kE hown'.o bJO.o (by decide);have bD9:=zP.o.bD.grown IZ.o aVD;have be9:=bJO.o.grown IZ.o bJR;have hX9:∀k,(Value.slice a9 (tags.length+1) c9).ownBlock=some k→¬Xv RY k:=fun k e h=>by
         rcases Ho9.o k e with h1|h1
         ·exact bAK k h1 h
         ·have:=(zP.o.ok.spot.lt k h).2;omega
        have aVE:=zP.o.tg.snoc (v':= .slice a9 (tags.length+1) c9) (t:=(t1,t2,t3,td)) (z:=((t1,t2,t3,a7,td.length,c7),td)) rfl IZ.o hX9 (fun zs2 h2=>by rw[M6 h2 hown'.o];exact Ob.o) bJQ.o;have bJS:=bJP.o.grown IZ.o (fun k e=>(hown'.o.lt k e).1);have HS:=aA (yK.o w9 ⟨bD9,be9⟩);have p0:w9.cell? ⟨w.heap.size,0,none⟩=some (.slice av tags.length cv):=bD9.cell rfl;have y0:=bD9.frozen 0;have hbt:=(But.refl w.heap.size w9).set 0 (.slice a9 (tags.length+1) c9);have aD2:=zP.o.app xJ.o IZ.o (fun r e=>⟨(hown'.o.lt r e).1,fun h=>bAK r e h⟩) hB2 rfl hbt (bD9.set 0 (.slice a9 (tags.length+1) c9)) aVE;have b3W:=bJS.keep (OT hbt hgB) (bK aVC IZ.o.size);clear bAK aVD bJR hX9 aVE bJS be9 bD9;obtain⟨aGS,aVF,EB⟩:=aG aD2 b3W hbt;clear aD2 b3W hbt;first|refine Mid.mk ⟨fun _=>HS.o,?_⟩|refine Mid.mk ?_
        refine y8 [10] 2 (by kernel_rfl) (fun d _ _ _ _ h=>by cases d <;> exact h) (by kernel_rfl) (by kernel_rfl) (by kernel_rfl) HS.o ?_;simp only[jB,aS,aT,aQ,aR];iterate 1 (go_big_quiet_step (fail))
        refine wpQuiet_nil ?_;refine l6 11 1 (by kernel_rfl) (by kernel_rfl) ?_;simp only[jB,aS,aT,aQ,aR];go_wp2_with fail
        first|refine Mid.mk ⟨fun h=>(by simp[MI]at h),?_⟩|refine Mid.mk ?_
        refine l6 12 0 (by kernel_rfl) (by kernel_rfl) ?_;simp only[jB,aS,aT,aQ,aR];go_wp2_with fail
        first|refine Mid.mk ⟨fun h=>(by simp[MI]at h),?_⟩|refine Mid.mk ?_
        refine vV (by kernel_rfl) ?_;clear p0 y0;rw[show mm2 - 1=(mO vH (es.drop (i+1))).length by have:=G6.o;omega]at aVF;go_wp2_with fail
        go_roundw
        case rel=>exact⟨i+1,s7,RY,tk7,.slice a9 (tags.length+1) c9,tags++ [(t1,t2,t3,td)],by omega,by go_num,aVB,aGS,(by have h:=aVF;rw[show mm2 - 1=(mO vH (es.drop (i+1))).length by have:=G6.o;omega];exact h),by simp;omega⟩
        case measure=>simp[intOf];omega
       -- }DEV
    ·obtain rfl:i=es.length:=by omega
     have FU:=hlp.o;rw[List.drop_length]at FU;simp only[loopS]at FU;subst FU;have hR4:=OO.o;simp only at hR4;change (if(pY vH es).length=1 then _ else _)=R at hR4
     obtain⟨a2,c2,rfl⟩:=bAG.o.val;obtain⟨a1,c1,rfl⟩:=aXY.o.val;clear hlp hrs OO bJH;have KJ:=aA hR4;clear hR4;by_cases hp1:(pY vH es).length=1
     ·obtain rfl:R= .error 6:=by rw[←KJ.o,if_pos hp1]
      have d1:(((pY vH es).length:Int) != 1)=false:=by simp[hp1]
      generalize (pY vH es).length=np at*;clear hp1;go_wp2_with (go_at_call 143;refine(kI _ _ _).mono ?_;rintro e w3 ⟨rfl,rfl⟩;simp only[kV,kW])
      exact⟨rfl,rfl,yL,MW.o.mv⟩
     have d1:(((pY vH es).length:Int) != 1)=true:=by simp;omega
     have hR5:=KJ.o;rw[if_neg hp1,UL]at hR5;obtain⟨RD,hRD⟩:=aC (loopS (oJ (nR K.z K.o (jN K.zs) f) vH) (OP vH es) ([],si));rw[hRD]at hR5;obtain⟨nt,hnt⟩:∃n,(OP vH es).length=n:=⟨_,rfl⟩;obtain⟨np,hnp⟩:∃n,(pY vH es).length=n:=⟨_,rfl⟩;have bVV:nt≤es.length:=by rw[←hnt];exact List.length_filter_le _ _
     rw[hnp]at d1 hp1;obtain⟨i1,z1,hi1,hy,hy1,hy2,hy3⟩:=M9 bAC aZK;have hmf:∀(fn:Fn) (first cap:Array Value) (w:World),(Instr.makeFunc fn first cap).run Tryz.prog w= .ok (.func fn first cap) w:=fun _ _ _ _=>rfl;have hvl:∀j,j<nt→kT vH ((OP vH es).getD j (0,0,0,0)).1=true∧0≤((OP vH es).getD j (0,0,0,0)).2.2.2∧((OP vH es).getD j (0,0,0,0)).2.2.2≤4294967295:=fun j hj=>by
      have hm:(OP vH es).getD j (0,0,0,0)∈OP vH es:=by rw[jI (by rw[hnt];exact hj)];exact bL _
      unfold OP at hm;obtain⟨h1,h2⟩:=eZ.1 hm;have h3:=UK t'.o.SI (by rw[←hes'.o.1];exact h1);exact⟨h2,h3.1,h3.2⟩
     have bJT:∀j,j<nH.length→∃sh':Nat,(nH.getD j (0,0)).2=sh'∧sh'<K.sn∧K.sn≤sh'+f:=fun j hj=>by
      have hv:=hval;unfold l9 at hv;simp only[bF,decide_eq_true_eq]at hv;have h1:=cZ.1 hv.2 sh (bW.2 (by simp[jN];rw[uE.o];exact aV1));rw[tZ (by rw[uE.o];exact aV1),bJ5.o]at h1;unfold lH at h1;simp only[bF]at h1;have h2:=cZ.1 h1.1.1 j (bW.2 hj);unfold qO at h2;simp only[bF]at h2;have h3:=h2.1.2;unfold I8 at h3;simp only[bF,decide_eq_true_eq,jN,bX,uE.o]at h3;exact⟨(nH.getD j (0,0)).2.toNat,by omega,by omega,by omega⟩
     have aLK:=aXY.o;have bAL:=bAG.o;rw[hnt]at aLK;rw[hnp]at bAL;rw[hnt,hnp];clear aXY bAG;obtain⟨aGO,aYU,bAM,hnp',bJU,b3X,ZV,bJV⟩:=aL hR5 hRD hnt hnp hvl bJT aLK bAL;clear hR5 hRD hnt hnp hvl bJT aLK bAL;clear KJ;go_wp2_with (go_at_call 143;refine(kI _ _ _).mono ?_;rintro e w3 ⟨rfl,rfl⟩;simp only[kV,kW])
     go_loopw [95] (fun iv wr=>∃(i:Nat) (si:St) (yL:Value) (tki:List Nat) (vs:Value) (subs:List (Int×jD f)),i≤nt∧iv= .int .i64 i∧Hid (loopS (oJ (nR K.z K.o (jN K.zs) f) vH) ((OP vH es).drop i) (subs,si)=RD)∧Hid (Pk K w.heap.size B B2 w.heap.size gs w w4 sv sv3 #[.slice la ln lc,.int .i64 sat,.int .i64 jE,.int .i64 nD] si yL tki vt vs (.slice none 0 0) tags wr)∧Hid (nI (Xv yL) B2 wr f vs subs)∧subs.length≤i) (fun iv _=>nt - (intOf iv).toNat)
     case atStart=>exact⟨0,si,yL,tki,_, [],by omega,rfl,by rw[gG];exact aYU,MW,aA ⟨[],rfl,⟨kC _ _ _ _,fun k e=>by cases e⟩,(fun d hd=>by cases hd),fun i hi=>by cases hi⟩,by simp⟩
     case round=>
      obtain⟨i,si,yL,tki,vs,subs,hi,rfl,hlp,MW,hsu,hsl2⟩:=hrel;by_cases hlt:i<nt
      ·have bJW:=(ZV.o.keep MW.o.kp (gT hB2.symm)).sl.2;obtain⟨be,oe,rfl,hbe,fe⟩:=bJW.elem mG (by decide) (0,0,0,0) hlt;have hvi:=bJU.o i hlt;have hdc:(OP vH es).drop i=(OP vH es).getD i (0,0,0,0)::(OP vH es).drop (i+1):=by rw[List.drop_eq_getElem_cons (by rw[bAM.o];exact hlt),jI (by rw[bAM.o];exact hlt)]
       obtain⟨⟨x1,x2,x3,x4⟩,hx⟩:∃x,(OP vH es).getD i (0,0,0,0)=x:=⟨_,rfl⟩;rw[hx]at fe hvi hdc;have f0:=fe 0 _ rfl;have f1:=fe 1 _ rfl;have f2:=fe 2 _ rfl;have f3:=fe 3 _ rfl;simp only[cK]at f0 f1 f2 f3;simp only at hvi;clear fe bJW;have hin:(i:Int)<nt:=by omega
       obtain⟨aMJ,hx'⟩:=aF hdc hx;clear hdc hx;go_upto_region 16 with fail
       have be5:=jJ.new wr 55 #[.int .i64 x1,.int .i64 x2,.int .i64 x3,.int .i64 x4];have hal:=aD wr (.cells #[.int .i64 x1,.int .i64 x2,.int .i64 x3,.int .i64 x4] 55);have SB:=MW.o.later hal;have aVG:=hsu.o.keep (Kp.later hal);have bJJ:B2≤wr.heap.size:=MW.o.sz;have hvs:∀k,vs.ownBlock=some k→k<wr.heap.size:=fun k e=>by obtain⟨_,_,h,_⟩:=hsu.o;exact(h.1.lt k e).2
       clear f0 f1 f2 f3 hal;generalize wr.alloc (.cells #[.int .i64 x1,.int .i64 x2,.int .i64 x3,.int .i64 x4] 55)=w5 at*;generalize wr.heap.size=ge at*;have c0:w5.cell? ⟨gs,0,none⟩=some (.slice la ln lc):=SB.bS.cell rfl;have aS5:=be5.lt;have bAN:=BR.o.mono SB.ok.old;have HC:=a8C 214 (.inr rfl) (.pointer (some ⟨ge,0,none⟩)) la ln lc nH (fun y=>y.1==x1) w5 bAN (fun W y hW=>aS2 y ge x1 W (late hW aS5 (be5.cell rfl)) (cO aS5 hW.size));have b3Y:(nH.any fun y=>y.1==x1)=true:=by have h:=hvi.1;rw[←b3Q.o]at h;exact h
       have hfp:0≤fst (fun(y:Lk)=>y.1==x1) nH:=of_decide_eq_true ((yI (p:=fun(y:Lk)=>y.1==x1) (l:=nH)).trans b3Y);have hfl:fst (fun(y:Lk)=>y.1==x1) nH<(nH.length:Int):=by
        unfold fst;cases h:nH.findIdx? (fun(y:Lk)=>y.1==x1)with
        |none=>show(-1:Int)<_;omega
        |some j=>
         obtain⟨hj,_⟩:=gJ.1 h;show(j:Int)<_;omega
       obtain⟨kk,hkk⟩:∃kk:Nat,fst (fun(y:Lk)=>y.1==x1) nH=kk:=⟨(fst (fun(y:Lk)=>y.1==x1) nH).toNat,by omega⟩;have aW7:=bAN.uY qD (by decide);have hkl:kk<ln:=by omega
       obtain⟨sh',hsh',b3Z,b40⟩:=b3X.o kk (by omega);obtain⟨bl,ol,bJX,hbl,fl0⟩:=BR.o.elem qD (by decide) (0,0) hkl;have fl1:=fl0 1 _ rfl;rw[hsh']at fl1;rw[hkk]at HC;have bVW:(kk:Int)<ln:=by omega
       have hstep:∀subs si,oJ (nR K.z K.o (jN K.zs) f) vH (subs,si) (x1,x2,x3,x4)=match nR K.z K.o (jN K.zs) f x4 (sh':Int) si with
         | .error e=> .error e
         | .ok ((d,next),s')=>if next=0 then .ok (subs++ [(x1,d)],s')else .error 2:=fun subs si=>by
        unfold oJ;rw[if_pos hvi.1];have e:(vH.1.getD (fst (fun(y:Lk)=>y.1==x1) vH.1).toNat (0,0)).2=(sh':Int):=by rw[←b3Q.o];show(nH.getD (fst (fun(y:Lk)=>y.1==x1) nH).toNat (0,0)).2=_;rw[hkk,bU,hsh']
        show(match nR K.z K.o (jN K.zs) f x4 (vH.1.getD (fst (fun(y:Lk)=>y.1==x1) vH.1).toNat (0,0)).2 si with| .error e=>_| .ok ((d,next),s')=>_)=_
        rw[e]
       clear b3Y hfp hfl hkk aW7 fl0 bAN;obtain⟨SK,aV5,FT,aD3,UM,bTA,bJY,bQS⟩:=aL HC be5 SB aVG hstep hsh' bJX hvs;clear HC be5 SB aVG hstep hsh' bJX hvs;go_wp2_with fail
       refine SK.o.mono ?_;rintro e w6 ⟨rfl,hb6⟩;have be6:=aV5.o.late hb6;have LF:=FT.o.later hb6;have bJZ:=aD3.o.keep (Kp.later hb6);clear c0 hb6 SK aV5 FT aD3;obtain⟨Ty3,f3,aBB,hp3,aGT⟩:=DX (fun W=>Below K.w0.heap.size K.w0 W∧jJ W gs 35 #[.slice la ln lc,.int .i64 sat,.int .i64 jE,.int .i64 nD]∧jJ W ge 55 #[.int .i64 x1,.int .i64 x2,.int .i64 x3,.int .i64 x4]) w6 ⟨LF.ok.old,LF.bS,be6⟩;have d0:∀s,(f3 s).cell? ⟨gs,0,none⟩=some (.slice (some ⟨bl,ol,none⟩) ln lc):=fun s=>by rw[←bJY.o];exact(hp3 s).2.1.cell rfl
       have d3:∀s,(f3 s).cell? ⟨ge,3,none⟩=some (.int .i64 x4):=fun s=>(hp3 s).2.2.cell rfl;have d4:∀s,(f3 s).cell? ⟨bl,ol+kk*2+1,none⟩=some (.int .i64 sh'):=fun s=>by have h:=(hp3 s).1;exact late (h.mono (aU _)) hbl fl1
       have LG:=(aW w6.heap.size w6).drew;obtain⟨RI,hRI⟩:=aC (nR K.z K.o (jN K.zs) f x4 (sh':Int) si);have b41:∀r s',RI= .ok (r,s')→Inv K.n s':=fun r s' e=>by
        have h:=a0H (hRI.trans e) (by rw[mV.o];exact LF.inv);rw[mV.o]at h;exact h
       have hIH:=IH'.o x4 sh' si yL tki;rw[hRI]at hIH;have bAO:=UM.o subs si;rw[hRI]at bAO;have aD1:=LF.later LG;have HS:=aA (aGT w6.drew ⟨aD1.ok.old,aD1.bS,be6⟩);have bK0:=bJZ.keep (Kp.later LG);have bed:jJ w6.drew ge 55 #[.int .i64 x1,.int .i64 x2,.int .i64 x3,.int .i64 x4]:=be6;have bQR:w6.drew.heap.size=w6.heap.size:=rfl;have bVX:ge<w6.heap.size:=be6.lt;have hBB:=xJ.o.bb;have hgB:=xJ.o.gd2;have bQT:B2≤w6.heap.size:=aD1.sz;clear LG be6 LF bJZ fl1 hRI;obtain⟨Y6,I7,xZ,aD4,a1Y,aVH,a3V,a18⟩:=aL hp3 aGT aD1 bK0 bed hIH bAO b41;clear hp3 aGT aD1 bK0 bed hIH bAO b41;go_upto_region 17 with fail
       go_cut [19,20]from 103 to 115 (fun v u wx=>∃(g19:Nat) (d:jD f) (next:Int) (s7:St) (RY:Value) (tk7:List Nat) (dz:Dz),v= .pointer (some ⟨g19,0,none⟩)∧u= .int .i64 next∧Hid (RI= .ok ((d,next),s7))∧Hid (Pk K w.heap.size B B2 w.heap.size gs w w4 sv sv3 #[.slice la ln lc,.int .i64 sat,.int .i64 jE,.int .i64 nD] s7 RY tk7 vt vs (.slice none 0 0) tags wx)∧Hid (nI (Xv RY) B2 wx f vs subs)∧Hid (mM (Xv RY) w6.heap.size wx f d dz)∧Hid (jJ wx g19 26 #[dz.1,dz.2.1,dz.2.2])∧Hid (jJ wx ge 55 #[.int .i64 x1,.int .i64 x2,.int .i64 x3,.int .i64 x4]))
       case first=>
        -- DEV{R17
        refine jU (S:=fun W=>∃s,W=f3 s) (by kernel_rfl) 16 rfl ?_;refine jF [0,1,2,3,4,5,6,7,8] 7 (by kernel_rfl) (fun d _ _ _ _ h=>by cases d <;> exact h) (by kernel_rfl) (by kernel_rfl) (by kernel_rfl) HS.o ?_;simp only[jB,aS,aT,aQ,aR];iterate 9 (go_big_quiet_step (fail))
        refine wpQuiet_nil ?_;refine qX 9 13 6 (by kernel_rfl) (by kernel_rfl) ?_ ?_;all_goals simp only[jB,aS,aT,aQ,aR]
        case refine_1=>
         -- DEV{bVY
         clear d0 d3 d4;go_wp2_with fail
         refine(aVH.o w6.drew xZ.o.ok xZ.o.inv hvi.2.1 hvi.2.2 b3Z b40).mono ?_;rintro e w7 hpost;cases RI with
         |error y=>
          obtain⟨rfl,wG,hmv⟩:=hpost;have I5:=hlp.o;rw[aMJ.o,rG (a3V.o.trans rfl)]at I5;subst I5;obtain rfl:R= .error y:=by rw[←aGO.o]
          have BQ:=aA hmv;clear hmv;go_wp2_with fail
          refine yF ?_;go_wp2_with fail
          exact⟨rfl,rfl,wG,xZ.o.mv.trans BQ.o⟩
         |ok ri=>
          obtain⟨⟨d,next⟩,s7⟩:=ri;obtain⟨RY,tk7,UG,wK,dz,rfl,uX⟩:=hpost;obtain⟨a1',n1',c1',ZY,n2',c2',a3',n3',c3',rfl⟩:=uX.slices;simp only at uX;have MX:=xZ.o.mv2 xJ.o wK UG (a18.o _ s7 rfl);have bH4:w6.heap.size≤w7.heap.size:=wK.size;have a7U:=aD4.o.keep (Kp.mv wK (show K.g<B2 by omega) (show K.gt<B2 by omega));have a7V:=a1Y.o.mv wK (show ge≠K.g by omega) (show ge≠K.gt by omega) (fun e=>kE xZ.o.ok.spot a1Y.o (by decide) e);have HS:=aA (I7.o w7 ⟨UG.old,MX.bS,a7V⟩);clear wK UG xZ aD4 a1Y aVH a3V a18;obtain⟨NG,aVI,aJ2,UH⟩:=aH MX a7U a7V uX;clear MX a7U a7V uX;go_wp2_with fail
          first|refine Mid.mk ⟨HS.o,?_⟩|refine Mid.mk ?_
          refine jF [10,11,12] 3 (by kernel_rfl) (fun d _ _ _ _ h=>by cases d <;> exact h) (by kernel_rfl) (by kernel_rfl) (by kernel_rfl) HS.o ?_;simp only[jB,aS,aT,aQ,aR];iterate 3 (go_big_quiet_step (fail))
          refine wpQuiet_nil ?_;refine jC 13 2 (by kernel_rfl) (by kernel_rfl) ?_;simp only[jB,aS,aT,aQ,aR];go_wp2_with fail
          have hal:=aD w7 (.cells #[.slice none 0 0,.slice none 0 0,.slice none 0 0] 26);have I6:=NG.o.later hal;have bAP:=aJ2.o.late hal;have b19:=jJ.new w7 26 #[.slice none 0 0,.slice none 0 0,.slice none 0 0];obtain⟨w8,hw8⟩:=aC (w7.alloc (.cells #[.slice none 0 0,.slice none 0 0,.slice none 0 0] 26));rw[hw8]at hal I6 bAP b19;rw[hw8];obtain⟨g19,a7W⟩:∃g,w7.heap.size=g:=⟨_,rfl⟩;rw[a7W]at b19;rw[a7W];have HS:=aA (I7.o w8 ⟨I6.ok.old,I6.bS,bAP⟩);have p0:w8.cell? ⟨g19,0,none⟩=some (.slice none 0 0):=b19.cell rfl;have p1:w8.cell? ⟨g19,1,none⟩=some (.slice none 0 0):=b19.cell rfl;have p2:w8.cell? ⟨g19,2,none⟩=some (.slice none 0 0):=b19.cell rfl;have y0:=b19.frozen 0;have y1:=b19.frozen 1;have y2:=b19.frozen 2;clear hw8 I6 bAP;obtain⟨oM,aZN,aJ3⟩:=aG hal b19 a7W;clear hal b19 a7W;first|refine Mid.mk ⟨HS.o,?_⟩|refine Mid.mk ?_
          refine jC 14 1 (by kernel_rfl) (by kernel_rfl) ?_;simp only[jB,aS,aT,aQ,aR];go_wp2_with fail
          have aVJ:=kM oM.o (gT aJ3.o) (.slice a1' n1' c1') (.slice ZY n2' c2') (.slice a3' n3' c3');have aVK:=aZN.o.xK (.slice a1' n1' c1') (.slice ZY n2' c2') (.slice a3' n3' c3');have J2:=NG.o.later aVJ;have a19:=aVI.o.keep (Kp.later aVJ);have aGU:=aJ2.o.late aVJ;have VH:=UH.o.keep (Kp.later aVJ);have HS:=aA (I7.o _ ⟨J2.ok.old,J2.bS,aGU⟩);clear p0 p1 p2 y0 y1 y2 aVJ;obtain⟨aVL,aVM,aVN,aVO,UI⟩:=aI aVK J2 a19 aGU VH;clear aVK J2 a19 aGU VH;refine Mid.mk ⟨HS.o,?_⟩;refine jF [15] 0 (by kernel_rfl) (fun d _ _ _ _ h=>by cases d <;> exact h) (by kernel_rfl) (by kernel_rfl) (by kernel_rfl) HS.o ?_;simp only[jB,aS,aT,aQ,aR];iterate 1 (go_big_quiet_step (fail))
          refine wpQuiet_nil ?_;refine jK (by kernel_rfl) ?_;go_wp2_with fail
          go_meet
          exact⟨g19,d,next,s7,RY,tk7,(.slice a1' n1' c1',.slice ZY n2' c2',.slice a3' n3' c3'),rfl,rfl,aA rfl,aVM,aVN,UI,aVL,aVO⟩
         -- }DEV
        case refine_2=>
         -- DEV{bVZ
         clear d0 d3 d4;go_wp2_with fail
         have hal:Below w6.drew.heap.size w6.drew (w6.alloc (.cells #[.slice none 0 0,.slice none 0 0,.slice none 0 0] 26)).drew:=aD w6.drew (.cells #[.slice none 0 0,.slice none 0 0,.slice none 0 0] 26);have b19:jJ (w6.alloc (.cells #[.slice none 0 0,.slice none 0 0,.slice none 0 0] 26)).drew w6.heap.size 26 #[.slice none 0 0,.slice none 0 0,.slice none 0 0]:=jJ.new w6 _ _;have aVP:=xZ.o.later hal;have bAQ:=aD4.o.keep (Kp.later hal);have aZO:=a1Y.o.late hal;have bK1:∀k,yL.ownBlock=some k→k<w6.heap.size:=fun k e=>(xZ.o.ok.spot.lt k e).2;obtain⟨wa,hwa⟩:∃wa,(w6.alloc (.cells #[.slice none 0 0,.slice none 0 0,.slice none 0 0] 26)).drew=wa:=⟨_,rfl⟩;rw[hwa]at hal b19 aVP bAQ aZO;rw[hwa];have bK2:w6.heap.size≤wa.heap.size:=hal.size;have HS:=aA (I7.o wa ⟨aVP.ok.old,aVP.bS,aZO⟩);clear hwa hal;obtain⟨aZN,a3W,b42,aVQ,bK3⟩:=aI b19 aVP bAQ aZO bK1;clear b19 aVP bAQ aZO bK1;first|refine Mid.mk ⟨HS.o,?_⟩|refine Mid.mk ?_
         refine jC 9 5 (by kernel_rfl) (by kernel_rfl) ?_;simp only[jB,aS,aT,aQ,aR];go_wp2_with fail
         refine(aVH.o wa a3W.o.ok a3W.o.inv hvi.2.1 hvi.2.2 b3Z b40).mono ?_;rintro e w7 hpost;cases RI with
         |error y=>
          obtain⟨rfl,wG,hmv⟩:=hpost;have I5:=hlp.o;rw[aMJ.o,rG (a3V.o.trans rfl)]at I5;subst I5;obtain rfl:R= .error y:=by rw[←aGO.o]
          have BQ:=aA hmv;clear hmv;go_wp2_with fail
          refine yF ?_;go_wp2_with fail
          exact⟨rfl,rfl,wG,a3W.o.mv.trans BQ.o⟩
         |ok ri=>
          obtain⟨⟨d,next⟩,s7⟩:=ri;obtain⟨RY,tk7,UG,wK,dz,rfl,uX⟩:=hpost;obtain⟨a1',n1',c1',ZY,n2',c2',a3',n3',c3',rfl⟩:=uX.slices;simp only at uX;have MX:=a3W.o.mv2 xJ.o wK UG (a18.o _ s7 rfl);have a7U:=b42.o.keep (Kp.mv wK (show K.g<B2 by omega) (show K.gt<B2 by omega));have a7V:=aVQ.o.mv wK (show ge≠K.g by omega) (show ge≠K.gt by omega) (fun e=>kE a3W.o.ok.spot aVQ.o (by decide) e);have SC:=aZN.o.mv wK (show w6.heap.size≠K.g by omega) (show w6.heap.size≠K.gt by omega) (fun e=>by have:=bK3.o _ e;omega);have HS:=aA (I7.o w7 ⟨UG.old,MX.bS,a7V⟩);have uX:=uX.mono bK2;clear wK UG xZ aD4 a1Y aVH a3V a18 a3W b42 aVQ aZN;obtain⟨g19,a7W⟩:∃g,w6.heap.size=g:=⟨_,rfl⟩;rw[a7W]at SC;rw[a7W];have p0:w7.cell? ⟨g19,0,none⟩=some (.slice none 0 0):=SC.cell rfl;have p1:w7.cell? ⟨g19,1,none⟩=some (.slice none 0 0):=SC.cell rfl;have p2:w7.cell? ⟨g19,2,none⟩=some (.slice none 0 0):=SC.cell rfl;have y0:=SC.frozen 0;have y1:=SC.frozen 1;have y2:=SC.frozen 2;obtain⟨NG,aVI,aJ2,UH,aD5,aJ3⟩:=aJ MX a7U a7V uX SC a7W;clear MX a7U a7V uX SC a7W;go_wp2_with fail
          first|refine Mid.mk ⟨HS.o,?_⟩|refine Mid.mk ?_
          refine jF [10,11,12] 2 (by kernel_rfl) (fun d _ _ _ _ h=>by cases d <;> exact h) (by kernel_rfl) (by kernel_rfl) (by kernel_rfl) HS.o ?_;simp only[jB,aS,aT,aQ,aR];iterate 3 (go_big_quiet_step (fail))
          refine wpQuiet_nil ?_;refine jC 14 1 (by kernel_rfl) (by kernel_rfl) ?_;simp only[jB,aS,aT,aQ,aR];go_wp2_with fail
          have hbt:=((((But.refl g19 w7).set 0 (.slice a1' n1' c1')).set 1 (.slice ZY n2' c2')).set 2 (.slice a3' n3' c3'));have aVK:=aD5.o.xK (.slice a1' n1' c1') (.slice ZY n2' c2') (.slice a3' n3' c3');have J2:=NG.o.bFS (vt':=vt) (a0J:=tags) xJ.o hbt (by have:=aJ3.o;omega) (kE NG.o.ok.spot aD5.o (by decide)) hB2 rfl (NG.o.tg.xO hbt aD5.o);have a19:=aVI.o.xO hbt aD5.o;have aGU:=aJ2.o.but hbt (show ge≠g19 by have:=aJ3.o;omega);have VH:=UH.o.xO hbt aD5.o;have HS:=aA (I7.o _ ⟨J2.ok.old,J2.bS,aGU⟩);clear p0 p1 p2 y0 y1 y2 hbt;obtain⟨aVL,aVM,aVN,aVO,UI⟩:=aI aVK J2 a19 aGU VH;clear aVK J2 a19 aGU VH;refine Mid.mk ⟨HS.o,?_⟩;refine jF [15] 0 (by kernel_rfl) (fun d _ _ _ _ h=>by cases d <;> exact h) (by kernel_rfl) (by kernel_rfl) (by kernel_rfl) HS.o ?_;simp only[jB,aS,aT,aQ,aR];iterate 1 (go_big_quiet_step (fail))
          refine wpQuiet_nil ?_;refine jK (by kernel_rfl) ?_;go_wp2_with fail
          go_meet
          exact⟨g19,d,next,s7,RY,tk7,(.slice a1' n1' c1',.slice ZY n2' c2',.slice a3' n3' c3'),rfl,rfl,aA rfl,aVM,aVN,UI,aVL,aVO⟩
         -- }DEV
        -- }DEV
       case rest=>
        -- DEV{REST
        obtain⟨g19,d,next,s7,RY,tk7,dz,rfl,rfl,bAR,MX,a7U,uX,SC,a7V⟩:=hcut;rename World=>w7
        have aD6:=a3V.o;rw[bAR.o]at aD6;simp only at aD6;have I5:=hlp.o;rw[aMJ.o]at I5;clear aVH a3V a18 xZ aD4 a1Y I7 Y6 HS d0 d3 d4;by_cases hnx:next=0
        ·have dn:(next==0)=true:=by simp[hnx]
         rw[if_pos hnx]at aD6;rw[yM aD6]at I5;obtain⟨a1',n1',c1',ZY,n2',c2',a3',n3',c3',rfl⟩:=uX.o.slices;simp only at SC;obtain⟨dsz,aC0,a7X,_,_⟩:=a7U.o;rw[aC0]at a7X;obtain⟨as_,cs,rfl⟩:=zW a7X.1;have aVR:=a7X.1;have bK4:=a7X.2;have t0:w7.cell? ⟨ge,0,none⟩=some (.int .i64 x1):=a7V.o.cell rfl;have q1:w7.cell? ⟨w.heap.size,1,none⟩=some (.slice as_ subs.length cs):=MX.o.bD.cell rfl;have e0:w7.cell? ⟨g19,0,none⟩=some (.slice a1' n1' c1'):=SC.o.cell rfl;have e1:w7.cell? ⟨g19,1,none⟩=some (.slice ZY n2' c2'):=SC.o.cell rfl;have e2:w7.cell? ⟨g19,2,none⟩=some (.slice a3' n3' c3'):=SC.o.cell rfl;clear hnx aD6 aC0 a7X bAR;have hal:=aD w7 (.cells #[.int .i64 x1,.slice a1' n1' c1',.slice ZY n2' c2',.slice a3' n3' c3'] 28);have I6:=MX.o.later hal;have aVS:=a7U.o.keep (Kp.later hal);have a3T:=uX.o.keep (Kp.later hal);have vF:=jY aVR hal;have hnew:Sl (w7.alloc (.cells #[.int .i64 x1,.slice a1' n1' c1',.slice ZY n2' c2',.slice a3' n3' c3'] 28)) (some ⟨w7.heap.size,0,none⟩) 1 1 4 (sbC (x1,(.slice a1' n1' c1',.slice ZY n2' c2',.slice a3' n3' c3'))):=Sl.new w7 28 4 1 #[.int .i64 x1,.slice a1' n1' c1',.slice ZY n2' c2',.slice a3' n3' c3'] (0,0) (by omega) rfl;have aVC:=I6.sz;have aVD:(Value.slice as_ subs.length cs).ownBlock≠some w.heap.size:=kE vF I6.bD (by decide);clear hal MX a7U uX;obtain⟨aVB,bAS,b43,zP,aD7,a7O,yG,I9,bK5,bK6⟩:=aN I5 aVR bK4 I6 aVS a3T vF hnew aVD aVC;clear I5 aVR bK4 I6 aVS a3T vF hnew aVD aVC;go_wp2_with (first|(go_at_call 143;refine(kI _ _ _).mono ?_;rintro e w3 ⟨rfl,rfl⟩;simp only[kV,kW])|(at_builtin;refine lI rfl _ _ 23 rfl B2 28 i1 z1 4 80 Tryz.underlying23 hi1 hy hy1 hy2 hy3 (by decide) (.slice as_ subs.length cs) subs.length _ rfl yG.o ⟨w7.heap.size,0,none⟩ 1 1 (sbC (x1,(.slice a1' n1' c1',.slice ZY n2' c2',.slice a3' n3' c3'))) rfl I9.o (aF1 _ _ _ _ _ _ _ _ _ _) (by omega) (by decide) bK6.o ?_;intro a9 c9 w9 ob hg9 MK;have bD9:=zP.o.bD.grown hg9 bK5.o;have q1:w9.cell? ⟨w.heap.size,1,none⟩=some (.slice as_ subs.length cs):=bD9.cell rfl;have y1:=bD9.frozen 1;obtain⟨BD9,Ob,IZ,Ho9⟩:=aH bD9 ob hg9 MK;clear ob hg9 MK bD9))
         clear t0 e0 e1 e2 bAS;generalize w7.alloc (.cells #[.int .i64 x1,.slice a1' n1' c1',.slice ZY n2' c2',.slice a3' n3' c3'] 28)=w8 at*;have hX9:∀k,(Value.slice a9 (subs.length+1) c9).ownBlock=some k→¬Xv RY k:=fun k e h=>by
          rcases Ho9.o k e with h1|h1
          ·exact b43.o k h1 h
          ·have:=(zP.o.ok.spot.lt k h).2;omega
         have hbt:=(But.refl w.heap.size w9).set 1 (.slice a9 (subs.length+1) c9);have aVE:=JY zP.o.tg yG.o IZ.o (by decide) (by decide);have aD2:=zP.o.app xJ.o IZ.o (fun r e=>⟨(yG.o.lt r e).1,fun h=>b43.o r e h⟩) hB2 rfl hbt (BD9.o.set 1 (.slice a9 (subs.length+1) c9)) aVE;have b44:mM (fun k=>Xv RY k∨(Value.slice as_ subs.length cs).ownBlock=some k) B2 w8 f d (.slice a1' n1' c1',.slice ZY n2' c2',.slice a3' n3' c3'):=(a7O.o.keep (Kp.same (fun k hB hk hx e=>e.elim hx (fun e=>by have:=bQS.o k e;omega)))).mono bQT;have a19:=nI.snoc (t:=x1) (v':= .slice a9 (subs.length+1) c9) aD7.o rfl IZ.o Ho9.o (fun ds2 h2=>by rw[M6 h2 yG.o];exact Ob.o) hX9 (TQ _ _ _ _ _ _ _ _ _) b44;have b45:=a19.xO hbt BD9.o;clear b44 a19 aVE hX9 hbt q1 y1 Ob IZ Ho9 BD9 zP aD7 a7O yG I9;obtain⟨aGS,bAT⟩:=aF aD2 b45;clear aD2 b45;go_roundw
         case rel=>exact⟨i+1,s7,RY,tk7,.slice a9 (subs.length+1) c9,subs++ [(x1,d)],by omega,by go_num,aVB,aGS,bAT,by simp;omega⟩
         case measure=>simp[intOf];omega
        ·have dn:(next==0)=false:=by simp[hnx]
         rw[if_neg hnx]at aD6;rw[rG aD6]at I5;subst I5;obtain rfl:R= .error 2:=by rw[←aGO.o]
         clear hnx aD6 bAR;go_wp2_with (go_at_call 143;refine(kI _ _ _).mono ?_;rintro e w3 ⟨rfl,rfl⟩;simp only[kV,kW])
         exact⟨rfl,rfl,RY,MX.o.mv⟩
        -- }DEV
      ·have hie:i=nt:=by omega
       have FU:=hlp.o;rw[gK (by rw[bAM.o];omega)]at FU;simp only[loopS]at FU;subst FU;subst hie;have hR6:=aGO.o;simp only at hR6;clear hlp aGO aYU IH' bJU b3X ZV;obtain⟨zsT,bQU,b46⟩:=MW.o.tg.own;obtain⟨av,cv,rfl⟩:=zW b46;obtain⟨dsz,aC0,a7X,_,_⟩:=hsu.o;rw[aC0]at a7X;obtain⟨as_,cs,rfl⟩:=zW a7X.1;clear bQU b46 aC0 a7X;have hA2:w.heap.size≤B2:=by have h1:=xJ.o.gd1;have h2:=xJ.o.gd2;have h3:=xJ.o.bb;omega
       have hwm:IntKind.i64.wrap (12*(es.length:Int))=12*es.length:=by rw[aY];omega
       have hwp:=aB (p+2) (by omega);have hwq:IntKind.i64.wrap (p+2+12*(es.length:Int))=p+2+12*es.length:=by rw[aY];omega
       have HN:∀W,Sl W K.a K.n K.c 1 (ints .u8 K.z)→Calls Tryz.prog 209 #[.agg #[.slice K.a K.n K.c,.int .i64 K.o],.int .i64 (p+2+12*es.length),.int .i64 4] W fun e w'=>e= .returned (.int .i64 (kZ K.z (p+2+12*es.length) 4 K.o))∧Below W.heap.size W w':=fun W h=>FL K.a K.n K.c K.z K.o (p+2+12*es.length) 4 W h t'.o.SI;obtain⟨nxv,bK7⟩:∃v,kZ K.z (p+2+12*es.length) 4 K.o=v:=⟨_,rfl⟩;rw[bK7]at HN hR6;clear bK7;obtain⟨HN',a6O⟩:=aF HN hR6;clear HN hR6;by_cases hp2:np=2
       ·skip
        -- DEV{PAIR
        have d5:((np:Int)==2)=true:=by simp;omega
        have bW0:(0:Int)<(np:Int):=by omega
        have bW1:(1:Int)<(np:Int):=by omega
        have d6:decide ((0:Int)<(np:Int))=true:=by simp;omega
        have d7:decide (0<np)=true:=by simp;omega
        have d8:decide ((1:Int)<(np:Int))=true:=by simp;omega
        have d9:decide (1<np)=true:=by simp;omega
        have hpar:=(bJV.o.keep MW.o.kp (gT hB2.symm)).sl.2;obtain⟨X,Y,hXY⟩:∃X Y,pY vH es= [X,Y]:=by
         have h:=hnp'.o;rw[hp2]at h
         match hq:pY vH es,h with
         | [X,Y],_=>exact⟨X,Y,rfl⟩
        have hmX:∀Z∈pY vH es,0≤Z.2.2.2∧Z.2.2.2≤4294967295:=fun Z hZ=>by
         unfold pY at hZ;exact UK t'.o.SI (by rw[←hes'.o.1];exact(eZ.1 hZ).1)
        obtain⟨be,oe,rfl,hbe,fe⟩:=hpar.elem mG (by decide) (0,0,0,0) (show 0<np by omega);obtain⟨be',oe',hae,_,fe'⟩:=hpar.elem mG (by decide) (0,0,0,0) (show 1<np by omega);injection hae with hae;injection hae with bQV bQW _;subst bQV bQW;rw[hXY]at fe fe' hmX;obtain⟨X1,X2,X3,X4⟩:=X;obtain⟨Y1,Y2,Y3,Y4⟩:=Y;have hX4:=hmX (X1,X2,X3,X4) (by simp);have hY4:=hmX (Y1,Y2,Y3,Y4) (by simp);simp only at hX4 hY4;have hbs:=aMG (z:=K.z) (no:=s.no) (s:=si) hXY;rw[mV.o]at hbs;simp only at hbs;have f3:=fe 3 _ rfl;have f3':=fe' 3 _ rfl;simp only[cK,fJ]at f3;have f4':wr.cell? ⟨be,oe+4+3,none⟩=some (.int .i64 Y4):=f3';have f5':wr.cell? ⟨be,oe+7,none⟩=some (.int .i64 Y4):=f3';clear fe fe' hmX hXY hp2 hp1;have qG:=aA hbs;clear hbs
        go_upto_region 22 with fail
        go_cut [21,22]from 132 to 139 (fun v u wx=>v= .int .i64 X4∧u= .int .i64 Y4∧∃m,wx=wr.drewN m)
        case first=>
         go_quiet (fail)
         go_wp2_with fail
         go_meet
         exact⟨rfl,rfl,_,rfl⟩
        case rest=>
         obtain⟨rfl,rfl,mm,hwx⟩:=hcut;rename World=>w5
         have hbq:Below wr.heap.size wr w5:=by rw[hwx];exact below_drewN (aW _ _) _
         have SB:=MW.o.later hbq;have aVG:=hsu.o.keep (Kp.later hbq);clear hwx hbq f3 f3' f4' f5' MW hsu d6 d7 d8 d9;by_cases hy0:0<Y4
         ·have dy:decide (0<Y4)=true:=by simp;omega
          obtain⟨XN,rfl⟩:∃n:Nat,X4=n:=⟨X4.toNat,by omega⟩;obtain⟨YN,rfl⟩:∃n:Nat,Y4=n:=⟨Y4.toNat,by omega⟩;have dyn:decide (0<YN)=true:=by have:=of_decide_eq_true dy;simp;omega
          have aZP:=qG.o;rw[if_pos hy0]at aZP;have HT:=KR K t'.o si yL tki w5 (4,s.no,0,(XN:Int),(YN:Int)) SB.ok XN YN rfl rfl (by omega) (by omega) (by have:=SB.inv.le;omega);obtain⟨T,hT⟩:=aC (mH K.n (4,s.no,0,(XN:Int),(YN:Int)) si);rw[hT]at HT aZP;have hR7:=a6O.o;rw[aZP]at hR7;clear aZP qG a6O hy0;obtain⟨HT',FT,aD3,aZQ⟩:=aH HT SB aVG hR7;clear HT SB aVG hR7;go_wp2_with (go_at_call 143;refine(kI _ _ _).mono ?_;rintro e w3 ⟨rfl,rfl⟩;simp only[kV,kW])
          refine HT'.o.mono ?_;rintro e w8 hpost;cases T with
          |error y=>
           obtain rfl:R= .error y:=by rw[←aZQ.o]
           obtain⟨rfl,wG,hmv⟩:=hpost;clear aZQ hT HT';have BQ:=aA hmv;clear hmv;go_wp2_with fail
           exact⟨rfl,rfl,wG,FT.o.mv.trans BQ.o⟩
          |ok s8=>
           obtain⟨sv8,tk8,nW,uD,rfl⟩:=hpost;have hfit:XN+YN≤K.n:=by
            have:=MB hT;unfold PE vX at this;simp at this;omega
           have b47:Inv K.n s8:=FP hT (by show(1:Int)≤YN;have:=of_decide_eq_true dy;omega) FT.o.inv;have I6:=FT.o.mv2 xJ.o uD nW b47;have aVS:=aD3.o.keep (Kp.mv uD (show K.g<B2 by have:=xJ.o.bb;have:=xJ.o.gd2;omega) (show K.gt<B2 by have:=xJ.o.bb;have:=xJ.o.gd2;omega));have hR8:=aZQ.o;simp only[bU]at hR8;have oV:=nW.WL t'.o;have bW2:=oV.le;obtain⟨a7,hsl,hs7,yO⟩:=b48 (P:=Tryz.prog) (T:=24) (E:=5) (sz:=1) Tryz.underlying24 (fun W=>by kernel_rfl) oV (XN:Int) ((XN:Int)+YN) (by omega) (by omega) (by omega) YN (K.c - XN) (by omega) (by omega);rw[gU,gU,bU,show((ints .u8 K.z).drop XN).take YN=ints .u8 ((K.z.drop XN).take YN) by simp[ints,iH,List.map_drop]]at hs7;have hwa:IntKind.i64.wrap ((XN:Int)+YN)=XN+YN:=by rw[aY];omega
           have k0:w8.cell? ⟨K.g,0,none⟩=some (.slice K.a K.n K.c):=nW.blk.cell rfl;have hbl:((K.z.drop XN).take YN).length=YN:=by rw[eO,fH,mV.o];omega
           obtain⟨bz,hbz⟩:∃l,(K.z.drop XN).take YN=l:=⟨_,rfl⟩;rw[hbz]at hs7 hR8 hbl;have HCl:=aFZ a7 YN (K.c - XN) bz w8 hs7 (by omega);clear hbz hs7 yO nW uD oV aZQ hT HT' FT aD3 b47;obtain⟨zP,aD7,bQX,bK8,qY⟩:=aI I6 aVS hR8 HCl hbl;clear I6 aVS hR8 HCl hbl;go_wp2_with fail
           refine bK8.o.mono ?_;rintro e w9 ⟨a9,c9,rfl,tN,rO⟩;have J2:=zP.o.later rO;have a19:=aD7.o.keep (Kp.later rO);have bK9:Ck (Xv sv8) w8.heap.size w9 (.slice a9 YN c9) 5 1 YN (ints .u8 bz):=⟨tN,fun k e h=>by have h1:=(tN.lt k e).1;have h2:=(zP.o.ok.spot.lt k h).2;omega⟩;have hbt:=(But.refl w.heap.size w9).set 2 (.slice a9 YN c9);have aRD:B2≤w8.heap.size:=zP.o.sz;have q2:w9.cell? ⟨w.heap.size,2,none⟩=some (.slice none 0 0):=J2.bD.cell rfl;have y2:=J2.bD.frozen 2;have bKA:=J2.bFR xJ.o hbt (J2.bD.set 2 (.slice a9 YN c9)) J2.tg rfl;have bKB:=a19.xO hbt J2.bD;have aGV:=vP bK9 hbt J2.bD (by decide);replace aGV:Ck (Xv sv8) w8.heap.size (w9.setCell ⟨w.heap.size,2,none⟩ (.slice a9 YN c9)) (.slice a9 YN c9) 5 1 bz.length (ints .u8 bz):=by rw[qY.o];exact aGV
           clear tN rO J2 a19 bK9 hbt k0 bK8 zP aD7;obtain⟨SE,aVT,aVU⟩:=aG bKA bKB aGV;clear bKA bKB aGV;go_upto_region 26 with fail
           clear q2 y2;generalize w9.setCell ⟨w.heap.size,2,none⟩ (.slice a9 YN c9)=wE at*;have hA3:w.heap.size≤w8.heap.size:=by omega
           obtain rfl:R= .ok (((tags,subs,bz),nxv),s8):=bQX.o.symm;have a1A:=SE.o.ok;have HNN:=fun W (h:Below wE.heap.size wE W)=>HN'.o W ((a1A.WL t'.o).mono h);have bDE:=SE.o.bD;obtain⟨Ty4,f4,aX2,CY,OW⟩:=jR wE;have q0:∀s,(f4 s).cell? ⟨K.g,0,none⟩=some (.slice K.a K.n K.c):=fun s=>(jJ.late a1A.blk (CY s)).cell rfl;have q1:∀s,(f4 s).cell? ⟨K.g,1,none⟩=some (.int .i64 K.o):=fun s=>(jJ.late a1A.blk (CY s)).cell rfl;have e0:∀s,(f4 s).cell? ⟨w.heap.size,0,none⟩=some (.slice av tags.length cv):=fun s=>(jJ.late bDE (CY s)).cell rfl;have e1:∀s,(f4 s).cell? ⟨w.heap.size,1,none⟩=some (.slice as_ subs.length cs):=fun s=>(jJ.late bDE (CY s)).cell rfl;have e2:∀s,(f4 s).cell? ⟨w.heap.size,2,none⟩=some (.slice a9 YN c9):=fun s=>(jJ.late bDE (CY s)).cell rfl;obtain⟨HS,HD,aVV,bAU,bAV,bAW,a7Y⟩:=aK (OW _ ((aW _ _).drew)) ((aW wE.heap.size wE).drew) a1A HNN bDE CY OW;clear a1A HNN bDE CY OW;go_wp2_with fail
           refine jU (S:=fun W=>∃s,W=f4 s) (by kernel_rfl) 14 rfl ?_;refine jF [0,1,2,3,4,5,6,7,8,9,10] 3 (by kernel_rfl) (fun d _ _ _ _ h=>by cases d <;> exact h) (by kernel_rfl) (by kernel_rfl) (by kernel_rfl) HS.o ?_;simp only[jB,aS,aT,aQ,aR];iterate 11 (go_big_quiet_step (fail))
           refine wpQuiet_nil ?_;refine jC 11 2 (by kernel_rfl) (by kernel_rfl) ?_;simp only[jB,aS,aT,aQ,aR];clear q0 q1 e0 e1 e2;go_wp2_with fail
           refine(bAU.o _ HD.o).mono ?_;rintro e wz ⟨rfl,hbz⟩;have hbz:=HD.o.tm hbz;have HS:=aA (a7Y.o _ hbz);have bDz:=bAV.o.late hbz;have e0:wz.cell? ⟨w.heap.size,0,none⟩=some (.slice av tags.length cv):=bDz.cell rfl;have e1:wz.cell? ⟨w.heap.size,1,none⟩=some (.slice as_ subs.length cs):=bDz.cell rfl;have e2:wz.cell? ⟨w.heap.size,2,none⟩=some (.slice a9 YN c9):=bDz.cell rfl;have y0:=bDz.frozen 0;have y1:=bDz.frozen 1;have y2:=bDz.frozen 2;obtain⟨a6T,zU⟩:=aF bDz hbz;clear bDz hbz;go_wp2_with fail
           first|refine Mid.mk ⟨HS.o,?_⟩|refine Mid.mk ?_
           refine jC 12 1 (by kernel_rfl) (by kernel_rfl) ?_;simp only[jB,aS,aT,aQ,aR];go_wp2_with fail
           first|rw[a6T.o.SX]|skip
           first|refine Mid.mk ⟨HS.o,?_⟩|refine Mid.mk ?_
           refine jF [13] 0 (by kernel_rfl) (fun d _ _ _ _ h=>by cases d <;> exact h) (by kernel_rfl) (by kernel_rfl) (by kernel_rfl) HS.o ?_;simp only[jB,aS,aT,aQ,aR];iterate 1 (go_big_quiet_step (fail))
           refine wpQuiet_nil ?_;refine jK (by kernel_rfl) ?_;go_wp2_with fail
           refine bodyPost_ret (jL rfl _ _ w.heap.size 26 #[.slice av tags.length cv,.slice as_ subs.length cs,.slice a9 YN c9] _ rfl a6T.o Tryz.underlying26 rfl (by kernel_rfl)) rfl ?_;have hkz:=fun B=>Kp.later (X:=Xv sv8) (B:=B) zU.o;exact⟨sv8,tk8,aVV.o.later zU.o,SE.o.mv.later zU.o,(.slice av tags.length cv,.slice as_ subs.length cs,.slice a9 YN c9),rfl,JZ (SE.o.tg.keep (hkz _)) (aVT.o.keep (hkz _)) (aVU.o.keep (hkz _)) hA2 hA3⟩
         ·have dy:decide (0<Y4)=false:=by simp;omega
          obtain rfl:R= .error 6:=by rw[←a6O.o,qG.o,if_neg hy0]
          clear hy0 qG;have FT:=aA SB;clear SB;go_wp2_with (go_at_call 143;refine(kI _ _ _).mono ?_;rintro e w3 ⟨rfl,rfl⟩;simp only[kV,kW])
          exact⟨rfl,rfl,yL,FT.o.mv⟩
        -- }DEV
       ·skip
        -- DEV{bQY
        have d5:((np:Int)==2)=false:=by simp;omega
        have hbs:=aMH (z:=K.z) (no:=s.no) (s:=si) (show(pY vH es).length≠2 by rw[hnp'.o];exact hp2);have hR8:=a6O.o;rw[hbs]at hR8;simp only at hR8;obtain rfl:R= .ok (((tags,subs, []),nxv),si):=hR8.symm;have aGV:Ck (Xv yL) w.heap.size wr (.slice none 0 0) 5 1 ([]:List Int).length (ints .u8 []):=⟨kC _ _ _ _,fun k e=>by cases e⟩;have hA3:w.heap.size≤w.heap.size:=aU _;have SE:=MW;have aVT:=hsu;clear MW hsu;generalize wr=wE at*;clear hbs hR8 a6O hp1 hp2;have aVU:=aA aGV;clear aGV;go_upto_region 26 with fail
        have a1A:=SE.o.ok;have HNN:=fun W (h:Below wE.heap.size wE W)=>HN'.o W ((a1A.WL t'.o).mono h);have bDE:=SE.o.bD;obtain⟨Ty4,f4,aX2,CY,OW⟩:=jR wE;have q0:∀s,(f4 s).cell? ⟨K.g,0,none⟩=some (.slice K.a K.n K.c):=fun s=>(jJ.late a1A.blk (CY s)).cell rfl;have q1:∀s,(f4 s).cell? ⟨K.g,1,none⟩=some (.int .i64 K.o):=fun s=>(jJ.late a1A.blk (CY s)).cell rfl;have e0:∀s,(f4 s).cell? ⟨w.heap.size,0,none⟩=some (.slice av tags.length cv):=fun s=>(jJ.late bDE (CY s)).cell rfl;have e1:∀s,(f4 s).cell? ⟨w.heap.size,1,none⟩=some (.slice as_ subs.length cs):=fun s=>(jJ.late bDE (CY s)).cell rfl;have e2:∀s,(f4 s).cell? ⟨w.heap.size,2,none⟩=some (.slice none 0 0):=fun s=>(jJ.late bDE (CY s)).cell rfl;obtain⟨HS,HD,aVV,bAU,bAV,bAW,a7Y⟩:=aK (OW _ ((aW _ _).drew)) ((aW wE.heap.size wE).drew) a1A HNN bDE CY OW;clear a1A HNN bDE CY OW;go_wp2_with fail
        refine jU (S:=fun W=>∃s,W=f4 s) (by kernel_rfl) 14 rfl ?_;refine jF [0,1,2,3,4,5,6,7,8,9,10] 3 (by kernel_rfl) (fun d _ _ _ _ h=>by cases d <;> exact h) (by kernel_rfl) (by kernel_rfl) (by kernel_rfl) HS.o ?_;simp only[jB,aS,aT,aQ,aR];iterate 11 (go_big_quiet_step (fail))
        refine wpQuiet_nil ?_;refine jC 11 2 (by kernel_rfl) (by kernel_rfl) ?_;simp only[jB,aS,aT,aQ,aR];clear q0 q1 e0 e1 e2;go_wp2_with fail
        refine(bAU.o _ HD.o).mono ?_;rintro e wz ⟨rfl,hbz⟩;have hbz:=HD.o.tm hbz;have HS:=aA (a7Y.o _ hbz);have bDz:=bAV.o.late hbz;have e0:wz.cell? ⟨w.heap.size,0,none⟩=some (.slice av tags.length cv):=bDz.cell rfl;have e1:wz.cell? ⟨w.heap.size,1,none⟩=some (.slice as_ subs.length cs):=bDz.cell rfl;have e2:wz.cell? ⟨w.heap.size,2,none⟩=some (.slice none 0 0):=bDz.cell rfl;have y0:=bDz.frozen 0;have y1:=bDz.frozen 1;have y2:=bDz.frozen 2;obtain⟨a6T,zU⟩:=aF bDz hbz;clear bDz hbz;go_wp2_with fail
        first|refine Mid.mk ⟨HS.o,?_⟩|refine Mid.mk ?_
        refine jC 12 1 (by kernel_rfl) (by kernel_rfl) ?_;simp only[jB,aS,aT,aQ,aR];go_wp2_with fail
        first|rw[a6T.o.SX]|skip
        first|refine Mid.mk ⟨HS.o,?_⟩|refine Mid.mk ?_
        refine jF [13] 0 (by kernel_rfl) (fun d _ _ _ _ h=>by cases d <;> exact h) (by kernel_rfl) (by kernel_rfl) (by kernel_rfl) HS.o ?_;simp only[jB,aS,aT,aQ,aR];iterate 1 (go_big_quiet_step (fail))
        refine wpQuiet_nil ?_;refine jK (by kernel_rfl) ?_;go_wp2_with fail
        refine bodyPost_ret (jL rfl _ _ w.heap.size 26 #[.slice av tags.length cv,.slice as_ subs.length cs,.slice none 0 0] _ rfl a6T.o Tryz.underlying26 rfl (by kernel_rfl)) rfl ?_;have hkz:=fun B=>Kp.later (X:=Xv yL) (B:=B) zU.o;exact⟨yL,tki,aVV.o.later zU.o,SE.o.mv.later zU.o,(.slice av tags.length cv,.slice as_ subs.length cs,.slice none 0 0),rfl,JZ (SE.o.tg.keep (hkz _)) (aVT.o.keep (hkz _)) (aVU.o.keep (hkz _)) hA2 hA3⟩;-- }DEV
theorem aZR (K:WkS) (t:WkT K) (ho:K.o=1∨K.o=2) (hval:l9 (jN K.zs)=true) (f:Nat):∀(p:Int) (sh:Nat) (s:St) (sv:Value) (tk:List Nat) (w:World),vL K s sv tk w→Inv K.n s→0≤p→p≤4294967295→sh<K.sn→K.sn≤sh+f→
  Calls Tryz.prog 145 #[.pointer (some ⟨K.g,0,none⟩),.int .i64 p,.int .i64 sh] w (V6 K sv w (nR K.z K.o (jN K.zs) f p sh s) (aIA f w)):=by
 induction f with
 |zero=>
  intro p sh s sv tk w hok hinv h0 h1 h2 h3;omega
 |succ f ih=>exact aV0 K t ho hval f ih
