import Derived.Test.YtceclmpmpldmlaaGreatCw28
set_option linter.unusedSimpArgs false
set_option linter.unusedVariables false
namespace Tt
open Go Go.RowKit
theorem Mv.yS {g gt h:Nat} {sv s1:Value} {w w8 w9:World} (m:Mv g gt sv s1 w w8) (hh:w.heap.size≤h) (b:But h w8 w9):Mv g gt sv s1 w w9:=
 ⟨b.os.trans m.os,b.tape.trans m.tape,b.output.trans m.output,bU m.size b.size,fun k hk h1 h2 h3=>(b.block k (dD hk m.size) aG).trans (m.block k hk h1 h2 h3),m.own⟩
end Tt
namespace Go.Proofs.YtceclmpmpldmlaaGreat
open Go.RowKit Tt
theorem zJ.but {K:WkS} {s:St} {sv:Value} {tk:List Nat} {w w':World} {h:Nat} (ok:zJ K s sv tk w) (b:But h w w') (h1:h≠K.g) (h2:h≠K.gt) (h3:sv.ownBlock≠some h) (h4:K.w0.heap.size≤h):zJ K s sv tk w':=
 ⟨ok.old.trans (b.below h4 ok.old.size),ok.blk.but b (Ne.symm h1),kG.but (T:=214) ok.tak b (Ne.symm h2),ok.tkl,ok.tkb,ok.bits,mV ok.spot b h3,ok.sg,ok.sgt⟩
def bLU (w:World) (v:oZ) (zS:Value) (e:Ending) (w':World):Prop:=
 ∃a m c,e= .returned (.agg #[.int .i64 v.1,.int .i64 v.2.1,.int .i64 v.2.2.1,.slice a m c])∧Ck (fun k=>zS.ownBlock=some k) w.heap.size w' (.slice a m c) 5 1 v.2.2.2.length (ints .u8 v.2.2.2)
set_option maxRecDepth 20000 in
set_option maxHeartbeats 8000000 in
theorem aKP (K:WkS) (t:WkT K) (ho:K.o=1∨K.o=2) (s:St) (sv:Value) (tk:List Nat) (w:World) (x:oJ) (no:Int) (wP:zJ K s sv tk w) (h0:0≤x.2.2.2) (h1:x.2.2.2≤4294967295) (EJ:s.o5.length≤4294967295):
  Calls Tryz.prog 213 #[.pointer (some ⟨K.g,0,none⟩),aB3 x,.int .i64 no] w (a1E K sv w (rY K.z K.o x no s) (bLU w)):=by
 obtain⟨tg,ty,cnt,sl⟩:=x;simp only at h0 h1;obtain⟨S,rfl⟩:∃S:Nat,sl=S:=⟨sl.toNat,by omega⟩;have hn:=t.n1;have vO:=t.hs.p9;obtain⟨R,hR⟩:=aC (rY K.z K.o (tg,ty,cnt,(S:Int)) no s);rw[hR];unfold rY at hR;simp only at hR;rw[vO,cB]at hR;have hSz:=fun W=>aE1 ty W;have hOu:=fun W=>aMO ty cnt W;have hou:0≤rT ty cnt∧rT ty cnt≤524288:=by unfold rT;have:=WR ty cnt;split <;> omega
 obtain⟨sz,tC⟩:∃v,(lI ty).1=v:=⟨_,rfl⟩;obtain⟨L,hL⟩:∃L:Nat,rT ty cnt=L:=⟨(rT ty cnt).toNat,by omega⟩;rw[tC]at hR hSz;rw[hL]at hR hOu hou;have hL5:L≤524288:=by omega
 unfold aB3;simp only;obtain⟨W,hW⟩:∃W,(w.alloc (.cells #[.int .i64 tg,.int .i64 ty,.int .i64 cnt,.int .i64 S] 55)).alloc (.cells #[.int .i64 0,.int .i64 0,.int .i64 0,.slice none 0 0] 74)=W:=⟨_,rfl⟩;have bx:kG W w.heap.size 55 #[.int .i64 tg,.int .i64 ty,.int .i64 cnt,.int .i64 S]:=by rw[←hW];exact(kG.new w _ _).alloc _
 have b0:kG W (w.heap.size+1) 74 #[.int .i64 0,.int .i64 0,.int .i64 0,.slice none 0 0]:=by rw[←hW];exact wZ _ _ (by simp)
 have hbW:Below w.heap.size w W:=by rw[←hW];exact((aD w _).alloc (by simp) _)
 have bIG:=b0.lt;have k1:=bx.cell (i:=1) rfl;have JJ:K.g<w.heap.size:=wP.blk.lt;have bX7:K.gt<w.heap.size:=kG.lt (T:=214) wP.tak;have aWK:∀k,sv.ownBlock=some k→k<w.heap.size:=fun k e=>(wP.spot.lt k e).2;clear tC hL;obtain⟨nJ,t',bLV,bX9,bx',b0',KI,qM,oC,YG⟩:=aR wP t hSz hOu bx b0 hbW hR vO aWK;clear wP t hSz hOu bx b0 hbW hR vO aWK;go_enter Tryz.func213,Tryz.ntmps213;go_upto_region 1 with fail
 try rw[hW]
 clear hW;go_wp2_with fail
 refine(bLV.o _).mono ?_;rintro e w1 ⟨rfl,kV⟩;have bx1:=bx'.o.late kV;have b01:=b0'.o.late kV;have a4B:=KI.o.tm kV;have aIE:=b01.lt;clear k1;have k1:=bx1.cell (i:=1) rfl;have k2:=bx1.cell (i:=2) rfl;clear kV bx' b0' KI bIG;obtain⟨bx1',aE5,DC⟩:=aK bx1 b01 a4B;clear bx1 b01 a4B;by_cases hc:0<sz∧1≤cnt∧cnt≤65536
 case neg=>
  obtain rfl:R= .error 6:=by rw[←qM.o,if_neg hc]
  by_cases hc1:0<sz
  ·have d1:decide (0<sz)=true:=by simp;omega
   by_cases hc2:1≤cnt
   ·have d2:decide (1≤cnt)=true:=by simp;omega
    have d3:decide (cnt≤65536)=false:=by simp;omega
    clear hc hc1 hc2;go_wp2_with (go_at_call 143;refine(lJ _ _ _).mono ?_;rintro e w3 ⟨rfl,rfl⟩;simp only[mF,mG])
    exact⟨rfl,rfl,sv,Mv.of_below DC.o⟩
   ·have d2:decide (1≤cnt)=false:=by simp;omega
    clear hc hc1 hc2;go_wp2_with (go_at_call 143;refine(lJ _ _ _).mono ?_;rintro e w3 ⟨rfl,rfl⟩;simp only[mF,mG])
    exact⟨rfl,rfl,sv,Mv.of_below DC.o⟩
  ·have d1:decide (0<sz)=false:=by simp;omega
   clear hc hc1;go_wp2_with (go_at_call 143;refine(lJ _ _ _).mono ?_;rintro e w3 ⟨rfl,rfl⟩;simp only[mF,mG])
   exact⟨rfl,rfl,sv,Mv.of_below DC.o⟩
 case pos=>
  have d1:decide (0<sz)=true:=by simp;omega
  have d2:decide (1≤cnt)=true:=by simp;omega
  have d3:decide (cnt≤65536)=true:=by simp;omega
  replace qM:=aA (by have h:=qM.o;rw[if_pos hc]at h;exact h)
  clear hc;go_wp2_with (go_at_call 143;refine(lJ _ _ _).mono ?_;rintro e w3 ⟨rfl,rfl⟩;simp only[mF,mG])
  refine(bX9.o _).mono ?_;rintro e w2 ⟨rfl,kP⟩;have bx2:=bx1'.o.late kP;have b02:=aE5.o.late kP;have rG:=DC.o.tm kP;have aS2:=b02.lt;have OJ:=nJ.o.later rG;clear k1 k2 kP bx1' aE5 DC aIE;have k0:=bx2.cell (i:=0) rfl;have k3:=bx2.cell (i:=3) rfl;obtain⟨aB7,UZ,nD,a1G⟩:=aL bx2 b02 rG OJ;clear bx2 b02 rG OJ;by_cases hL0:0<(L:Int)
  case pos=>
   have d4:decide (0<(L:Int))=true:=by simp;omega
   have d5:decide (0<L)=true:=by simp;omega
   replace qM:=aA (by have h:=qM.o;rw[if_pos hL0]at h;exact h)
   have HT:=QM K t'.o s sv tk w2 (3,no,tg,(S:Int),(L:Int)) a1G.o S L rfl rfl aG aG EJ;obtain⟨T,hT⟩:=aC (oG K.n (3,no,tg,(S:Int),(L:Int)) s);have hR3:=qM.o;rw[hT]at HT hR3;clear qM;obtain⟨HT',a0G⟩:=aJ HT hR3;clear HT hR3;go_wp2_with fail
   refine HT'.o.mono ?_;rintro e w5 nW;cases T with
   |error y=>
    obtain rfl:R= .error y:=by rw[←a0G.o]
    obtain⟨rfl,zS,yJ⟩:=nW;clear a0G hT HT';have IQ:=aA yJ;clear yJ;go_wp2_with fail
    exact⟨rfl,rfl,zS,(Mv.of_below nD.o).trans IQ.o⟩
   |ok s1=>
    obtain⟨sv1,tk1,FK,aCD,rfl⟩:=nW;have JF:S+L≤K.n:=by
     have:=SL hT;unfold WX zZ at this;simp at this;omega
    have hR4:=a0G.o;simp only at hR4;have bx5:=aB7.o.mv aCD aG aG (fun e=>by have:=YG.o _ e;omega);have b05:=UZ.o.mv aCD aG aG (fun e=>by have:=YG.o _ e;omega);have a6A:=(Mv.of_below nD.o).trans aCD;have bLW:sv1.ownBlock≠some (w.heap.size+1):=fun e=>by rcases aCD.own _ e with h|h <;> first|(have:=YG.o _ h;omega)|omega
    have nV:=FK.a2G t'.o;clear a0G hT HT' k0 k3 aCD aB7 UZ nD a1G;have FI:=nV.le;obtain⟨a7,qU,hs7,EY⟩:=aMF (P:=Tryz.prog) (T:=24) (E:=5) (sz:=1) Tryz.underlying24 (fun W=>by kernel_rfl) nV (S:Int) aG aG (K.n - S) (K.c - S) aG aG;rw[iH,cB,show(ints .u8 K.z).drop S=ints .u8 (K.z.drop S) by simp[ints]]at hs7;obtain⟨Ty,f,pQ,kI,kE⟩:=kM w5;have q0:=fun s=>(kG.late FK.blk (kI s)).cell (i:=0) rfl;have q1:=fun s=>(kG.late FK.blk (kI s)).cell (i:=1) rfl;have r1:=fun s=>(kG.late bx5 (kI s)).cell (i:=1) rfl;have r2:=fun s=>(kG.late bx5 (kI s)).cell (i:=2) rfl;have r3:=fun s=>(kG.late bx5 (kI s)).cell (i:=3) rfl;obtain⟨HS,HD⟩:=aJ (kE _ ((bF _ _).drew)) ((bF w5.heap.size w5).drew);have HO:=fun W (h:Below w5.heap.size w5 W)=>aTA ty cnt a7 (K.n - S) (K.c - S) (K.z.drop S) K.o W (hs7.mono h) (t'.o.byt.drop _);have hw5:w.heap.size+1<w5.heap.size:=b05.lt;obtain⟨V,hV⟩:=aC (ofS ty cnt (K.z.drop S) K.o);rw[hV]at HO hR4;clear hV;obtain⟨kD,jV,bUP,PE,HO',G9,bLX,aB5,a1F,LF,QO⟩:=aS kI kE hs7 EY HO FK bx5 b05 a6A nV hR4;clear kI kE hs7 EY HO FK bx5 b05 a6A nV hR4;go_wp2_with fail
    refine kR (S:=fun W=>∃s,W=f s) aF 24 rfl ?_;refine jZ [0,1,2,3,4,5,6,7,8,9,10,11,12,13,14,15,16] 7 aF aI aF aF aF HS.o ?_;simp only[jW,aW,aX,aU,aV];iterate 17 (go_big_quiet_step (fail))
    refine wpQuiet_nil ?_;refine vC 17 21 6 aF aF ?_ ?_;all_goals simp only[jW,aW,aX,aU,aV]
    case refine_1=>
     go_wp2_with fail
     refine(HO'.o _ HD.o).mono ?_;rintro e w6 ⟨ty',cnt',a3,m3,c3,rfl,vU,hd6⟩;have vU:=HD.o.tm vU;obtain⟨HS,MO,WV⟩:=aK (jV.o _ vU) vU hd6;clear vU hd6;go_wp2_with fail
     first|refine Mid.mk ⟨HS.o,?_⟩|refine Mid.mk ?_
     refine jZ [18,19,20] 3 aF aI aF aF aF HS.o ?_;simp only[jW,aW,aX,aU,aV];iterate 3 (go_big_quiet_step (fail))
     refine wpQuiet_nil ?_;refine jX 21 2 aF aF ?_;simp only[jW,aW,aX,aU,aV];go_wp2_with fail
     have kU:=aD w6 (.cells #[.int .i64 0,.int .i64 0,.slice none 0 0] 72);have b7:=kG.new w6 72 #[.int .i64 0,.int .i64 0,.slice none 0 0];have xC:=MO.o.tm kU;have hg7:w5.heap.size≤w6.heap.size:=MO.o.size;have hd7:=fun d h=>(⟨(WV.o d h).1,(WV.o d h).2.1,l6 (WV.o d h).2.2 kU,fun e=>by have:=((WV.o d h).2.2.lt _ e).2;omega⟩:ty'=ty∧cnt'=cnt∧World.ownsRow _ _ _ _ _ _ _∧(Value.slice a3 m3 c3).ownBlock≠some w6.heap.size);clear kU;generalize w6.alloc (.cells #[.int .i64 0,.int .i64 0,.slice none 0 0] 72)=w7 at*;generalize w6.heap.size=g7 at*;have HS:=aA (jV.o _ xC);clear MO WV;obtain⟨yR,wV,FW⟩:=aK b7 xC hd7;clear b7 xC hd7;first|refine Mid.mk ⟨HS.o,?_⟩|refine Mid.mk ?_
     refine jX 22 1 aF aF ?_;simp only[jW,aW,aX,aU,aV];have p0:=yR.o.cell (i:=0) rfl;have p1:=yR.o.cell (i:=1) rfl;have p2:=yR.o.cell (i:=2) rfl;have y0:=yR.o.frozen 0;have y1:=yR.o.frozen 1;have y2:=yR.o.frozen 2;go_wp2_with fail
     have b8:=yR.o.D5 (.int .i64 ty') (.int .i64 cnt') (.slice a3 m3 c3);have rW:=lT wV.o hg7 (.int .i64 ty') (.int .i64 cnt') (.slice a3 m3 c3);have HS:=aA (jV.o _ rW);have hd8:=fun d h=>(⟨(FW.o d h).1,(FW.o d h).2.1,mV (FW.o d h).2.2.1 ((((But.refl g7 w7).set 0 (.int .i64 ty')).set 1 (.int .i64 cnt')).set 2 (.slice a3 m3 c3)) (FW.o d h).2.2.2⟩:ty'=ty∧cnt'=cnt∧World.ownsRow _ _ _ _ _ _ _);refine Mid.mk ⟨HS.o,?_⟩;refine jZ [23] 0 aF aI aF aF aF HS.o ?_;simp only[jW,aW,aX,aU,aV];iterate 1 (go_big_quiet_step (fail))
     refine wpQuiet_nil ?_;refine kH aF ?_;clear p0 p1 p2 y0 y1 y2 yR wV FW q0 q1 r1 r2 r3 HS;generalize (((w7.setCell ⟨g7,0,none⟩ (.int .i64 ty')).setCell ⟨g7,1,none⟩ (.int .i64 cnt')).setCell ⟨g7,2,none⟩ (.slice a3 m3 c3))=w8 at*;have TY:=bLX.o.late rW;have D8:=aB5.o.late rW;have pV:=G9.o.later rW;have yA:=a1F.o.later rW;have hw8:=rW.size;cases V with
     |none=>
      obtain rfl:R= .error 6:=by rw[←QO.o]
      simp only[Option.isSome_none]at*;clear hd8;obtain⟨b8',ZU,aCE,a0H,J5,zD⟩:=aN b8 rW TY D8 pV yA;clear b8 rW TY D8 pV yA;go_wp2_with (go_at_call 143;refine(lJ _ _ _).mono ?_;rintro e w3 ⟨rfl,rfl⟩;simp only[mF,mG])
      exact⟨rfl,rfl,sv1,zD.o⟩
     |some d=>
      obtain⟨rfl,rfl,hod⟩:=hd8 d rfl;obtain rfl:R= .ok ((tg,ty',cnt',d),s1):=by rw[←QO.o]
      have RU:=(Sl.kZ hod).1.p9;simp only[Option.isSome_some]at*;have t0:=TY.cell (i:=0) rfl;have v0:=b8.cell (i:=0) rfl;have v1:=b8.cell (i:=1) rfl;have v2:=b8.cell (i:=2) rfl;have p0:=D8.cell (i:=0) rfl;have p1:=D8.cell (i:=1) rfl;have p2:=D8.cell (i:=2) rfl;have p3:=D8.cell (i:=3) rfl;have y0:=D8.frozen 0;have y1:=D8.frozen 1;have y2:=D8.frozen 2;have y3:=D8.frozen 3;clear hd8;obtain⟨b8',ZU,aCE,a0H,J5,zD,PG,O0⟩:=aP b8 rW TY D8 pV yA hod RU;clear b8 rW TY D8 pV yA hod RU;go_wp2_with (go_at_call 143;refine(lJ _ _ _).mono ?_;rintro e w3 ⟨rfl,rfl⟩;simp only[mF,mG])
      refine bodyPost_ret (results_cell_row rfl _ _ (w.heap.size+1) 74 #[.int .i64 tg,.int .i64 ty',.int .i64 cnt',.slice a3 m3 c3] (0,0) _ rfl (a0H.o.a3E _ _ _ _) Tryz.underlying74 rfl aF) rfl ?_;have mQ:=(((((But.refl (w.heap.size+1) w8).set 0 (.int .i64 tg)).set 1 (.int .i64 ty')).set 2 (.int .i64 cnt')).set 3 (.slice a3 m3 c3));have b4L:w5.drew.heap.size=w5.heap.size:=rfl;refine⟨sv1,tk1,J5.o.but mQ aG aG bLW (bU nJ.o.old.size (eD _)),zD.o.yS (eD _) mQ,a3,m3,c3,rfl,?_,fun kk e h=>?_⟩
      ·have h:=mV PG.o mQ (fun e=>by have:=(PG.o.lt _ e).1;omega);rw[O0.o];exact lN h aG
      ·have h1:=(PG.o.lt kk e).1;have h2:=(G9.o.spot.lt kk h).2;omega
    case refine_2=>
     go_wp2_with fail
     have xC:=(aD w5 (.cells #[.int .i64 0,.int .i64 0,.slice none 0 0] 72)).drew;have b7:kG (w5.alloc (.cells #[.int .i64 0,.int .i64 0,.slice none 0 0] 72)).drew w5.heap.size 72 #[.int .i64 0,.int .i64 0,.slice none 0 0]:=kG.new w5 _ _;have HS:=aA (jV.o _ xC);have aB2:(w5.alloc (.cells #[.int .i64 0,.int .i64 0,.slice none 0 0] 72)).drew.heap.size=w5.heap.size+1:=by show(w5.alloc _).heap.size=_;simp
     obtain⟨w3,xE⟩:∃w3,(w5.alloc (.cells #[.int .i64 0,.int .i64 0,.slice none 0 0] 72)).drew=w3:=⟨_,rfl⟩;rw[xE]at xC b7 HS aB2;rw[xE];clear xE;obtain⟨yR,wV⟩:=aJ b7 xC;clear b7 xC;first|refine Mid.mk ⟨HS.o,?_⟩|refine Mid.mk ?_
     refine jX 17 5 aF aF ?_;simp only[jW,aW,aX,aU,aV];go_wp2_with fail
     refine(HO'.o _ wV.o).mono ?_;rintro e w7 ⟨ty',cnt',a3,m3,c3,rfl,vU,hd6⟩;have a6B:=wV.o.tm vU;have b7:=yR.o.late vU;have HS:=aA (jV.o _ a6B);have hd7:=fun d h=>(⟨(hd6 d h).1,(hd6 d h).2.1,lN (hd6 d h).2.2 wV.o.size,fun e=>by have:=((hd6 d h).2.2.lt _ e).1;omega⟩:ty'=ty∧cnt'=cnt∧World.ownsRow w7 w5.heap.size _ _ _ _ _∧(Value.slice a3 m3 c3).ownBlock≠some w5.heap.size);have xC:=a6B;obtain⟨g7,TQ⟩:∃g,w5.heap.size=g:=⟨_,rfl⟩;have hg7:w5.heap.size≤g7:=iG TQ;clear yR wV vU a6B hd6 aB2;rw[TQ]at b7;rw[TQ];replace hd7:=fun d h=>(⟨(hd7 d h).1,(hd7 d h).2.1,(hd7 d h).2.2.1,TQ▸(hd7 d h).2.2.2⟩:ty'=ty∧cnt'=cnt∧World.ownsRow w7 w5.heap.size _ _ _ _ _∧(Value.slice a3 m3 c3).ownBlock≠some g7)
     clear TQ;obtain⟨yR,wV,FW⟩:=aK b7 xC hd7;clear b7 xC hd7;go_wp2_with fail
     first|refine Mid.mk ⟨HS.o,?_⟩|refine Mid.mk ?_
     refine jZ [18,19,20] 2 aF aI aF aF aF HS.o ?_;simp only[jW,aW,aX,aU,aV];iterate 3 (go_big_quiet_step (fail))
     refine wpQuiet_nil ?_;refine jX 22 1 aF aF ?_;simp only[jW,aW,aX,aU,aV];have p0:=yR.o.cell (i:=0) rfl;have p1:=yR.o.cell (i:=1) rfl;have p2:=yR.o.cell (i:=2) rfl;have y0:=yR.o.frozen 0;have y1:=yR.o.frozen 1;have y2:=yR.o.frozen 2;go_wp2_with fail
     have b8:=yR.o.D5 (.int .i64 ty') (.int .i64 cnt') (.slice a3 m3 c3);have rW:=lT wV.o hg7 (.int .i64 ty') (.int .i64 cnt') (.slice a3 m3 c3);have HS:=aA (jV.o _ rW);have hd8:=fun d h=>(⟨(FW.o d h).1,(FW.o d h).2.1,mV (FW.o d h).2.2.1 ((((But.refl g7 w7).set 0 (.int .i64 ty')).set 1 (.int .i64 cnt')).set 2 (.slice a3 m3 c3)) (FW.o d h).2.2.2⟩:ty'=ty∧cnt'=cnt∧World.ownsRow _ _ _ _ _ _ _);refine Mid.mk ⟨HS.o,?_⟩;refine jZ [23] 0 aF aI aF aF aF HS.o ?_;simp only[jW,aW,aX,aU,aV];iterate 1 (go_big_quiet_step (fail))
     refine wpQuiet_nil ?_;refine kH aF ?_;clear p0 p1 p2 y0 y1 y2 yR wV FW q0 q1 r1 r2 r3 HS;generalize (((w7.setCell ⟨g7,0,none⟩ (.int .i64 ty')).setCell ⟨g7,1,none⟩ (.int .i64 cnt')).setCell ⟨g7,2,none⟩ (.slice a3 m3 c3))=w8 at*;have TY:=bLX.o.late rW;have D8:=aB5.o.late rW;have pV:=G9.o.later rW;have yA:=a1F.o.later rW;have hw8:=rW.size;cases V with
     |none=>
      obtain rfl:R= .error 6:=by rw[←QO.o]
      simp only[Option.isSome_none]at*;clear hd8;obtain⟨b8',ZU,aCE,a0H,J5,zD⟩:=aN b8 rW TY D8 pV yA;clear b8 rW TY D8 pV yA;go_wp2_with (go_at_call 143;refine(lJ _ _ _).mono ?_;rintro e w3 ⟨rfl,rfl⟩;simp only[mF,mG])
      exact⟨rfl,rfl,sv1,zD.o⟩
     |some d=>
      obtain⟨rfl,rfl,hod⟩:=hd8 d rfl;obtain rfl:R= .ok ((tg,ty',cnt',d),s1):=by rw[←QO.o]
      have RU:=(Sl.kZ hod).1.p9;simp only[Option.isSome_some]at*;have t0:=TY.cell (i:=0) rfl;have v0:=b8.cell (i:=0) rfl;have v1:=b8.cell (i:=1) rfl;have v2:=b8.cell (i:=2) rfl;have p0:=D8.cell (i:=0) rfl;have p1:=D8.cell (i:=1) rfl;have p2:=D8.cell (i:=2) rfl;have p3:=D8.cell (i:=3) rfl;have y0:=D8.frozen 0;have y1:=D8.frozen 1;have y2:=D8.frozen 2;have y3:=D8.frozen 3;clear hd8;obtain⟨b8',ZU,aCE,a0H,J5,zD,PG,O0⟩:=aP b8 rW TY D8 pV yA hod RU;clear b8 rW TY D8 pV yA hod RU;go_wp2_with (go_at_call 143;refine(lJ _ _ _).mono ?_;rintro e w3 ⟨rfl,rfl⟩;simp only[mF,mG])
      refine bodyPost_ret (results_cell_row rfl _ _ (w.heap.size+1) 74 #[.int .i64 tg,.int .i64 ty',.int .i64 cnt',.slice a3 m3 c3] (0,0) _ rfl (a0H.o.a3E _ _ _ _) Tryz.underlying74 rfl aF) rfl ?_;have mQ:=(((((But.refl (w.heap.size+1) w8).set 0 (.int .i64 tg)).set 1 (.int .i64 ty')).set 2 (.int .i64 cnt')).set 3 (.slice a3 m3 c3));have b4L:w5.drew.heap.size=w5.heap.size:=rfl;refine⟨sv1,tk1,J5.o.but mQ aG aG bLW (bU nJ.o.old.size (eD _)),zD.o.yS (eD _) mQ,a3,m3,c3,rfl,?_,fun kk e h=>?_⟩
      ·have h:=mV PG.o mQ (fun e=>by have:=(PG.o.lt _ e).1;omega);rw[O0.o];exact lN h aG
      ·have h1:=(PG.o.lt kk e).1;have h2:=(G9.o.spot.lt kk h).2;omega
  case neg=>
   have d4:decide (0<(L:Int))=false:=by simp;omega
   have d5:decide (0<L)=false:=by simp;omega
   have hR4:=qM.o;rw[if_neg hL0]at hR4;obtain⟨Ty,f,pQ,kI,kE⟩:=kM w2;have q1:=fun s=>(kG.late a1G.o.blk (kI s)).cell (i:=1) rfl;have r0:=fun s=>(kG.late aB7.o (kI s)).cell (i:=0) rfl;have r1:=fun s=>(kG.late aB7.o (kI s)).cell (i:=1) rfl;have r2:=fun s=>(kG.late aB7.o (kI s)).cell (i:=2) rfl;have r3:=fun s=>(kG.late aB7.o (kI s)).cell (i:=3) rfl;obtain⟨HS,HD⟩:=aJ (kE _ ((bF _ _).drew)) ((bF w2.heap.size w2).drew);have HO:=fun W=>aPA (tg,ty,cnt,(S:Int)) K.o W;unfold aB3 at HO;simp only at HO;obtain⟨V,hV⟩:=aC (inS (tg,ty,cnt,(S:Int)) K.o);rw[hV]at HO hR4;clear hV qM k0 k3;obtain⟨kD,jV,HO',QO⟩:=aL kI kE HO hR4;clear kI kE HO hR4;go_wp2_with fail
   refine kR (S:=fun W=>∃s,W=f s) aF 15 rfl ?_;refine jZ [0,1,2,3,4,5] 9 aF aI aF aF aF HS.o ?_;simp only[jW,aW,aX,aU,aV];iterate 6 (go_big_quiet_step (fail))
   refine wpQuiet_nil ?_;refine vC 6 11 8 aF aF ?_ ?_;all_goals simp only[jW,aW,aX,aU,aV]
   case refine_1=>
    go_wp2_with fail
    refine(HO'.o _).mono ?_;rintro e w6 ⟨ty',cnt',a3,m3,c3,cl,rfl,vU,hd6⟩;have vU:=HD.o.tm vU;obtain⟨HS,MO,WV⟩:=aK (jV.o _ vU) vU hd6;clear vU hd6;go_wp2_with fail
    first|refine Mid.mk ⟨HS.o,?_⟩|refine Mid.mk ?_
    refine jZ [7,8,9,10] 4 aF aI aF aF aF HS.o ?_;simp only[jW,aW,aX,aU,aV];iterate 4 (go_big_quiet_step (fail))
    refine wpQuiet_nil ?_;refine jX 11 3 aF aF ?_;simp only[jW,aW,aX,aU,aV];go_wp2_with fail
    have kU:=aD w6 (.cells #[.int .i64 0,.int .i64 0,.slice none 0 0] 72);have b7:=kG.new w6 72 #[.int .i64 0,.int .i64 0,.slice none 0 0];have xC:=MO.o.tm kU;have hg7:w2.heap.size≤w6.heap.size:=MO.o.size;have hd7:=fun d h=>(⟨(WV.o d h).1,(WV.o d h).2.1,(WV.o d h).2.2.1,l6 (WV.o d h).2.2.2 kU,fun e=>by have:=((WV.o d h).2.2.2.lt _ e).2;omega⟩:ty'=ty∧cnt'=cnt∧cl=d.2∧World.ownsRow _ _ _ _ _ _ _∧(Value.slice a3 m3 c3).ownBlock≠some w6.heap.size);clear kU;generalize w6.alloc (.cells #[.int .i64 0,.int .i64 0,.slice none 0 0] 72)=w7 at*;generalize w6.heap.size=g7 at*;have HS:=aA (jV.o _ xC);clear MO WV;obtain⟨yR,wV,FW⟩:=aK b7 xC hd7;clear b7 xC hd7;first|refine Mid.mk ⟨HS.o,?_⟩|refine Mid.mk ?_
    refine jX 12 2 aF aF ?_;simp only[jW,aW,aX,aU,aV];have p0:=yR.o.cell (i:=0) rfl;have p1:=yR.o.cell (i:=1) rfl;have p2:=yR.o.cell (i:=2) rfl;have y0:=yR.o.frozen 0;have y1:=yR.o.frozen 1;have y2:=yR.o.frozen 2;go_wp2_with fail
    have b8:=yR.o.D5 (.int .i64 ty') (.int .i64 cnt') (.slice a3 m3 c3);have rW:=lT wV.o hg7 (.int .i64 ty') (.int .i64 cnt') (.slice a3 m3 c3);have HS:=aA (jV.o _ rW);have hd8:=fun d h=>(⟨(FW.o d h).1,(FW.o d h).2.1,(FW.o d h).2.2.1,mV (FW.o d h).2.2.2.1 ((((But.refl g7 w7).set 0 (.int .i64 ty')).set 1 (.int .i64 cnt')).set 2 (.slice a3 m3 c3)) (FW.o d h).2.2.2.2⟩:ty'=ty∧cnt'=cnt∧cl=d.2∧World.ownsRow _ _ _ _ _ _ _);refine Mid.mk ⟨HS.o,?_⟩;refine jZ [13,14] 0 aF aI aF aF aF HS.o ?_;simp only[jW,aW,aX,aU,aV];iterate 2 (go_big_quiet_step (fail))
    refine wpQuiet_nil ?_;refine kH aF ?_;clear p0 p1 p2 y0 y1 y2 yR wV FW q1 r0 r1 r2 r3 HS;generalize (((w7.setCell ⟨g7,0,none⟩ (.int .i64 ty')).setCell ⟨g7,1,none⟩ (.int .i64 cnt')).setCell ⟨g7,2,none⟩ (.slice a3 m3 c3))=w8 at*;have TY:=aB7.o.late rW;have D8:=UZ.o.late rW;have pV:=a1G.o.later rW;have yA:Mv K.g K.gt sv sv w w8:=Mv.of_below (nD.o.tm rW);have hw8:=rW.size;have UF:∀c,sv.ownBlock=some c→c<w.heap.size:=YG.o;have bXA:w2.drew.heap.size=w2.heap.size:=rfl;cases V with
    |none=>
     obtain rfl:R= .error 6:=by rw[←QO.o]
     simp only[Option.isSome_none]at*;clear hd8;obtain⟨b8',ZU,aCE,a0H,J5,zD,aCF⟩:=aO b8 rW TY D8 pV yA UF;clear b8 rW TY D8 pV yA UF;go_wp2_with (go_at_call 143;refine(lJ _ _ _).mono ?_;rintro e w3 ⟨rfl,rfl⟩;simp only[mF,mG])
     exact⟨rfl,rfl,sv,zD.o⟩
    |some d=>
     obtain⟨rfl,rfl,rfl,hod⟩:=hd8 d rfl;have RU:=(Sl.kZ hod).1.p9;simp only[Option.isSome_some]at*;have t0:=TY.cell (i:=0) rfl;have v0:=b8.cell (i:=0) rfl;have v1:=b8.cell (i:=1) rfl;have v2:=b8.cell (i:=2) rfl;have p0:=D8.cell (i:=0) rfl;have p1:=D8.cell (i:=1) rfl;have p2:=D8.cell (i:=2) rfl;have p3:=D8.cell (i:=3) rfl;have y0:=D8.frozen 0;have y1:=D8.frozen 1;have y2:=D8.frozen 2;have y3:=D8.frozen 3;clear hd8;obtain⟨d,cl⟩:=d;have aWL:sv.ownBlock≠some (w.heap.size+1):=fun e=>by have:=UF _ e;omega
     cases cl with
     |true=>
      obtain rfl:R= .ok ((tg,ty',cnt',d),s):=by rw[←QO.o];simp
      obtain⟨b8',ZU,aCE,a0H,J5,zD,PG,O0,aCF⟩:=aQ b8 rW TY D8 pV yA hod RU UF;clear b8 rW TY D8 pV yA hod RU UF;go_wp2_with (go_at_call 143;refine(lJ _ _ _).mono ?_;rintro e w3 ⟨rfl,rfl⟩;simp only[mF,mG])
      refine bodyPost_ret (results_cell_row rfl _ _ (w.heap.size+1) 74 #[.int .i64 tg,.int .i64 ty',.int .i64 cnt',.slice a3 m3 c3] (0,0) _ rfl (a0H.o.a3E _ _ _ _) Tryz.underlying74 rfl aF) rfl ?_;have mQ:=(((((But.refl (w.heap.size+1) w8).set 0 (.int .i64 tg)).set 1 (.int .i64 ty')).set 2 (.int .i64 cnt')).set 3 (.slice a3 m3 c3));refine⟨sv,tk,J5.o.but mQ aG aG aWL (bU nJ.o.old.size (eD _)),zD.o.yS (eD _) mQ,a3,m3,c3,rfl,?_,fun kk e h=>?_⟩
      ·have h:=mV PG.o mQ (fun e=>by have:=(PG.o.lt _ e).1;omega);rw[O0.o];exact lN h aG
      ·have h1:=(PG.o.lt kk e).1;have h2:=aCF.o kk h;omega
     |false=>
      obtain⟨so,OH⟩:=aC (IntKind.i64.wrap (s.xH+1));obtain rfl:R= .ok ((tg,ty',cnt',d),{s with xH:=so}):=by rw[←QO.o,←OH];simp
      have g5:=pV.blk.cell (i:=6) rfl;have g6:=pV.blk.frozen 6;have vP:=pV.blk.set 6 (.int .i64 so);have KN:=(But.refl K.g w8).set 6 (.int .i64 so);have b89:=b8.but KN aG;have bx9:=TY.but KN aG;have b09:=D8.but KN aG;have aWM:=mV hod KN (fun e=>by have:=(hod.lt _ e).1;omega);have aEB:=yA.trans (Mv.E5 KN (.inl rfl));have a8N:zJ K {s with xH:=so} sv tk (w8.setCell ⟨K.g,6,none⟩ (.int .i64 so)):=
       ⟨pV.old.trans (KN.below t'.o.gB pV.old.size),vP,kG.but (T:=214) pV.tak KN (Ne.symm t'.o.ne),pV.tkl,pV.tkb,pV.bits,mV pV.spot KN pV.sg,pV.sg,pV.sgt⟩
      clear t0 v0 v1 v2 p0 p1 p2 p3 y0 y1 y2 y3 vP hod;obtain⟨b8',ZU,aCE,a0H,J5,zD,O0,aCF,bLY,aBQ,bEQ,N9⟩:=aT b8 rW TY D8 pV yA RU UF KN b89 bx9 b09;obtain⟨a6C,aEC,a1H⟩:=aK aWM aEB a8N;clear b8 rW TY D8 pV yA RU UF KN b89 bx9 b09 aWM aEB a8N;go_upto_region 12 with (go_at_call 143;refine(lJ _ _ _).mono ?_;rintro e w3 ⟨rfl,rfl⟩;simp only[mF,mG])
      clear g5 g6;generalize w8.setCell ⟨K.g,6,none⟩ (.int .i64 so)=w9 at*;have t0:=bEQ.o.cell (i:=0) rfl;have v0:=aBQ.o.cell (i:=0) rfl;have v1:=aBQ.o.cell (i:=1) rfl;have v2:=aBQ.o.cell (i:=2) rfl;have p0:=N9.o.cell (i:=0) rfl;have p1:=N9.o.cell (i:=1) rfl;have p2:=N9.o.cell (i:=2) rfl;have p3:=N9.o.cell (i:=3) rfl;have y0:=N9.o.frozen 0;have y1:=N9.o.frozen 1;have y2:=N9.o.frozen 2;have y3:=N9.o.frozen 3;go_wp2_with fail
      refine bodyPost_ret (results_cell_row rfl _ _ (w.heap.size+1) 74 #[.int .i64 tg,.int .i64 ty',.int .i64 cnt',.slice a3 m3 c3] (0,0) _ rfl (N9.o.a3E _ _ _ _) Tryz.underlying74 rfl aF) rfl ?_;have mQ:=(((((But.refl (w.heap.size+1) w9).set 0 (.int .i64 tg)).set 1 (.int .i64 ty')).set 2 (.int .i64 cnt')).set 3 (.slice a3 m3 c3));refine⟨sv,tk,a1H.o.but mQ aG aG aWL (bU nJ.o.old.size (eD _)),aEC.o.yS (eD _) mQ,a3,m3,c3,rfl,?_,fun kk e h=>?_⟩
      ·have h:=mV a6C.o mQ (fun e=>by have:=(a6C.o.lt _ e).1;omega);rw[O0.o];exact lN h aG
      ·have h1:=(a6C.o.lt kk e).1;have h2:=aCF.o kk h;omega
   case refine_2=>
    go_wp2_with fail
    have xC:=(aD w2 (.cells #[.int .i64 0,.int .i64 0,.slice none 0 0] 72)).drew;have b7:kG (w2.alloc (.cells #[.int .i64 0,.int .i64 0,.slice none 0 0] 72)).drew w2.heap.size 72 #[.int .i64 0,.int .i64 0,.slice none 0 0]:=kG.new w2 _ _;have HS:=aA (jV.o _ xC);have aB2:(w2.alloc (.cells #[.int .i64 0,.int .i64 0,.slice none 0 0] 72)).drew.heap.size=w2.heap.size+1:=by show(w2.alloc _).heap.size=_;simp
    obtain⟨w3,xE⟩:∃w3,(w2.alloc (.cells #[.int .i64 0,.int .i64 0,.slice none 0 0] 72)).drew=w3:=⟨_,rfl⟩;rw[xE]at xC b7 HS aB2;rw[xE];clear xE;obtain⟨yR,wV⟩:=aJ b7 xC;clear b7 xC;first|refine Mid.mk ⟨HS.o,?_⟩|refine Mid.mk ?_
    refine jX 6 7 aF aF ?_;simp only[jW,aW,aX,aU,aV];go_wp2_with fail
    refine(HO'.o _).mono ?_;rintro e w7 ⟨ty',cnt',a3,m3,c3,cl,rfl,vU,hd6⟩;have a6B:=wV.o.tm vU;have b7:=yR.o.late vU;have HS:=aA (jV.o _ a6B);have hd7:=fun d h=>(⟨(hd6 d h).1,(hd6 d h).2.1,(hd6 d h).2.2.1,lN (hd6 d h).2.2.2 wV.o.size,fun e=>by have:=((hd6 d h).2.2.2.lt _ e).1;omega⟩:ty'=ty∧cnt'=cnt∧cl=d.2∧World.ownsRow w7 w2.heap.size _ _ _ _ _∧(Value.slice a3 m3 c3).ownBlock≠some w2.heap.size);have xC:=a6B;obtain⟨g7,TQ⟩:∃g,w2.heap.size=g:=⟨_,rfl⟩;have hg7:w2.heap.size≤g7:=iG TQ;clear yR wV vU a6B hd6 aB2;rw[TQ]at b7;rw[TQ];replace hd7:=fun d h=>(⟨(hd7 d h).1,(hd7 d h).2.1,(hd7 d h).2.2.1,(hd7 d h).2.2.2.1,TQ▸(hd7 d h).2.2.2.2⟩:ty'=ty∧cnt'=cnt∧cl=d.2∧World.ownsRow w7 w2.heap.size _ _ _ _ _∧(Value.slice a3 m3 c3).ownBlock≠some g7)
    clear TQ;obtain⟨yR,wV,FW⟩:=aK b7 xC hd7;clear b7 xC hd7;go_wp2_with fail
    first|refine Mid.mk ⟨HS.o,?_⟩|refine Mid.mk ?_
    refine jZ [7,8,9,10] 3 aF aI aF aF aF HS.o ?_;simp only[jW,aW,aX,aU,aV];iterate 4 (go_big_quiet_step (fail))
    refine wpQuiet_nil ?_;refine jX 12 2 aF aF ?_;simp only[jW,aW,aX,aU,aV];have p0:=yR.o.cell (i:=0) rfl;have p1:=yR.o.cell (i:=1) rfl;have p2:=yR.o.cell (i:=2) rfl;have y0:=yR.o.frozen 0;have y1:=yR.o.frozen 1;have y2:=yR.o.frozen 2;go_wp2_with fail
    have b8:=yR.o.D5 (.int .i64 ty') (.int .i64 cnt') (.slice a3 m3 c3);have rW:=lT wV.o hg7 (.int .i64 ty') (.int .i64 cnt') (.slice a3 m3 c3);have HS:=aA (jV.o _ rW);have hd8:=fun d h=>(⟨(FW.o d h).1,(FW.o d h).2.1,(FW.o d h).2.2.1,mV (FW.o d h).2.2.2.1 ((((But.refl g7 w7).set 0 (.int .i64 ty')).set 1 (.int .i64 cnt')).set 2 (.slice a3 m3 c3)) (FW.o d h).2.2.2.2⟩:ty'=ty∧cnt'=cnt∧cl=d.2∧World.ownsRow _ _ _ _ _ _ _);refine Mid.mk ⟨HS.o,?_⟩;refine jZ [13,14] 0 aF aI aF aF aF HS.o ?_;simp only[jW,aW,aX,aU,aV];iterate 2 (go_big_quiet_step (fail))
    refine wpQuiet_nil ?_;refine kH aF ?_;clear p0 p1 p2 y0 y1 y2 yR wV FW q1 r0 r1 r2 r3 HS;generalize (((w7.setCell ⟨g7,0,none⟩ (.int .i64 ty')).setCell ⟨g7,1,none⟩ (.int .i64 cnt')).setCell ⟨g7,2,none⟩ (.slice a3 m3 c3))=w8 at*;have TY:=aB7.o.late rW;have D8:=UZ.o.late rW;have pV:=a1G.o.later rW;have yA:Mv K.g K.gt sv sv w w8:=Mv.of_below (nD.o.tm rW);have hw8:=rW.size;have UF:∀c,sv.ownBlock=some c→c<w.heap.size:=YG.o;have bXA:w2.drew.heap.size=w2.heap.size:=rfl;cases V with
    |none=>
     obtain rfl:R= .error 6:=by rw[←QO.o]
     simp only[Option.isSome_none]at*;clear hd8;obtain⟨b8',ZU,aCE,a0H,J5,zD,aCF⟩:=aO b8 rW TY D8 pV yA UF;clear b8 rW TY D8 pV yA UF;go_wp2_with (go_at_call 143;refine(lJ _ _ _).mono ?_;rintro e w3 ⟨rfl,rfl⟩;simp only[mF,mG])
     exact⟨rfl,rfl,sv,zD.o⟩
    |some d=>
     obtain⟨rfl,rfl,rfl,hod⟩:=hd8 d rfl;have RU:=(Sl.kZ hod).1.p9;simp only[Option.isSome_some]at*;have t0:=TY.cell (i:=0) rfl;have v0:=b8.cell (i:=0) rfl;have v1:=b8.cell (i:=1) rfl;have v2:=b8.cell (i:=2) rfl;have p0:=D8.cell (i:=0) rfl;have p1:=D8.cell (i:=1) rfl;have p2:=D8.cell (i:=2) rfl;have p3:=D8.cell (i:=3) rfl;have y0:=D8.frozen 0;have y1:=D8.frozen 1;have y2:=D8.frozen 2;have y3:=D8.frozen 3;clear hd8;obtain⟨d,cl⟩:=d;have aWL:sv.ownBlock≠some (w.heap.size+1):=fun e=>by have:=UF _ e;omega
     cases cl with
     |true=>
      obtain rfl:R= .ok ((tg,ty',cnt',d),s):=by rw[←QO.o];simp
      obtain⟨b8',ZU,aCE,a0H,J5,zD,PG,O0,aCF⟩:=aQ b8 rW TY D8 pV yA hod RU UF;clear b8 rW TY D8 pV yA hod RU UF;go_wp2_with (go_at_call 143;refine(lJ _ _ _).mono ?_;rintro e w3 ⟨rfl,rfl⟩;simp only[mF,mG])
      refine bodyPost_ret (results_cell_row rfl _ _ (w.heap.size+1) 74 #[.int .i64 tg,.int .i64 ty',.int .i64 cnt',.slice a3 m3 c3] (0,0) _ rfl (a0H.o.a3E _ _ _ _) Tryz.underlying74 rfl aF) rfl ?_;have mQ:=(((((But.refl (w.heap.size+1) w8).set 0 (.int .i64 tg)).set 1 (.int .i64 ty')).set 2 (.int .i64 cnt')).set 3 (.slice a3 m3 c3));refine⟨sv,tk,J5.o.but mQ aG aG aWL (bU nJ.o.old.size (eD _)),zD.o.yS (eD _) mQ,a3,m3,c3,rfl,?_,fun kk e h=>?_⟩
      ·have h:=mV PG.o mQ (fun e=>by have:=(PG.o.lt _ e).1;omega);rw[O0.o];exact lN h aG
      ·have h1:=(PG.o.lt kk e).1;have h2:=aCF.o kk h;omega
     |false=>
      obtain⟨so,OH⟩:=aC (IntKind.i64.wrap (s.xH+1));obtain rfl:R= .ok ((tg,ty',cnt',d),{s with xH:=so}):=by rw[←QO.o,←OH];simp
      have g5:=pV.blk.cell (i:=6) rfl;have g6:=pV.blk.frozen 6;have vP:=pV.blk.set 6 (.int .i64 so);have KN:=(But.refl K.g w8).set 6 (.int .i64 so);have b89:=b8.but KN aG;have bx9:=TY.but KN aG;have b09:=D8.but KN aG;have aWM:=mV hod KN (fun e=>by have:=(hod.lt _ e).1;omega);have aEB:=yA.trans (Mv.E5 KN (.inl rfl));have a8N:zJ K {s with xH:=so} sv tk (w8.setCell ⟨K.g,6,none⟩ (.int .i64 so)):=
       ⟨pV.old.trans (KN.below t'.o.gB pV.old.size),vP,kG.but (T:=214) pV.tak KN (Ne.symm t'.o.ne),pV.tkl,pV.tkb,pV.bits,mV pV.spot KN pV.sg,pV.sg,pV.sgt⟩
      clear t0 v0 v1 v2 p0 p1 p2 p3 y0 y1 y2 y3 vP hod;obtain⟨b8',ZU,aCE,a0H,J5,zD,O0,aCF,bLY,aBQ,bEQ,N9⟩:=aT b8 rW TY D8 pV yA RU UF KN b89 bx9 b09;obtain⟨a6C,aEC,a1H⟩:=aK aWM aEB a8N;clear b8 rW TY D8 pV yA RU UF KN b89 bx9 b09 aWM aEB a8N;go_upto_region 12 with (go_at_call 143;refine(lJ _ _ _).mono ?_;rintro e w3 ⟨rfl,rfl⟩;simp only[mF,mG])
      clear g5 g6;generalize w8.setCell ⟨K.g,6,none⟩ (.int .i64 so)=w9 at*;have t0:=bEQ.o.cell (i:=0) rfl;have v0:=aBQ.o.cell (i:=0) rfl;have v1:=aBQ.o.cell (i:=1) rfl;have v2:=aBQ.o.cell (i:=2) rfl;have p0:=N9.o.cell (i:=0) rfl;have p1:=N9.o.cell (i:=1) rfl;have p2:=N9.o.cell (i:=2) rfl;have p3:=N9.o.cell (i:=3) rfl;have y0:=N9.o.frozen 0;have y1:=N9.o.frozen 1;have y2:=N9.o.frozen 2;have y3:=N9.o.frozen 3;go_wp2_with fail
      refine bodyPost_ret (results_cell_row rfl _ _ (w.heap.size+1) 74 #[.int .i64 tg,.int .i64 ty',.int .i64 cnt',.slice a3 m3 c3] (0,0) _ rfl (N9.o.a3E _ _ _ _) Tryz.underlying74 rfl aF) rfl ?_;have mQ:=(((((But.refl (w.heap.size+1) w9).set 0 (.int .i64 tg)).set 1 (.int .i64 ty')).set 2 (.int .i64 cnt')).set 3 (.slice a3 m3 c3));refine⟨sv,tk,a1H.o.but mQ aG aG aWL (bU nJ.o.old.size (eD _)),aEC.o.yS (eD _) mQ,a3,m3,c3,rfl,?_,fun kk e h=>?_⟩
      ·have h:=mV a6C.o mQ (fun e=>by have:=(a6C.o.lt _ e).1;omega);rw[O0.o];exact lN h aG
      ·have h1:=(a6C.o.lt kk e).1;have h2:=aCF.o kk h;omega
