import Derived.Test.YtceclmpmpldmlaaGreatCz33
set_option linter.unusedSimpArgs false
set_option linter.unusedVariables false
namespace Tt
open Go Go.RowKit
theorem Mv.uT {g gt h:Nat} {sv s1:Value} {w w8 w9:World} (m:Mv g gt sv s1 w w8) (hh:w.heap.size≤h) (b:But h w8 w9):Mv g gt sv s1 w w9:=
 ⟨b.os.trans m.os,b.tape.trans m.tape,b.output.trans m.output,bK m.size b.size,fun k hk h1 h2 h3=>(b.block k (cO hk m.size) (by omega)).trans (m.block k hk h1 h2 h3),m.own⟩
end Tt
namespace Go.Proofs.YtceclmpmpldmlaaGreat
open Go.RowKit Tt
theorem vL.but {K:WkS} {s:St} {sv:Value} {tk:List Nat} {w w':World} {h:Nat} (ok:vL K s sv tk w) (b:But h w w') (h1:h≠K.g) (h2:h≠K.gt) (h3:sv.ownBlock≠some h) (h4:K.w0.heap.size≤h):vL K s sv tk w':=
 ⟨ok.old.trans (b.below h4 ok.old.size),ok.blk.but b (Ne.symm h1),jJ.but (T:=214) ok.tak b (Ne.symm h2),ok.tkl,ok.tkb,ok.bits,lJ ok.spot b h3,ok.sg,ok.sgt⟩
def bFJ (w:World) (v:nC) (wG:Value) (e:Ending) (w':World):Prop:=
 ∃a m c,e= .returned (.agg #[.int .i64 v.1,.int .i64 v.2.1,.int .i64 v.2.2.1,.slice a m c])∧Ck (fun k=>wG.ownBlock=some k) w.heap.size w' (.slice a m c) 5 1 v.2.2.2.length (ints .u8 v.2.2.2)
set_option maxRecDepth 20000 in
set_option maxHeartbeats 8000000 in
theorem aFX (K:WkS) (t:WkT K) (ho:K.o=1∨K.o=2) (s:St) (sv:Value) (tk:List Nat) (w:World) (x:mK) (no:Int) (hok:vL K s sv tk w) (h0:0≤x.2.2.2) (h1:x.2.2.2≤4294967295) (hsm:s.jQ.length≤4294967295):
  Calls Tryz.prog 213 #[.pointer (some ⟨K.g,0,none⟩),a4I x,.int .i64 no] w (V6 K sv w (oI K.z K.o x no s) (bFJ w)):=by
 obtain⟨tg,ty,cnt,sl⟩:=x;simp only at h0 h1;obtain⟨S,rfl⟩:∃S:Nat,sl=S:=⟨sl.toNat,by omega⟩;have hn:=t.n1;have hzl:=t.hs.nV;obtain⟨R,hR⟩:=aC (oI K.z K.o (tg,ty,cnt,(S:Int)) no s);rw[hR];unfold oI at hR;simp only at hR;rw[hzl,bU]at hR;have hSz:=fun W=>a8F ty W;have hOu:=fun W=>aH3 ty cnt W;have hou:0≤oL ty cnt∧oL ty cnt≤524288:=by unfold oL;have:=P7 ty cnt;split <;> omega
 obtain⟨sz,hsz⟩:∃v,(kH ty).1=v:=⟨_,rfl⟩;obtain⟨L,hL⟩:∃L:Nat,oL ty cnt=L:=⟨(oL ty cnt).toNat,by omega⟩;rw[hsz]at hR hSz;rw[hL]at hR hOu hou;have hL5:L≤524288:=by omega
 unfold a4I;simp only;obtain⟨W,hW⟩:∃W,(w.alloc (.cells #[.int .i64 tg,.int .i64 ty,.int .i64 cnt,.int .i64 S] 55)).alloc (.cells #[.int .i64 0,.int .i64 0,.int .i64 0,.slice none 0 0] 74)=W:=⟨_,rfl⟩;have bx:jJ W w.heap.size 55 #[.int .i64 tg,.int .i64 ty,.int .i64 cnt,.int .i64 S]:=by rw[←hW];exact(jJ.new w _ _).alloc _
 have b0:jJ W (w.heap.size+1) 74 #[.int .i64 0,.int .i64 0,.int .i64 0,.slice none 0 0]:=by rw[←hW];exact sW _ _ (by simp)
 have hbW:Below w.heap.size w W:=by rw[←hW];exact((aD w _).alloc (by simp) _)
 have hltW:=b0.lt;have k1:W.cell? ⟨w.heap.size,1,none⟩=some (.int .i64 ty):=bx.cell rfl;have hgw:K.g<w.heap.size:=hok.blk.lt;have bO3:K.gt<w.heap.size:=jJ.lt (T:=214) hok.tak;have aRZ:∀k,sv.ownBlock=some k→k<w.heap.size:=fun k e=>(hok.spot.lt k e).2;clear hsz hL;obtain⟨hok',t',bFK,bO4,bx',b0',EC,hR',mV,RP⟩:=aN hok t hSz hOu bx b0 hbW hR hzl aRZ;clear hok t hSz hOu bx b0 hbW hR hzl aRZ;go_enter Tryz.func213,Tryz.ntmps213;go_upto_region 1 with fail
 try rw[hW]
 clear hW;go_wp2_with fail
 refine(bFK.o _).mono ?_;rintro e w1 ⟨rfl,hb1⟩;have bx1:=bx'.o.late hb1;have b01:=b0'.o.late hb1;have XT:=EC.o.tm hb1;have hlt1:=b01.lt;clear k1;have k1:w1.cell? ⟨w.heap.size,1,none⟩=some (.int .i64 ty):=bx1.cell rfl;have k2:w1.cell? ⟨w.heap.size,2,none⟩=some (.int .i64 cnt):=bx1.cell rfl;clear hb1 bx' b0' EC hltW;obtain⟨bx1',a8J,xQ⟩:=aG bx1 b01 XT;clear bx1 b01 XT;by_cases hc:0<sz∧1≤cnt∧cnt≤65536
 case neg=>
  obtain rfl:R= .error 6:=by rw[←hR'.o,if_neg hc]
  by_cases hc1:0<sz
  ·have d1:decide (0<sz)=true:=by simp;omega
   by_cases hc2:1≤cnt
   ·have d2:decide (1≤cnt)=true:=by simp;omega
    have d3:decide (cnt≤65536)=false:=by simp;omega
    clear hc hc1 hc2;go_wp2_with (go_at_call 143;refine(kI _ _ _).mono ?_;rintro e w3 ⟨rfl,rfl⟩;simp only[kV,kW])
    exact⟨rfl,rfl,sv,Mv.of_below xQ.o⟩
   ·have d2:decide (1≤cnt)=false:=by simp;omega
    clear hc hc1 hc2;go_wp2_with (go_at_call 143;refine(kI _ _ _).mono ?_;rintro e w3 ⟨rfl,rfl⟩;simp only[kV,kW])
    exact⟨rfl,rfl,sv,Mv.of_below xQ.o⟩
  ·have d1:decide (0<sz)=false:=by simp;omega
   clear hc hc1;go_wp2_with (go_at_call 143;refine(kI _ _ _).mono ?_;rintro e w3 ⟨rfl,rfl⟩;simp only[kV,kW])
   exact⟨rfl,rfl,sv,Mv.of_below xQ.o⟩
 case pos=>
  have d1:decide (0<sz)=true:=by simp;omega
  have d2:decide (1≤cnt)=true:=by simp;omega
  have d3:decide (cnt≤65536)=true:=by simp;omega
  replace hR':=aA (by have h:=hR'.o;rw[if_pos hc]at h;exact h)
  clear hc;go_wp2_with (go_at_call 143;refine(kI _ _ _).mono ?_;rintro e w3 ⟨rfl,rfl⟩;simp only[kV,kW])
  refine(bO4.o _).mono ?_;rintro e w2 ⟨rfl,hb2⟩;have bx2:=bx1'.o.late hb2;have b02:=a8J.o.late hb2;have hbw2:=xQ.o.tm hb2;have hlt2:=b02.lt;have hok2:=hok'.o.later hbw2;clear k1 k2 hb2 bx1' a8J xQ hlt1;have k0:w2.cell? ⟨w.heap.size,0,none⟩=some (.int .i64 tg):=bx2.cell rfl;have k3:w2.cell? ⟨w.heap.size,3,none⟩=some (.int .i64 S):=bx2.cell rfl;obtain⟨a4N,NR,lU,V8⟩:=aH bx2 b02 hbw2 hok2;clear bx2 b02 hbw2 hok2;by_cases hL0:0<(L:Int)
  case pos=>
   have d4:decide (0<(L:Int))=true:=by simp;omega
   have d5:decide (0<L)=true:=by simp;omega
   replace hR':=aA (by have h:=hR'.o;rw[if_pos hL0]at h;exact h)
   have HT:=KR K t'.o s sv tk w2 (3,no,tg,(S:Int),(L:Int)) V8.o S L rfl rfl (by omega) (by omega) hsm;obtain⟨T,hT⟩:=aC (mH K.n (3,no,tg,(S:Int),(L:Int)) s);have hR3:=hR'.o;rw[hT]at HT hR3;clear hR';obtain⟨HT',OO⟩:=aF HT hR3;clear HT hR3;go_wp2_with fail
   refine HT'.o.mono ?_;rintro e w5 hpost;cases T with
   |error y=>
    obtain rfl:R= .error y:=by rw[←OO.o]
    obtain⟨rfl,wG,hmv⟩:=hpost;clear OO hT HT';have BQ:=aA hmv;clear hmv;go_wp2_with fail
    exact⟨rfl,rfl,wG,(Mv.of_below lU.o).trans BQ.o⟩
   |ok s1=>
    obtain⟨sv1,tk1,hok1,a6Z,rfl⟩:=hpost;have hfit:S+L≤K.n:=by
     have:=MB hT;unfold PE vX at this;simp at this;omega
    have hR4:=OO.o;simp only at hR4;have bx5:=a4N.o.mv a6Z (by omega) (by omega) (fun e=>by have:=RP.o _ e;omega);have UN:=NR.o.mv a6Z (by omega) (by omega) (fun e=>by have:=RP.o _ e;omega);have a0A:=(Mv.of_below lU.o).trans a6Z;have bFL:sv1.ownBlock≠some (w.heap.size+1):=fun e=>by rcases a6Z.own _ e with h|h <;> first|(have:=RP.o _ h;omega)|omega
    have hb5:=hok1.WL t'.o;clear OO hT HT' k0 k3 a6Z a4N NR lU V8;have hle:=hb5.le;obtain⟨a7,hsl,hs7,yO⟩:=aGZ (P:=Tryz.prog) (T:=24) (E:=5) (sz:=1) Tryz.underlying24 (fun W=>by kernel_rfl) hb5 (S:Int) (by omega) (by omega) (K.n - S) (K.c - S) (by omega) (by omega);rw[gU,bU,show(ints .u8 K.z).drop S=ints .u8 (K.z.drop S) by simp[ints]]at hs7;obtain⟨Ty,f,hne,hbel,jH⟩:=jR w5;have q0:∀s,(f s).cell? ⟨K.g,0,none⟩=some (.slice K.a K.n K.c):=fun s=>(jJ.late hok1.blk (hbel s)).cell rfl;have q1:∀s,(f s).cell? ⟨K.g,1,none⟩=some (.int .i64 K.o):=fun s=>(jJ.late hok1.blk (hbel s)).cell rfl;have r1:∀s,(f s).cell? ⟨w.heap.size,1,none⟩=some (.int .i64 ty):=fun s=>(jJ.late bx5 (hbel s)).cell rfl;have r2:∀s,(f s).cell? ⟨w.heap.size,2,none⟩=some (.int .i64 cnt):=fun s=>(jJ.late bx5 (hbel s)).cell rfl;have r3:∀s,(f s).cell? ⟨w.heap.size,3,none⟩=some (.int .i64 S):=fun s=>(jJ.late bx5 (hbel s)).cell rfl;obtain⟨HS,HD⟩:=aF (jH _ ((aW _ _).drew)) ((aW w5.heap.size w5).drew);have HO:=fun W (h:Below w5.heap.size w5 W)=>aN1 ty cnt a7 (K.n - S) (K.c - S) (K.z.drop S) K.o W (hs7.mono h) (t'.o.SI.drop _);have hw5:w.heap.size+1<w5.heap.size:=UN.lt;obtain⟨V,hV⟩:=aC (SV ty cnt (K.z.drop S) K.o);rw[hV]at HO hR4;clear hV;obtain⟨jG,jA,bKT,JA,HO',AB,bFM,a4L,V7,EW,KJ⟩:=aO hbel jH hs7 yO HO hok1 bx5 UN a0A hb5 hR4;clear hbel jH hs7 yO HO hok1 bx5 UN a0A hb5 hR4;go_wp2_with fail
    refine jU (S:=fun W=>∃s,W=f s) (by kernel_rfl) 24 rfl ?_;refine jF [0,1,2,3,4,5,6,7,8,9,10,11,12,13,14,15,16] 7 (by kernel_rfl) (fun d _ _ _ _ h=>by cases d <;> exact h) (by kernel_rfl) (by kernel_rfl) (by kernel_rfl) HS.o ?_;simp only[jB,aS,aT,aQ,aR];iterate 17 (go_big_quiet_step (fail))
    refine wpQuiet_nil ?_;refine qX 17 21 6 (by kernel_rfl) (by kernel_rfl) ?_ ?_;all_goals simp only[jB,aS,aT,aQ,aR]
    case refine_1=>
     go_wp2_with fail
     refine(HO'.o _ HD.o).mono ?_;rintro e w6 ⟨ty',cnt',a3,m3,c3,rfl,hb6,hd6⟩;have hb6:=HD.o.tm hb6;obtain⟨HS,G7,PD⟩:=aG (jA.o _ hb6) hb6 hd6;clear hb6 hd6;go_wp2_with fail
     first|refine Mid.mk ⟨HS.o,?_⟩|refine Mid.mk ?_
     refine jF [18,19,20] 3 (by kernel_rfl) (fun d _ _ _ _ h=>by cases d <;> exact h) (by kernel_rfl) (by kernel_rfl) (by kernel_rfl) HS.o ?_;simp only[jB,aS,aT,aQ,aR];iterate 3 (go_big_quiet_step (fail))
     refine wpQuiet_nil ?_;refine jC 21 2 (by kernel_rfl) (by kernel_rfl) ?_;simp only[jB,aS,aT,aQ,aR];go_wp2_with fail
     have hal:=aD w6 (.cells #[.int .i64 0,.int .i64 0,.slice none 0 0] 72);have b7:=jJ.new w6 72 #[.int .i64 0,.int .i64 0,.slice none 0 0];have rP:=G7.o.tm hal;have hg7:w5.heap.size≤w6.heap.size:=G7.o.size;have hd7:=fun d h=>(⟨(PD.o d h).1,(PD.o d h).2.1,jY (PD.o d h).2.2 hal,fun e=>by have:=((PD.o d h).2.2.lt _ e).2;omega⟩:ty'=ty∧cnt'=cnt∧World.ownsRow _ _ _ _ _ _ _∧(Value.slice a3 m3 c3).ownBlock≠some w6.heap.size);clear hal;generalize w6.alloc (.cells #[.int .i64 0,.int .i64 0,.slice none 0 0] 72)=w7 at*;generalize w6.heap.size=g7 at*;have HS:=aA (jA.o _ rP);clear G7 PD;obtain⟨uW,sS,zX⟩:=aG b7 rP hd7;clear b7 rP hd7;first|refine Mid.mk ⟨HS.o,?_⟩|refine Mid.mk ?_
     refine jC 22 1 (by kernel_rfl) (by kernel_rfl) ?_;simp only[jB,aS,aT,aQ,aR];have p0:w7.cell? ⟨g7,0,none⟩=some (.int .i64 0):=uW.o.cell rfl;have p1:w7.cell? ⟨g7,1,none⟩=some (.int .i64 0):=uW.o.cell rfl;have p2:w7.cell? ⟨g7,2,none⟩=some (.slice none 0 0):=uW.o.cell rfl;have y0:=uW.o.frozen 0;have y1:=uW.o.frozen 1;have y2:=uW.o.frozen 2;go_wp2_with fail
     have b8:=uW.o.xK (.int .i64 ty') (.int .i64 cnt') (.slice a3 m3 c3);have oV:=kM sS.o hg7 (.int .i64 ty') (.int .i64 cnt') (.slice a3 m3 c3);have HS:=aA (jA.o _ oV);have hd8:=fun d h=>(⟨(zX.o d h).1,(zX.o d h).2.1,lJ (zX.o d h).2.2.1 ((((But.refl g7 w7).set 0 (.int .i64 ty')).set 1 (.int .i64 cnt')).set 2 (.slice a3 m3 c3)) (zX.o d h).2.2.2⟩:ty'=ty∧cnt'=cnt∧World.ownsRow _ _ _ _ _ _ _);refine Mid.mk ⟨HS.o,?_⟩;refine jF [23] 0 (by kernel_rfl) (fun d _ _ _ _ h=>by cases d <;> exact h) (by kernel_rfl) (by kernel_rfl) (by kernel_rfl) HS.o ?_;simp only[jB,aS,aT,aQ,aR];iterate 1 (go_big_quiet_step (fail))
     refine wpQuiet_nil ?_;refine jK (by kernel_rfl) ?_;clear p0 p1 p2 y0 y1 y2 uW sS zX q0 q1 r1 r2 r3 HS;generalize (((w7.setCell ⟨g7,0,none⟩ (.int .i64 ty')).setCell ⟨g7,1,none⟩ (.int .i64 cnt')).setCell ⟨g7,2,none⟩ (.slice a3 m3 c3))=w8 at*;have NE:=bFM.o.late oV;have xP:=a4L.o.late oV;have nW:=AB.o.later oV;have uD:=V7.o.later oV;have hw8:=oV.size;cases V with
     |none=>
      obtain rfl:R= .error 6:=by rw[←KJ.o]
      simp only[Option.isSome_none]at*;clear hd8;obtain⟨b8',T9,a7A,UB,CP,vG⟩:=aJ b8 oV NE xP nW uD;clear b8 oV NE xP nW uD;go_wp2_with (go_at_call 143;refine(kI _ _ _).mono ?_;rintro e w3 ⟨rfl,rfl⟩;simp only[kV,kW])
      exact⟨rfl,rfl,sv1,vG.o⟩
     |some d=>
      obtain⟨rfl,rfl,hod⟩:=hd8 d rfl;obtain rfl:R= .ok ((tg,ty',cnt',d),s1):=by rw[←KJ.o]
      have LK:=(Sl.jX hod).1.nV;simp only[Option.isSome_some]at*;have t0:w8.cell? ⟨w.heap.size,0,none⟩=some (.int .i64 tg):=NE.cell rfl;have v0:w8.cell? ⟨g7,0,none⟩=some (.int .i64 ty'):=b8.cell rfl;have v1:w8.cell? ⟨g7,1,none⟩=some (.int .i64 cnt'):=b8.cell rfl;have v2:w8.cell? ⟨g7,2,none⟩=some (.slice a3 m3 c3):=b8.cell rfl;have p0:w8.cell? ⟨w.heap.size+1,0,none⟩=some (.int .i64 0):=xP.cell rfl;have p1:w8.cell? ⟨w.heap.size+1,1,none⟩=some (.int .i64 0):=xP.cell rfl;have p2:w8.cell? ⟨w.heap.size+1,2,none⟩=some (.int .i64 0):=xP.cell rfl;have p3:w8.cell? ⟨w.heap.size+1,3,none⟩=some (.slice none 0 0):=xP.cell rfl;have y0:=xP.frozen 0;have y1:=xP.frozen 1;have y2:=xP.frozen 2;have y3:=xP.frozen 3;clear hd8;obtain⟨b8',T9,a7A,UB,CP,vG,JB,IK⟩:=aL b8 oV NE xP nW uD hod LK;clear b8 oV NE xP nW uD hod LK;go_wp2_with (go_at_call 143;refine(kI _ _ _).mono ?_;rintro e w3 ⟨rfl,rfl⟩;simp only[kV,kW])
      refine bodyPost_ret (results_cell_row rfl _ _ (w.heap.size+1) 74 #[.int .i64 tg,.int .i64 ty',.int .i64 cnt',.slice a3 m3 c3] (0,0) _ rfl (UB.o.XD _ _ _ _) Tryz.underlying74 rfl (by kernel_rfl)) rfl ?_;have hbt:=(((((But.refl (w.heap.size+1) w8).set 0 (.int .i64 tg)).set 1 (.int .i64 ty')).set 2 (.int .i64 cnt')).set 3 (.slice a3 m3 c3));have bO5:w5.drew.heap.size=w5.heap.size:=rfl;refine⟨sv1,tk1,CP.o.but hbt (by omega) (by omega) bFL (bK hok'.o.old.size (eB _)),vG.o.uT (eB _) hbt,a3,m3,c3,rfl,?_,fun kk e h=>?_⟩
      ·have h:=lJ JB.o hbt (fun e=>by have:=(JB.o.lt _ e).1;omega);rw[IK.o];exact kK h (by omega)
      ·have h1:=(JB.o.lt kk e).1;have h2:=(AB.o.spot.lt kk h).2;omega
    case refine_2=>
     go_wp2_with fail
     have rP:=(aD w5 (.cells #[.int .i64 0,.int .i64 0,.slice none 0 0] 72)).drew;have b7:jJ (w5.alloc (.cells #[.int .i64 0,.int .i64 0,.slice none 0 0] 72)).drew w5.heap.size 72 #[.int .i64 0,.int .i64 0,.slice none 0 0]:=jJ.new w5 _ _;have HS:=aA (jA.o _ rP);have a4H:(w5.alloc (.cells #[.int .i64 0,.int .i64 0,.slice none 0 0] 72)).drew.heap.size=w5.heap.size+1:=by show(w5.alloc _).heap.size=_;simp
     obtain⟨w3,hw3⟩:∃w3,(w5.alloc (.cells #[.int .i64 0,.int .i64 0,.slice none 0 0] 72)).drew=w3:=⟨_,rfl⟩;rw[hw3]at rP b7 HS a4H;rw[hw3];clear hw3;obtain⟨uW,sS⟩:=aF b7 rP;clear b7 rP;first|refine Mid.mk ⟨HS.o,?_⟩|refine Mid.mk ?_
     refine jC 17 5 (by kernel_rfl) (by kernel_rfl) ?_;simp only[jB,aS,aT,aQ,aR];go_wp2_with fail
     refine(HO'.o _ sS.o).mono ?_;rintro e w7 ⟨ty',cnt',a3,m3,c3,rfl,hb6,hd6⟩;have a0B:=sS.o.tm hb6;have b7:=uW.o.late hb6;have HS:=aA (jA.o _ a0B);have hd7:=fun d h=>(⟨(hd6 d h).1,(hd6 d h).2.1,kK (hd6 d h).2.2 sS.o.size,fun e=>by have:=((hd6 d h).2.2.lt _ e).1;omega⟩:ty'=ty∧cnt'=cnt∧World.ownsRow w7 w5.heap.size _ _ _ _ _∧(Value.slice a3 m3 c3).ownBlock≠some w5.heap.size);have rP:=a0B;obtain⟨g7,MU⟩:∃g,w5.heap.size=g:=⟨_,rfl⟩;have hg7:w5.heap.size≤g7:=gT MU;clear uW sS hb6 a0B hd6 a4H;rw[MU]at b7;rw[MU];replace hd7:=fun d h=>(⟨(hd7 d h).1,(hd7 d h).2.1,(hd7 d h).2.2.1,MU▸(hd7 d h).2.2.2⟩:ty'=ty∧cnt'=cnt∧World.ownsRow w7 w5.heap.size _ _ _ _ _∧(Value.slice a3 m3 c3).ownBlock≠some g7)
     clear MU;obtain⟨uW,sS,zX⟩:=aG b7 rP hd7;clear b7 rP hd7;go_wp2_with fail
     first|refine Mid.mk ⟨HS.o,?_⟩|refine Mid.mk ?_
     refine jF [18,19,20] 2 (by kernel_rfl) (fun d _ _ _ _ h=>by cases d <;> exact h) (by kernel_rfl) (by kernel_rfl) (by kernel_rfl) HS.o ?_;simp only[jB,aS,aT,aQ,aR];iterate 3 (go_big_quiet_step (fail))
     refine wpQuiet_nil ?_;refine jC 22 1 (by kernel_rfl) (by kernel_rfl) ?_;simp only[jB,aS,aT,aQ,aR];have p0:w7.cell? ⟨g7,0,none⟩=some (.int .i64 0):=uW.o.cell rfl;have p1:w7.cell? ⟨g7,1,none⟩=some (.int .i64 0):=uW.o.cell rfl;have p2:w7.cell? ⟨g7,2,none⟩=some (.slice none 0 0):=uW.o.cell rfl;have y0:=uW.o.frozen 0;have y1:=uW.o.frozen 1;have y2:=uW.o.frozen 2;go_wp2_with fail
     have b8:=uW.o.xK (.int .i64 ty') (.int .i64 cnt') (.slice a3 m3 c3);have oV:=kM sS.o hg7 (.int .i64 ty') (.int .i64 cnt') (.slice a3 m3 c3);have HS:=aA (jA.o _ oV);have hd8:=fun d h=>(⟨(zX.o d h).1,(zX.o d h).2.1,lJ (zX.o d h).2.2.1 ((((But.refl g7 w7).set 0 (.int .i64 ty')).set 1 (.int .i64 cnt')).set 2 (.slice a3 m3 c3)) (zX.o d h).2.2.2⟩:ty'=ty∧cnt'=cnt∧World.ownsRow _ _ _ _ _ _ _);refine Mid.mk ⟨HS.o,?_⟩;refine jF [23] 0 (by kernel_rfl) (fun d _ _ _ _ h=>by cases d <;> exact h) (by kernel_rfl) (by kernel_rfl) (by kernel_rfl) HS.o ?_;simp only[jB,aS,aT,aQ,aR];iterate 1 (go_big_quiet_step (fail))
     refine wpQuiet_nil ?_;refine jK (by kernel_rfl) ?_;clear p0 p1 p2 y0 y1 y2 uW sS zX q0 q1 r1 r2 r3 HS;generalize (((w7.setCell ⟨g7,0,none⟩ (.int .i64 ty')).setCell ⟨g7,1,none⟩ (.int .i64 cnt')).setCell ⟨g7,2,none⟩ (.slice a3 m3 c3))=w8 at*;have NE:=bFM.o.late oV;have xP:=a4L.o.late oV;have nW:=AB.o.later oV;have uD:=V7.o.later oV;have hw8:=oV.size;cases V with
     |none=>
      obtain rfl:R= .error 6:=by rw[←KJ.o]
      simp only[Option.isSome_none]at*;clear hd8;obtain⟨b8',T9,a7A,UB,CP,vG⟩:=aJ b8 oV NE xP nW uD;clear b8 oV NE xP nW uD;go_wp2_with (go_at_call 143;refine(kI _ _ _).mono ?_;rintro e w3 ⟨rfl,rfl⟩;simp only[kV,kW])
      exact⟨rfl,rfl,sv1,vG.o⟩
     |some d=>
      obtain⟨rfl,rfl,hod⟩:=hd8 d rfl;obtain rfl:R= .ok ((tg,ty',cnt',d),s1):=by rw[←KJ.o]
      have LK:=(Sl.jX hod).1.nV;simp only[Option.isSome_some]at*;have t0:w8.cell? ⟨w.heap.size,0,none⟩=some (.int .i64 tg):=NE.cell rfl;have v0:w8.cell? ⟨g7,0,none⟩=some (.int .i64 ty'):=b8.cell rfl;have v1:w8.cell? ⟨g7,1,none⟩=some (.int .i64 cnt'):=b8.cell rfl;have v2:w8.cell? ⟨g7,2,none⟩=some (.slice a3 m3 c3):=b8.cell rfl;have p0:w8.cell? ⟨w.heap.size+1,0,none⟩=some (.int .i64 0):=xP.cell rfl;have p1:w8.cell? ⟨w.heap.size+1,1,none⟩=some (.int .i64 0):=xP.cell rfl;have p2:w8.cell? ⟨w.heap.size+1,2,none⟩=some (.int .i64 0):=xP.cell rfl;have p3:w8.cell? ⟨w.heap.size+1,3,none⟩=some (.slice none 0 0):=xP.cell rfl;have y0:=xP.frozen 0;have y1:=xP.frozen 1;have y2:=xP.frozen 2;have y3:=xP.frozen 3;clear hd8;obtain⟨b8',T9,a7A,UB,CP,vG,JB,IK⟩:=aL b8 oV NE xP nW uD hod LK;clear b8 oV NE xP nW uD hod LK;go_wp2_with (go_at_call 143;refine(kI _ _ _).mono ?_;rintro e w3 ⟨rfl,rfl⟩;simp only[kV,kW])
      refine bodyPost_ret (results_cell_row rfl _ _ (w.heap.size+1) 74 #[.int .i64 tg,.int .i64 ty',.int .i64 cnt',.slice a3 m3 c3] (0,0) _ rfl (UB.o.XD _ _ _ _) Tryz.underlying74 rfl (by kernel_rfl)) rfl ?_;have hbt:=(((((But.refl (w.heap.size+1) w8).set 0 (.int .i64 tg)).set 1 (.int .i64 ty')).set 2 (.int .i64 cnt')).set 3 (.slice a3 m3 c3));have bO5:w5.drew.heap.size=w5.heap.size:=rfl;refine⟨sv1,tk1,CP.o.but hbt (by omega) (by omega) bFL (bK hok'.o.old.size (eB _)),vG.o.uT (eB _) hbt,a3,m3,c3,rfl,?_,fun kk e h=>?_⟩
      ·have h:=lJ JB.o hbt (fun e=>by have:=(JB.o.lt _ e).1;omega);rw[IK.o];exact kK h (by omega)
      ·have h1:=(JB.o.lt kk e).1;have h2:=(AB.o.spot.lt kk h).2;omega
  case neg=>
   have d4:decide (0<(L:Int))=false:=by simp;omega
   have d5:decide (0<L)=false:=by simp;omega
   have hR4:=hR'.o;rw[if_neg hL0]at hR4;obtain⟨Ty,f,hne,hbel,jH⟩:=jR w2;have q1:∀s,(f s).cell? ⟨K.g,1,none⟩=some (.int .i64 K.o):=fun s=>(jJ.late V8.o.blk (hbel s)).cell rfl;have r0:∀s,(f s).cell? ⟨w.heap.size,0,none⟩=some (.int .i64 tg):=fun s=>(jJ.late a4N.o (hbel s)).cell rfl;have r1:∀s,(f s).cell? ⟨w.heap.size,1,none⟩=some (.int .i64 ty):=fun s=>(jJ.late a4N.o (hbel s)).cell rfl;have r2:∀s,(f s).cell? ⟨w.heap.size,2,none⟩=some (.int .i64 cnt):=fun s=>(jJ.late a4N.o (hbel s)).cell rfl;have r3:∀s,(f s).cell? ⟨w.heap.size,3,none⟩=some (.int .i64 S):=fun s=>(jJ.late a4N.o (hbel s)).cell rfl;obtain⟨HS,HD⟩:=aF (jH _ ((aW _ _).drew)) ((aW w2.heap.size w2).drew);have HO:=fun W=>aJI (tg,ty,cnt,(S:Int)) K.o W;unfold a4I at HO;simp only at HO;obtain⟨V,hV⟩:=aC (inS (tg,ty,cnt,(S:Int)) K.o);rw[hV]at HO hR4;clear hV hR' k0 k3;obtain⟨jG,jA,HO',KJ⟩:=aH hbel jH HO hR4;clear hbel jH HO hR4;go_wp2_with fail
   refine jU (S:=fun W=>∃s,W=f s) (by kernel_rfl) 15 rfl ?_;refine jF [0,1,2,3,4,5] 9 (by kernel_rfl) (fun d _ _ _ _ h=>by cases d <;> exact h) (by kernel_rfl) (by kernel_rfl) (by kernel_rfl) HS.o ?_;simp only[jB,aS,aT,aQ,aR];iterate 6 (go_big_quiet_step (fail))
   refine wpQuiet_nil ?_;refine qX 6 11 8 (by kernel_rfl) (by kernel_rfl) ?_ ?_;all_goals simp only[jB,aS,aT,aQ,aR]
   case refine_1=>
    go_wp2_with fail
    refine(HO'.o _).mono ?_;rintro e w6 ⟨ty',cnt',a3,m3,c3,cl,rfl,hb6,hd6⟩;have hb6:=HD.o.tm hb6;obtain⟨HS,G7,PD⟩:=aG (jA.o _ hb6) hb6 hd6;clear hb6 hd6;go_wp2_with fail
    first|refine Mid.mk ⟨HS.o,?_⟩|refine Mid.mk ?_
    refine jF [7,8,9,10] 4 (by kernel_rfl) (fun d _ _ _ _ h=>by cases d <;> exact h) (by kernel_rfl) (by kernel_rfl) (by kernel_rfl) HS.o ?_;simp only[jB,aS,aT,aQ,aR];iterate 4 (go_big_quiet_step (fail))
    refine wpQuiet_nil ?_;refine jC 11 3 (by kernel_rfl) (by kernel_rfl) ?_;simp only[jB,aS,aT,aQ,aR];go_wp2_with fail
    have hal:=aD w6 (.cells #[.int .i64 0,.int .i64 0,.slice none 0 0] 72);have b7:=jJ.new w6 72 #[.int .i64 0,.int .i64 0,.slice none 0 0];have rP:=G7.o.tm hal;have hg7:w2.heap.size≤w6.heap.size:=G7.o.size;have hd7:=fun d h=>(⟨(PD.o d h).1,(PD.o d h).2.1,(PD.o d h).2.2.1,jY (PD.o d h).2.2.2 hal,fun e=>by have:=((PD.o d h).2.2.2.lt _ e).2;omega⟩:ty'=ty∧cnt'=cnt∧cl=d.2∧World.ownsRow _ _ _ _ _ _ _∧(Value.slice a3 m3 c3).ownBlock≠some w6.heap.size);clear hal;generalize w6.alloc (.cells #[.int .i64 0,.int .i64 0,.slice none 0 0] 72)=w7 at*;generalize w6.heap.size=g7 at*;have HS:=aA (jA.o _ rP);clear G7 PD;obtain⟨uW,sS,zX⟩:=aG b7 rP hd7;clear b7 rP hd7;first|refine Mid.mk ⟨HS.o,?_⟩|refine Mid.mk ?_
    refine jC 12 2 (by kernel_rfl) (by kernel_rfl) ?_;simp only[jB,aS,aT,aQ,aR];have p0:w7.cell? ⟨g7,0,none⟩=some (.int .i64 0):=uW.o.cell rfl;have p1:w7.cell? ⟨g7,1,none⟩=some (.int .i64 0):=uW.o.cell rfl;have p2:w7.cell? ⟨g7,2,none⟩=some (.slice none 0 0):=uW.o.cell rfl;have y0:=uW.o.frozen 0;have y1:=uW.o.frozen 1;have y2:=uW.o.frozen 2;go_wp2_with fail
    have b8:=uW.o.xK (.int .i64 ty') (.int .i64 cnt') (.slice a3 m3 c3);have oV:=kM sS.o hg7 (.int .i64 ty') (.int .i64 cnt') (.slice a3 m3 c3);have HS:=aA (jA.o _ oV);have hd8:=fun d h=>(⟨(zX.o d h).1,(zX.o d h).2.1,(zX.o d h).2.2.1,lJ (zX.o d h).2.2.2.1 ((((But.refl g7 w7).set 0 (.int .i64 ty')).set 1 (.int .i64 cnt')).set 2 (.slice a3 m3 c3)) (zX.o d h).2.2.2.2⟩:ty'=ty∧cnt'=cnt∧cl=d.2∧World.ownsRow _ _ _ _ _ _ _);refine Mid.mk ⟨HS.o,?_⟩;refine jF [13,14] 0 (by kernel_rfl) (fun d _ _ _ _ h=>by cases d <;> exact h) (by kernel_rfl) (by kernel_rfl) (by kernel_rfl) HS.o ?_;simp only[jB,aS,aT,aQ,aR];iterate 2 (go_big_quiet_step (fail))
    refine wpQuiet_nil ?_;refine jK (by kernel_rfl) ?_;clear p0 p1 p2 y0 y1 y2 uW sS zX q1 r0 r1 r2 r3 HS;generalize (((w7.setCell ⟨g7,0,none⟩ (.int .i64 ty')).setCell ⟨g7,1,none⟩ (.int .i64 cnt')).setCell ⟨g7,2,none⟩ (.slice a3 m3 c3))=w8 at*;have NE:=a4N.o.late oV;have xP:=NR.o.late oV;have nW:=V8.o.later oV;have uD:Mv K.g K.gt sv sv w w8:=Mv.of_below (lU.o.tm oV);have hw8:=oV.size;have hgg:∀c,sv.ownBlock=some c→c<w.heap.size:=RP.o;have bO6:w2.drew.heap.size=w2.heap.size:=rfl;cases V with
    |none=>
     obtain rfl:R= .error 6:=by rw[←KJ.o]
     simp only[Option.isSome_none]at*;clear hd8;obtain⟨b8',T9,a7A,UB,CP,vG,a7B⟩:=aK b8 oV NE xP nW uD hgg;clear b8 oV NE xP nW uD hgg;go_wp2_with (go_at_call 143;refine(kI _ _ _).mono ?_;rintro e w3 ⟨rfl,rfl⟩;simp only[kV,kW])
     exact⟨rfl,rfl,sv,vG.o⟩
    |some d=>
     obtain⟨rfl,rfl,rfl,hod⟩:=hd8 d rfl;have LK:=(Sl.jX hod).1.nV;simp only[Option.isSome_some]at*;have t0:w8.cell? ⟨w.heap.size,0,none⟩=some (.int .i64 tg):=NE.cell rfl;have v0:w8.cell? ⟨g7,0,none⟩=some (.int .i64 ty'):=b8.cell rfl;have v1:w8.cell? ⟨g7,1,none⟩=some (.int .i64 cnt'):=b8.cell rfl;have v2:w8.cell? ⟨g7,2,none⟩=some (.slice a3 m3 c3):=b8.cell rfl;have p0:w8.cell? ⟨w.heap.size+1,0,none⟩=some (.int .i64 0):=xP.cell rfl;have p1:w8.cell? ⟨w.heap.size+1,1,none⟩=some (.int .i64 0):=xP.cell rfl;have p2:w8.cell? ⟨w.heap.size+1,2,none⟩=some (.int .i64 0):=xP.cell rfl;have p3:w8.cell? ⟨w.heap.size+1,3,none⟩=some (.slice none 0 0):=xP.cell rfl;have y0:=xP.frozen 0;have y1:=xP.frozen 1;have y2:=xP.frozen 2;have y3:=xP.frozen 3;clear hd8;obtain⟨d,cl⟩:=d;have aS0:sv.ownBlock≠some (w.heap.size+1):=fun e=>by have:=hgg _ e;omega
     cases cl with
     |true=>
      obtain rfl:R= .ok ((tg,ty',cnt',d),s):=by rw[←KJ.o];simp
      obtain⟨b8',T9,a7A,UB,CP,vG,JB,IK,a7B⟩:=aM b8 oV NE xP nW uD hod LK hgg;clear b8 oV NE xP nW uD hod LK hgg;go_wp2_with (go_at_call 143;refine(kI _ _ _).mono ?_;rintro e w3 ⟨rfl,rfl⟩;simp only[kV,kW])
      refine bodyPost_ret (results_cell_row rfl _ _ (w.heap.size+1) 74 #[.int .i64 tg,.int .i64 ty',.int .i64 cnt',.slice a3 m3 c3] (0,0) _ rfl (UB.o.XD _ _ _ _) Tryz.underlying74 rfl (by kernel_rfl)) rfl ?_;have hbt:=(((((But.refl (w.heap.size+1) w8).set 0 (.int .i64 tg)).set 1 (.int .i64 ty')).set 2 (.int .i64 cnt')).set 3 (.slice a3 m3 c3));refine⟨sv,tk,CP.o.but hbt (by omega) (by omega) aS0 (bK hok'.o.old.size (eB _)),vG.o.uT (eB _) hbt,a3,m3,c3,rfl,?_,fun kk e h=>?_⟩
      ·have h:=lJ JB.o hbt (fun e=>by have:=(JB.o.lt _ e).1;omega);rw[IK.o];exact kK h (by omega)
      ·have h1:=(JB.o.lt kk e).1;have h2:=a7B.o kk h;omega
     |false=>
      obtain⟨so,hws⟩:=aC (IntKind.i64.wrap (s.wS+1));obtain rfl:R= .ok ((tg,ty',cnt',d),{s with wS:=so}):=by rw[←KJ.o,←hws];simp
      have g5:w8.cell? ⟨K.g,6,none⟩=some (.int .i64 s.wS):=nW.blk.cell rfl;have g6:=nW.blk.frozen 6;have rO:=nW.blk.set 6 (.int .i64 so);have EK:=(But.refl K.g w8).set 6 (.int .i64 so);have b89:=b8.but EK (by omega);have bx9:=NE.but EK (by omega);have b09:=xP.but EK (by omega);have aS1:=lJ hod EK (fun e=>by have:=(hod.lt _ e).1;omega);have a8Q:=uD.trans (Mv.yA EK (.inl rfl));have a1U:vL K {s with wS:=so} sv tk (w8.setCell ⟨K.g,6,none⟩ (.int .i64 so)):=
       ⟨nW.old.trans (EK.below t'.o.gB nW.old.size),rO,jJ.but (T:=214) nW.tak EK (Ne.symm t'.o.ne),nW.tkl,nW.tkb,nW.bits,lJ nW.spot EK nW.sg,nW.sg,nW.sgt⟩
      clear t0 v0 v1 v2 p0 p1 p2 p3 y0 y1 y2 y3 rO hod;obtain⟨b8',T9,a7A,UB,CP,vG,IK,a7B,bFN,a5G,b7W,HY⟩:=aP b8 oV NE xP nW uD LK hgg EK b89 bx9 b09;obtain⟨a0C,a8R,V9⟩:=aG aS1 a8Q a1U;clear b8 oV NE xP nW uD LK hgg EK b89 bx9 b09 aS1 a8Q a1U;go_upto_region 12 with (go_at_call 143;refine(kI _ _ _).mono ?_;rintro e w3 ⟨rfl,rfl⟩;simp only[kV,kW])
      clear g5 g6;generalize w8.setCell ⟨K.g,6,none⟩ (.int .i64 so)=w9 at*;have t0:w9.cell? ⟨w.heap.size,0,none⟩=some (.int .i64 tg):=b7W.o.cell rfl;have v0:w9.cell? ⟨g7,0,none⟩=some (.int .i64 ty'):=a5G.o.cell rfl;have v1:w9.cell? ⟨g7,1,none⟩=some (.int .i64 cnt'):=a5G.o.cell rfl;have v2:w9.cell? ⟨g7,2,none⟩=some (.slice a3 m3 c3):=a5G.o.cell rfl;have p0:w9.cell? ⟨w.heap.size+1,0,none⟩=some (.int .i64 0):=HY.o.cell rfl;have p1:w9.cell? ⟨w.heap.size+1,1,none⟩=some (.int .i64 0):=HY.o.cell rfl;have p2:w9.cell? ⟨w.heap.size+1,2,none⟩=some (.int .i64 0):=HY.o.cell rfl;have p3:w9.cell? ⟨w.heap.size+1,3,none⟩=some (.slice none 0 0):=HY.o.cell rfl;have y0:=HY.o.frozen 0;have y1:=HY.o.frozen 1;have y2:=HY.o.frozen 2;have y3:=HY.o.frozen 3;go_wp2_with fail
      refine bodyPost_ret (results_cell_row rfl _ _ (w.heap.size+1) 74 #[.int .i64 tg,.int .i64 ty',.int .i64 cnt',.slice a3 m3 c3] (0,0) _ rfl (HY.o.XD _ _ _ _) Tryz.underlying74 rfl (by kernel_rfl)) rfl ?_;have hbt:=(((((But.refl (w.heap.size+1) w9).set 0 (.int .i64 tg)).set 1 (.int .i64 ty')).set 2 (.int .i64 cnt')).set 3 (.slice a3 m3 c3));refine⟨sv,tk,V9.o.but hbt (by omega) (by omega) aS0 (bK hok'.o.old.size (eB _)),a8R.o.uT (eB _) hbt,a3,m3,c3,rfl,?_,fun kk e h=>?_⟩
      ·have h:=lJ a0C.o hbt (fun e=>by have:=(a0C.o.lt _ e).1;omega);rw[IK.o];exact kK h (by omega)
      ·have h1:=(a0C.o.lt kk e).1;have h2:=a7B.o kk h;omega
   case refine_2=>
    go_wp2_with fail
    have rP:=(aD w2 (.cells #[.int .i64 0,.int .i64 0,.slice none 0 0] 72)).drew;have b7:jJ (w2.alloc (.cells #[.int .i64 0,.int .i64 0,.slice none 0 0] 72)).drew w2.heap.size 72 #[.int .i64 0,.int .i64 0,.slice none 0 0]:=jJ.new w2 _ _;have HS:=aA (jA.o _ rP);have a4H:(w2.alloc (.cells #[.int .i64 0,.int .i64 0,.slice none 0 0] 72)).drew.heap.size=w2.heap.size+1:=by show(w2.alloc _).heap.size=_;simp
    obtain⟨w3,hw3⟩:∃w3,(w2.alloc (.cells #[.int .i64 0,.int .i64 0,.slice none 0 0] 72)).drew=w3:=⟨_,rfl⟩;rw[hw3]at rP b7 HS a4H;rw[hw3];clear hw3;obtain⟨uW,sS⟩:=aF b7 rP;clear b7 rP;first|refine Mid.mk ⟨HS.o,?_⟩|refine Mid.mk ?_
    refine jC 6 7 (by kernel_rfl) (by kernel_rfl) ?_;simp only[jB,aS,aT,aQ,aR];go_wp2_with fail
    refine(HO'.o _).mono ?_;rintro e w7 ⟨ty',cnt',a3,m3,c3,cl,rfl,hb6,hd6⟩;have a0B:=sS.o.tm hb6;have b7:=uW.o.late hb6;have HS:=aA (jA.o _ a0B);have hd7:=fun d h=>(⟨(hd6 d h).1,(hd6 d h).2.1,(hd6 d h).2.2.1,kK (hd6 d h).2.2.2 sS.o.size,fun e=>by have:=((hd6 d h).2.2.2.lt _ e).1;omega⟩:ty'=ty∧cnt'=cnt∧cl=d.2∧World.ownsRow w7 w2.heap.size _ _ _ _ _∧(Value.slice a3 m3 c3).ownBlock≠some w2.heap.size);have rP:=a0B;obtain⟨g7,MU⟩:∃g,w2.heap.size=g:=⟨_,rfl⟩;have hg7:w2.heap.size≤g7:=gT MU;clear uW sS hb6 a0B hd6 a4H;rw[MU]at b7;rw[MU];replace hd7:=fun d h=>(⟨(hd7 d h).1,(hd7 d h).2.1,(hd7 d h).2.2.1,(hd7 d h).2.2.2.1,MU▸(hd7 d h).2.2.2.2⟩:ty'=ty∧cnt'=cnt∧cl=d.2∧World.ownsRow w7 w2.heap.size _ _ _ _ _∧(Value.slice a3 m3 c3).ownBlock≠some g7)
    clear MU;obtain⟨uW,sS,zX⟩:=aG b7 rP hd7;clear b7 rP hd7;go_wp2_with fail
    first|refine Mid.mk ⟨HS.o,?_⟩|refine Mid.mk ?_
    refine jF [7,8,9,10] 3 (by kernel_rfl) (fun d _ _ _ _ h=>by cases d <;> exact h) (by kernel_rfl) (by kernel_rfl) (by kernel_rfl) HS.o ?_;simp only[jB,aS,aT,aQ,aR];iterate 4 (go_big_quiet_step (fail))
    refine wpQuiet_nil ?_;refine jC 12 2 (by kernel_rfl) (by kernel_rfl) ?_;simp only[jB,aS,aT,aQ,aR];have p0:w7.cell? ⟨g7,0,none⟩=some (.int .i64 0):=uW.o.cell rfl;have p1:w7.cell? ⟨g7,1,none⟩=some (.int .i64 0):=uW.o.cell rfl;have p2:w7.cell? ⟨g7,2,none⟩=some (.slice none 0 0):=uW.o.cell rfl;have y0:=uW.o.frozen 0;have y1:=uW.o.frozen 1;have y2:=uW.o.frozen 2;go_wp2_with fail
    have b8:=uW.o.xK (.int .i64 ty') (.int .i64 cnt') (.slice a3 m3 c3);have oV:=kM sS.o hg7 (.int .i64 ty') (.int .i64 cnt') (.slice a3 m3 c3);have HS:=aA (jA.o _ oV);have hd8:=fun d h=>(⟨(zX.o d h).1,(zX.o d h).2.1,(zX.o d h).2.2.1,lJ (zX.o d h).2.2.2.1 ((((But.refl g7 w7).set 0 (.int .i64 ty')).set 1 (.int .i64 cnt')).set 2 (.slice a3 m3 c3)) (zX.o d h).2.2.2.2⟩:ty'=ty∧cnt'=cnt∧cl=d.2∧World.ownsRow _ _ _ _ _ _ _);refine Mid.mk ⟨HS.o,?_⟩;refine jF [13,14] 0 (by kernel_rfl) (fun d _ _ _ _ h=>by cases d <;> exact h) (by kernel_rfl) (by kernel_rfl) (by kernel_rfl) HS.o ?_;simp only[jB,aS,aT,aQ,aR];iterate 2 (go_big_quiet_step (fail))
    refine wpQuiet_nil ?_;refine jK (by kernel_rfl) ?_;clear p0 p1 p2 y0 y1 y2 uW sS zX q1 r0 r1 r2 r3 HS;generalize (((w7.setCell ⟨g7,0,none⟩ (.int .i64 ty')).setCell ⟨g7,1,none⟩ (.int .i64 cnt')).setCell ⟨g7,2,none⟩ (.slice a3 m3 c3))=w8 at*;have NE:=a4N.o.late oV;have xP:=NR.o.late oV;have nW:=V8.o.later oV;have uD:Mv K.g K.gt sv sv w w8:=Mv.of_below (lU.o.tm oV);have hw8:=oV.size;have hgg:∀c,sv.ownBlock=some c→c<w.heap.size:=RP.o;have bO6:w2.drew.heap.size=w2.heap.size:=rfl;cases V with
    |none=>
     obtain rfl:R= .error 6:=by rw[←KJ.o]
     simp only[Option.isSome_none]at*;clear hd8;obtain⟨b8',T9,a7A,UB,CP,vG,a7B⟩:=aK b8 oV NE xP nW uD hgg;clear b8 oV NE xP nW uD hgg;go_wp2_with (go_at_call 143;refine(kI _ _ _).mono ?_;rintro e w3 ⟨rfl,rfl⟩;simp only[kV,kW])
     exact⟨rfl,rfl,sv,vG.o⟩
    |some d=>
     obtain⟨rfl,rfl,rfl,hod⟩:=hd8 d rfl;have LK:=(Sl.jX hod).1.nV;simp only[Option.isSome_some]at*;have t0:w8.cell? ⟨w.heap.size,0,none⟩=some (.int .i64 tg):=NE.cell rfl;have v0:w8.cell? ⟨g7,0,none⟩=some (.int .i64 ty'):=b8.cell rfl;have v1:w8.cell? ⟨g7,1,none⟩=some (.int .i64 cnt'):=b8.cell rfl;have v2:w8.cell? ⟨g7,2,none⟩=some (.slice a3 m3 c3):=b8.cell rfl;have p0:w8.cell? ⟨w.heap.size+1,0,none⟩=some (.int .i64 0):=xP.cell rfl;have p1:w8.cell? ⟨w.heap.size+1,1,none⟩=some (.int .i64 0):=xP.cell rfl;have p2:w8.cell? ⟨w.heap.size+1,2,none⟩=some (.int .i64 0):=xP.cell rfl;have p3:w8.cell? ⟨w.heap.size+1,3,none⟩=some (.slice none 0 0):=xP.cell rfl;have y0:=xP.frozen 0;have y1:=xP.frozen 1;have y2:=xP.frozen 2;have y3:=xP.frozen 3;clear hd8;obtain⟨d,cl⟩:=d;have aS0:sv.ownBlock≠some (w.heap.size+1):=fun e=>by have:=hgg _ e;omega
     cases cl with
     |true=>
      obtain rfl:R= .ok ((tg,ty',cnt',d),s):=by rw[←KJ.o];simp
      obtain⟨b8',T9,a7A,UB,CP,vG,JB,IK,a7B⟩:=aM b8 oV NE xP nW uD hod LK hgg;clear b8 oV NE xP nW uD hod LK hgg;go_wp2_with (go_at_call 143;refine(kI _ _ _).mono ?_;rintro e w3 ⟨rfl,rfl⟩;simp only[kV,kW])
      refine bodyPost_ret (results_cell_row rfl _ _ (w.heap.size+1) 74 #[.int .i64 tg,.int .i64 ty',.int .i64 cnt',.slice a3 m3 c3] (0,0) _ rfl (UB.o.XD _ _ _ _) Tryz.underlying74 rfl (by kernel_rfl)) rfl ?_;have hbt:=(((((But.refl (w.heap.size+1) w8).set 0 (.int .i64 tg)).set 1 (.int .i64 ty')).set 2 (.int .i64 cnt')).set 3 (.slice a3 m3 c3));refine⟨sv,tk,CP.o.but hbt (by omega) (by omega) aS0 (bK hok'.o.old.size (eB _)),vG.o.uT (eB _) hbt,a3,m3,c3,rfl,?_,fun kk e h=>?_⟩
      ·have h:=lJ JB.o hbt (fun e=>by have:=(JB.o.lt _ e).1;omega);rw[IK.o];exact kK h (by omega)
      ·have h1:=(JB.o.lt kk e).1;have h2:=a7B.o kk h;omega
     |false=>
      obtain⟨so,hws⟩:=aC (IntKind.i64.wrap (s.wS+1));obtain rfl:R= .ok ((tg,ty',cnt',d),{s with wS:=so}):=by rw[←KJ.o,←hws];simp
      have g5:w8.cell? ⟨K.g,6,none⟩=some (.int .i64 s.wS):=nW.blk.cell rfl;have g6:=nW.blk.frozen 6;have rO:=nW.blk.set 6 (.int .i64 so);have EK:=(But.refl K.g w8).set 6 (.int .i64 so);have b89:=b8.but EK (by omega);have bx9:=NE.but EK (by omega);have b09:=xP.but EK (by omega);have aS1:=lJ hod EK (fun e=>by have:=(hod.lt _ e).1;omega);have a8Q:=uD.trans (Mv.yA EK (.inl rfl));have a1U:vL K {s with wS:=so} sv tk (w8.setCell ⟨K.g,6,none⟩ (.int .i64 so)):=
       ⟨nW.old.trans (EK.below t'.o.gB nW.old.size),rO,jJ.but (T:=214) nW.tak EK (Ne.symm t'.o.ne),nW.tkl,nW.tkb,nW.bits,lJ nW.spot EK nW.sg,nW.sg,nW.sgt⟩
      clear t0 v0 v1 v2 p0 p1 p2 p3 y0 y1 y2 y3 rO hod;obtain⟨b8',T9,a7A,UB,CP,vG,IK,a7B,bFN,a5G,b7W,HY⟩:=aP b8 oV NE xP nW uD LK hgg EK b89 bx9 b09;obtain⟨a0C,a8R,V9⟩:=aG aS1 a8Q a1U;clear b8 oV NE xP nW uD LK hgg EK b89 bx9 b09 aS1 a8Q a1U;go_upto_region 12 with (go_at_call 143;refine(kI _ _ _).mono ?_;rintro e w3 ⟨rfl,rfl⟩;simp only[kV,kW])
      clear g5 g6;generalize w8.setCell ⟨K.g,6,none⟩ (.int .i64 so)=w9 at*;have t0:w9.cell? ⟨w.heap.size,0,none⟩=some (.int .i64 tg):=b7W.o.cell rfl;have v0:w9.cell? ⟨g7,0,none⟩=some (.int .i64 ty'):=a5G.o.cell rfl;have v1:w9.cell? ⟨g7,1,none⟩=some (.int .i64 cnt'):=a5G.o.cell rfl;have v2:w9.cell? ⟨g7,2,none⟩=some (.slice a3 m3 c3):=a5G.o.cell rfl;have p0:w9.cell? ⟨w.heap.size+1,0,none⟩=some (.int .i64 0):=HY.o.cell rfl;have p1:w9.cell? ⟨w.heap.size+1,1,none⟩=some (.int .i64 0):=HY.o.cell rfl;have p2:w9.cell? ⟨w.heap.size+1,2,none⟩=some (.int .i64 0):=HY.o.cell rfl;have p3:w9.cell? ⟨w.heap.size+1,3,none⟩=some (.slice none 0 0):=HY.o.cell rfl;have y0:=HY.o.frozen 0;have y1:=HY.o.frozen 1;have y2:=HY.o.frozen 2;have y3:=HY.o.frozen 3;go_wp2_with fail
      refine bodyPost_ret (results_cell_row rfl _ _ (w.heap.size+1) 74 #[.int .i64 tg,.int .i64 ty',.int .i64 cnt',.slice a3 m3 c3] (0,0) _ rfl (HY.o.XD _ _ _ _) Tryz.underlying74 rfl (by kernel_rfl)) rfl ?_;have hbt:=(((((But.refl (w.heap.size+1) w9).set 0 (.int .i64 tg)).set 1 (.int .i64 ty')).set 2 (.int .i64 cnt')).set 3 (.slice a3 m3 c3));refine⟨sv,tk,V9.o.but hbt (by omega) (by omega) aS0 (bK hok'.o.old.size (eB _)),a8R.o.uT (eB _) hbt,a3,m3,c3,rfl,?_,fun kk e h=>?_⟩
      ·have h:=lJ a0C.o hbt (fun e=>by have:=(a0C.o.lt _ e).1;omega);rw[IK.o];exact kK h (by omega)
      ·have h1:=(a0C.o.lt kk e).1;have h2:=a7B.o kk h;omega
