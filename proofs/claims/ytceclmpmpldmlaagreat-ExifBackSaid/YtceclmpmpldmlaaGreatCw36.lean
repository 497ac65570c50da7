import Derived.Recover
import Derived.Test.YtceclmpmpldmlaaGreatCw30
set_option linter.unusedSimpArgs false
set_option linter.unusedVariables false
set_option maxRecDepth 100000
set_option maxHeartbeats 8000000
namespace Go.Proofs.YtceclmpmpldmlaaGreat
open Go.RowKit Tt
theorem b5J:(Tryz.prog.info? 214).map (fun i=>(i.zero,i.size,i.bytes))=some (some (.int .u64 0),1,8):=by kernel_rfl
theorem aA7 (a:Option Addr) (n c:Nat) (z:List Int) (sa:Option Addr) (sn sc:Nat) (zs:List Shz) (w:World) (hs:Sl w a n c 1 (ints .u8 z)) (hsh:ShR w sa sn sc zs) (qL:pF z) (hn:n≤1000000000):
  Calls Tryz.prog 84 #[.slice a n c,.slice sa sn sc] w fun e w'=>∃g gt,e= .returned (.pointer (some ⟨g,0,none⟩))∧WkT ⟨w,a,n,c,z,0,sa,sn,sc,zs,g,gt,n / 64+1⟩∧zJ ⟨w,a,n,c,z,0,sa,sn,sc,zs,g,gt,n / 64+1⟩ ⟨[],0,0⟩ (.slice none 0 0) (List.replicate (n / 64+1) 0) w'∧Below w.heap.size w w':=by
 obtain⟨i0,hi,yZ,qC,wY⟩:=info_parts b5J;obtain⟨L,hL⟩:=aC (n / 64+1);have hL2:L≤1000000000:=by omega
 have c7B:(n:Int) / 64=((L - 1:Nat):Int):=by omega
 have c7C:IntKind.i64.wrap (((L - 1:Nat):Int)+1)=(L:Int):=by rw[bJ];omega
 rw[hL];have nC:(madeCells (Value.int .u64 0).cells (L*1)).toList=ints .u64 (QK (List.replicate L 0)):=by
  rw[iH];show(madeCells #[Value.int .u64 0] L).toList=_
  rw[toList_madeCells_one];simp[ints,QK]
 obtain⟨sK,Z5,vR⟩:=aK hs hsh qL;obtain⟨zO,hL'⟩:=aJ nC hL;clear hs hsh qL nC hL;go_enter Tryz.func84,Tryz.ntmps84;go_wp2_with (at_make;refine wpList_make_full w rfl _ _ 146 rfl w.heap.size 214 i0 _ 1 Tryz.underlying146 hi yZ qC .i64 .i64 _ _ L rfl rfl rfl rfl (by rw[wY];omega) (by unfold maxLen;omega) (aY _) ?_;intro w1 mK hg1;obtain⟨b2V,Hg1⟩:=aJ mK hg1;clear mK hg1)
 have R1:Row w1 w.heap.size 214 .u64 (QK (List.replicate L 0)):=by have h:=b2V.o;rw[zO.o]at h;exact Row.kZ h
 have kV:Below w.heap.size w w1:=(bF _ _).grown Hg1.o (aY _) (fun k e=>by cases e);have kY:=kG.lt (T:=214) R1;have kU:=aD w1 (.cells #[.slice a n c,.int .i64 0,.slice sa sn sc,.slice (some ⟨w.heap.size,0,none⟩) L L,.slice none 0 0,.int .i64 0,.int .i64 0] 148);go_ret;refine⟨w1.heap.size,w.heap.size,rfl,⟨sK.o,Z5.o,vR.o,hn,hL'.o.symm,kV.size,aY _,by show w1.heap.size≠w.heap.size;omega⟩,⟨kV.tm kU,kG.new w1 _ _,kG.late (T:=214) R1 kU,by simp,fun x hx=>by rw[(List.mem_replicate.1 hx).2];omega,fun k hk=>?_,lC _ _ _ _,(fun e=>by cases e),(fun e=>by cases e)⟩,kV.tm kU⟩;have e:(List.replicate L 0).getD (k / 64) 0=0:=by
  rw[aZ,List.getElem?_replicate];split <;> rfl
 unfold a8M nH;rw[e];simp
theorem KA (p q:Addr) (gp gq:Nat) (x:Int) (w:World) (hp:p=⟨gp,0,none⟩) (hq:q=⟨gq,0,none⟩) (cs:Array Value) (v v2 v3:Value) (hbp:kG w gp 39 #[v,v2]) (AQ:kG w gq 40 #[v3]) (pQ:gp≠gq):
  CallsD Tryz.prog 142 #[.pointer (some p),.pointer (some q)] (.panicking (pan x)) w fun e u' w'=>e= .returned (.tuple #[])∧u'= .panicking [{v:= .iface 208 (.agg #[.int .i64 x]),recovered:=true}]∧
   kG w' gp 39 #[.int .i64 0,.slice none 0 0]∧kG w' gq 40 #[.int .i64 x]∧(∀k,k<w.heap.size→k≠gp→k≠gq→w'.heap[k]? =w.heap[k]?)∧w.heap.size≤w'.heap.size∧w'.os=w.os∧w'.tape=w.tape∧w'.output=w.output:=by
 subst hp hq;refine callsD_of_wpS Tryz.func142 rfl fun c₀ cs hu=>?_;have hta:∀W,(Instr.typeAssert (.iface 208 (.agg #[.int .i64 x])) 20 208 true).run Tryz.prog W= .ok (.tuple #[.agg #[.int .i64 x],.bool true]) W:=fun W=>by kernel_rfl
 simp only[Tryz.ntmps142,fD,dO,iC,Nat.reduceAdd,Nat.reduceSub,iZ,iY,jI,j6,fG,jD];unfold pan at hu;apply wpS_seq;apply wpS_region;simp[wpOpsS,go_sem,recoverD,hu,Exit.thenS];refine wpS_of_wp ?_;have kU:=aD w (.cells #[.int .i64 x] 208);have bp:=hbp.late kU;have bq:=AQ.late kU;have b3:=kG.new w 208 #[.int .i64 x];obtain⟨bY9,sZ,bp',bq',b3',qR⟩:=aN hbp AQ bp bq b3 kU;clear hbp AQ bp bq b3 kU;go_upto_region 3 with fail
 generalize w.alloc (.cells #[.int .i64 x] 208)=w1 at*;obtain⟨g3,Z0⟩:∃g,w.heap.size=g:=⟨_,rfl⟩;rw[Z0]at b3' qR;try rw[Z0]
 have hlp:gp<g3:=by rw[←Z0];exact bY9.o.lt
 have hlq:gq<g3:=by rw[←Z0];exact sZ.o.lt
 obtain⟨Ty,f,hn,hp3,kE⟩:=K7 (fun W=>kG W g3 208 #[.int .i64 x]) w1 b3'.o;have q0:=fun s=>(hp3 s).cell (i:=0) rfl;obtain⟨wd,hwd⟩:=aC w1.drew;have HS0:=aA (kE w1.drew b3'.o);have b3d:kG wd g3 208 #[.int .i64 x]:=by rw[←hwd];exact b3'.o
 have bpd:kG wd gp 39 #[v,v2]:=by rw[←hwd];exact bp'.o
 have bqd:kG wd gq 40 #[v3]:=by rw[←hwd];exact bq'.o
 have bNV:Below g3 w wd:=by rw[←hwd];exact qR.o.drew
 have p0:=bpd.cell (i:=0) rfl;have p1:=bpd.cell (i:=1) rfl;have y0:=bpd.frozen 0;have y1:=bpd.frozen 1;obtain⟨a4I,jV,bYA,bYB,a7G,aD8,bN8,bYC⟩:=aP hp3 kE bpd bqd bNV Z0 hwd b3d;clear hp3 kE bpd bqd bNV Z0 hwd b3d;refine kR (S:=fun W=>∃s,W=f s) aF 5 rfl ?_;refine jZ [0,1,2] 2 aF aI aF aF aF HS0.o ?_;simp only[jW,aW,aX,aU,aV];iterate 3 (go_big_quiet_step (fail))
 refine wpQuiet_nil ?_;clear q0;rw[bN8.o];refine jX 3 1 aF aF ?_;simp only[jW,aW,aX,aU,aV];go_wp2_with fail
 have bp4:=(bYA.o.set 0 (.int .i64 0)).set 1 (.slice none 0 0);have bq4:=(bYB.o.mO (Ne.symm pQ) 0 (.int .i64 0)).mO (Ne.symm pQ) 1 (.slice none 0 0);have b34:=(bYC.o.mO (show g3≠gp by omega) 0 (.int .i64 0)).mO (show g3≠gp by omega) 1 (.slice none 0 0);have mQ:=((But.refl gp wd).set 0 (.int .i64 0)).set 1 (.slice none 0 0);clear p0 p1 y0 y1;obtain⟨w4,hw4⟩:∃w4,(wd.setCell ⟨gp,0,none⟩ (.int .i64 0)).setCell ⟨gp,1,none⟩ (.slice none 0 0)=w4:=⟨_,rfl⟩;rw[hw4]at bp4 bq4 b34 mQ;try rw[hw4]
 clear hw4;have HS:=aA (jV.o w4 b34);have p0:=bq4.cell (i:=0) rfl;have y0:=bq4.frozen 0;obtain⟨bYD,bYE,bYF,GN⟩:=aL bp4 bq4 b34 mQ;clear bp4 bq4 b34 mQ;first|refine Mid.mk ⟨HS.o,?_⟩|refine Mid.mk ?_
 refine jX 4 0 aF aF ?_;simp only[jW,aW,aX,aU,aV];go_wp2_with fail
 have b35:=bYF.o.mO (show g3≠gq by omega) 0 (.int .i64 x);have HS:=aA (jV.o _ b35);refine Mid.mk ⟨HS.o,?_⟩;refine kH aF ?_;clear p0 y0;have XI:=(But.refl gq w4).set 0 (.int .i64 x);have bp5:=bYD.o.mO pQ 0 (.int .i64 x);have bq5:=bYE.o.set 0 (.int .i64 x);have hh:∀k,k<w.heap.size→k≠gp→k≠gq→(w4.setCell ⟨gq,0,none⟩ (.int .i64 x)).heap[k]? =w.heap[k]? :=fun k hk h1 h2=>(XI.block k (by have:=GN.o.size;have:=a7G.o.size;have:=aD8.o;omega) h2).trans ((GN.o.block k (by have:=a7G.o.size;have:=aD8.o;omega) h1).trans (a7G.o.block k (by have:=aD8.o;omega)));have tC:w.heap.size≤(w4.setCell ⟨gq,0,none⟩ (.int .i64 x)).heap.size:=by have h1:=XI.size;have h2:=GN.o.size;have h3:=a7G.o.size;have h4:=aD8.o;omega
 have ho:=XI.os.trans (GN.o.os.trans a7G.o.os);have ht:=XI.tape.trans (GN.o.tape.trans a7G.o.tape);have hou:=XI.output.trans (GN.o.output.trans a7G.o.output);obtain⟨bFO,bFP,hh',a8X,JG,KS,bYG⟩:=aO bp5 bq5 hh tC ho ht hou;clear bp5 bq5 hh tC ho ht hou;go_wp2_with fail
 cases c₀
 exact⟨rfl,_,rfl,_,results_none rfl _ _ _,rfl,rfl,bFO.o,bFP.o,hh'.o,a8X.o,JG.o,KS.o,bYG.o⟩
theorem aLI (p q:Addr) (w:World):
  CallsD Tryz.prog 142 #[.pointer (some p),.pointer (some q)] .returning w fun e u' w'=>e= .returned (.tuple #[])∧u'= .returning∧Below w.heap.size w w':=by
 refine callsD_of_wpS Tryz.func142 rfl fun c₀ cs hu=>?_;have hta:∀W,(Instr.typeAssert .nilIface 20 208 true).run Tryz.prog W= .ok (.tuple #[.agg #[.int .i64 0],.bool false]) W:=fun W=>by kernel_rfl
 simp only[Tryz.ntmps142,fD,dO,iC,Nat.reduceAdd,Nat.reduceSub,iZ,iY,jI,j6,fG,jD];apply wpS_seq;apply wpS_region;simp[wpOpsS,go_sem,recoverD,hu,Exit.thenS];refine wpS_of_wp ?_;go_wp2;cases c₀
 simp_all [bodyPostS,results,Tryz.results142]
 exact(bF _ _).alloc (aY _) _
theorem sign_eq {z:List Int} (hb:pF z) (h:2≤z.length) (x y:Int) (hx:0≤x∧x<256) (hy:0≤y∧y<256):((strOfNums (z.take 2)).toList==(strOfNums [x,y]).toList)=(decide (z.getD 0 0=x)&&decide (z.getD 1 0=y)):=by
 rw[aME (hb.take _) (fun u hu=>by simp at hu;rcases hu with rfl|rfl <;> assumption)]
 match z,h with
 |a::b::r,_=>
  rw[dY];simp
abbrev ord (K:WkS) (o:Int):WkS:={K with o:=o}
theorem WkT.ord {K:WkS} (t:WkT K) (o:Int):WkT (ord K o):=⟨t.hs,t.hsh,t.byt,t.n1,t.tn,t.gB,t.gtB,t.ne⟩
theorem aLJ (K:WkS) (t:WkT K) (hK:K.o=0) (sv:Value) (tk:List Nat) (w:World) (wP:zJ K ⟨[],0,0⟩ sv tk w):
  Calls Tryz.prog 144 #[.pointer (some ⟨K.g,0,none⟩)] w (a1E (ord K (mI K.z)) sv w (b7L (EZ K.z)) fun _ _ e _=>e= .returned (.int .i64 (mM K.z 4 4 (mI K.z)))):=by
 have hn:=t.n1;have vO:=t.hs.p9;have FI:=t.hs.le;obtain⟨R,hR⟩:=aC (EZ K.z);rw[hR];unfold EZ at hR;rw[vO]at hR;have c0:=wP.blk.cell (i:=0) rfl;have c1:w.cell? ⟨K.g,1,none⟩=some (.int .i64 0):=by have:=wP.blk.cell (i:=1) rfl;rw[hK]at this;exact this
 have y1:=wP.blk.frozen 1;by_cases h8:8≤K.n
 case neg=>
  obtain rfl:R= .error 3:=by rw[←hR,if_neg h8]
  have d1:decide ((8:Int)≤K.n)=false:=by simp;omega
  have d2:decide (8≤K.n)=false:=by simp;omega
  clear hR h8;obtain⟨nJ,t',oC⟩:=aK wP t vO;clear wP t vO;go_enter Tryz.func144,Tryz.ntmps144;go_wp2_with (go_at_call 143;refine(lJ _ _ _).mono ?_;rintro e w3 ⟨rfl,rfl⟩;simp only[mF,mG])
  exact⟨rfl,rfl,sv,Mv.refl _ _ _ _⟩
 rw[if_pos h8]at hR;have d1:decide ((8:Int)≤K.n)=true:=by simp;omega
 have d2:decide (8≤K.n)=true:=by simp;omega
 obtain⟨a2,qU,xV,z8⟩:=b6Y (P:=Tryz.prog) (T:=24) (E:=5) (sz:=1) Tryz.underlying24 (fun W=>by kernel_rfl) (wP.a2G t) (2:Int) aG aG 2 rfl;rw[show 2*1=2 from rfl,show(ints .u8 K.z).take 2=ints .u8 (K.z.take 2) by simp[ints]]at xV;have hcv:=a3C (P:=Tryz.prog) xV 24 5 9 Tryz.underlying24 Tryz.underlying5 Tryz.underlying9;have hI:=sign_eq t.byt (by rw[vO];omega) 73 73 aH aH;have hM:=sign_eq t.byt (by rw[vO];omega) 77 77 aH aH;rw[show(strOfNums [73,73]).toList= [73,73] by rw[Lib.strOfNums_toList];rfl]at hI;rw[show(strOfNums [77,77]).toList= [77,77] by rw[Lib.strOfNums_toList];rfl]at hM;have yL:mI K.z=if(decide (K.z.getD 0 0=73)&&decide (K.z.getD 1 0=73))=true then 1 else if(decide (K.z.getD 0 0=77)&&decide (K.z.getD 1 0=77))=true then 2 else 0:=by unfold mI;simp
 generalize (decide (K.z.getD 0 0=73)&&decide (K.z.getD 1 0=73))=bI at*;generalize (decide (K.z.getD 0 0=77)&&decide (K.z.getD 1 0=77))=bM at*;obtain⟨nJ,t',oC,a1T,a4A,qM⟩:=aN wP t vO xV z8 hR;clear wP t vO xV z8 hR;cases bI with
 |true=>
  obtain⟨o,ho⟩:∃o:Int,o=1:=⟨1,rfl⟩;have hoo:mI K.z=o:=by rw[yL,ho];rfl
  have bFQ:o=1∨o=2:= .inl ho;clear yL;rw[hoo]at qM ⊢;have mQ:=(But.refl K.g w).set 1 (.int .i64 1);have aCV:zJ (ord K o) ⟨[],0,0⟩ sv tk (w.setCell ⟨K.g,1,none⟩ (.int .i64 1)):=
   ⟨nJ.o.old.trans (mQ.below t'.o.gB nJ.o.old.size),by have h:=nJ.o.blk.set 1 (.int .i64 1);rw[←ho]at h ⊢;exact h,kG.but (T:=214) nJ.o.tak mQ (Ne.symm t'.o.ne),nJ.o.tkl,nJ.o.tkb,nJ.o.bits,mV nJ.o.spot mQ nJ.o.sg,nJ.o.sg,nJ.o.sgt⟩
  have aYM:=Mv.E5 (g:=K.g) (gt:=K.gt) (sv:=sv) mQ (.inl rfl);have tO:=WkT.ord t'.o o;have c0':=aCV.blk.cell (i:=0) rfl;have c1':(w.setCell ⟨K.g,1,none⟩ (.int .i64 1)).cell? ⟨K.g,1,none⟩=some (.int .i64 1):=(aCV.blk.cell (i:=1) (v:= .int .i64 o) rfl).trans (by rw[ho]);clear mQ;obtain⟨aGU,a7H,tO',JG⟩:=aL aCV aYM tO ho;clear aCV aYM tO ho;go_enter Tryz.func144,Tryz.ntmps144;go_upto_region 7 with (go_at_call 143;refine(lJ _ _ _).mono ?_;rintro e w3 ⟨rfl,rfl⟩;simp only[mF,mG])
  clear c0 c1 y1 hcv;generalize w.setCell ⟨K.g,1,none⟩ (.int .i64 1)=wO at*;obtain⟨v,hv⟩:=aC (mM K.z 2 2 o);have aYN:Calls Tryz.prog 209 #[.agg #[.slice K.a K.n K.c,.int .i64 1],.int .i64 2,.int .i64 2] wO fun e w'=>e= .returned (.int .i64 v)∧Below wO.heap.size wO w':=by
   have h:=LX K.a K.n K.c K.z o 2 2 wO (aGU.o.a2G tO'.o) t'.o.byt;rw[hv]at h;rw[JG.o]at h;exact h
  rw[hv]at qM;have aGV:=aA aYN;clear aYN;by_cases h42:v=42
  case neg=>
   have d3:(v==42)=false:=by simp[h42]
   obtain rfl:R= .error 2:=by rw[←qM.o,if_neg (fun h=>h42 h.2)]
   clear h42;go_wp2_with (first|(go_at_call 209;refine(aGV.o).mono ?_;rintro e w4 ⟨rfl,mX⟩;have HB4:=aA mX;clear mX)|(go_at_call 143;refine(lJ _ _ _).mono ?_;rintro e w3 ⟨rfl,rfl⟩;simp only[mF,mG]))
   exact⟨rfl,rfl,sv,a7H.o.later HB4.o⟩
  case pos=>
   have d3:(v==42)=true:=by simp[h42]
   have OD:=qM.o;rw[if_pos ⟨by omega,h42⟩]at OD;clear h42;go_wp2_with (first|(go_at_call 209;refine(aGV.o).mono ?_;rintro e w4 ⟨rfl,mX⟩;have HB4:=aA mX;clear mX)|(go_at_call 143;refine(lJ _ _ _).mono ?_;rintro e w3 ⟨rfl,rfl⟩;simp only[mF,mG]))
   have aGG:=aGU.o.later HB4.o;have HT:=QM (ord K o) tO'.o ⟨[],0,0⟩ sv tk w4 (1, -1,0,0,8) aGG 0 8 rfl rfl aH aH (by show 0≤_;omega);obtain⟨T,hT⟩:=aC (oG K.n (1, -1,0,0,8) ⟨[],0,0⟩);rw[show oG (ord K o).n (1, -1,0,0,8) ⟨[],0,0⟩=T from hT]at HT;rw[hT]at OD;clear aGG;obtain⟨HT',BJ⟩:=aJ HT OD;clear HT OD;refine HT'.o.mono ?_;rintro e w5 nW;cases T with
   |error y=>
    obtain rfl:R= .error y:=BJ.o.symm;obtain⟨rfl,zS,yJ⟩:=nW;have IQ:=aA yJ;clear yJ;go_wp2_with fail
    exact⟨rfl,rfl,zS,(a7H.o.later HB4.o).trans IQ.o⟩
   |ok s5=>
    obtain rfl:R= .ok s5:=BJ.o.symm;obtain⟨sv5,tk5,TR,a2K,rfl⟩:=nW;have bYH:=TR.blk.cell (i:=0) rfl;have bYI:w5.cell? ⟨K.g,1,none⟩=some (.int .i64 1):=(TR.blk.cell (i:=1) (v:= .int .i64 o) rfl).trans (by rw[JG.o]);have aYO:Calls Tryz.prog 209 #[.agg #[.slice K.a K.n K.c,.int .i64 1],.int .i64 4,.int .i64 4] w5 fun e w'=>e= .returned (.int .i64 (mM K.z 4 4 o))∧Below w5.heap.size w5 w':=by
     have h:=LX K.a K.n K.c K.z o 4 4 w5 (TR.a2G tO'.o) t'.o.byt;have e:(Value.int .i64 (1:Int))= .int .i64 o:=by rw[JG.o]
     rw[e];exact h
    clear c0' c1';obtain⟨aYP,aYQ,aYR⟩:=aK TR a2K aYO;clear TR a2K aYO;go_wp2_with (go_at_call 209;refine(aYR.o).mono ?_;rintro e w6 ⟨rfl,vU⟩;have HB6:=aA vU;clear vU)
    go_ret;exact⟨sv5,tk5,aYP.o.later HB6.o,((a7H.o.later HB4.o).trans aYQ.o).later HB6.o,rfl⟩
 |false=>
  cases bM with
  |true=>
   obtain⟨o,ho⟩:∃o:Int,o=2:=⟨2,rfl⟩;have hoo:mI K.z=o:=by rw[yL,ho];rfl
   have bFQ:o=1∨o=2:= .inr ho;clear yL;rw[hoo]at qM ⊢;have mQ:=(But.refl K.g w).set 1 (.int .i64 2);have aCV:zJ (ord K o) ⟨[],0,0⟩ sv tk (w.setCell ⟨K.g,1,none⟩ (.int .i64 2)):=
    ⟨nJ.o.old.trans (mQ.below t'.o.gB nJ.o.old.size),by have h:=nJ.o.blk.set 1 (.int .i64 2);rw[←ho]at h ⊢;exact h,kG.but (T:=214) nJ.o.tak mQ (Ne.symm t'.o.ne),nJ.o.tkl,nJ.o.tkb,nJ.o.bits,mV nJ.o.spot mQ nJ.o.sg,nJ.o.sg,nJ.o.sgt⟩
   have aYM:=Mv.E5 (g:=K.g) (gt:=K.gt) (sv:=sv) mQ (.inl rfl);have tO:=WkT.ord t'.o o;have c0':=aCV.blk.cell (i:=0) rfl;have c1':(w.setCell ⟨K.g,1,none⟩ (.int .i64 2)).cell? ⟨K.g,1,none⟩=some (.int .i64 2):=(aCV.blk.cell (i:=1) (v:= .int .i64 o) rfl).trans (by rw[ho]);clear mQ;obtain⟨aGU,a7H,tO',JG⟩:=aL aCV aYM tO ho;clear aCV aYM tO ho;go_enter Tryz.func144,Tryz.ntmps144;go_upto_region 7 with (go_at_call 143;refine(lJ _ _ _).mono ?_;rintro e w3 ⟨rfl,rfl⟩;simp only[mF,mG])
   clear c0 c1 y1 hcv;generalize w.setCell ⟨K.g,1,none⟩ (.int .i64 2)=wO at*;obtain⟨v,hv⟩:=aC (mM K.z 2 2 o);have aYN:Calls Tryz.prog 209 #[.agg #[.slice K.a K.n K.c,.int .i64 2],.int .i64 2,.int .i64 2] wO fun e w'=>e= .returned (.int .i64 v)∧Below wO.heap.size wO w':=by
    have h:=LX K.a K.n K.c K.z o 2 2 wO (aGU.o.a2G tO'.o) t'.o.byt;rw[hv]at h;rw[JG.o]at h;exact h
   rw[hv]at qM;have aGV:=aA aYN;clear aYN;by_cases h42:v=42
   case neg=>
    have d3:(v==42)=false:=by simp[h42]
    obtain rfl:R= .error 2:=by rw[←qM.o,if_neg (fun h=>h42 h.2)]
    clear h42;go_wp2_with (first|(go_at_call 209;refine(aGV.o).mono ?_;rintro e w4 ⟨rfl,mX⟩;have HB4:=aA mX;clear mX)|(go_at_call 143;refine(lJ _ _ _).mono ?_;rintro e w3 ⟨rfl,rfl⟩;simp only[mF,mG]))
    exact⟨rfl,rfl,sv,a7H.o.later HB4.o⟩
   case pos=>
    have d3:(v==42)=true:=by simp[h42]
    have OD:=qM.o;rw[if_pos ⟨by omega,h42⟩]at OD;clear h42;go_wp2_with (first|(go_at_call 209;refine(aGV.o).mono ?_;rintro e w4 ⟨rfl,mX⟩;have HB4:=aA mX;clear mX)|(go_at_call 143;refine(lJ _ _ _).mono ?_;rintro e w3 ⟨rfl,rfl⟩;simp only[mF,mG]))
    have aGG:=aGU.o.later HB4.o;have HT:=QM (ord K o) tO'.o ⟨[],0,0⟩ sv tk w4 (1, -1,0,0,8) aGG 0 8 rfl rfl aH aH (by show 0≤_;omega);obtain⟨T,hT⟩:=aC (oG K.n (1, -1,0,0,8) ⟨[],0,0⟩);rw[show oG (ord K o).n (1, -1,0,0,8) ⟨[],0,0⟩=T from hT]at HT;rw[hT]at OD;clear aGG;obtain⟨HT',BJ⟩:=aJ HT OD;clear HT OD;refine HT'.o.mono ?_;rintro e w5 nW;cases T with
    |error y=>
     obtain rfl:R= .error y:=BJ.o.symm;obtain⟨rfl,zS,yJ⟩:=nW;have IQ:=aA yJ;clear yJ;go_wp2_with fail
     exact⟨rfl,rfl,zS,(a7H.o.later HB4.o).trans IQ.o⟩
    |ok s5=>
     obtain rfl:R= .ok s5:=BJ.o.symm;obtain⟨sv5,tk5,TR,a2K,rfl⟩:=nW;have bYH:=TR.blk.cell (i:=0) rfl;have bYI:w5.cell? ⟨K.g,1,none⟩=some (.int .i64 2):=(TR.blk.cell (i:=1) (v:= .int .i64 o) rfl).trans (by rw[JG.o]);have aYO:Calls Tryz.prog 209 #[.agg #[.slice K.a K.n K.c,.int .i64 2],.int .i64 4,.int .i64 4] w5 fun e w'=>e= .returned (.int .i64 (mM K.z 4 4 o))∧Below w5.heap.size w5 w':=by
      have h:=LX K.a K.n K.c K.z o 4 4 w5 (TR.a2G tO'.o) t'.o.byt;have e:(Value.int .i64 (2:Int))= .int .i64 o:=by rw[JG.o]
      rw[e];exact h
     clear c0' c1';obtain⟨aYP,aYQ,aYR⟩:=aK TR a2K aYO;clear TR a2K aYO;go_wp2_with (go_at_call 209;refine(aYR.o).mono ?_;rintro e w6 ⟨rfl,vU⟩;have HB6:=aA vU;clear vU)
     go_ret;exact⟨sv5,tk5,aYP.o.later HB6.o,((a7H.o.later HB4.o).trans aYQ.o).later HB6.o,rfl⟩
  |false=>
   have hoo:mI K.z=0:=by rw[yL];rfl
   obtain rfl:R= .error 2:=by rw[←qM.o,hoo];rfl
   clear yL;go_enter Tryz.func144,Tryz.ntmps144;go_wp2_with (go_at_call 143;refine(lJ _ _ _).mono ?_;rintro e w3 ⟨rfl,rfl⟩;simp only[mF,mG])
   exact⟨rfl,rfl,sv,Mv.refl _ _ _ _⟩
end Go.Proofs.YtceclmpmpldmlaaGreat
namespace Tt
open Go Go.RowKit
theorem vM {P:Program} {fn:Func} {p q:Tmp} {ty ty2:TypeId} (h:fn.results=#[.cell p ty,.cell q ty2]) (tmps:Array Value) (w:World) (gp gq:Nat) (t:TypeId) (cs:Array Value) (d:TypeDesc) (v:Value)
  (hp:tmps.getD p undef= .pointer (some ⟨gp,0,none⟩)) (hq:tmps.getD q undef= .pointer (some ⟨gq,0,none⟩)) (hg:kG w gp t cs)
  (hu:P.underlying ty=some d) (hd:(match d with| .struct _| .array _ _=>true|_=>false)=true) (hi:(P.info? ty).map (·.size)=some cs.size)
  (hag:∀W,(isAgg ty2).run P W= .ok false W) (hc:w.cell? ⟨gq,0,none⟩=some v):
  (results fn tmps).run P w= .ok (.tuple #[.agg cs,v]) w:=by
 have e:(results fn tmps).run P w=((asAddr (tmps.getD p undef)).run P w).andThen fun a w₁=>((loadVar ty a).run P w₁).andThen fun x w₂=>((asAddr (tmps.getD q undef)).run P w₂).andThen fun b w₃=>((loadVar ty2 b).run P w₃).andThen fun y w₄=> .ok (.tuple #[x,y]) w₄:=by
  simp only[results,h];simp[gZ,Result.andThen]
 have e2:(loadVar ty2 ⟨gq,0,none⟩).run P w= .ok v w:=by
  simp[loadVar,gZ,hag,Result.andThen,go_sem,hc]
 rw[e,hp,hq];simp[asAddr,Result.andThen,run_loadVar_row w gp t ty cs (0,0) d hg hu hd hi,e2]
end Tt
namespace Go.Proofs.YtceclmpmpldmlaaGreat
open Go.RowKit Tt
def lenOf (v:Value):Nat:=match v with
 | .slice _ n _=>n
 |_=>0
theorem aYS {a b:Value} {x y:Option Value} (hx:x=some a) (hy:y=some b) (h:18 - lenOf a<18 - lenOf b):18 - lenOf (x.getD undef)<18 - lenOf (y.getD undef):=by
 subst hx hy;exact h
theorem zW.snoc {X:Nat→Prop} {B:Nat} {w w':World} {v v':Value} {ds:List (jY 16)} {d:jY 16} {dz:Dz} (h:∃wU:List Dz,wU.length=ds.length∧Ck X B w v 26 3 wU.length (fl dvC wU)∧∀i (h:i<wU.length) (h':i<ds.length),nX X B w 16 ds[i] wU[i]) (hg:w.grownBy w' v.ownBlock) (hX:∀k,v'.ownBlock=some k→¬X k)
  (ob:∀wU:List Dz,w.ownsRow B 26 3 v ds.length (fl dvC wU)→w'.ownsRow B 26 3 v' (ds.length+1) (fl dvC wU++dvC dz)) (hd:nX X B w 16 d dz):
  ∃wU:List Dz,wU.length=(ds++ [d]).length∧Ck X B w' v' 26 3 wU.length (fl dvC wU)∧∀i (h:i<wU.length) (h':i<(ds++ [d]).length),nX X B w' 16 (ds++ [d])[i] wU[i]:=by
 obtain⟨wU,h1,h2,h3⟩:=h;have key:∀{f:Nat} {d:jY f} {z:Dz},nX X B w f d z→nX X B w' f d z:=fun hh=>by
  rcases h2.1.2 with ⟨rfl,_⟩|⟨g,cap,cur,rfl,_,UF,_⟩
  ·exact hh.keep (Kp.later (K9 hg))
  ·exact hh.D7 (SQ hg) UF
 refine⟨wU++ [dz],by simp[h1],⟨?_,hX⟩,fun i hi vN=>?_⟩
 ·rw[cO,yM,iT,h1];exact ob wU (by rw[←h1];exact h2.1)
 ·by_cases hi2:i<wU.length
  ·rw[gK hi2,gK aG];exact key (h3 i hi2 aG)
  ·have hie:i=wU.length:=by simp at hi;omega
   subst hie;rw[gI (aY _),gI aG];simp only[iP,jE,h1];exact key hd
theorem aYT {K:WkS} {s:St} {sv:Value} {tk:List Nat} {w w':World} {row:Option Nat} (h:zJ K s sv tk w) (hg:w.grownBy w' row) (hr:∀r,row=some r→r≠K.g∧r≠K.gt∧sv.ownBlock≠some r∧K.w0.heap.size≤r):zJ K s sv tk w':=by
 cases row with
 |none=>exact h.later (K9 hg)
 |some r=>have q:=hr r rfl;exact h.but (SQ hg) q.1 q.2.1 q.2.2.1 q.2.2.2
theorem aYU {g gt:Nat} {sv zS:Value} {w w8 w9:World} {row:Option Nat} (m:Mv g gt sv zS w w8) (hg:w8.grownBy w9 row) (hr:∀r,row=some r→w.heap.size≤r):Mv g gt sv zS w w9:=by
 cases row with
 |none=>exact m.later (K9 hg)
 |some r=>exact m.yS (hr r rfl) (SQ hg)
abbrev aA8:Prop:=∀(K:WkS) (t:WkT K) (ho:K.o=1∨K.o=2) (JR:mW (kK K.zs)=true) (f:Nat) (p:Int) (sh:Nat) (s:St) (sv:Value) (tk:List Nat) (w:World),zJ K s sv tk w→Inv K.n s→0≤p→p≤4294967295→sh<K.sn→K.sn≤sh+f→
  Calls Tryz.prog 145 #[.pointer (some ⟨K.g,0,none⟩),.int .i64 p,.int .i64 sh] w (a1E K sv w (rV K.z K.o (kK K.zs) f p sh s) (aNI f w))
def zW (X:Nat→Prop) (B:Nat) (w:World) (v:Value) (ds:List (jY 16)):Prop:=
 ∃wU:List Dz,wU.length=ds.length∧Ck X B w v 26 3 wU.length (fl dvC wU)∧∀i (h:i<wU.length) (h':i<ds.length),nX X B w 16 ds[i] wU[i]
theorem bFR:(Tryz.prog.info? 26).map (fun i=>(i.size,i.bytes))=some (3,72):=by kernel_rfl
theorem b5K:(Tryz.prog.info? 26).map (fun i=>i.zero.map (fun z=>z.cells.size))=some (some 3):=by kernel_rfl
def aYV (K:WkS) (sv:Value) (w:World) (R:Except Int (List (jY 16)×St)) (e:Ending) (w':World):Prop:=match R with
 | .error x=>e= .returned (.tuple #[.agg #[.int .i64 0,.slice none 0 0],.int .i64 x])∧∃zS,Mv K.g K.gt sv zS w w'
 | .ok (ds,s')=>∃zS tk' a m c,e= .returned (.tuple #[.agg #[.int .i64 (mI K.z),.slice a m c],.int .i64 0])∧zJ (ord K (mI K.z)) s' zS tk' w'∧Mv K.g K.gt sv zS w w'∧zW (Xv zS) w.heap.size w' (.slice a m c) ds
theorem aCW {g gt gp gq:Nat} {sv zS:Value} {w w1 w2:World} (m:Mv g gt sv zS w w1) (hp:w.heap.size≤gp) (hq:w.heap.size≤gq) (h:∀k,k<w1.heap.size→k≠gp→k≠gq→w2.heap[k]? =w1.heap[k]?) (hs:w1.heap.size≤w2.heap.size) (ho:w2.os=w1.os) (ht:w2.tape=w1.tape) (hu:w2.output=w1.output):Mv g gt sv zS w w2:=
 ⟨ho.trans m.os,ht.trans m.tape,hu.trans m.output,bU m.size hs,fun k hk h1 h2 h3=>(h k (dD hk m.size) aG aG).trans (m.block k hk h1 h2 h3),m.own⟩
theorem aGW (hD:aA8) (K:WkS) (t:WkT K) (hK:K.o=0) (sv:Value) (tk:List Nat) (w:World) (wP:zJ K ⟨[],0,0⟩ sv tk w):
  Calls Tryz.prog 85 #[.pointer (some ⟨K.g,0,none⟩)] w (aYV K sv w (sQ K.z (kK K.zs))):=by
 have hn:=t.n1;have vO:=t.hs.p9;have qU:=t.hsh.len;have hmf:∀(fn:Fn) (first cap:Array Value) (w:World),(Instr.makeFunc fn first cap).run Tryz.prog w= .ok (.func fn first cap) w:=fun _ _ _ _=>rfl;obtain⟨R,hR⟩:=aC (sQ K.z (kK K.zs));rw[hR];unfold sQ at hR;obtain⟨W,hW⟩:∃W,(w.alloc (.cells #[.int .i64 0,.slice none 0 0] 39)).alloc (.cells #[.int .i64 0] 40)=W:=⟨_,rfl⟩;have bp:kG W w.heap.size 39 #[.int .i64 0,.slice none 0 0]:=by rw[←hW];exact(kG.new w _ _).alloc _
 have bq:kG W (w.heap.size+1) 40 #[.int .i64 0]:=by rw[←hW];exact wZ _ _ (by simp)
 have hbW:Below w.heap.size w W:=by rw[←hW];exact((aD w _).alloc (by simp) _)
 have aGD:=wP.later hbW;have c2:=aGD.blk.cell (i:=2) rfl;have hSh:=fun W' (h:Below W.heap.size W W')=>a4D K.sa K.sn K.sc K.zs W' ((aGD.kK t).mono h);have JJ:K.g<w.heap.size:=wP.blk.lt;have bX7:K.gt<w.heap.size:=kG.lt (T:=214) wP.tak;obtain⟨shb,aJR⟩:∃b,mW (kK K.zs)=b:=⟨_,rfl⟩;rw[aJR]at hSh hR;obtain⟨hD',nJ,t',oC,yB,qM,bp',bq',KI,K8,b44,U5⟩:=aT hD wP t vO qU hR bp bq hbW aGD hSh aJR;clear hD wP t vO qU hR bp bq hbW aGD hSh aJR;go_enter_defers Tryz.func85,Tryz.ntmps85
 go_upto_region 2 with fail
 try rw[hW]
 clear hW;go_wp2_with fail
 refine(b44.o _ (bF _ _)).mono ?_;rintro e w1 ⟨rfl,kV⟩;have bp1:=bp'.o.late kV;have bq1:=bq'.o.late kV;have FK:=K8.o.later kV;have a4B:=KI.o.tm kV;clear c2 kV bp' bq' KI K8 b44;obtain⟨aLK,aYW,G9,DC⟩:=aL bp1 bq1 FK a4B;clear bp1 bq1 FK a4B;cases shb with
 |false=>
  obtain rfl:R= .error 1:=by rw[←qM.o];rfl
  go_wp2_with (go_at_call 143;refine(lJ _ _ _).mono ?_;rintro e w3 ⟨rfl,rfl⟩;simp only[mF,mG])
  refine leaves_cons (f:=142) (args:=#[.pointer (some ⟨w.heap.size,0,none⟩),.pointer (some ⟨w.heap.size+1,0,none⟩)]) (by simp) (by simp[go_sem]) ?_;refine(KA _ _ w.heap.size (w.heap.size+1) 1 w1 rfl rfl #[] _ _ _ aLK.o aYW.o aG).mono ?_;rintro e u' w9 ⟨rfl,rfl,bp9,bq9,hh9,hs9,TK,ht9,hu9⟩;refine⟨_,vM rfl _ _ w.heap.size (w.heap.size+1) 39 #[.int .i64 0,.slice none 0 0] _ (.int .i64 1) rfl rfl bp9 Tryz.underlying39 rfl aF (fun W=>by kernel_rfl) (bq9.cell rfl),rfl,_,aCW (Mv.of_below (sv:=sv) DC.o) (aY _) (eD _) hh9 hs9 TK ht9 hu9⟩
 |true=>
  have HH:=aLJ K t'.o hK sv tk w1 G9.o;obtain⟨RH,hRH⟩:=aC (EZ K.z);rw[hRH]at HH;have OD:=qM.o;rw[if_pos rfl,hRH]at OD;obtain⟨HH',BJ,bFS⟩:=aK HH OD hRH;clear HH OD hRH;go_wp2_with (go_at_call 143;refine(lJ _ _ _).mono ?_;rintro e w3 ⟨rfl,rfl⟩;simp only[mF,mG])
  refine HH'.o.mono ?_;rintro e w5 nW;cases RH with
  |error y=>
   obtain rfl:R= .error y:=by rw[←BJ.o]
   obtain⟨rfl,zS,yJ⟩:=nW;have a6A:=(Mv.of_below (sv:=sv) DC.o).trans yJ;have bp5:=aLK.o.mv yJ (show w.heap.size≠K.g by omega) (show w.heap.size≠K.gt by omega) (fun e=>by have:=(nJ.o.spot.lt _ e).2;omega);have bq5:=aYW.o.mv yJ (show w.heap.size+1≠K.g by omega) (show w.heap.size+1≠K.gt by omega) (fun e=>by have:=(nJ.o.spot.lt _ e).2;omega);obtain⟨a1F,bFO,bFP,IQ⟩:=aL a6A bp5 bq5 yJ;clear a6A bp5 bq5 yJ;go_wp2_with fail
   refine leaves_cons (f:=142) (args:=#[.pointer (some ⟨w.heap.size,0,none⟩),.pointer (some ⟨w.heap.size+1,0,none⟩)]) (by simp) (by simp[go_sem]) ?_;refine(KA _ _ w.heap.size (w.heap.size+1) y w5 rfl rfl #[] _ _ _ bFO.o bFP.o aG).mono ?_;rintro e u' w9 ⟨rfl,rfl,bp9,bq9,hh9,hs9,TK,ht9,hu9⟩;refine⟨_,vM rfl _ _ w.heap.size (w.heap.size+1) 39 #[.int .i64 0,.slice none 0 0] _ (.int .i64 y) rfl rfl bp9 Tryz.underlying39 rfl aF (fun W=>by kernel_rfl) (bq9.cell rfl),rfl,_,aCW (a1F.o) (aY _) (eD _) hh9 hs9 TK ht9 hu9⟩
  |ok s5=>
   obtain⟨sv5,tk5,TR,a2K,rfl⟩:=nW;obtain⟨o,hoo⟩:=aC (mI K.z);have bFQ:o=1∨o=2:=by
    have h0:0<mI K.z:=by
     have h:=bFS.o;unfold EZ at h;split at h
     ·split at h
      ·rename_i h1;exact h1.1
      ·cases h
     ·cases h
    rw[←hoo];unfold mI at h0 ⊢;split at h0 <;> (try split at h0) <;> first|exact .inl rfl|exact .inr rfl|omega
   have b8C:Inv K.n s5:=by
    have h:=bFS.o;unfold EZ at h;split at h
    ·split at h
     ·have h2:=M0 h aH (jU _);rw[oC.o]at h2;exact h2
     ·cases h
    ·cases h
   rw[hoo]at TR BJ;rw[hoo];have tO:=WkT.ord t'.o o;have hp0:=YF t'.o.byt 4 4 o;rw[show((4:Nat):Int)=4 from rfl,show(256:Int) ^ 4=4294967296 by decide]at hp0;obtain⟨p0,bNW⟩:=aC (mM K.z 4 4 o);rw[bNW]at BJ hp0;rw[bNW];have hR3:=BJ.o;simp only at hR3;have a6A:=(Mv.of_below (sv:=sv) DC.o).trans a2K;have bp5:=aLK.o.mv a2K (show w.heap.size≠K.g by omega) (show w.heap.size≠K.gt by omega) (fun e=>by have:=(nJ.o.spot.lt _ e).2;omega);have bq5:=aYW.o.mv a2K (show w.heap.size+1≠K.g by omega) (show w.heap.size+1≠K.gt by omega) (fun e=>by have:=(nJ.o.spot.lt _ e).2;omega);have xU:=a2K.size;have hW2:w.heap.size+1<w1.heap.size:=aYW.o.lt;have bNX:∀k,sv5.ownBlock=some k→k≠w.heap.size∧k≠w.heap.size+1:=fun k e=>by
    rcases a2K.own k e with h|h
    ·have:=(nJ.o.spot.lt k h).2;omega
    ·omega
   have c1:=TR.blk.cell (i:=1) rfl;have g0:=bp5.cell (i:=0) rfl;have y0:=bp5.frozen 0;have mQ:=(But.refl w.heap.size w5).set 0 (.int .i64 o);have aLL:=TR.but mQ (show w.heap.size≠K.g by omega) (show w.heap.size≠K.gt by omega) (fun e=>(bNX _ e).1 rfl) (bU nJ.o.old.size (aY _));have bp6:=bp5.set 0 (.int .i64 o);have bq6:=bq5.but mQ (show w.heap.size+1≠w.heap.size by omega);have a8I:=a6A.yS (aY _) mQ;have bYJ:w.heap.size+2≤(w5.setCell ⟨w.heap.size,0,none⟩ (.int .i64 o)).heap.size:=by have:=mQ.size;omega
   obtain⟨i0,z0,AY,hz,qC,wY,ZA⟩:=SK bFR b5K;have KE:∀j,j<K.sn→((kK K.zs).getD j kQ).2.2.2= -1∨((j:Int)<((kK K.zs).getD j kQ).2.2.2∧((kK K.zs).getD j kQ).2.2.2<K.sn):=fun j hj=>by
    have hv:=U5.o;unfold mW at hv;simp only[bK,decide_eq_true_eq]at hv;have h1:=dI.1 hv.2 j (cZ.2 (by simp[kK];rw[yB.o];exact hj));unfold mR a4C NN at h1;simp only[bK,dN,decide_eq_true_eq]at h1;have h2:=h1.1.2;simp only[kK,dF,yB.o]at h2;exact h2
   have c3E:1≤K.sn∧K.sn≤16:=by
    have hv:=U5.o;unfold mW at hv;simp only[bK,decide_eq_true_eq,kK,dF,yB.o]at hv;exact hv.1
   clear a2K a6A aLK aYW bp5 bq5 TR mQ HH' bFS BJ DC G9 bNX;obtain⟨a0G,bNY,bYK,bYL,aU9,tO',a8B,bFT⟩:=aP hR3 aLL bp6 bq6 a8I tO KE b8C;clear hR3 aLL bp6 bq6 a8I tO KE b8C;go_wp2_with fail
   clear c1 g0 y0;generalize w5.setCell ⟨w.heap.size,0,none⟩ (.int .i64 o)=w6 at*;go_loopw [4,5] (fun pv hv wr=>∃(fu:Nat) (p shi:Int) (si:St) (EN:Value) (tki:List Nat) (ds:List (jY 16)) (ad:Option Addr) (cd:Nat),pv= .int .i64 p∧hv= .int .i64 shi∧0≤p∧p≤4294967295∧(shi= -1∨(0≤shi∧shi<K.sn∧(K.sn:Int) - shi+1≤fu))∧1≤fu∧ds.length+fu≤18∧Hid (PI K.z o (kK K.zs) fu ds p shi si=R)∧Hid (zJ (ord K o) si EN tki wr)∧Hid (Inv K.n si)∧Hid (Mv K.g K.gt sv EN w wr)∧Hid (kG wr w.heap.size 39 #[.int .i64 o,.slice ad ds.length cd])∧Hid (kG wr (w.heap.size+1) 40 #[.int .i64 0])∧Hid (zW (Xv EN) (w.heap.size+2) wr (.slice ad ds.length cd) ds)∧w.heap.size+2≤wr.heap.size) (fun pv hv wr=>18 - lenOf ((wr.cell? ⟨w.heap.size,1,none⟩).getD undef))
   case atStart=>exact⟨18,p0,0,s5,sv5,tk5, [],none,0,rfl,rfl,hp0.1,by omega,.inr ⟨by omega,by omega,by omega⟩,by omega,by simp,a0G,bNY,bFT,aU9,bYK,bYL,aA ⟨[],rfl,⟨lC _ _ _ _,fun k e=>by cases e⟩,fun i hi=>by cases hi⟩,bYJ⟩
   case round=>
    obtain⟨fu,p,shi,si,EN,tki,ds,ad,cd,rfl,rfl,bYM,bYN,bNZ,c6C,c7D,hch,aLL,b8D,a8I,bp6,bq6,hds,tC⟩:=hrel;obtain⟨fu,rfl⟩:∃f,fu=f+1:=⟨fu - 1,by omega⟩;have q1:=bp6.o.cell (i:=1) rfl;have TP:=hch.o;simp only[PI]at TP;by_cases hgo:0<p∨ds.length=0
    ·rw[if_pos hgo]at TP;go_upto_region 5 with fail
     go_cut [30]from 23 to 29 (fun v wx=>v= .bool true∧wx=wr)
     case first=>
      by_cases hp1:0<p
      ·have d1:decide (0<p)=true:=by simp;omega
       clear hgo hp1;go_wp2_with fail
       go_meet
       exact⟨rfl,rfl⟩
      ·have d1:decide (0<p)=false:=by simp;omega
       have hl0:ds.length=0:=by omega
       rw[hl0]at q1;clear hgo hp1;go_wp2_with fail
       go_meet
       exact⟨rfl,rfl⟩
     case rest=>
      obtain⟨rfl,rfl⟩:=hcut;rename World=>wr
      have tO2:=tO'.o;rcases bNZ with rfl|⟨NW,xV,hs3⟩
      ·rw[if_neg aG]at TP;subst TP;have bO0:=aA tO2;clear tO2;go_wp2_with (go_at_call 143;refine(lJ _ _ _).mono ?_;rintro e w3 ⟨rfl,rfl⟩;simp only[mF,mG])
       refine leaves_cons (f:=142) (args:=#[.pointer (some ⟨w.heap.size,0,none⟩),.pointer (some ⟨w.heap.size+1,0,none⟩)]) (by simp) (by simp[go_sem]) ?_;refine(KA _ _ w.heap.size (w.heap.size+1) 2 wr rfl rfl #[] _ _ _ bp6.o bq6.o aG).mono ?_;rintro e u' w9 ⟨rfl,rfl,bp9,bq9,hh9,hs9,TK,ht9,hu9⟩;refine⟨_,vM rfl _ _ w.heap.size (w.heap.size+1) 39 #[.int .i64 0,.slice none 0 0] _ (.int .i64 2) rfl rfl bp9 Tryz.underlying39 rfl aF (fun W=>by kernel_rfl) (bq9.cell rfl),rfl,_,aCW (a8I.o) (aY _) (eD _) hh9 hs9 TK ht9 hu9⟩
      ·rw[if_pos NW]at TP;obtain⟨sh,rfl⟩:∃sh:Nat,shi=sh:=⟨shi.toNat,by omega⟩;have HDR:=hD'.o (ord K o) tO2 bFQ U5.o 16 p sh si EN tki wr aLL.o b8D.o bYM bYN (show sh<K.sn by omega) (show K.sn≤sh+16 by omega);obtain⟨RD,hRD⟩:=aC (rV K.z o (kK K.zs) 16 p (sh:Int) si);rw[show rV (ord K o).z (ord K o).o (kK (ord K o).zs) 16 p (sh:Int) si=RD from hRD]at HDR;rw[hRD]at TP;have d4:decide ((0:Int)≤(sh:Int))=true:=by simp
       have b8E:∀r s',RD= .ok (r,s')→Inv K.n s':=fun r s' e=>by
        have h:=a6I (hRD.trans e) (by rw[oC.o];exact b8D.o);rw[oC.o]at h;exact h
       have bO1:∀d nx s',RD= .ok ((d,nx),s')→0≤nx∧nx≤4294967295:=fun d nx s' e=>aRA t'.o.byt (hRD.trans e);have bO2:∀k,EN.ownBlock=some k→k≠w.heap.size∧k≠w.heap.size+1:=fun k e=>⟨fun h=>lF aLL.o.spot bp6.o aH (by rw[e,h]),fun h=>lF aLL.o.spot bq6.o aH (by rw[e,h])⟩;clear hgo;obtain⟨bFU,a1A,aYX,b8F,bO0,aGX,b5L⟩:=aO HDR TP b8E bO1 tO2 bO2 hRD;clear HDR TP b8E bO1 tO2 bO2 hRD;go_wp2_with (go_at_call 143;refine(lJ _ _ _).mono ?_;rintro e w3 ⟨rfl,rfl⟩;simp only[mF,mG])
       refine bFU.o.mono ?_;rintro e w7 nW;cases RD with
       |error y=>
        obtain rfl:R= .error y:=a1A.o.symm;obtain⟨rfl,zS,yJ⟩:=nW;have bp7:=bp6.o.mv yJ (show w.heap.size≠K.g by omega) (show w.heap.size≠K.gt by omega) (fun e=>(aGX.o _ e).1 rfl);have bq7:=bq6.o.mv yJ (show w.heap.size+1≠K.g by omega) (show w.heap.size+1≠K.gt by omega) (fun e=>(aGX.o _ e).2 rfl);have AV:=a8I.o.trans yJ;clear bFU a1A;obtain⟨IQ,b5M,b5N,aWG⟩:=aL yJ bp7 bq7 AV;clear yJ bp7 bq7 AV;go_wp2_with fail
        refine leaves_cons (f:=142) (args:=#[.pointer (some ⟨w.heap.size,0,none⟩),.pointer (some ⟨w.heap.size+1,0,none⟩)]) (by simp) (by simp[go_sem]) ?_;refine(KA _ _ w.heap.size (w.heap.size+1) y w7 rfl rfl #[] _ _ _ b5M.o b5N.o aG).mono ?_;rintro e u' w9 ⟨rfl,rfl,bp9,bq9,hh9,hs9,TK,ht9,hu9⟩;refine⟨_,vM rfl _ _ w.heap.size (w.heap.size+1) 39 #[.int .i64 0,.slice none 0 0] _ (.int .i64 y) rfl rfl bp9 Tryz.underlying39 rfl aF (fun W=>by kernel_rfl) (bq9.cell rfl),rfl,_,aCW (aWG.o) (aY _) (eD _) hh9 hs9 TK ht9 hu9⟩
       |ok rd=>
        obtain⟨⟨d,nx⟩,s7⟩:=rd;obtain⟨YP,tk7,a0O,AV,dz,rfl,yU⟩:=nW;obtain⟨x1,y1,z1,x2,y2,z2,x3,y3,z3,rfl⟩:=yU.slices;have aBU:=a1A.o;simp only[cB]at aBU;simp only at yU;have bp7:=bp6.o.mv AV (show w.heap.size≠K.g by omega) (show w.heap.size≠K.gt by omega) (fun e=>(aGX.o _ e).1 rfl);have bq7:=bq6.o.mv AV (show w.heap.size+1≠K.g by omega) (show w.heap.size+1≠K.gt by omega) (fun e=>(aGX.o _ e).2 rfl);have b8G:=a8I.o.trans AV;have bFV:=Kp.mv AV (show K.g<w.heap.size+2 by omega) (show K.gt<w.heap.size+2 by omega);obtain⟨wU,KR,a0W,aGY⟩:=hds.o;have bO3:∃wU:List Dz,wU.length=ds.length∧Ck (Xv YP) (w.heap.size+2) w7 (.slice ad ds.length cd) 26 3 wU.length (fl dvC wU)∧∀i (h:i<wU.length) (h':i<ds.length),nX (Xv YP) (w.heap.size+2) w7 16 ds[i] wU[i]:=⟨wU,KR,a0W.keep bFV,fun i h h'=>(aGY i h h').keep bFV⟩;have yU:=yU.mono tC;have bO4:w.heap.size+2≤w7.heap.size:=bU tC AV.size;have b8H:=aYX.o _ s7 rfl;have bO5:=b8F.o d nx s7 rfl;clear AV bFU a1A aYX b8F b5L aGX bFV a0W aGY q1;obtain⟨XL,a0P,b5M,b5N,aYY,b8I,bFW,b8J,b8K⟩:=aQ aBU yU bp7 bq7 b8G bO3 b8H bO5 a0O;clear aBU yU bp7 bq7 b8G bO3 b8H bO5 a0O;go_upto_region 8 with fail
        have kU:=aD w7 (.cells #[.slice x1 y1 z1,.slice x2 y2 z2,.slice x3 y3 z3] 26);have b68:=kG.new w7 26 #[.slice x1 y1 z1,.slice x2 y2 z2,.slice x3 y3 z3];have bp8:=b5M.o.late kU;have bq8:=b5N.o.late kU;have aYZ:=aYY.o.later kU;have pV:=b8K.o.later kU;have aA9:=a0P.o.keep (Kp.later kU);obtain⟨wU,KR,a0W,aGY⟩:=b8I.o;have bYO:∃wU:List Dz,wU.length=ds.length∧Ck (Xv YP) (w.heap.size+2) _ (.slice ad ds.length cd) 26 3 wU.length (fl dvC wU)∧∀i (h:i<wU.length) (h':i<ds.length),nX (Xv YP) (w.heap.size+2) _ 16 ds[i] wU[i]:=⟨wU,KR,a0W.keep (Kp.later kU),fun i h h'=>(aGY i h h').keep (Kp.later kU)⟩;have aXT:w.heap.size+2≤(w7.alloc (.cells #[.slice x1 y1 z1,.slice x2 y2 z2,.slice x3 y3 z3] 26)).heap.size:=bU bO4 kU.size;clear KR a0W aGY kU;generalize w7.alloc (.cells #[.slice x1 y1 z1,.slice x2 y2 z2,.slice x3 y3 z3] 26)=w8 at*;generalize w7.heap.size=g6 at*;have q1:=bp8.cell (i:=1) rfl;have e0:=b68.cell (i:=0) rfl;have e1:=b68.cell (i:=1) rfl;have e2:=b68.cell (i:=2) rfl;-- the row grows
        have kU:=aD w8 (.cells #[.slice x1 y1 z1,.slice x2 y2 z2,.slice x3 y3 z3] 26);have bp9:=bp8.late kU;have bq9:=bq8.late kU;have b8L:=aYZ.later kU;have a8N:=pV.later kU;have a1K:=aA9.keep (Kp.later kU);obtain⟨wU,KR,a0W,aGY⟩:=bYO;have bO6:∃wU:List Dz,wU.length=ds.length∧Ck (Xv YP) (w.heap.size+2) (w8.alloc (.cells #[.slice x1 y1 z1,.slice x2 y2 z2,.slice x3 y3 z3] 26)) (.slice ad ds.length cd) 26 3 wU.length (fl dvC wU)∧∀i (h:i<wU.length) (h':i<ds.length),nX (Xv YP) (w.heap.size+2) (w8.alloc (.cells #[.slice x1 y1 z1,.slice x2 y2 z2,.slice x3 y3 z3] 26)) 16 ds[i] wU[i]:=⟨wU,KR,a0W.keep (Kp.later kU),fun i h h'=>(aGY i h h').keep (Kp.later kU)⟩;have xP:(w8.alloc (.cells #[.slice x1 y1 z1,.slice x2 y2 z2,.slice x3 y3 z3] 26)).ownsRow (w.heap.size+2) 26 3 (.slice ad ds.length cd) ds.length (fl dvC wU):=by have h:=(a0W.keep (Kp.later kU)).1;rw[KR]at h;exact h
        have hX9:∀k,(Value.slice ad ds.length cd).ownBlock=some k→¬Xv YP k:=a0W.2;have hnp:(Value.slice ad ds.length cd).ownBlock≠some w.heap.size:=fun e=>by have:=(xP.lt _ e).1;omega
        have hnq:(Value.slice ad ds.length cd).ownBlock≠some (w.heap.size+1):=fun e=>by have:=(xP.lt _ e).1;omega
        have bYP:w.heap.size+2≤(w8.alloc (.cells #[.slice x1 y1 z1,.slice x2 y2 z2,.slice x3 y3 z3] 26)).heap.size:=bU aXT kU.size;clear KR a0W aGY kU b5M b5N aYY b8I a0P b8K;obtain⟨bYQ,bYR,bFX,J5,aCX,bYS,bFY,bO7,aZ0,a1H,a0Q,b8M⟩:=aT bp8 bq8 aYZ pV aA9 b68 bp9 bq9 b8L a8N a1K bO6;obtain⟨yG,bFZ,b2B,bO8⟩:=aL xP hX9 hnp hnq;clear bp8 bq8 aYZ pV aA9 b68 bp9 bq9 b8L a8N a1K bO6 xP hX9 hnp hnq;go_upto_region 9 with (at_builtin;refine mU rfl _ _ 37 rfl (w.heap.size+2) 26 i0 z0 3 72 Tryz.underlying37 AY hz qC wY ZA aH (.slice ad ds.length cd) ds.length _ rfl yG.o ⟨w8.heap.size,0,none⟩ 1 1 (dvC (.slice x1 y1 z1,.slice x2 y2 z2,.slice x3 y3 z3)) rfl (Sl.new w8 26 3 1 #[.slice x1 y1 z1,.slice x2 y2 z2,.slice x3 y3 z3] (0,0) aG rfl) (by intro u hu;simp only[dvC,cK,eG,or_false]at hu;rcases hu with rfl|rfl|rfl <;> rfl) aG aH bYP ?_;intro a9 c9 w9 ob hg9 TK;obtain⟨Ob,O9,Ho9,bpA⟩:=aL ob hg9 TK (bFY.o.grown hg9 b2B.o);have p91:=bpA.o.cell (i:=1) rfl;have y91:=bpA.o.frozen 1;clear ob hg9 TK)
        clear q1 e0 e1 e2;have mQ:=(But.refl w.heap.size w9).set 1 (.slice a9 (ds.length+1) c9);have hrr:∀r,(Value.slice ad ds.length cd).ownBlock=some r→r≠K.g∧r≠K.gt∧YP.ownBlock≠some r∧K.w0.heap.size≤r:=fun r e=>by
         have:=(yG.o.lt r e).1;have:=nJ.o.old.size;exact⟨by omega,by omega,fun h=>bFZ.o r e h,by omega⟩
        have bO9:YP.ownBlock≠some w.heap.size:=fun e=>lF a1H.o.spot bFY.o aH e;have a7I:=(aYT a1H.o O9.o hrr).but mQ (show w.heap.size≠K.g by omega) (show w.heap.size≠K.gt by omega) bO9 nJ.o.old.size;have bOA:=(aYU aZ0.o O9.o (fun r e=>by have:=(yG.o.lt r e).1;omega)).yS (aY _) mQ;have bpB:=bpA.o.set 1 (.slice a9 (ds.length+1) c9);have bqB:=(bO7.o.grown O9.o bO8.o).but mQ (show w.heap.size+1≠w.heap.size by omega);have bOB:∀k,(Value.slice a9 (ds.length+1) c9).ownBlock=some k→¬Xv YP k:=fun k e h=>by
         rcases Ho9.o k e with h1|h1
         ·exact bFZ.o k h1 h
         ·have:=(a1H.o.spot.lt k h).2;omega
        obtain⟨bYT,hB1,hB2,hB3⟩:=zW.snoc (v':= .slice a9 (ds.length+1) c9) (dz:=(.slice x1 y1 z1,.slice x2 y2 z2,.slice x3 y3 z3)) b8M.o O9.o bOB (fun zs2 h2=>by rw[SI h2 yG.o];exact Ob.o) a0Q.o;have bOC:zW (Xv YP) (w.heap.size+2) (w9.setCell ⟨w.heap.size,1,none⟩ (.slice a9 (ds.length+1) c9)) (.slice a9 (ds.length+1) c9) (ds++ [d]):=⟨bYT,hB1,hB2.keep (VQ mQ aG),fun i h h'=>(hB3 i h h').keep (VQ mQ aG)⟩;have bOD:w.heap.size+2≤(w9.setCell ⟨w.heap.size,1,none⟩ (.slice a9 (ds.length+1) c9)).heap.size:=by have h1:=mQ.size;have h2:=O9.o.size;omega
        clear p91 y91 mQ hrr bO9 bOB hB2 hB3 bYQ bYR bFX J5 aCX bYS bFY bO7 aZ0 a1H a0Q b8M yG bFZ b2B bO8;generalize w9.setCell ⟨w.heap.size,1,none⟩ (.slice a9 (ds.length+1) c9)=wB at*;obtain⟨bb,oo,hsa,EI,fe⟩:=((a7I.kK bO0.o).row).elem zQ aH BL (show sh<K.sn by omega);have f3:=fe 3 _ rfl;have bOE:(K.zs.getD sh BL).2.2.2.2=((kK K.zs).getD sh kQ).2.2.2:=by rw[y9 (by rw[yB.o];omega)]
        rw[show((ord K o).zs.getD sh BL)=K.zs.getD sh BL from rfl,bOE]at f3;have hn3:=a8B.o sh aG;obtain⟨oM,UG⟩:∃q,((kK K.zs).getD sh kQ).2.2.2=q:=⟨_,rfl⟩;rw[UG]at f3 hn3;have c2:wB.cell? ⟨K.g,2,none⟩=some (.slice (some ⟨bb,oo,none⟩) K.sn K.sc):=by rw[←hsa];exact a7I.blk.cell rfl
        replace XL:=aA (by have h:=XL.o;rw[UG]at h;exact h)
        have c3F:(sh:Int)<K.sn:=by omega
        have hll:(ds++ [d]).length=ds.length+1:=by simp
        clear fe bOE UG;obtain⟨aNS,bOF,bOG,bYU,bOH,bG0,aT5⟩:=aO a7I bOA bpB bqB bOC hsa hll;clear a7I bOA bpB bqB bOC hsa hll;have bOI:oM= -1∨(0≤oM∧oM<K.sn∧(K.sn:Int) - oM+1≤fu):=by
         rcases hn3 with h|h
         ·exact .inl h
         ·exact .inr ⟨by omega,h.2,by omega⟩
        go_quiet (fail)
        go_wp2_with fail
        go_roundw
        case rel=>exact⟨fu,nx,oM,s7,YP,tk7,ds++ [d],a9,c9,rfl,rfl,b8J.o.1,b8J.o.2,bOI,by omega,by rw[aT5.o];omega,XL,aA (aNS.o.later (Qt.below ⟨_,rfl⟩ _)),bFW,aA (bOF.o.later (Qt.below ⟨_,rfl⟩ _)),by rw[aT5.o];exact aA (bOG.o.late (Qt.below ⟨_,rfl⟩ _)),aA (bYU.o.late (Qt.below ⟨_,rfl⟩ _)),aA (by obtain⟨z1',z2',z3',z4'⟩:=bOH.o;rw[aT5.o];exact⟨z1',z2',z3'.keep (Kp.later (Qt.below ⟨_,rfl⟩ _)),fun i h h'=>(z4' i h h').keep (Kp.later (Qt.below ⟨_,rfl⟩ _))⟩),bOD⟩
        case measure=>exact aYS ((bOG.o.late (Qt.below ⟨_,rfl⟩ _)).cell rfl) (bp6.o.cell rfl) (by show 18 - (ds.length+1)<18 - ds.length;omega)
    ·rw[if_neg hgo]at TP;subst TP;obtain⟨nd,hnd⟩:∃n,ds.length=n:=⟨_,rfl⟩;have d1:decide (0<p)=false:=by simp;omega
     rw[hnd]at bp6 hds q1 hgo;have d2:((nd:Int)==0)=false:=by simp;omega
     have d3:(nd==0)=false:=by simp;omega
     have e0:=bp6.o.cell (i:=0) rfl;have e1:=bq6.o.cell (i:=0) rfl;have y0:=bp6.o.frozen 0;have y1:=bp6.o.frozen 1;have y2:=bq6.o.frozen 0;clear hgo;go_wp2_with fail
     rw[bp6.o.sP rfl,bp6.o.sP rfl,bq6.o.sP rfl];refine leaves_cons (f:=142) (args:=#[.pointer (some ⟨w.heap.size,0,none⟩),.pointer (some ⟨w.heap.size+1,0,none⟩)]) (by simp) (by simp[go_sem]) ?_;refine(aLI _ _ wr).mono ?_;rintro e u' w9 ⟨rfl,rfl,vP⟩;have a8N:=aLL.o.later vP;obtain⟨wU,qC,wY,ZA⟩:=hds.o;have bYV:zW (Xv EN) w.heap.size w9 (.slice ad nd cd) ds:=⟨wU,qC,(wY.keep (Kp.later vP)).mono aG,fun i h h'=>((ZA i h h').keep (Kp.later vP)).mono aG⟩;refine⟨_,vM rfl _ _ w.heap.size (w.heap.size+1) 39 #[.int .i64 o,.slice ad nd cd] _ (.int .i64 0) rfl rfl (bp6.o.late vP) Tryz.underlying39 rfl aF (fun W=>by kernel_rfl) ((bq6.o.late vP).cell rfl),EN,tki,ad,nd,cd,by rw[hoo],by rw[hoo];exact a8N,a8I.o.later vP,bYV⟩
def b5O (w:World) (oo:Int) (R:Except Int (List (jY 16)×St)) (e:Ending) (w':World):Prop:=match R with
 | .error x=>e= .returned (.tuple #[.agg #[.int .i64 0,.slice none 0 0],.slice none 0 0,.int .i64 x])∧Below w.heap.size w w'
 | .ok (ds,s)=>∃a m c b k d,e= .returned (.tuple #[.agg #[.int .i64 oo,.slice a m c],.slice b k d,.int .i64 0])∧Below w.heap.size w w'∧zW (Xv (.slice b k d)) w.heap.size w' (.slice a m c) ds∧w'.ownsRow w.heap.size 50 5 (.slice b k d) s.o5.length (fl spC s.o5)
theorem zW.keep {X X':Nat→Prop} {B:Nat} {w w':World} {v:Value} {ds:List (jY 16)} (h:zW X B w v ds) (k:Kp X X' B w w'):zW X' B w' v ds:=by
 obtain⟨wU,h1,h2,h3⟩:=h;exact⟨wU,h1,h2.keep k,fun i hi vN=>(h3 i hi vN).keep k⟩
theorem zW.mono {X:Nat→Prop} {B B':Nat} {w:World} {v:Value} {ds:List (jY 16)} (h:zW X B w v ds) (hB:B'≤B):zW X B' w v ds:=by
 obtain⟨wU,h1,h2,h3⟩:=h;exact⟨wU,h1,h2.mono hB,fun i hi vN=>(h3 i hi vN).mono hB⟩
theorem aCY {g gt B:Nat} {sv zS:Value} {w w1 w2:World} (hb:Below B w w1) (h:Mv g gt sv zS w1 w2) (hg:B≤g) (hgt:B≤gt) (hsv:∀k,sv.ownBlock=some k→B≤k) (hw:B≤w.heap.size):Below B w w2:=
 hb.trans (h.below hg hgt hsv (bU hw hb.size))
theorem b5P (hD:aA8) (a:Option Addr) (n c:Nat) (z:List Int) (sa:Option Addr) (sn sc:Nat) (zs:List Shz) (w:World) (hs:Sl w a n c 1 (ints .u8 z)) (hsh:ShR w sa sn sc zs) (qL:pF z) (hn:n≤1000000000) (hx:∀x,sQ z (kK zs)= .error x→x≠0):
  Calls Tryz.prog 82 #[.slice a n c,.slice sa sn sc] w (b5O w (mI z) (sQ z (kK zs))):=by
 have bp:=kG.new w 39 #[.int .i64 0,.slice none 0 0];have hbW:=aD w (.cells #[.int .i64 0,.slice none 0 0] 39);obtain⟨W,hW⟩:=aC (w.alloc (.cells #[.int .i64 0,.slice none 0 0] 39));rw[hW]at bp hbW;have HB:=aA7 a n c z sa sn sc zs W (hs.mono hbW) (hsh.mono hbW) qL hn;obtain⟨R,hR⟩:=aC (sQ z (kK zs));rw[hR]at hx;rw[hR];have kY:=bp.lt;obtain⟨sK,Z5,vR⟩:=aK hs hsh qL;obtain⟨TV,bp',KI,HB',qM⟩:=aM hx bp hbW HB hR;clear hs hsh qL hx bp hbW HB hR;go_enter Tryz.func82,Tryz.ntmps82;go_upto_region 1 with fail
 try rw[hW]
 clear hW;go_wp2_with fail
 refine HB'.o.mono ?_;rintro e w1 ⟨g,gt,rfl,ht,wP,kV⟩;have DT:=aGW hD _ ht rfl _ _ w1 wP;simp only at DT;rw[qM.o]at DT;have bp1:=bp'.o.late kV;have a4B:=KI.o.tm kV;have hg0:W.heap.size≤g:=ht.gB;have bG1:W.heap.size≤gt:=ht.gtB;have hg1:g<w1.heap.size:=wP.blk.lt;clear kV HB' bp' KI;obtain⟨a3N,aLK,DC,KS,nJ⟩:=aM DT bp1 a4B ht wP;clear DT bp1 a4B ht wP;go_wp2_with fail
 refine a3N.o.mono ?_;rintro e w2 nW;cases R with
 |error x=>
  obtain⟨rfl,zS,yJ⟩:=nW;simp only at yJ;have hx0:=TV.o x rfl;have bp2:=aLK.o.mv yJ (show w.heap.size≠g by omega) (show w.heap.size≠gt by omega) (fun e=>by cases e);have kP:=aCY DC.o yJ (show w.heap.size≤g by omega) (show w.heap.size≤gt by omega) (fun k e=>by cases e) (aY _);have d1:(x != 0)=true:=by simp;exact hx0
  have p0:=bp2.cell (i:=0) rfl;have p1:=bp2.cell (i:=1) rfl;have y0:=bp2.frozen 0;have y1:=bp2.frozen 1;clear yJ hx0;obtain⟨aLM,pG⟩:=aJ bp2 kP;clear bp2 kP;go_wp2_with fail
  first|rw[aLM.o.sP rfl,aLM.o.sP rfl,aLM.o.sP rfl,aLM.o.sP rfl]|skip
  refine bodyPost_ret (rU rfl _ _ w.heap.size 39 #[.int .i64 0,.slice none 0 0] _ rfl aLM.o Tryz.underlying39 rfl aF) rfl ?_;exact⟨rfl,pG.o⟩
 |ok r=>
  obtain⟨ds,s⟩:=r;obtain⟨zS,tk',a2,m2,c2,rfl,OJ,yJ,hds⟩:=nW;simp only at yJ;have bp2:=aLK.o.mv yJ (show w.heap.size≠g by omega) (show w.heap.size≠gt by omega) (fun e=>by cases e);have kP:=aCY DC.o yJ (show w.heap.size≤g by omega) (show w.heap.size≤gt by omega) (fun k e=>by cases e) (aY _);obtain⟨b,d,rfl⟩:=FV OJ.spot;obtain⟨oo,hoo⟩:∃o,mI z=o:=⟨_,rfl⟩;simp only[hoo]at OJ;rw[hoo];have p0:=bp2.cell (i:=0) rfl;have p1:=bp2.cell (i:=1) rfl;have y0:=bp2.frozen 0;have y1:=bp2.frozen 1;have mQ:=((But.refl w.heap.size w2).set 0 (.int .i64 oo)).set 1 (.slice a2 m2 c2);have bp3:=(bp2.set 0 (.int .i64 oo)).set 1 (.slice a2 m2 c2);have kT:=mQ.below (aY _) kP.size;have V7:=kP.trans kT;have rE:=OJ.blk.but mQ (show g≠w.heap.size by omega);have bOJ:=mV OJ.spot mQ (fun e=>lF OJ.spot bp2 aH e);have hdb:=(hds.mono (show W.heap.size≤w1.heap.size by omega)).keep (VQ mQ aG);clear yJ OJ hds bp2 kP mQ kT;obtain⟨aZ1,G7,RL,b8N,bOK,b5Q⟩:=aN bp3 V7 rE bOJ hdb hoo;clear bp3 V7 rE bOJ hdb hoo;go_upto_region 3 with fail
  clear p0 p1 y0 y1;obtain⟨w3,xE⟩:∃w3,(w2.setCell ⟨w.heap.size,0,none⟩ (.int .i64 oo)).setCell ⟨w.heap.size,1,none⟩ (.slice a2 m2 c2)=w3:=⟨_,rfl⟩;have lY:=aA (fO aZ1.o (fO G7.o (fO RL.o (fO b8N.o bOK.o))));rw[xE]at lY ⊢;clear aZ1 G7 RL b8N bOK xE;obtain⟨bp3,kT,b2C,bOL,bOM⟩:=lY.o;obtain⟨Ty,f,pQ,kI,kE⟩:=kM w3;have q0:=fun s=>(bp3.late (kI s)).cell (i:=0) rfl;have q1:=fun s=>(bp3.late (kI s)).cell (i:=1) rfl;have q2:=fun s'=>(b2C.late (kI s')).cell (i:=4) rfl;have HS:=aA (kE _ ((bF _ _).drew));have FJ:Below w3.heap.size w3 w3.drew:=(bF w3.heap.size w3).drew;have hbD:Below w.heap.size w w3.drew:=kT.drew;have bpD:kG w3.drew w.heap.size 39 #[.int .i64 oo,.slice a2 m2 c2]:=bp3;have e0:=bp3.cell (i:=0) rfl;have e1:=bp3.cell (i:=1) rfl;have y0:=bp3.frozen 0;have y1:=bp3.frozen 1;clear lY;obtain⟨aZ1,sM,bYW,bON,bOO,kD,jV,aBD,aW2,bG2⟩:=aR bp3 kT b2C bOL bOM kI kE FJ hbD bpD;clear bp3 kT b2C bOL bOM kI kE FJ hbD bpD;go_wp2_with fail
  refine kR (S:=fun W=>∃s,W=f s) aF 8 rfl ?_;refine jZ [0,1,2,3,4] 3 aF aI aF aF aF HS.o ?_;simp only[jW,aW,aX,aU,aV];iterate 5 (go_big_quiet_step (fail))
  refine wpQuiet_nil ?_;refine jX 5 2 aF aF ?_;simp only[jW,aW,aX,aU,aV];clear q0 q1 q2;go_wp2_with fail
  first|rw[aZ1.o.sP rfl,aZ1.o.sP rfl]|rw[bG2.o.sP rfl,bG2.o.sP rfl]|skip
  first|refine Mid.mk ⟨HS.o,?_⟩|refine Mid.mk ?_
  refine jZ [6,7] 0 aF aI aF aF aF HS.o ?_;simp only[jW,aW,aX,aU,aV];iterate 2 (go_big_quiet_step (fail))
  refine wpQuiet_nil ?_;refine kH aF ?_;go_wp2_with fail
  refine bodyPost_ret (rU rfl _ _ w.heap.size 39 #[.int .i64 oo,.slice a2 m2 c2] _ rfl bG2.o Tryz.underlying39 rfl aF) rfl ?_;have hWs:w.heap.size≤W.heap.size:=by omega
  refine⟨a2,m2,c2,b,s.o5.length,d,?_,aW2.o,(bOO.o.keep (Kp.later aBD.o)).mono hWs,lN (l6 bON.o aBD.o) hWs⟩;first|rfl|(simp;exact b5Q.o.symm)
theorem YQ {n:Nat} {x:mZ} {s:St} {e:Int} (h:oG n x s= .error e):e≠0:=by
 unfold oG at h;split at h
 ·split at h <;> cases h
  decide
 ·cases h;decide
theorem aGZ {z:List Int} {o p no:Int} {s:St} {e:Int} (h:nU z o p no s= .error e):e≠0:=by
 unfold nU at h;split at h
 ·split at h
  ·cases ht:oG z.length (2,no,0,p,6+12*mM z p 2 o) s with
   |error y=>rw[ht]at h;cases h;exact YQ ht
   |ok s1=>
    rw[ht]at h;simp only at h;split at h <;> cases h
    decide
  ·cases h;decide
 ·cases h;decide
theorem aRS {z:List Int} {o:Int} {x:oJ} {no:Int} {s:St} {e:Int} (h:rY z o x no s= .error e):e≠0:=by
 unfold rY at h;split at h
 ·split at h
  ·cases ht:oG z.length (3,no,x.1,x.2.2.2,rT x.2.1 x.2.2.1) s with
   |error y=>rw[ht]at h;cases h;exact YQ ht
   |ok s1=>
    rw[ht]at h;simp only at h;split at h <;> cases h
    decide
  ·split at h <;> cases h
   decide
 ·cases h;decide
theorem a7J {α σ:Type} {step:σ→α→Except Int σ} (hs:∀s a e,step s a= .error e→e≠0):∀{l:List α} {s:σ} {e:Int},loopS step l s= .error e→e≠0
 | [],s,e,h=>by cases h
 |x::r,s,e,h=>by
  unfold loopS at h;cases hx:step s x with
  |error y=>rw[hx]at h;cases h;exact hs _ _ _ hx
  |ok s1=>rw[hx]at h;exact a7J hs h
theorem aZ2 {z:List Int} {o:Int} {sh:nP} {no:Int} {acc:List oZ×St} {x:oJ} {e:Int} (h:stepT z o sh no acc x= .error e):e≠0:=by
 unfold stepT at h;split at h
 ·split at h <;> cases h
  decide
 ·cases hv:rY z o x no acc.2 with
  |error y=>rw[hv]at h;cases h;exact aRS hv
  |ok v=>rw[hv]at h;cases h
theorem aZ3 {z:List Int} {sh:nP} {l:List oJ} {no:Int} {s:St} {e:Int} (h:zB z sh l no s= .error e):e≠0:=by
 unfold zB at h;split at h
 ·rename_i x y _;split at h
  ·cases ht:oG z.length (4,no,0,x.2.2.2,y.2.2.2) s with
   |error y=>rw[ht]at h;cases h;exact YQ ht
   |ok s1=>rw[ht]at h;cases h
  ·cases h;decide
 ·cases h
theorem aNT {z:List Int} {o:Int} {L:List nP}:∀{f:Nat} {p sh:Int} {s:St} {e:Int},rV z o L f p sh s= .error e→e≠0
 |0,p,sh,s,e,h=>by cases h;decide
 |f+1,p,sh,s,e,h=>by
  unfold rV at h;cases h1:nU z o p s.no {s with no:=IntKind.i64.wrap (s.no+1)}with
  |error y=>rw[h1]at h;cases h;exact aGZ h1
  |ok r1=>
   rw[h1]at h;simp only at h;cases h2:loopS (stepT z o (L.getD sh.toNat kQ) s.no) r1.1 ([],r1.2)with
   |error y=>rw[h2]at h;cases h;exact a7J (fun _ _ _=>aZ2) h2
   |ok r2=>
    rw[h2]at h;simp only at h;split at h
    ·cases h;decide
    ·cases h3:loopS (vF (rV z o L f) (L.getD sh.toNat kQ)) r1.1 ([],r2.2)with
     |error y=>
      rw[h3]at h;cases h;refine a7J (fun acc x e hs=>?_) h3;unfold vF at hs;split at hs
      ·split at hs
       ·rename_i hr;cases hs;exact aNT hr
       ·split at hs <;> cases hs
        decide
      ·cases hs
     |ok r3=>
      rw[h3]at h;simp only at h;cases h4:zB z (L.getD sh.toNat kQ) r1.1 s.no r3.2 with
      |error y=>rw[h4]at h;cases h;exact aZ3 h4
      |ok r4=>rw[h4]at h;cases h
theorem aAA {z:List Int} {o:Int} {L:List nP}:∀{f:Nat} {acc:List (jY 16)} {p sh:Int} {s:St} {e:Int},PI z o L f acc p sh s= .error e→e≠0
 |0,_,_,_,_,_,h=>by cases h;decide
 |f+1,acc,p,sh,s,e,h=>by
  unfold PI at h;split at h
  ·split at h
   ·cases h1:rV z o L 16 p sh s with
    |error y=>rw[h1]at h;cases h;exact aNT h1
    |ok r=>rw[h1]at h;exact aAA h
   ·cases h;decide
  ·cases h
theorem aH0 {z:List Int} {L:List nP} {e:Int} (h:sQ z L= .error e):e≠0:=by
 unfold sQ at h;split at h
 ·cases h1:EZ z with
  |error y=>
   rw[h1]at h;cases h;unfold EZ at h1;split at h1
   ·split at h1
    ·exact YQ h1
    ·cases h1;decide
   ·cases h1;decide
  |ok s=>rw[h1]at h;exact aAA h
 ·cases h;decide
