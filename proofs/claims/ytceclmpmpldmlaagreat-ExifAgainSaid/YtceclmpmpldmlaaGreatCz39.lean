import Derived.Recover
import Derived.Test.YtceclmpmpldmlaaGreatCz35
set_option linter.unusedSimpArgs false
set_option linter.unusedVariables false
set_option maxRecDepth 100000
set_option maxHeartbeats 8000000
namespace Go.Proofs.YtceclmpmpldmlaaGreat
open Go.RowKit Tt
theorem aYS:(Tryz.prog.info? 214).map (fun i=>(i.zero,i.size,i.bytes))=some (some (.int .u64 0),1,8):=by kernel_rfl
theorem aMC (a:Option Addr) (n c:Nat) (z:List Int) (sa:Option Addr) (sn sc:Nat) (zs:List VQ) (w:World) (hs:Sl w a n c 1 (ints .u8 z)) (hsh:ShR w sa sn sc zs) (hby:mW z) (hn:n≤1000000000):
  Calls Tryz.prog 84 #[.slice a n c,.slice sa sn sc] w fun e w'=>∃g gt,e= .returned (.pointer (some ⟨g,0,none⟩))∧WkT ⟨w,a,n,c,z,0,sa,sn,sc,zs,g,gt,n / 64+1⟩∧vL ⟨w,a,n,c,z,0,sa,sn,sc,zs,g,gt,n / 64+1⟩ ⟨[],0,0⟩ (.slice none 0 0) (List.replicate (n / 64+1) 0) w'∧Below w.heap.size w w':=by
 obtain⟨i0,hi,hz0,hz1,hz2⟩:=info_parts aYS;obtain⟨L,hL⟩:=aC (n / 64+1);have hL2:L≤1000000000:=by omega
 have hdiv:(n:Int) / 64=((L - 1:Nat):Int):=by omega
 have hadd:IntKind.i64.wrap (((L - 1:Nat):Int)+1)=(L:Int):=by rw[aY];omega
 rw[hL];have hrow:(madeCells (Value.int .u64 0).cells (L*1)).toList=ints .u64 (KP (List.replicate L 0)):=by
  rw[gU];show(madeCells #[Value.int .u64 0] L).toList=_
  rw[toList_madeCells_one];simp[ints,KP]
 obtain⟨hs',hsh',rZ⟩:=aG hs hsh hby;obtain⟨hrow',hL'⟩:=aF hrow hL;clear hs hsh hby hrow hL;go_enter Tryz.func84,Tryz.ntmps84;go_wp2_with (at_make;refine wpList_make_full w rfl _ _ 146 rfl w.heap.size 214 i0 _ 1 Tryz.underlying146 hi hz0 hz1 .i64 .i64 _ _ L rfl rfl rfl rfl (by rw[hz2];omega) (by unfold maxLen;omega) (aU _) ?_;intro w1 hown hg1;obtain⟨aW2,Hg1⟩:=aF hown hg1;clear hown hg1)
 have R1:Row w1 w.heap.size 214 .u64 (KP (List.replicate L 0)):=by have h:=aW2.o;rw[hrow'.o]at h;exact Row.jX h
 have hb1:Below w.heap.size w w1:=(aW _ _).grown Hg1.o (aU _) (fun k e=>by cases e);have hlt:=jJ.lt (T:=214) R1;have hal:=aD w1 (.cells #[.slice a n c,.int .i64 0,.slice sa sn sc,.slice (some ⟨w.heap.size,0,none⟩) L L,.slice none 0 0,.int .i64 0,.int .i64 0] 148);go_ret;refine⟨w1.heap.size,w.heap.size,rfl,⟨hs'.o,hsh'.o,rZ.o,hn,hL'.o.symm,hb1.size,aU _,by show w1.heap.size≠w.heap.size;omega⟩,⟨hb1.tm hal,jJ.new w1 _ _,jJ.late (T:=214) R1 hal,by simp,fun x hx=>by rw[(List.mem_replicate.1 hx).2];omega,fun k hk=>?_,kC _ _ _ _,(fun e=>by cases e),(fun e=>by cases e)⟩,hb1.tm hal⟩;have e:(List.replicate L 0).getD (k / 64) 0=0:=by
  rw[aV,List.getElem?_replicate];split <;> rfl
 unfold a6X lD;rw[e];simp
theorem E9 (p q:Addr) (gp gq:Nat) (x:Int) (w:World) (hp:p=⟨gp,0,none⟩) (hq:q=⟨gq,0,none⟩) (cs:Array Value) (v v2 v3:Value) (hbp:jJ w gp 39 #[v,v2]) (hbq:jJ w gq 40 #[v3]) (hne:gp≠gq):
  CallsD Tryz.prog 142 #[.pointer (some p),.pointer (some q)] (.panicking (pan x)) w fun e u' w'=>e= .returned (.tuple #[])∧u'= .panicking [{v:= .iface 208 (.agg #[.int .i64 x]),recovered:=true}]∧
   jJ w' gp 39 #[.int .i64 0,.slice none 0 0]∧jJ w' gq 40 #[.int .i64 x]∧(∀k,k<w.heap.size→k≠gp→k≠gq→w'.heap[k]? =w.heap[k]?)∧w.heap.size≤w'.heap.size∧w'.os=w.os∧w'.tape=w.tape∧w'.output=w.output:=by
 subst hp hq;refine callsD_of_wpS Tryz.func142 rfl fun c₀ cs hu=>?_;have hta:∀W,(Instr.typeAssert (.iface 208 (.agg #[.int .i64 x])) 20 208 true).run Tryz.prog W= .ok (.tuple #[.agg #[.int .i64 x],.bool true]) W:=fun W=>by kernel_rfl
 simp only[Tryz.ntmps142,fB,dF,gN,Nat.reduceAdd,Nat.reduceSub,iG,iF,iV,iJ,eG,iO];unfold pan at hu;apply wpS_seq;apply wpS_region;simp[wpOpsS,go_sem,recoverD,hu,Exit.thenS];refine wpS_of_wp ?_;have hal:=aD w (.cells #[.int .i64 x] 208);have bp:=hbp.late hal;have bq:=hbq.late hal;have b3:=jJ.new w 208 #[.int .i64 x];obtain⟨bOH,vT,bp',bq',b3',oM⟩:=aJ hbp hbq bp bq b3 hal;clear hbp hbq bp bq b3 hal;go_upto_region 3 with fail
 generalize w.alloc (.cells #[.int .i64 x] 208)=w1 at*;obtain⟨g3,hg3⟩:∃g,w.heap.size=g:=⟨_,rfl⟩;rw[hg3]at b3' oM;try rw[hg3]
 have hlp:gp<g3:=by rw[←hg3];exact bOH.o.lt
 have hlq:gq<g3:=by rw[←hg3];exact vT.o.lt
 obtain⟨Ty,f,hn,hp3,jH⟩:=DX (fun W=>jJ W g3 208 #[.int .i64 x]) w1 b3'.o;have q0:∀s,(f s).cell? ⟨g3,0,none⟩=some (.int .i64 x):=fun s=>(hp3 s).cell rfl;obtain⟨wd,hwd⟩:=aC w1.drew;have HS0:=aA (jH w1.drew b3'.o);have b3d:jJ wd g3 208 #[.int .i64 x]:=by rw[←hwd];exact b3'.o
 have bpd:jJ wd gp 39 #[v,v2]:=by rw[←hwd];exact bp'.o
 have bqd:jJ wd gq 40 #[v3]:=by rw[←hwd];exact bq'.o
 have bGV:Below g3 w wd:=by rw[←hwd];exact oM.o.drew
 have p0:wd.cell? ⟨gp,0,none⟩=some v:=bpd.cell rfl;have p1:wd.cell? ⟨gp,1,none⟩=some v2:=bpd.cell rfl;have y0:=bpd.frozen 0;have y1:=bpd.frozen 1;obtain⟨Y6,jA,bOI,bOJ,a0V,hg3',bG8,bOK⟩:=aL hp3 jH bpd bqd bGV hg3 hwd b3d;clear hp3 jH bpd bqd bGV hg3 hwd b3d;refine jU (S:=fun W=>∃s,W=f s) (by kernel_rfl) 5 rfl ?_;refine jF [0,1,2] 2 (by kernel_rfl) (fun d _ _ _ _ h=>by cases d <;> exact h) (by kernel_rfl) (by kernel_rfl) (by kernel_rfl) HS0.o ?_;simp only[jB,aS,aT,aQ,aR];iterate 3 (go_big_quiet_step (fail))
 refine wpQuiet_nil ?_;clear q0;rw[bG8.o];refine jC 3 1 (by kernel_rfl) (by kernel_rfl) ?_;simp only[jB,aS,aT,aQ,aR];go_wp2_with fail
 have bp4:=(bOI.o.set 0 (.int .i64 0)).set 1 (.slice none 0 0);have bq4:=(bOJ.o.lF (Ne.symm hne) 0 (.int .i64 0)).lF (Ne.symm hne) 1 (.slice none 0 0);have b34:=(bOK.o.lF (show g3≠gp by omega) 0 (.int .i64 0)).lF (show g3≠gp by omega) 1 (.slice none 0 0);have hbt:=((But.refl gp wd).set 0 (.int .i64 0)).set 1 (.slice none 0 0);clear p0 p1 y0 y1;obtain⟨w4,hw4⟩:∃w4,(wd.setCell ⟨gp,0,none⟩ (.int .i64 0)).setCell ⟨gp,1,none⟩ (.slice none 0 0)=w4:=⟨_,rfl⟩;rw[hw4]at bp4 bq4 b34 hbt;try rw[hw4]
 clear hw4;have HS:=aA (jA.o w4 b34);have p0:w4.cell? ⟨gq,0,none⟩=some v3:=bq4.cell rfl;have y0:=bq4.frozen 0;obtain⟨bOL,bOM,bON,EB⟩:=aH bp4 bq4 b34 hbt;clear bp4 bq4 b34 hbt;first|refine Mid.mk ⟨HS.o,?_⟩|refine Mid.mk ?_
 refine jC 4 0 (by kernel_rfl) (by kernel_rfl) ?_;simp only[jB,aS,aT,aQ,aR];go_wp2_with fail
 have b35:=bON.o.lF (show g3≠gq by omega) 0 (.int .i64 x);have HS:=aA (jA.o _ b35);refine Mid.mk ⟨HS.o,?_⟩;refine jK (by kernel_rfl) ?_;clear p0 y0;have Q8:=(But.refl gq w4).set 0 (.int .i64 x);have bp5:=bOL.o.lF hne 0 (.int .i64 x);have bq5:=bOM.o.set 0 (.int .i64 x);have hh:∀k,k<w.heap.size→k≠gp→k≠gq→(w4.setCell ⟨gq,0,none⟩ (.int .i64 x)).heap[k]? =w.heap[k]? :=fun k hk h1 h2=>(Q8.block k (by have:=EB.o.size;have:=a0V.o.size;have:=hg3'.o;omega) h2).trans ((EB.o.block k (by have:=a0V.o.size;have:=hg3'.o;omega) h1).trans (a0V.o.block k (by have:=hg3'.o;omega)));have hsz:w.heap.size≤(w4.setCell ⟨gq,0,none⟩ (.int .i64 x)).heap.size:=by have h1:=Q8.size;have h2:=EB.o.size;have h3:=a0V.o.size;have h4:=hg3'.o;omega
 have ho:=Q8.os.trans (EB.o.os.trans a0V.o.os);have ht:=Q8.tape.trans (EB.o.tape.trans a0V.o.tape);have hou:=Q8.output.trans (EB.o.output.trans a0V.o.output);obtain⟨b8C,b8D,hh',hsz',ho',ht',bOO⟩:=aK bp5 bq5 hh hsz ho ht hou;clear bp5 bq5 hh hsz ho ht hou;go_wp2_with fail
 cases c₀
 exact⟨rfl,_,rfl,_,results_none rfl _ _ _,rfl,rfl,b8C.o,b8D.o,hh'.o,hsz'.o,ho'.o,ht'.o,bOO.o⟩
theorem aGB (p q:Addr) (w:World):
  CallsD Tryz.prog 142 #[.pointer (some p),.pointer (some q)] .returning w fun e u' w'=>e= .returned (.tuple #[])∧u'= .returning∧Below w.heap.size w w':=by
 refine callsD_of_wpS Tryz.func142 rfl fun c₀ cs hu=>?_;have hta:∀W,(Instr.typeAssert .nilIface 20 208 true).run Tryz.prog W= .ok (.tuple #[.agg #[.int .i64 0],.bool false]) W:=fun W=>by kernel_rfl
 simp only[Tryz.ntmps142,fB,dF,gN,Nat.reduceAdd,Nat.reduceSub,iG,iF,iV,iJ,eG,iO];apply wpS_seq;apply wpS_region;simp[wpOpsS,go_sem,recoverD,hu,Exit.thenS];refine wpS_of_wp ?_;go_wp2;cases c₀
 simp_all [bodyPostS,results,Tryz.results142]
 exact(aW _ _).alloc (aU _) _
theorem sign_eq {z:List Int} (hb:mW z) (h:2≤z.length) (x y:Int) (hx:0≤x∧x<256) (hy:0≤y∧y<256):((strOfNums (z.take 2)).toList==(strOfNums [x,y]).toList)=(decide (z.getD 0 0=x)&&decide (z.getD 1 0=y)):=by
 rw[aGY (hb.take _) (fun u hu=>by simp at hu;rcases hu with rfl|rfl <;> assumption)]
 match z,h with
 |a::b::r,_=>
  rw[eP];simp
abbrev ord (K:WkS) (o:Int):WkS:={K with o:=o}
theorem WkT.ord {K:WkS} (t:WkT K) (o:Int):WkT (ord K o):=⟨t.hs,t.hsh,t.SI,t.n1,t.tn,t.gB,t.gtB,t.ne⟩
theorem aGC (K:WkS) (t:WkT K) (hK:K.o=0) (sv:Value) (tk:List Nat) (w:World) (hok:vL K ⟨[],0,0⟩ sv tk w):
  Calls Tryz.prog 144 #[.pointer (some ⟨K.g,0,none⟩)] w (V6 (ord K (kN K.z)) sv w (b0Z (u7 K.z)) fun _ _ e _=>e= .returned (.int .i64 (kZ K.z 4 4 (kN K.z)))):=by
 have hn:=t.n1;have hzl:=t.hs.nV;have hle:=t.hs.le;obtain⟨R,hR⟩:=aC (u7 K.z);rw[hR];unfold u7 at hR;rw[hzl]at hR;have c0:w.cell? ⟨K.g,0,none⟩=some (.slice K.a K.n K.c):=hok.blk.cell rfl;have c1:w.cell? ⟨K.g,1,none⟩=some (.int .i64 0):=by have:=hok.blk.cell (i:=1) rfl;rw[hK]at this;exact this
 have y1:=hok.blk.frozen 1;by_cases h8:8≤K.n
 case neg=>
  obtain rfl:R= .error 3:=by rw[←hR,if_neg h8]
  have d1:decide ((8:Int)≤K.n)=false:=by simp;omega
  have d2:decide (8≤K.n)=false:=by simp;omega
  clear hR h8;obtain⟨hok',t',mV⟩:=aG hok t hzl;clear hok t hzl;go_enter Tryz.func144,Tryz.ntmps144;go_wp2_with (go_at_call 143;refine(kI _ _ _).mono ?_;rintro e w3 ⟨rfl,rfl⟩;simp only[kV,kW])
  exact⟨rfl,rfl,sv,Mv.refl _ _ _ _⟩
 rw[if_pos h8]at hR;have d1:decide ((8:Int)≤K.n)=true:=by simp;omega
 have d2:decide (8≤K.n)=true:=by simp;omega
 obtain⟨a2,hsl,hs2,hin2⟩:=aZT (P:=Tryz.prog) (T:=24) (E:=5) (sz:=1) Tryz.underlying24 (fun W=>by kernel_rfl) (hok.WL t) (2:Int) (by omega) (by omega) 2 rfl;rw[show 2*1=2 from rfl,show(ints .u8 K.z).take 2=ints .u8 (K.z.take 2) by simp[ints]]at hs2;have hcv:=XA (P:=Tryz.prog) hs2 24 5 9 Tryz.underlying24 Tryz.underlying5 Tryz.underlying9;have hI:=sign_eq t.SI (by rw[hzl];omega) 73 73 (by decide) (by decide);have hM:=sign_eq t.SI (by rw[hzl];omega) 77 77 (by decide) (by decide);rw[show(strOfNums [73,73]).toList= [73,73] by rw[Lib.strOfNums_toList];rfl]at hI;rw[show(strOfNums [77,77]).toList= [77,77] by rw[Lib.strOfNums_toList];rfl]at hM;have uN:kN K.z=if(decide (K.z.getD 0 0=73)&&decide (K.z.getD 1 0=73))=true then 1 else if(decide (K.z.getD 0 0=77)&&decide (K.z.getD 1 0=77))=true then 2 else 0:=by unfold kN;simp
 generalize (decide (K.z.getD 0 0=73)&&decide (K.z.getD 1 0=73))=bI at*;generalize (decide (K.z.getD 0 0=77)&&decide (K.z.getD 1 0=77))=bM at*;obtain⟨hok',t',mV,VO,XP,hR'⟩:=aJ hok t hzl hs2 hin2 hR;clear hok t hzl hs2 hin2 hR;cases bI with
 |true=>
  obtain⟨o,ho⟩:∃o:Int,o=1:=⟨1,rfl⟩;have hoo:kN K.z=o:=by rw[uN,ho];rfl
  have b8E:o=1∨o=2:= .inl ho;clear uN;rw[hoo]at hR' ⊢;have hbt:=(But.refl K.g w).set 1 (.int .i64 1);have a7M:vL (ord K o) ⟨[],0,0⟩ sv tk (w.setCell ⟨K.g,1,none⟩ (.int .i64 1)):=
   ⟨hok'.o.old.trans (hbt.below t'.o.gB hok'.o.old.size),by have h:=hok'.o.blk.set 1 (.int .i64 1);rw[←ho]at h ⊢;exact h,jJ.but (T:=214) hok'.o.tak hbt (Ne.symm t'.o.ne),hok'.o.tkl,hok'.o.tkb,hok'.o.bits,lJ hok'.o.spot hbt hok'.o.sg,hok'.o.sg,hok'.o.sgt⟩
  have aT3:=Mv.yA (g:=K.g) (gt:=K.gt) (sv:=sv) hbt (.inl rfl);have tO:=WkT.ord t'.o o;have c0':(w.setCell ⟨K.g,1,none⟩ (.int .i64 1)).cell? ⟨K.g,0,none⟩=some (.slice K.a K.n K.c):=a7M.blk.cell rfl;have c1':(w.setCell ⟨K.g,1,none⟩ (.int .i64 1)).cell? ⟨K.g,1,none⟩=some (.int .i64 1):=(a7M.blk.cell (i:=1) (v:= .int .i64 o) rfl).trans (by rw[ho]);clear hbt;obtain⟨aC1,a0W,tO',ho'⟩:=aH a7M aT3 tO ho;clear a7M aT3 tO ho;go_enter Tryz.func144,Tryz.ntmps144;go_upto_region 7 with (go_at_call 143;refine(kI _ _ _).mono ?_;rintro e w3 ⟨rfl,rfl⟩;simp only[kV,kW])
  clear c0 c1 y1 hcv;generalize w.setCell ⟨K.g,1,none⟩ (.int .i64 1)=wO at*;obtain⟨v,hv⟩:=aC (kZ K.z 2 2 o);have aT4:Calls Tryz.prog 209 #[.agg #[.slice K.a K.n K.c,.int .i64 1],.int .i64 2,.int .i64 2] wO fun e w'=>e= .returned (.int .i64 v)∧Below wO.heap.size wO w':=by
   have h:=FL K.a K.n K.c K.z o 2 2 wO (aC1.o.WL tO'.o) t'.o.SI;rw[hv]at h;rw[ho'.o]at h;exact h
  rw[hv]at hR';have aC2:=aA aT4;clear aT4;by_cases Z6:v=42
  case neg=>
   have d3:(v==42)=false:=by simp[Z6]
   obtain rfl:R= .error 2:=by rw[←hR'.o,if_neg (fun h=>Z6 h.2)]
   clear Z6;go_wp2_with (first|(go_at_call 209;refine(aC2.o).mono ?_;rintro e w4 ⟨rfl,hb4⟩;have HB4:=aA hb4;clear hb4)|(go_at_call 143;refine(kI _ _ _).mono ?_;rintro e w3 ⟨rfl,rfl⟩;simp only[kV,kW]))
   exact⟨rfl,rfl,sv,a0W.o.later HB4.o⟩
  case pos=>
   have d3:(v==42)=true:=by simp[Z6]
   have hR2:=hR'.o;rw[if_pos ⟨by omega,Z6⟩]at hR2;clear Z6;go_wp2_with (first|(go_at_call 209;refine(aC2.o).mono ?_;rintro e w4 ⟨rfl,hb4⟩;have HB4:=aA hb4;clear hb4)|(go_at_call 143;refine(kI _ _ _).mono ?_;rintro e w3 ⟨rfl,rfl⟩;simp only[kV,kW]))
   have aBK:=aC1.o.later HB4.o;have HT:=KR (ord K o) tO'.o ⟨[],0,0⟩ sv tk w4 (1, -1,0,0,8) aBK 0 8 rfl rfl (by decide) (by decide) (by show 0≤_;omega);obtain⟨T,hT⟩:=aC (mH K.n (1, -1,0,0,8) ⟨[],0,0⟩);rw[show mH (ord K o).n (1, -1,0,0,8) ⟨[],0,0⟩=T from hT]at HT;rw[hT]at hR2;clear aBK;obtain⟨HT',uZ⟩:=aF HT hR2;clear HT hR2;refine HT'.o.mono ?_;rintro e w5 hpost;cases T with
   |error y=>
    obtain rfl:R= .error y:=uZ.o.symm;obtain⟨rfl,wG,hmv⟩:=hpost;have BQ:=aA hmv;clear hmv;go_wp2_with fail
    exact⟨rfl,rfl,wG,(a0W.o.later HB4.o).trans BQ.o⟩
   |ok s5=>
    obtain rfl:R= .ok s5:=uZ.o.symm;obtain⟨sv5,tk5,MV,WM,rfl⟩:=hpost;have bOP:w5.cell? ⟨K.g,0,none⟩=some (.slice K.a K.n K.c):=MV.blk.cell rfl;have bOQ:w5.cell? ⟨K.g,1,none⟩=some (.int .i64 1):=(MV.blk.cell (i:=1) (v:= .int .i64 o) rfl).trans (by rw[ho'.o]);have aT5:Calls Tryz.prog 209 #[.agg #[.slice K.a K.n K.c,.int .i64 1],.int .i64 4,.int .i64 4] w5 fun e w'=>e= .returned (.int .i64 (kZ K.z 4 4 o))∧Below w5.heap.size w5 w':=by
     have h:=FL K.a K.n K.c K.z o 4 4 w5 (MV.WL tO'.o) t'.o.SI;have e:(Value.int .i64 (1:Int))= .int .i64 o:=by rw[ho'.o]
     rw[e];exact h
    clear c0' c1';obtain⟨aT6,aT7,aT8⟩:=aG MV WM aT5;clear MV WM aT5;go_wp2_with (go_at_call 209;refine(aT8.o).mono ?_;rintro e w6 ⟨rfl,hb6⟩;have HB6:=aA hb6;clear hb6)
    go_ret;exact⟨sv5,tk5,aT6.o.later HB6.o,((a0W.o.later HB4.o).trans aT7.o).later HB6.o,rfl⟩
 |false=>
  cases bM with
  |true=>
   obtain⟨o,ho⟩:∃o:Int,o=2:=⟨2,rfl⟩;have hoo:kN K.z=o:=by rw[uN,ho];rfl
   have b8E:o=1∨o=2:= .inr ho;clear uN;rw[hoo]at hR' ⊢;have hbt:=(But.refl K.g w).set 1 (.int .i64 2);have a7M:vL (ord K o) ⟨[],0,0⟩ sv tk (w.setCell ⟨K.g,1,none⟩ (.int .i64 2)):=
    ⟨hok'.o.old.trans (hbt.below t'.o.gB hok'.o.old.size),by have h:=hok'.o.blk.set 1 (.int .i64 2);rw[←ho]at h ⊢;exact h,jJ.but (T:=214) hok'.o.tak hbt (Ne.symm t'.o.ne),hok'.o.tkl,hok'.o.tkb,hok'.o.bits,lJ hok'.o.spot hbt hok'.o.sg,hok'.o.sg,hok'.o.sgt⟩
   have aT3:=Mv.yA (g:=K.g) (gt:=K.gt) (sv:=sv) hbt (.inl rfl);have tO:=WkT.ord t'.o o;have c0':(w.setCell ⟨K.g,1,none⟩ (.int .i64 2)).cell? ⟨K.g,0,none⟩=some (.slice K.a K.n K.c):=a7M.blk.cell rfl;have c1':(w.setCell ⟨K.g,1,none⟩ (.int .i64 2)).cell? ⟨K.g,1,none⟩=some (.int .i64 2):=(a7M.blk.cell (i:=1) (v:= .int .i64 o) rfl).trans (by rw[ho]);clear hbt;obtain⟨aC1,a0W,tO',ho'⟩:=aH a7M aT3 tO ho;clear a7M aT3 tO ho;go_enter Tryz.func144,Tryz.ntmps144;go_upto_region 7 with (go_at_call 143;refine(kI _ _ _).mono ?_;rintro e w3 ⟨rfl,rfl⟩;simp only[kV,kW])
   clear c0 c1 y1 hcv;generalize w.setCell ⟨K.g,1,none⟩ (.int .i64 2)=wO at*;obtain⟨v,hv⟩:=aC (kZ K.z 2 2 o);have aT4:Calls Tryz.prog 209 #[.agg #[.slice K.a K.n K.c,.int .i64 2],.int .i64 2,.int .i64 2] wO fun e w'=>e= .returned (.int .i64 v)∧Below wO.heap.size wO w':=by
    have h:=FL K.a K.n K.c K.z o 2 2 wO (aC1.o.WL tO'.o) t'.o.SI;rw[hv]at h;rw[ho'.o]at h;exact h
   rw[hv]at hR';have aC2:=aA aT4;clear aT4;by_cases Z6:v=42
   case neg=>
    have d3:(v==42)=false:=by simp[Z6]
    obtain rfl:R= .error 2:=by rw[←hR'.o,if_neg (fun h=>Z6 h.2)]
    clear Z6;go_wp2_with (first|(go_at_call 209;refine(aC2.o).mono ?_;rintro e w4 ⟨rfl,hb4⟩;have HB4:=aA hb4;clear hb4)|(go_at_call 143;refine(kI _ _ _).mono ?_;rintro e w3 ⟨rfl,rfl⟩;simp only[kV,kW]))
    exact⟨rfl,rfl,sv,a0W.o.later HB4.o⟩
   case pos=>
    have d3:(v==42)=true:=by simp[Z6]
    have hR2:=hR'.o;rw[if_pos ⟨by omega,Z6⟩]at hR2;clear Z6;go_wp2_with (first|(go_at_call 209;refine(aC2.o).mono ?_;rintro e w4 ⟨rfl,hb4⟩;have HB4:=aA hb4;clear hb4)|(go_at_call 143;refine(kI _ _ _).mono ?_;rintro e w3 ⟨rfl,rfl⟩;simp only[kV,kW]))
    have aBK:=aC1.o.later HB4.o;have HT:=KR (ord K o) tO'.o ⟨[],0,0⟩ sv tk w4 (1, -1,0,0,8) aBK 0 8 rfl rfl (by decide) (by decide) (by show 0≤_;omega);obtain⟨T,hT⟩:=aC (mH K.n (1, -1,0,0,8) ⟨[],0,0⟩);rw[show mH (ord K o).n (1, -1,0,0,8) ⟨[],0,0⟩=T from hT]at HT;rw[hT]at hR2;clear aBK;obtain⟨HT',uZ⟩:=aF HT hR2;clear HT hR2;refine HT'.o.mono ?_;rintro e w5 hpost;cases T with
    |error y=>
     obtain rfl:R= .error y:=uZ.o.symm;obtain⟨rfl,wG,hmv⟩:=hpost;have BQ:=aA hmv;clear hmv;go_wp2_with fail
     exact⟨rfl,rfl,wG,(a0W.o.later HB4.o).trans BQ.o⟩
    |ok s5=>
     obtain rfl:R= .ok s5:=uZ.o.symm;obtain⟨sv5,tk5,MV,WM,rfl⟩:=hpost;have bOP:w5.cell? ⟨K.g,0,none⟩=some (.slice K.a K.n K.c):=MV.blk.cell rfl;have bOQ:w5.cell? ⟨K.g,1,none⟩=some (.int .i64 2):=(MV.blk.cell (i:=1) (v:= .int .i64 o) rfl).trans (by rw[ho'.o]);have aT5:Calls Tryz.prog 209 #[.agg #[.slice K.a K.n K.c,.int .i64 2],.int .i64 4,.int .i64 4] w5 fun e w'=>e= .returned (.int .i64 (kZ K.z 4 4 o))∧Below w5.heap.size w5 w':=by
      have h:=FL K.a K.n K.c K.z o 4 4 w5 (MV.WL tO'.o) t'.o.SI;have e:(Value.int .i64 (2:Int))= .int .i64 o:=by rw[ho'.o]
      rw[e];exact h
     clear c0' c1';obtain⟨aT6,aT7,aT8⟩:=aG MV WM aT5;clear MV WM aT5;go_wp2_with (go_at_call 209;refine(aT8.o).mono ?_;rintro e w6 ⟨rfl,hb6⟩;have HB6:=aA hb6;clear hb6)
     go_ret;exact⟨sv5,tk5,aT6.o.later HB6.o,((a0W.o.later HB4.o).trans aT7.o).later HB6.o,rfl⟩
  |false=>
   have hoo:kN K.z=0:=by rw[uN];rfl
   obtain rfl:R= .error 2:=by rw[←hR'.o,hoo];rfl
   clear uN;go_enter Tryz.func144,Tryz.ntmps144;go_wp2_with (go_at_call 143;refine(kI _ _ _).mono ?_;rintro e w3 ⟨rfl,rfl⟩;simp only[kV,kW])
   exact⟨rfl,rfl,sv,Mv.refl _ _ _ _⟩
end Go.Proofs.YtceclmpmpldmlaaGreat
namespace Tt
open Go Go.RowKit
theorem rH {P:Program} {fn:Func} {p q:Tmp} {ty ty2:TypeId} (h:fn.results=#[.cell p ty,.cell q ty2]) (tmps:Array Value) (w:World) (gp gq:Nat) (t:TypeId) (cs:Array Value) (d:TypeDesc) (v:Value)
  (hp:tmps.getD p undef= .pointer (some ⟨gp,0,none⟩)) (hq:tmps.getD q undef= .pointer (some ⟨gq,0,none⟩)) (hg:jJ w gp t cs)
  (hu:P.underlying ty=some d) (hd:(match d with| .struct _| .array _ _=>true|_=>false)=true) (hi:(P.info? ty).map (·.size)=some cs.size)
  (hag:∀W,(isAgg ty2).run P W= .ok false W) (hc:w.cell? ⟨gq,0,none⟩=some v):
  (results fn tmps).run P w= .ok (.tuple #[.agg cs,v]) w:=by
 have e:(results fn tmps).run P w=((asAddr (tmps.getD p undef)).run P w).andThen fun a w₁=>((loadVar ty a).run P w₁).andThen fun x w₂=>((asAddr (tmps.getD q undef)).run P w₂).andThen fun b w₃=>((loadVar ty2 b).run P w₃).andThen fun y w₄=> .ok (.tuple #[x,y]) w₄:=by
  simp only[results,h];simp[Sem.run_bind,Result.andThen]
 have e2:(loadVar ty2 ⟨gq,0,none⟩).run P w= .ok v w:=by
  simp[loadVar,Sem.run_bind,hag,Result.andThen,go_sem,hc]
 rw[e,hp,hq];simp[asAddr,Result.andThen,run_loadVar_row w gp t ty cs (0,0) d hg hu hd hi,e2]
end Tt
namespace Go.Proofs.YtceclmpmpldmlaaGreat
open Go.RowKit Tt
def lenOf (v:Value):Nat:=match v with
 | .slice _ n _=>n
 |_=>0
theorem aT9 {a b:Value} {x y:Option Value} (hx:x=some a) (hy:y=some b) (h:18 - lenOf a<18 - lenOf b):18 - lenOf (x.getD undef)<18 - lenOf (y.getD undef):=by
 subst hx hy;exact h
theorem vU.snoc {X:Nat→Prop} {B:Nat} {w w':World} {v v':Value} {ds:List (jD 16)} {d:jD 16} {dz:Dz} (h:∃tF:List Dz,tF.length=ds.length∧Ck X B w v 26 3 tF.length (fl WS tF)∧∀i (h:i<tF.length) (h':i<ds.length),mM X B w 16 ds[i] tF[i]) (hg:w.grownBy w' v.ownBlock) (hX:∀k,v'.ownBlock=some k→¬X k)
  (ob:∀tF:List Dz,w.ownsRow B 26 3 v ds.length (fl WS tF)→w'.ownsRow B 26 3 v' (ds.length+1) (fl WS tF++WS dz)) (hd:mM X B w 16 d dz):
  ∃tF:List Dz,tF.length=(ds++ [d]).length∧Ck X B w' v' 26 3 tF.length (fl WS tF)∧∀i (h:i<tF.length) (h':i<(ds++ [d]).length),mM X B w' 16 (ds++ [d])[i] tF[i]:=by
 obtain⟨tF,h1,h2,h3⟩:=h;have key:∀{f:Nat} {d:jD f} {z:Dz},mM X B w f d z→mM X B w' f d z:=fun hh=>by
  rcases h2.1.2 with ⟨rfl,_⟩|⟨g,cap,cur,rfl,_,hgg,_⟩
  ·exact hh.keep (Kp.later (DZ hg))
  ·exact hh.xO (ME hg) hgg
 refine⟨tF++ [dz],by simp[h1],⟨?_,hX⟩,fun i hi hi'=>?_⟩
 ·rw[bO,uO,iD,h1];exact ob tF (by rw[←h1];exact h2.1)
 ·by_cases hi2:i<tF.length
  ·rw[gF hi2,gF (by omega)];exact key (h3 i hi2 (by omega))
  ·have hie:i=tF.length:=by simp at hi;omega
   subst hie;rw[fU (aU _),fU (by omega)];simp only[gZ,iQ,h1];exact key hd
theorem aTA {K:WkS} {s:St} {sv:Value} {tk:List Nat} {w w':World} {row:Option Nat} (h:vL K s sv tk w) (hg:w.grownBy w' row) (hr:∀r,row=some r→r≠K.g∧r≠K.gt∧sv.ownBlock≠some r∧K.w0.heap.size≤r):vL K s sv tk w':=by
 cases row with
 |none=>exact h.later (DZ hg)
 |some r=>have q:=hr r rfl;exact h.but (ME hg) q.1 q.2.1 q.2.2.1 q.2.2.2
theorem aTB {g gt:Nat} {sv wG:Value} {w w8 w9:World} {row:Option Nat} (m:Mv g gt sv wG w w8) (hg:w8.grownBy w9 row) (hr:∀r,row=some r→w.heap.size≤r):Mv g gt sv wG w w9:=by
 cases row with
 |none=>exact m.later (DZ hg)
 |some r=>exact m.uT (hr r rfl) (ME hg)
abbrev aC3:Prop:=∀(K:WkS) (t:WkT K) (ho:K.o=1∨K.o=2) (hval:l9 (jN K.zs)=true) (f:Nat) (p:Int) (sh:Nat) (s:St) (sv:Value) (tk:List Nat) (w:World),vL K s sv tk w→Inv K.n s→0≤p→p≤4294967295→sh<K.sn→K.sn≤sh+f→
  Calls Tryz.prog 145 #[.pointer (some ⟨K.g,0,none⟩),.int .i64 p,.int .i64 sh] w (V6 K sv w (nR K.z K.o (jN K.zs) f p sh s) (aIA f w))
def vU (X:Nat→Prop) (B:Nat) (w:World) (v:Value) (ds:List (jD 16)):Prop:=
 ∃tF:List Dz,tF.length=ds.length∧Ck X B w v 26 3 tF.length (fl WS tF)∧∀i (h:i<tF.length) (h':i<ds.length),mM X B w 16 ds[i] tF[i]
theorem b8F:(Tryz.prog.info? 26).map (fun i=>(i.size,i.bytes))=some (3,72):=by kernel_rfl
theorem aYT:(Tryz.prog.info? 26).map (fun i=>i.zero.map (fun z=>z.cells.size))=some (some 3):=by kernel_rfl
def aTC (K:WkS) (sv:Value) (w:World) (R:Except Int (List (jD 16)×St)) (e:Ending) (w':World):Prop:=match R with
 | .error x=>e= .returned (.tuple #[.agg #[.int .i64 0,.slice none 0 0],.int .i64 x])∧∃wG,Mv K.g K.gt sv wG w w'
 | .ok (ds,s')=>∃wG tk' a m c,e= .returned (.tuple #[.agg #[.int .i64 (kN K.z),.slice a m c],.int .i64 0])∧vL (ord K (kN K.z)) s' wG tk' w'∧Mv K.g K.gt sv wG w w'∧vU (Xv wG) w.heap.size w' (.slice a m c) ds
theorem a7N {g gt gp gq:Nat} {sv wG:Value} {w w1 w2:World} (m:Mv g gt sv wG w w1) (hp:w.heap.size≤gp) (hq:w.heap.size≤gq) (h:∀k,k<w1.heap.size→k≠gp→k≠gq→w2.heap[k]? =w1.heap[k]?) (hs:w1.heap.size≤w2.heap.size) (ho:w2.os=w1.os) (ht:w2.tape=w1.tape) (hu:w2.output=w1.output):Mv g gt sv wG w w2:=
 ⟨ho.trans m.os,ht.trans m.tape,hu.trans m.output,bK m.size hs,fun k hk h1 h2 h3=>(h k (cO hk m.size) (by omega) (by omega)).trans (m.block k hk h1 h2 h3),m.own⟩
theorem aTD (hD:aC3) (K:WkS) (t:WkT K) (hK:K.o=0) (sv:Value) (tk:List Nat) (w:World) (hok:vL K ⟨[],0,0⟩ sv tk w):
  Calls Tryz.prog 85 #[.pointer (some ⟨K.g,0,none⟩)] w (aTC K sv w (qF K.z (jN K.zs))):=by
 have hn:=t.n1;have hzl:=t.hs.nV;have hsl:=t.hsh.len;have hmf:∀(fn:Fn) (first cap:Array Value) (w:World),(Instr.makeFunc fn first cap).run Tryz.prog w= .ok (.func fn first cap) w:=fun _ _ _ _=>rfl;obtain⟨R,hR⟩:=aC (qF K.z (jN K.zs));rw[hR];unfold qF at hR;obtain⟨W,hW⟩:∃W,(w.alloc (.cells #[.int .i64 0,.slice none 0 0] 39)).alloc (.cells #[.int .i64 0] 40)=W:=⟨_,rfl⟩;have bp:jJ W w.heap.size 39 #[.int .i64 0,.slice none 0 0]:=by rw[←hW];exact(jJ.new w _ _).alloc _
 have bq:jJ W (w.heap.size+1) 40 #[.int .i64 0]:=by rw[←hW];exact sW _ _ (by simp)
 have hbW:Below w.heap.size w W:=by rw[←hW];exact((aD w _).alloc (by simp) _)
 have aBH:=hok.later hbW;have c2:W.cell? ⟨K.g,2,none⟩=some (.slice K.sa K.sn K.sc):=aBH.blk.cell rfl;have hSh:=fun W' (h:Below W.heap.size W W')=>XV K.sa K.sn K.sc K.zs W' ((aBH.jN t).mono h);have hgw:K.g<w.heap.size:=hok.blk.lt;have bO3:K.gt<w.heap.size:=jJ.lt (T:=214) hok.tak;obtain⟨shb,aEB⟩:∃b,l9 (jN K.zs)=b:=⟨_,rfl⟩;rw[aEB]at hSh hR;obtain⟨hD',hok',t',mV,uE,hR',bp',bq',EC,DY,aX8,NC⟩:=aP hD hok t hzl hsl hR bp bq hbW aBH hSh aEB;clear hD hok t hzl hsl hR bp bq hbW aBH hSh aEB;go_enter_defers Tryz.func85,Tryz.ntmps85
 go_upto_region 2 with fail
 try rw[hW]
 clear hW;go_wp2_with fail
 refine(aX8.o _ (aW _ _)).mono ?_;rintro e w1 ⟨rfl,hb1⟩;have bp1:=bp'.o.late hb1;have bq1:=bq'.o.late hb1;have hok1:=DY.o.later hb1;have XT:=EC.o.tm hb1;clear c2 hb1 bp' bq' EC DY aX8;obtain⟨aGD,aTE,AB,xQ⟩:=aH bp1 bq1 hok1 XT;clear bp1 bq1 hok1 XT;cases shb with
 |false=>
  obtain rfl:R= .error 1:=by rw[←hR'.o];rfl
  go_wp2_with (go_at_call 143;refine(kI _ _ _).mono ?_;rintro e w3 ⟨rfl,rfl⟩;simp only[kV,kW])
  refine leaves_cons (f:=142) (args:=#[.pointer (some ⟨w.heap.size,0,none⟩),.pointer (some ⟨w.heap.size+1,0,none⟩)]) (by simp) (by simp[go_sem]) ?_;refine(E9 _ _ w.heap.size (w.heap.size+1) 1 w1 rfl rfl #[] _ _ _ aGD.o aTE.o (by omega)).mono ?_;rintro e u' w9 ⟨rfl,rfl,bp9,bq9,hh9,hs9,MK,ht9,hu9⟩;refine⟨_,rH rfl _ _ w.heap.size (w.heap.size+1) 39 #[.int .i64 0,.slice none 0 0] _ (.int .i64 1) rfl rfl bp9 Tryz.underlying39 rfl (by kernel_rfl) (fun W=>by kernel_rfl) (bq9.cell rfl),rfl,_,a7N (Mv.of_below (sv:=sv) xQ.o) (aU _) (eB _) hh9 hs9 MK ht9 hu9⟩
 |true=>
  have HH:=aGC K t'.o hK sv tk w1 AB.o;obtain⟨RH,hRH⟩:=aC (u7 K.z);rw[hRH]at HH;have hR2:=hR'.o;rw[if_pos rfl,hRH]at hR2;obtain⟨HH',uZ,b8G⟩:=aG HH hR2 hRH;clear HH hR2 hRH;go_wp2_with (go_at_call 143;refine(kI _ _ _).mono ?_;rintro e w3 ⟨rfl,rfl⟩;simp only[kV,kW])
  refine HH'.o.mono ?_;rintro e w5 hpost;cases RH with
  |error y=>
   obtain rfl:R= .error y:=by rw[←uZ.o]
   obtain⟨rfl,wG,hmv⟩:=hpost;have a0A:=(Mv.of_below (sv:=sv) xQ.o).trans hmv;have bp5:=aGD.o.mv hmv (show w.heap.size≠K.g by omega) (show w.heap.size≠K.gt by omega) (fun e=>by have:=(hok'.o.spot.lt _ e).2;omega);have bq5:=aTE.o.mv hmv (show w.heap.size+1≠K.g by omega) (show w.heap.size+1≠K.gt by omega) (fun e=>by have:=(hok'.o.spot.lt _ e).2;omega);obtain⟨V7,b8C,b8D,BQ⟩:=aH a0A bp5 bq5 hmv;clear a0A bp5 bq5 hmv;go_wp2_with fail
   refine leaves_cons (f:=142) (args:=#[.pointer (some ⟨w.heap.size,0,none⟩),.pointer (some ⟨w.heap.size+1,0,none⟩)]) (by simp) (by simp[go_sem]) ?_;refine(E9 _ _ w.heap.size (w.heap.size+1) y w5 rfl rfl #[] _ _ _ b8C.o b8D.o (by omega)).mono ?_;rintro e u' w9 ⟨rfl,rfl,bp9,bq9,hh9,hs9,MK,ht9,hu9⟩;refine⟨_,rH rfl _ _ w.heap.size (w.heap.size+1) 39 #[.int .i64 0,.slice none 0 0] _ (.int .i64 y) rfl rfl bp9 Tryz.underlying39 rfl (by kernel_rfl) (fun W=>by kernel_rfl) (bq9.cell rfl),rfl,_,a7N (V7.o) (aU _) (eB _) hh9 hs9 MK ht9 hu9⟩
  |ok s5=>
   obtain⟨sv5,tk5,MV,WM,rfl⟩:=hpost;obtain⟨o,hoo⟩:=aC (kN K.z);have b8E:o=1∨o=2:=by
    have h0:0<kN K.z:=by
     have h:=b8G.o;unfold u7 at h;split at h
     ·split at h
      ·rename_i h1;exact h1.1
      ·cases h
     ·cases h
    rw[←hoo];unfold kN at h0 ⊢;split at h0 <;> (try split at h0) <;> first|exact .inl rfl|exact .inr rfl|omega
   have b1N:Inv K.n s5:=by
    have h:=b8G.o;unfold u7 at h;split at h
    ·split at h
     ·have h2:=FP h (by decide) (iP _);rw[mV.o]at h2;exact h2
     ·cases h
    ·cases h
   rw[hoo]at MV uZ;rw[hoo];have tO:=WkT.ord t'.o o;have hp0:=RO t'.o.SI 4 4 o;rw[show((4:Nat):Int)=4 from rfl,show(256:Int) ^ 4=4294967296 by decide]at hp0;obtain⟨p0,bGW⟩:=aC (kZ K.z 4 4 o);rw[bGW]at uZ hp0;rw[bGW];have hR3:=uZ.o;simp only at hR3;have a0A:=(Mv.of_below (sv:=sv) xQ.o).trans WM;have bp5:=aGD.o.mv WM (show w.heap.size≠K.g by omega) (show w.heap.size≠K.gt by omega) (fun e=>by have:=(hok'.o.spot.lt _ e).2;omega);have bq5:=aTE.o.mv WM (show w.heap.size+1≠K.g by omega) (show w.heap.size+1≠K.gt by omega) (fun e=>by have:=(hok'.o.spot.lt _ e).2;omega);have tT:=WM.size;have hW2:w.heap.size+1<w1.heap.size:=aTE.o.lt;have bGX:∀k,sv5.ownBlock=some k→k≠w.heap.size∧k≠w.heap.size+1:=fun k e=>by
    rcases WM.own k e with h|h
    ·have:=(hok'.o.spot.lt k h).2;omega
    ·omega
   have c1:w5.cell? ⟨K.g,1,none⟩=some (.int .i64 o):=MV.blk.cell rfl;have g0:w5.cell? ⟨w.heap.size,0,none⟩=some (.int .i64 0):=bp5.cell rfl;have y0:=bp5.frozen 0;have hbt:=(But.refl w.heap.size w5).set 0 (.int .i64 o);have aGE:=MV.but hbt (show w.heap.size≠K.g by omega) (show w.heap.size≠K.gt by omega) (fun e=>(bGX _ e).1 rfl) (bK hok'.o.old.size (aU _));have bp6:=bp5.set 0 (.int .i64 o);have bq6:=bq5.but hbt (show w.heap.size+1≠w.heap.size by omega);have a1J:=a0A.uT (aU _) hbt;have bOR:w.heap.size+2≤(w5.setCell ⟨w.heap.size,0,none⟩ (.int .i64 o)).heap.size:=by have:=hbt.size;omega
   obtain⟨i0,z0,hi0,hz,hz1,hz2,hz3⟩:=M9 b8F aYT;have hnx:∀j,j<K.sn→((jN K.zs).getD j jM).2.2.2= -1∨((j:Int)<((jN K.zs).getD j jM).2.2.2∧((jN K.zs).getD j jM).2.2.2<K.sn):=fun j hj=>by
    have hv:=NC.o;unfold l9 at hv;simp only[bF,decide_eq_true_eq]at hv;have h1:=cZ.1 hv.2 j (bW.2 (by simp[jN];rw[uE.o];exact hj));unfold lH XU I8 at h1;simp only[bF,dG,decide_eq_true_eq]at h1;have h2:=h1.1.2;simp only[jN,bX,uE.o]at h2;exact h2
   have bSU:1≤K.sn∧K.sn≤16:=by
    have hv:=NC.o;unfold l9 at hv;simp only[bF,decide_eq_true_eq,jN,bX,uE.o]at hv;exact hv.1
   clear WM a0A aGD aTE bp5 bq5 MV hbt HH' b8G uZ xQ AB bGX;obtain⟨OO,bGY,bOS,bOT,aNZ,tO',a1B,b8H⟩:=aL hR3 aGE bp6 bq6 a1J tO hnx b1N;clear hR3 aGE bp6 bq6 a1J tO hnx b1N;go_wp2_with fail
   clear c1 g0 y0;generalize w5.setCell ⟨w.heap.size,0,none⟩ (.int .i64 o)=w6 at*;go_loopw [4,5] (fun pv hv wr=>∃(fu:Nat) (p shi:Int) (si:St) (yL:Value) (tki:List Nat) (ds:List (jD 16)) (ad:Option Addr) (cd:Nat),pv= .int .i64 p∧hv= .int .i64 shi∧0≤p∧p≤4294967295∧(shi= -1∨(0≤shi∧shi<K.sn∧(K.sn:Int) - shi+1≤fu))∧1≤fu∧ds.length+fu≤18∧Hid (JD K.z o (jN K.zs) fu ds p shi si=R)∧Hid (vL (ord K o) si yL tki wr)∧Hid (Inv K.n si)∧Hid (Mv K.g K.gt sv yL w wr)∧Hid (jJ wr w.heap.size 39 #[.int .i64 o,.slice ad ds.length cd])∧Hid (jJ wr (w.heap.size+1) 40 #[.int .i64 0])∧Hid (vU (Xv yL) (w.heap.size+2) wr (.slice ad ds.length cd) ds)∧w.heap.size+2≤wr.heap.size) (fun pv hv wr=>18 - lenOf ((wr.cell? ⟨w.heap.size,1,none⟩).getD undef))
   case atStart=>exact⟨18,p0,0,s5,sv5,tk5, [],none,0,rfl,rfl,hp0.1,by omega,.inr ⟨by omega,by omega,by omega⟩,by omega,by simp,OO,bGY,b8H,aNZ,bOS,bOT,aA ⟨[],rfl,⟨kC _ _ _ _,fun k e=>by cases e⟩,fun i hi=>by cases hi⟩,bOR⟩
   case round=>
    obtain⟨fu,p,shi,si,yL,tki,ds,ad,cd,rfl,rfl,bOU,bOV,bGZ,bVI,hfu2,hch,aGE,b1O,a1J,bp6,bq6,hds,hsz⟩:=hrel;obtain⟨fu,rfl⟩:∃f,fu=f+1:=⟨fu - 1,by omega⟩;have q1:wr.cell? ⟨w.heap.size,1,none⟩=some (.slice ad ds.length cd):=bp6.o.cell rfl;have MQ:=hch.o;simp only[JD]at MQ;by_cases hgo:0<p∨ds.length=0
    ·rw[if_pos hgo]at MQ;go_upto_region 5 with fail
     go_cut [30]from 23 to 29 (fun v wx=>v= .bool true∧wx=wr)
     case first=>
      by_cases hp1:0<p
      ·have d1:decide (0<p)=true:=by simp;omega
       clear hgo hp1;go_wp2_with fail
       go_meet
       exact⟨rfl,rfl⟩
      ·have d1:decide (0<p)=false:=by simp;omega
       have hl0:ds.length=0:=by omega
       rw[hl0]at q1;clear hgo hp1;go_wp2_with fail
       go_meet
       exact⟨rfl,rfl⟩
     case rest=>
      obtain⟨rfl,rfl⟩:=hcut;rename World=>wr
      have tO2:=tO'.o;rcases bGZ with rfl|⟨hs1,hs2,hs3⟩
      ·rw[if_neg (by omega)]at MQ;subst MQ;have bH0:=aA tO2;clear tO2;go_wp2_with (go_at_call 143;refine(kI _ _ _).mono ?_;rintro e w3 ⟨rfl,rfl⟩;simp only[kV,kW])
       refine leaves_cons (f:=142) (args:=#[.pointer (some ⟨w.heap.size,0,none⟩),.pointer (some ⟨w.heap.size+1,0,none⟩)]) (by simp) (by simp[go_sem]) ?_;refine(E9 _ _ w.heap.size (w.heap.size+1) 2 wr rfl rfl #[] _ _ _ bp6.o bq6.o (by omega)).mono ?_;rintro e u' w9 ⟨rfl,rfl,bp9,bq9,hh9,hs9,MK,ht9,hu9⟩;refine⟨_,rH rfl _ _ w.heap.size (w.heap.size+1) 39 #[.int .i64 0,.slice none 0 0] _ (.int .i64 2) rfl rfl bp9 Tryz.underlying39 rfl (by kernel_rfl) (fun W=>by kernel_rfl) (bq9.cell rfl),rfl,_,a7N (a1J.o) (aU _) (eB _) hh9 hs9 MK ht9 hu9⟩
      ·rw[if_pos hs1]at MQ;obtain⟨sh,rfl⟩:∃sh:Nat,shi=sh:=⟨shi.toNat,by omega⟩;have HDR:=hD'.o (ord K o) tO2 b8E NC.o 16 p sh si yL tki wr aGE.o b1O.o bOU bOV (show sh<K.sn by omega) (show K.sn≤sh+16 by omega);obtain⟨RD,hRD⟩:=aC (nR K.z o (jN K.zs) 16 p (sh:Int) si);rw[show nR (ord K o).z (ord K o).o (jN (ord K o).zs) 16 p (sh:Int) si=RD from hRD]at HDR;rw[hRD]at MQ;have d4:decide ((0:Int)≤(sh:Int))=true:=by simp
       have b1P:∀r s',RD= .ok (r,s')→Inv K.n s':=fun r s' e=>by
        have h:=a0H (hRD.trans e) (by rw[mV.o];exact b1O.o);rw[mV.o]at h;exact h
       have bH1:∀d nx s',RD= .ok ((d,nx),s')→0≤nx∧nx≤4294967295:=fun d nx s' e=>aM3 t'.o.SI (hRD.trans e);have bH2:∀k,yL.ownBlock=some k→k≠w.heap.size∧k≠w.heap.size+1:=fun k e=>⟨fun h=>kE aGE.o.spot bp6.o (by decide) (by rw[e,h]),fun h=>kE aGE.o.spot bq6.o (by decide) (by rw[e,h])⟩;clear hgo;obtain⟨b8I,V4,aTF,b1Q,bH0,aC4,aYU⟩:=aK HDR MQ b1P bH1 tO2 bH2 hRD;clear HDR MQ b1P bH1 tO2 bH2 hRD;go_wp2_with (go_at_call 143;refine(kI _ _ _).mono ?_;rintro e w3 ⟨rfl,rfl⟩;simp only[kV,kW])
       refine b8I.o.mono ?_;rintro e w7 hpost;cases RD with
       |error y=>
        obtain rfl:R= .error y:=V4.o.symm;obtain⟨rfl,wG,hmv⟩:=hpost;have bp7:=bp6.o.mv hmv (show w.heap.size≠K.g by omega) (show w.heap.size≠K.gt by omega) (fun e=>(aC4.o _ e).1 rfl);have bq7:=bq6.o.mv hmv (show w.heap.size+1≠K.g by omega) (show w.heap.size+1≠K.gt by omega) (fun e=>(aC4.o _ e).2 rfl);have wK:=a1J.o.trans hmv;clear b8I V4;obtain⟨BQ,aYV,aYW,aRV⟩:=aH hmv bp7 bq7 wK;clear hmv bp7 bq7 wK;go_wp2_with fail
        refine leaves_cons (f:=142) (args:=#[.pointer (some ⟨w.heap.size,0,none⟩),.pointer (some ⟨w.heap.size+1,0,none⟩)]) (by simp) (by simp[go_sem]) ?_;refine(E9 _ _ w.heap.size (w.heap.size+1) y w7 rfl rfl #[] _ _ _ aYV.o aYW.o (by omega)).mono ?_;rintro e u' w9 ⟨rfl,rfl,bp9,bq9,hh9,hs9,MK,ht9,hu9⟩;refine⟨_,rH rfl _ _ w.heap.size (w.heap.size+1) 39 #[.int .i64 0,.slice none 0 0] _ (.int .i64 y) rfl rfl bp9 Tryz.underlying39 rfl (by kernel_rfl) (fun W=>by kernel_rfl) (bq9.cell rfl),rfl,_,a7N (aRV.o) (aU _) (eB _) hh9 hs9 MK ht9 hu9⟩
       |ok rd=>
        obtain⟨⟨d,nx⟩,s7⟩:=rd;obtain⟨RY,tk7,UG,wK,dz,rfl,uX⟩:=hpost;obtain⟨x1,y1,z1,x2,y2,z2,x3,y3,z3,rfl⟩:=uX.slices;have a5K:=V4.o;simp only[bU]at a5K;simp only at uX;have bp7:=bp6.o.mv wK (show w.heap.size≠K.g by omega) (show w.heap.size≠K.gt by omega) (fun e=>(aC4.o _ e).1 rfl);have bq7:=bq6.o.mv wK (show w.heap.size+1≠K.g by omega) (show w.heap.size+1≠K.gt by omega) (fun e=>(aC4.o _ e).2 rfl);have b1R:=a1J.o.trans wK;have b8J:=Kp.mv wK (show K.g<w.heap.size+2 by omega) (show K.gt<w.heap.size+2 by omega);obtain⟨tF,hz1',hz2',aC5⟩:=hds.o;have bH3:∃tF:List Dz,tF.length=ds.length∧Ck (Xv RY) (w.heap.size+2) w7 (.slice ad ds.length cd) 26 3 tF.length (fl WS tF)∧∀i (h:i<tF.length) (h':i<ds.length),mM (Xv RY) (w.heap.size+2) w7 16 ds[i] tF[i]:=⟨tF,hz1',hz2'.keep b8J,fun i h h'=>(aC5 i h h').keep b8J⟩;have uX:=uX.mono hsz;have bH4:w.heap.size+2≤w7.heap.size:=bK hsz wK.size;have b1S:=aTF.o _ s7 rfl;have bH5:=b1Q.o d nx s7 rfl;clear wK b8I V4 aTF b1Q aYU aC4 b8J hz2' aC5 q1;obtain⟨QB,UH,aYV,aYW,aTG,b1T,b8K,b1U,b1V⟩:=aM a5K uX bp7 bq7 b1R bH3 b1S bH5 UG;clear a5K uX bp7 bq7 b1R bH3 b1S bH5 UG;go_upto_region 8 with fail
        have hal:=aD w7 (.cells #[.slice x1 y1 z1,.slice x2 y2 z2,.slice x3 y3 z3] 26);have b68:=jJ.new w7 26 #[.slice x1 y1 z1,.slice x2 y2 z2,.slice x3 y3 z3];have bp8:=aYV.o.late hal;have bq8:=aYW.o.late hal;have aTH:=aTG.o.later hal;have nW:=b1V.o.later hal;have a3T:=UH.o.keep (Kp.later hal);obtain⟨tF,hz1',hz2',aC5⟩:=b1T.o;have bOW:∃tF:List Dz,tF.length=ds.length∧Ck (Xv RY) (w.heap.size+2) _ (.slice ad ds.length cd) 26 3 tF.length (fl WS tF)∧∀i (h:i<tF.length) (h':i<ds.length),mM (Xv RY) (w.heap.size+2) _ 16 ds[i] tF[i]:=⟨tF,hz1',hz2'.keep (Kp.later hal),fun i h h'=>(aC5 i h h').keep (Kp.later hal)⟩;have aRD:w.heap.size+2≤(w7.alloc (.cells #[.slice x1 y1 z1,.slice x2 y2 z2,.slice x3 y3 z3] 26)).heap.size:=bK bH4 hal.size;clear hz1' hz2' aC5 hal;generalize w7.alloc (.cells #[.slice x1 y1 z1,.slice x2 y2 z2,.slice x3 y3 z3] 26)=w8 at*;generalize w7.heap.size=g6 at*;have q1:w8.cell? ⟨w.heap.size,1,none⟩=some (.slice ad ds.length cd):=bp8.cell rfl;have e0:w8.cell? ⟨g6,0,none⟩=some (.slice x1 y1 z1):=b68.cell rfl;have e1:w8.cell? ⟨g6,1,none⟩=some (.slice x2 y2 z2):=b68.cell rfl;have e2:w8.cell? ⟨g6,2,none⟩=some (.slice x3 y3 z3):=b68.cell rfl;-- the row grows
        have hal:=aD w8 (.cells #[.slice x1 y1 z1,.slice x2 y2 z2,.slice x3 y3 z3] 26);have bp9:=bp8.late hal;have bq9:=bq8.late hal;have b1W:=aTH.later hal;have a1U:=nW.later hal;have VH:=a3T.keep (Kp.later hal);obtain⟨tF,hz1',hz2',aC5⟩:=bOW;have bH6:∃tF:List Dz,tF.length=ds.length∧Ck (Xv RY) (w.heap.size+2) (w8.alloc (.cells #[.slice x1 y1 z1,.slice x2 y2 z2,.slice x3 y3 z3] 26)) (.slice ad ds.length cd) 26 3 tF.length (fl WS tF)∧∀i (h:i<tF.length) (h':i<ds.length),mM (Xv RY) (w.heap.size+2) (w8.alloc (.cells #[.slice x1 y1 z1,.slice x2 y2 z2,.slice x3 y3 z3] 26)) 16 ds[i] tF[i]:=⟨tF,hz1',hz2'.keep (Kp.later hal),fun i h h'=>(aC5 i h h').keep (Kp.later hal)⟩;have tN:(w8.alloc (.cells #[.slice x1 y1 z1,.slice x2 y2 z2,.slice x3 y3 z3] 26)).ownsRow (w.heap.size+2) 26 3 (.slice ad ds.length cd) ds.length (fl WS tF):=by have h:=(hz2'.keep (Kp.later hal)).1;rw[hz1']at h;exact h
        have hX9:∀k,(Value.slice ad ds.length cd).ownBlock=some k→¬Xv RY k:=hz2'.2;have hnp:(Value.slice ad ds.length cd).ownBlock≠some w.heap.size:=fun e=>by have:=(tN.lt _ e).1;omega
        have hnq:(Value.slice ad ds.length cd).ownBlock≠some (w.heap.size+1):=fun e=>by have:=(tN.lt _ e).1;omega
        have bOX:w.heap.size+2≤(w8.alloc (.cells #[.slice x1 y1 z1,.slice x2 y2 z2,.slice x3 y3 z3] 26)).heap.size:=bK aRD hal.size;clear hz1' hz2' aC5 hal aYV aYW aTG b1T UH b1V;obtain⟨bOY,bOZ,b8L,CP,a7O,bP0,b8M,bH7,aTI,V9,UI,b1X⟩:=aP bp8 bq8 aTH nW a3T b68 bp9 bq9 b1W a1U VH bH6;obtain⟨uK,b8N,hnp',bH8⟩:=aH tN hX9 hnp hnq;clear bp8 bq8 aTH nW a3T b68 bp9 bq9 b1W a1U VH bH6 tN hX9 hnp hnq;go_upto_region 9 with (at_builtin;refine lI rfl _ _ 37 rfl (w.heap.size+2) 26 i0 z0 3 72 Tryz.underlying37 hi0 hz hz1 hz2 hz3 (by decide) (.slice ad ds.length cd) ds.length _ rfl uK.o ⟨w8.heap.size,0,none⟩ 1 1 (WS (.slice x1 y1 z1,.slice x2 y2 z2,.slice x3 y3 z3)) rfl (Sl.new w8 26 3 1 #[.slice x1 y1 z1,.slice x2 y2 z2,.slice x3 y3 z3] (0,0) (by omega) rfl) (by intro u hu;simp only[WS,bQ,eD,or_false]at hu;rcases hu with rfl|rfl|rfl <;> rfl) (by omega) (by decide) bOX ?_;intro a9 c9 w9 ob hg9 MK;obtain⟨Ob,IZ,Ho9,bpA⟩:=aH ob hg9 MK (b8M.o.grown hg9 hnp'.o);have p91:w9.cell? ⟨w.heap.size,1,none⟩=some (.slice ad ds.length cd):=bpA.o.cell rfl;have y91:=bpA.o.frozen 1;clear ob hg9 MK)
        clear q1 e0 e1 e2;have hbt:=(But.refl w.heap.size w9).set 1 (.slice a9 (ds.length+1) c9);have hrr:∀r,(Value.slice ad ds.length cd).ownBlock=some r→r≠K.g∧r≠K.gt∧RY.ownBlock≠some r∧K.w0.heap.size≤r:=fun r e=>by
         have:=(uK.o.lt r e).1;have:=hok'.o.old.size;exact⟨by omega,by omega,fun h=>b8N.o r e h,by omega⟩
        have bH9:RY.ownBlock≠some w.heap.size:=fun e=>kE V9.o.spot b8M.o (by decide) e;have a0X:=(aTA V9.o IZ.o hrr).but hbt (show w.heap.size≠K.g by omega) (show w.heap.size≠K.gt by omega) bH9 hok'.o.old.size;have bHA:=(aTB aTI.o IZ.o (fun r e=>by have:=(uK.o.lt r e).1;omega)).uT (aU _) hbt;have bpB:=bpA.o.set 1 (.slice a9 (ds.length+1) c9);have bqB:=(bH7.o.grown IZ.o bH8.o).but hbt (show w.heap.size+1≠w.heap.size by omega);have bHB:∀k,(Value.slice a9 (ds.length+1) c9).ownBlock=some k→¬Xv RY k:=fun k e h=>by
         rcases Ho9.o k e with h1|h1
         ·exact b8N.o k h1 h
         ·have:=(V9.o.spot.lt k h).2;omega
        obtain⟨bP1,hB1,hB2,hB3⟩:=vU.snoc (v':= .slice a9 (ds.length+1) c9) (dz:=(.slice x1 y1 z1,.slice x2 y2 z2,.slice x3 y3 z3)) b1X.o IZ.o bHB (fun zs2 h2=>by rw[M6 h2 uK.o];exact Ob.o) UI.o;have bHC:vU (Xv RY) (w.heap.size+2) (w9.setCell ⟨w.heap.size,1,none⟩ (.slice a9 (ds.length+1) c9)) (.slice a9 (ds.length+1) c9) (ds++ [d]):=⟨bP1,hB1,hB2.keep (OT hbt (by omega)),fun i h h'=>(hB3 i h h').keep (OT hbt (by omega))⟩;have bHD:w.heap.size+2≤(w9.setCell ⟨w.heap.size,1,none⟩ (.slice a9 (ds.length+1) c9)).heap.size:=by have h1:=hbt.size;have h2:=IZ.o.size;omega
        clear p91 y91 hbt hrr bH9 bHB hB2 hB3 bOY bOZ b8L CP a7O bP0 b8M bH7 aTI V9 UI b1X uK b8N hnp' bH8;generalize w9.setCell ⟨w.heap.size,1,none⟩ (.slice a9 (ds.length+1) c9)=wB at*;obtain⟨bb,oo,hsa,hbb,fe⟩:=((a0X.jN bH0.o).row).elem vN (by decide) wR (show sh<K.sn by omega);have f3:=fe 3 _ rfl;have bHE:(K.zs.getD sh wR).2.2.2.2=((jN K.zs).getD sh jM).2.2.2:=by rw[tZ (by rw[uE.o];omega)]
        rw[show((ord K o).zs.getD sh wR)=K.zs.getD sh wR from rfl,bHE]at f3;have hn3:=a1B.o sh (by omega);obtain⟨nD,hsn⟩:∃q,((jN K.zs).getD sh jM).2.2.2=q:=⟨_,rfl⟩;rw[hsn]at f3 hn3;have c2:wB.cell? ⟨K.g,2,none⟩=some (.slice (some ⟨bb,oo,none⟩) K.sn K.sc):=by rw[←hsa];exact a0X.blk.cell rfl
        replace QB:=aA (by have h:=QB.o;rw[hsn]at h;exact h)
        have bSV:(sh:Int)<K.sn:=by omega
        have hll:(ds++ [d]).length=ds.length+1:=by simp
        clear fe bHE hsn;obtain⟨aID,bHF,bHG,bP2,bHH,bVJ,aMU⟩:=aK a0X bHA bpB bqB bHC hsa hll;clear a0X bHA bpB bqB bHC hsa hll;have bHI:nD= -1∨(0≤nD∧nD<K.sn∧(K.sn:Int) - nD+1≤fu):=by
         rcases hn3 with h|h
         ·exact .inl h
         ·exact .inr ⟨by omega,h.2,by omega⟩
        go_quiet (fail)
        go_wp2_with fail
        go_roundw
        case rel=>exact⟨fu,nx,nD,s7,RY,tk7,ds++ [d],a9,c9,rfl,rfl,b1U.o.1,b1U.o.2,bHI,by omega,by rw[aMU.o];omega,QB,aA (aID.o.later (Qt.below ⟨_,rfl⟩ _)),b8K,aA (bHF.o.later (Qt.below ⟨_,rfl⟩ _)),by rw[aMU.o];exact aA (bHG.o.late (Qt.below ⟨_,rfl⟩ _)),aA (bP2.o.late (Qt.below ⟨_,rfl⟩ _)),aA (by obtain⟨z1',z2',z3',z4'⟩:=bHH.o;rw[aMU.o];exact⟨z1',z2',z3'.keep (Kp.later (Qt.below ⟨_,rfl⟩ _)),fun i h h'=>(z4' i h h').keep (Kp.later (Qt.below ⟨_,rfl⟩ _))⟩),bHD⟩
        case measure=>exact aT9 ((bHG.o.late (Qt.below ⟨_,rfl⟩ _)).cell rfl) (bp6.o.cell rfl) (by show 18 - (ds.length+1)<18 - ds.length;omega)
    ·rw[if_neg hgo]at MQ;subst MQ;obtain⟨nd,hnd⟩:∃n,ds.length=n:=⟨_,rfl⟩;have d1:decide (0<p)=false:=by simp;omega
     rw[hnd]at bp6 hds q1 hgo;have d2:((nd:Int)==0)=false:=by simp;omega
     have d3:(nd==0)=false:=by simp;omega
     have e0:wr.cell? ⟨w.heap.size,0,none⟩=some (.int .i64 o):=bp6.o.cell rfl;have e1:wr.cell? ⟨w.heap.size+1,0,none⟩=some (.int .i64 0):=bq6.o.cell rfl;have y0:=bp6.o.frozen 0;have y1:=bp6.o.frozen 1;have y2:=bq6.o.frozen 0;clear hgo;go_wp2_with fail
     rw[bp6.o.qE rfl,bp6.o.qE rfl,bq6.o.qE rfl];refine leaves_cons (f:=142) (args:=#[.pointer (some ⟨w.heap.size,0,none⟩),.pointer (some ⟨w.heap.size+1,0,none⟩)]) (by simp) (by simp[go_sem]) ?_;refine(aGB _ _ wr).mono ?_;rintro e u' w9 ⟨rfl,rfl,rO⟩;have a1U:=aGE.o.later rO;obtain⟨tF,hz1,hz2,hz3⟩:=hds.o;have bP3:vU (Xv yL) w.heap.size w9 (.slice ad nd cd) ds:=⟨tF,hz1,(hz2.keep (Kp.later rO)).mono (by omega),fun i h h'=>((hz3 i h h').keep (Kp.later rO)).mono (by omega)⟩;refine⟨_,rH rfl _ _ w.heap.size (w.heap.size+1) 39 #[.int .i64 o,.slice ad nd cd] _ (.int .i64 0) rfl rfl (bp6.o.late rO) Tryz.underlying39 rfl (by kernel_rfl) (fun W=>by kernel_rfl) ((bq6.o.late rO).cell rfl),yL,tki,ad,nd,cd,by rw[hoo],by rw[hoo];exact a1U,a1J.o.later rO,bP3⟩
def aYX (w:World) (oo:Int) (R:Except Int (List (jD 16)×St)) (e:Ending) (w':World):Prop:=match R with
 | .error x=>e= .returned (.tuple #[.agg #[.int .i64 0,.slice none 0 0],.slice none 0 0,.int .i64 x])∧Below w.heap.size w w'
 | .ok (ds,s)=>∃a m c b k d,e= .returned (.tuple #[.agg #[.int .i64 oo,.slice a m c],.slice b k d,.int .i64 0])∧Below w.heap.size w w'∧vU (Xv (.slice b k d)) w.heap.size w' (.slice a m c) ds∧w'.ownsRow w.heap.size 50 5 (.slice b k d) s.jQ.length (fl spC s.jQ)
theorem vU.keep {X X':Nat→Prop} {B:Nat} {w w':World} {v:Value} {ds:List (jD 16)} (h:vU X B w v ds) (k:Kp X X' B w w'):vU X' B w' v ds:=by
 obtain⟨tF,h1,h2,h3⟩:=h;exact⟨tF,h1,h2.keep k,fun i hi hi'=>(h3 i hi hi').keep k⟩
theorem vU.mono {X:Nat→Prop} {B B':Nat} {w:World} {v:Value} {ds:List (jD 16)} (h:vU X B w v ds) (hB:B'≤B):vU X B' w v ds:=by
 obtain⟨tF,h1,h2,h3⟩:=h;exact⟨tF,h1,h2.mono hB,fun i hi hi'=>(h3 i hi hi').mono hB⟩
theorem aTJ {g gt B:Nat} {sv wG:Value} {w w1 w2:World} (hb:Below B w w1) (h:Mv g gt sv wG w1 w2) (hg:B≤g) (hgt:B≤gt) (hsv:∀k,sv.ownBlock=some k→B≤k) (hw:B≤w.heap.size):Below B w w2:=
 hb.trans (h.below hg hgt hsv (bK hw hb.size))
theorem aYY (hD:aC3) (a:Option Addr) (n c:Nat) (z:List Int) (sa:Option Addr) (sn sc:Nat) (zs:List VQ) (w:World) (hs:Sl w a n c 1 (ints .u8 z)) (hsh:ShR w sa sn sc zs) (hby:mW z) (hn:n≤1000000000) (hx:∀x,qF z (jN zs)= .error x→x≠0):
  Calls Tryz.prog 82 #[.slice a n c,.slice sa sn sc] w (aYX w (kN z) (qF z (jN zs))):=by
 have bp:=jJ.new w 39 #[.int .i64 0,.slice none 0 0];have hbW:=aD w (.cells #[.int .i64 0,.slice none 0 0] 39);obtain⟨W,hW⟩:=aC (w.alloc (.cells #[.int .i64 0,.slice none 0 0] 39));rw[hW]at bp hbW;have HB:=aMC a n c z sa sn sc zs W (hs.mono hbW) (hsh.mono hbW) hby hn;obtain⟨R,hR⟩:=aC (qF z (jN zs));rw[hR]at hx;rw[hR];have hlt:=bp.lt;obtain⟨hs',hsh',rZ⟩:=aG hs hsh hby;obtain⟨hx',bp',EC,HB',hR'⟩:=aI hx bp hbW HB hR;clear hs hsh hby hx bp hbW HB hR;go_enter Tryz.func82,Tryz.ntmps82;go_upto_region 1 with fail
 try rw[hW]
 clear hW;go_wp2_with fail
 refine HB'.o.mono ?_;rintro e w1 ⟨g,gt,rfl,ht,hok,hb1⟩;have hrd:=aTD hD _ ht rfl _ _ w1 hok;simp only at hrd;rw[hR'.o]at hrd;have bp1:=bp'.o.late hb1;have XT:=EC.o.tm hb1;have hg0:W.heap.size≤g:=ht.gB;have bVK:W.heap.size≤gt:=ht.gtB;have hg1:g<w1.heap.size:=hok.blk.lt;clear hb1 HB' bp' EC;obtain⟨a4J,aGD,xQ,ht',hok'⟩:=aI hrd bp1 XT ht hok;clear hrd bp1 XT ht hok;go_wp2_with fail
 refine a4J.o.mono ?_;rintro e w2 hpost;cases R with
 |error x=>
  obtain⟨rfl,wG,hmv⟩:=hpost;simp only at hmv;have hx0:=hx'.o x rfl;have bp2:=aGD.o.mv hmv (show w.heap.size≠g by omega) (show w.heap.size≠gt by omega) (fun e=>by cases e);have hb2:=aTJ xQ.o hmv (show w.heap.size≤g by omega) (show w.heap.size≤gt by omega) (fun k e=>by cases e) (aU _);have d1:(x != 0)=true:=by simp;exact hx0
  have p0:w2.cell? ⟨w.heap.size,0,none⟩=some (.int .i64 0):=bp2.cell rfl;have p1:w2.cell? ⟨w.heap.size,1,none⟩=some (.slice none 0 0):=bp2.cell rfl;have y0:=bp2.frozen 0;have y1:=bp2.frozen 1;clear hmv hx0;obtain⟨aGF,hb2'⟩:=aF bp2 hb2;clear bp2 hb2;go_wp2_with fail
  first|rw[aGF.o.qE rfl,aGF.o.qE rfl,aGF.o.qE rfl,aGF.o.qE rfl]|skip
  refine bodyPost_ret (pO rfl _ _ w.heap.size 39 #[.int .i64 0,.slice none 0 0] _ rfl aGF.o Tryz.underlying39 rfl (by kernel_rfl)) rfl ?_;exact⟨rfl,hb2'.o⟩
 |ok r=>
  obtain⟨ds,s⟩:=r;obtain⟨wG,tk',a2,m2,c2,rfl,hok2,hmv,hds⟩:=hpost;simp only at hmv;have bp2:=aGD.o.mv hmv (show w.heap.size≠g by omega) (show w.heap.size≠gt by omega) (fun e=>by cases e);have hb2:=aTJ xQ.o hmv (show w.heap.size≤g by omega) (show w.heap.size≤gt by omega) (fun k e=>by cases e) (aU _);obtain⟨b,d,rfl⟩:=zW hok2.spot;obtain⟨oo,hoo⟩:∃o,kN z=o:=⟨_,rfl⟩;simp only[hoo]at hok2;rw[hoo];have p0:w2.cell? ⟨w.heap.size,0,none⟩=some (.int .i64 0):=bp2.cell rfl;have p1:w2.cell? ⟨w.heap.size,1,none⟩=some (.slice none 0 0):=bp2.cell rfl;have y0:=bp2.frozen 0;have y1:=bp2.frozen 1;have hbt:=((But.refl w.heap.size w2).set 0 (.int .i64 oo)).set 1 (.slice a2 m2 c2);have bp3:=(bp2.set 0 (.int .i64 oo)).set 1 (.slice a2 m2 c2);have hb3:=hbt.below (aU _) hb2.size;have NY:=hb2.trans hb3;have hblk:=hok2.blk.but hbt (show g≠w.heap.size by omega);have bHJ:=lJ hok2.spot hbt (fun e=>kE hok2.spot bp2 (by decide) e);have hdb:=(hds.mono (show W.heap.size≤w1.heap.size by omega)).keep (OT hbt (by omega));clear hmv hok2 hds bp2 hb2 hbt hb3;obtain⟨aTK,zZ,hblk',b1Y,bHK,aYZ⟩:=aJ bp3 NY hblk bHJ hdb hoo;clear bp3 NY hblk bHJ hdb hoo;go_upto_region 3 with fail
  clear p0 p1 y0 y1;obtain⟨w3,hw3⟩:∃w3,(w2.setCell ⟨w.heap.size,0,none⟩ (.int .i64 oo)).setCell ⟨w.heap.size,1,none⟩ (.slice a2 m2 c2)=w3:=⟨_,rfl⟩;have hall:=aA (And.intro aTK.o (And.intro zZ.o (And.intro hblk'.o (And.intro b1Y.o bHK.o))));rw[hw3]at hall ⊢;clear aTK zZ hblk' b1Y bHK hw3;obtain⟨bp3,hb3,hblk3,bHL,bHM⟩:=hall.o;obtain⟨Ty,f,hne,hbel,jH⟩:=jR w3;have q0:∀s,(f s).cell? ⟨w.heap.size,0,none⟩=some (.int .i64 oo):=fun s=>(bp3.late (hbel s)).cell rfl;have q1:∀s,(f s).cell? ⟨w.heap.size,1,none⟩=some (.slice a2 m2 c2):=fun s=>(bp3.late (hbel s)).cell rfl;have q2:∀s',(f s').cell? ⟨g,4,none⟩=some (.slice b s.jQ.length d):=fun s'=>(hblk3.late (hbel s')).cell rfl;have HS:=aA (jH _ ((aW _ _).drew));have hbd:Below w3.heap.size w3 w3.drew:=(aW w3.heap.size w3).drew;have hbD:Below w.heap.size w w3.drew:=hb3.drew;have bpD:jJ w3.drew w.heap.size 39 #[.int .i64 oo,.slice a2 m2 c2]:=bp3;have e0:w3.cell? ⟨w.heap.size,0,none⟩=some (.int .i64 oo):=bp3.cell rfl;have e1:w3.cell? ⟨w.heap.size,1,none⟩=some (.slice a2 m2 c2):=bp3.cell rfl;have y0:=bp3.frozen 0;have y1:=bp3.frozen 1;clear hall;obtain⟨aTK,sO,bP4,bHN,bHO,jG,jA,a4T,aPP,b8O⟩:=aN bp3 hb3 hblk3 bHL bHM hbel jH hbd hbD bpD;clear bp3 hb3 hblk3 bHL bHM hbel jH hbd hbD bpD;go_wp2_with fail
  refine jU (S:=fun W=>∃s,W=f s) (by kernel_rfl) 8 rfl ?_;refine jF [0,1,2,3,4] 3 (by kernel_rfl) (fun d _ _ _ _ h=>by cases d <;> exact h) (by kernel_rfl) (by kernel_rfl) (by kernel_rfl) HS.o ?_;simp only[jB,aS,aT,aQ,aR];iterate 5 (go_big_quiet_step (fail))
  refine wpQuiet_nil ?_;refine jC 5 2 (by kernel_rfl) (by kernel_rfl) ?_;simp only[jB,aS,aT,aQ,aR];clear q0 q1 q2;go_wp2_with fail
  first|rw[aTK.o.qE rfl,aTK.o.qE rfl]|rw[b8O.o.qE rfl,b8O.o.qE rfl]|skip
  first|refine Mid.mk ⟨HS.o,?_⟩|refine Mid.mk ?_
  refine jF [6,7] 0 (by kernel_rfl) (fun d _ _ _ _ h=>by cases d <;> exact h) (by kernel_rfl) (by kernel_rfl) (by kernel_rfl) HS.o ?_;simp only[jB,aS,aT,aQ,aR];iterate 2 (go_big_quiet_step (fail))
  refine wpQuiet_nil ?_;refine jK (by kernel_rfl) ?_;go_wp2_with fail
  refine bodyPost_ret (pO rfl _ _ w.heap.size 39 #[.int .i64 oo,.slice a2 m2 c2] _ rfl b8O.o Tryz.underlying39 rfl (by kernel_rfl)) rfl ?_;have hWs:w.heap.size≤W.heap.size:=by omega
  refine⟨a2,m2,c2,b,s.jQ.length,d,?_,aPP.o,(bHO.o.keep (Kp.later a4T.o)).mono hWs,kK (jY bHN.o a4T.o) hWs⟩;first|rfl|(simp;exact aYZ.o.symm)
theorem RZ {n:Nat} {x:lK} {s:St} {e:Int} (h:mH n x s= .error e):e≠0:=by
 unfold mH at h;split at h
 ·split at h <;> cases h
  decide
 ·cases h;decide
theorem aC6 {z:List Int} {o p no:Int} {s:St} {e:Int} (h:lM z o p no s= .error e):e≠0:=by
 unfold lM at h;split at h
 ·split at h
  ·cases ht:mH z.length (2,no,0,p,6+12*kZ z p 2 o) s with
   |error y=>rw[ht]at h;cases h;exact RZ ht
   |ok s1=>
    rw[ht]at h;simp only at h;split at h <;> cases h
    decide
  ·cases h;decide
 ·cases h;decide
theorem aMD {z:List Int} {o:Int} {x:mK} {no:Int} {s:St} {e:Int} (h:oI z o x no s= .error e):e≠0:=by
 unfold oI at h;split at h
 ·split at h
  ·cases ht:mH z.length (3,no,x.1,x.2.2.2,oL x.2.1 x.2.2.1) s with
   |error y=>rw[ht]at h;cases h;exact RZ ht
   |ok s1=>
    rw[ht]at h;simp only at h;split at h <;> cases h
    decide
  ·split at h <;> cases h
   decide
 ·cases h;decide
theorem a0Y {α σ:Type} {step:σ→α→Except Int σ} (hs:∀s a e,step s a= .error e→e≠0):∀{l:List α} {s:σ} {e:Int},loopS step l s= .error e→e≠0
 | [],s,e,h=>by cases h
 |x::r,s,e,h=>by
  unfold loopS at h;cases hx:step s x with
  |error y=>rw[hx]at h;cases h;exact hs _ _ _ hx
  |ok s1=>rw[hx]at h;exact a0Y hs h
theorem aTL {z:List Int} {o:Int} {sh:lV} {no:Int} {acc:List nC×St} {x:mK} {e:Int} (h:stepT z o sh no acc x= .error e):e≠0:=by
 unfold stepT at h;split at h
 ·split at h <;> cases h
  decide
 ·cases hv:oI z o x no acc.2 with
  |error y=>rw[hv]at h;cases h;exact aMD hv
  |ok v=>rw[hv]at h;cases h
theorem aTM {z:List Int} {sh:lV} {l:List mK} {no:Int} {s:St} {e:Int} (h:sQ z sh l no s= .error e):e≠0:=by
 unfold sQ at h;split at h
 ·rename_i x y _;split at h
  ·cases ht:mH z.length (4,no,0,x.2.2.2,y.2.2.2) s with
   |error y=>rw[ht]at h;cases h;exact RZ ht
   |ok s1=>rw[ht]at h;cases h
  ·cases h;decide
 ·cases h
theorem aIE {z:List Int} {o:Int} {L:List lV}:∀{f:Nat} {p sh:Int} {s:St} {e:Int},nR z o L f p sh s= .error e→e≠0
 |0,p,sh,s,e,h=>by cases h;decide
 |f+1,p,sh,s,e,h=>by
  unfold nR at h;cases h1:lM z o p s.no {s with no:=IntKind.i64.wrap (s.no+1)}with
  |error y=>rw[h1]at h;cases h;exact aC6 h1
  |ok r1=>
   rw[h1]at h;simp only at h;cases h2:loopS (stepT z o (L.getD sh.toNat jM) s.no) r1.1 ([],r1.2)with
   |error y=>rw[h2]at h;cases h;exact a0Y (fun _ _ _=>aTL) h2
   |ok r2=>
    rw[h2]at h;simp only at h;split at h
    ·cases h;decide
    ·cases h3:loopS (oJ (nR z o L f) (L.getD sh.toNat jM)) r1.1 ([],r2.2)with
     |error y=>
      rw[h3]at h;cases h;refine a0Y (fun acc x e hs=>?_) h3;unfold oJ at hs;split at hs
      ·split at hs
       ·rename_i hr;cases hs;exact aIE hr
       ·split at hs <;> cases hs
        decide
      ·cases hs
     |ok r3=>
      rw[h3]at h;simp only at h;cases h4:sQ z (L.getD sh.toNat jM) r1.1 s.no r3.2 with
      |error y=>rw[h4]at h;cases h;exact aTM h4
      |ok r4=>rw[h4]at h;cases h
theorem a3U {z:List Int} {o:Int} {L:List lV}:∀{f:Nat} {acc:List (jD 16)} {p sh:Int} {s:St} {e:Int},JD z o L f acc p sh s= .error e→e≠0
 |0,_,_,_,_,_,h=>by cases h;decide
 |f+1,acc,p,sh,s,e,h=>by
  unfold JD at h;split at h
  ·split at h
   ·cases h1:nR z o L 16 p sh s with
    |error y=>rw[h1]at h;cases h;exact aIE h1
    |ok r=>rw[h1]at h;exact a3U h
   ·cases h;decide
  ·cases h
theorem aC7 {z:List Int} {L:List lV} {e:Int} (h:qF z L= .error e):e≠0:=by
 unfold qF at h;split at h
 ·cases h1:u7 z with
  |error y=>
   rw[h1]at h;cases h;unfold u7 at h1;split at h1
   ·split at h1
    ·exact RZ h1
    ·cases h1;decide
   ·cases h1;decide
  |ok s=>rw[h1]at h;exact a3U h
 ·cases h;decide
