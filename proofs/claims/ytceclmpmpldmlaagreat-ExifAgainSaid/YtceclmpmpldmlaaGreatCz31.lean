import Derived.Test.YtceclmpmpldmlaaGreatCz30
set_option linter.unusedSimpArgs false
set_option linter.unusedVariables false
namespace Go.Proofs.YtceclmpmpldmlaaGreat
open Go.RowKit Tt
theorem kR.aRI {X:Nat→Prop} {B:Nat} {w:World} {a:Option Addr} {n c:Nat} {ts:List nC} (h:kR X B w (.slice a n c) ts):qB w a n c ts:=by
 obtain⟨zs,rfl,h2,h3⟩:=h;have hm:=(Sl.jX h2.1).2;have hs:=(Sl.jX h2.1).1;exact⟨zs,⟨hs,fun z hz=>(h3 z hz).sl⟩,rfl⟩
theorem GY.rd {B:Nat} {w:World} {x:oN} {A:ExA} (h:GY B w x A):ExR w x A:=
 ⟨h.z.aRI,h.p.aRI,h.g.aRI,h.i.aRI,h.f.aRI,(Sl.jX h.mr).1,(Sl.jX h.th).1⟩
theorem GY.later {B:Nat} {w w':World} {x:oN} {A:ExA} (h:GY B w x A) (hb:Below w.heap.size w w'):GY B w' x A:=
 ⟨h.z.keep (Kp.later hb),h.p.keep (Kp.later hb),h.g.keep (Kp.later hb),h.i.keep (Kp.later hb),h.f.keep (Kp.later hb),jY h.mr hb,jY h.th hb⟩
theorem GY.mono {B B':Nat} {w:World} {x:oN} {A:ExA} (h:GY B w x A) (hB:B'≤B):GY B' w x A:=
 ⟨h.z.mono hB,h.p.mono hB,h.g.mono hB,h.i.mono hB,h.f.mono hB,kK h.mr hB,kK h.th hB⟩
theorem rF {X:Nat→Prop} {B g:Nat} {w w':World} {v:Value} {ts:List nC} {T:TypeId} {cs:Array Value} (h:kR X B w v ts) (b:But g w w') (hb:jJ w g T cs) (h1:74≠T) (h2:5≠T):kR X B w' v ts:=by
 obtain⟨zs,e,h3,h4⟩:=h;exact⟨zs,e,vP h3 b hb h1,fun z hz=>vP (h4 z hz) b hb h2⟩
theorem GY.but {B g:Nat} {w w':World} {x:oN} {A:ExA} {T:TypeId} {cs:Array Value} (h:GY B w x A) (b:But g w w') (hb:jJ w g T cs) (h1:74≠T) (h2:5≠T):GY B w' x A:=
 ⟨rF h.z b hb h1 h2,rF h.p b hb h1 h2,rF h.g b hb h1 h2,rF h.i b hb h1 h2,rF h.f b hb h1 h2,lJ h.mr b (kE h.mr hb h2),lJ h.th b (kE h.th hb h2)⟩
theorem X7 {b:Nat} (w:World) (cs:Array Value):But b w (w.setRow b cs):=
 ⟨rfl,rfl,rfl,by rw[show(w.setRow b cs).heap.size=w.heap.size by simp[World.setRow]];exact aU _,fun k hk hne=>setRow_other w b k cs hne⟩
theorem KO {α:Type} {l:List α} (h:¬0<l.length):l= []:=dP (by omega)
theorem aBC {x:oN} (h:kY x=0):∀t∈x.p,t.1≠37500:=fun t ht=>by
 obtain⟨h1,h2,h3,h4,h5,h6,h7,h8⟩:=pI h;exact U3 ((wF h4).1 t ht).2.1 37500 (by decide+kernel)
theorem aFR {ts:List nC} {t:Int} (h:∀y∈ts,y.1≠t):qL ts t=ts:=by
 unfold qL;exact List.filter_eq_self.2 fun y hy=>by simpa using h y hy
theorem a04 {x:oN} (h:kY x=0):qL (nJ x) 37500=x.p∧(nO (nJ x) 37500).2.2.2=x.mr∧uS (nO (nJ x) 37500)=false:=by
 obtain⟨h1,h2,h3,h4,h5,h6,h7,h8⟩:=pI h;have hc:=aBC h;have hf:=M8 hc;unfold nJ;split
 ·rename_i hm;have k:=a6K (wF h4).2 (IE x.mr) (b:=false) (v:=(0,0, [])) hf;have k1:=k.bEC rfl;have k2:=k.found;exact⟨k1,by rw[show(37500:Int)=(IE x.mr).1 from rfl,k2];rfl,by rw[show(37500:Int)=(IE x.mr).1 from rfl,k2];rfl⟩
 ·rename_i hm;exact⟨aFR hc,by rw[hf,KO hm],by rw[hf];rfl⟩
theorem xH {f:Nat} {d:jD (f+1)} {l:List (Int×jD f)} (h:d.2.1=l) (t:Int):rE (f+1) d t=RB f (l.find? (fun s=>s.1==t)):=by subst h;rfl
theorem U7 {f:Nat} {d:jD (f+1)} {l:List (Int×jD f)} (h:d.2.1=l) (t u:Int):KH (f+1) d t u=U1 f u (l.find? (fun s=>s.1==t)):=by subst h;rfl
theorem aI3 {x:oN} (h:kY x=0):rE 16 (qP x) 34665=(if xY x=true then nJ x else [])∧rE 16 (qP x) 34853=x.g∧KH 16 (qP x) 34665 40965=x.i:=by
 have e1:∀t,rE 16 (qP x) t=RB 15 ((nT x++oQ x).find? (fun s=>s.1==t)):=fun t=>xH (f:=15) (d:=qP x) rfl t;have e2:KH 16 (qP x) 34665 40965=U1 15 40965 ((nT x++oQ x).find? (fun s=>s.1==34665)):=U7 (f:=15) (d:=qP x) rfl _ _;have e3:rE 15 (rD x) 40965=x.i:=by
  rw[show rE 15 (rD x) 40965=RB 14 ((nP x).find? (fun s=>s.1==40965))from xH (f:=14) (d:=rD x) rfl _];unfold nP;split
  ·rfl
  ·rename_i hi;rw[KO hi];rfl
 rw[e1,e1,e2];unfold nT oQ;by_cases hp:xY x=true
 ·rw[if_pos hp,if_pos hp];by_cases hg:0<x.g.length
  ·rw[if_pos hg];exact⟨rfl,rfl,e3⟩
  ·rw[if_neg hg];exact⟨rfl,(KO hg).symm,e3⟩
 ·rw[if_neg hp,if_neg hp];have hi:x.i= []:=by
   unfold xY at hp;simp only[dG,decide_eq_true_eq]at hp;exact KO (by omega)
  by_cases hg:0<x.g.length
  ·rw[if_pos hg];exact⟨rfl,rfl,hi.symm⟩
  ·rw[if_neg hg];exact⟨rfl,(KO hg).symm,hi.symm⟩
theorem a05 {x:oN} (hp:¬xY x=true):nJ x= []:=by
 unfold xY at hp;simp only[dG,decide_eq_true_eq]at hp;unfold nJ;rw[if_neg (by omega)];exact KO (by omega)
theorem aFS {x:oN}:rX 16 ((kU x).getD 1 (jS 16))=x.f∧aB3 16 ((kU x).getD 1 (jS 16))=x.th:=by
 unfold kU;split
 ·exact⟨rfl,rfl⟩
 ·rename_i h;exact⟨(KO (by omega)).symm,(KO (by omega)).symm⟩
theorem a06 {x:oN} (h:kY x=0):rY 16 x.o (kU x)=x:=by
 obtain⟨u1,u2,u3⟩:=aI3 h;obtain⟨p1,p2,p3⟩:=a04 h;obtain⟨f1,f2⟩:= @aFS x;have e0:(kU x).getD 0 (jS 16)=qP x:=rfl;have hq:(if xY x=true then nJ x else [])=nJ x:=by
  split
  ·rfl
  ·rename_i hp;rw[a05 hp]
 unfold rY;rw[e0,u1,u2,u3,f1,f2,hq,p1,p2];rfl
theorem aBD {x:oN} (h:kY x=0) (hs:tJ x):ZP 16 x.o (kU x)=0∧ofE 16 x.o (kU x)=x:=by
 obtain⟨u1,u2,u3⟩:=aI3 h;obtain⟨p1,p2,p3⟩:=a04 h;have e0:(kU x).getD 0 (jS 16)=qP x:=rfl;have hq:(if xY x=true then nJ x else [])=nJ x:=by
  split
  ·rfl
  ·rename_i hp;rw[a05 hp]
 have hc:ZP 16 x.o (kU x)=0:=by
  unfold ZP;rw[if_pos (BJ h hs),e0,u1,hq,p3,if_neg (by decide),a06 h,if_pos h]
 exact⟨hc,by unfold ofE;rw[if_pos hc];exact a06 h⟩
def uV (s:lK):DN:=(s.1,s.2.1,s.2.2.1,s.2.2.2.2)
theorem aI4 {y c:Int} {b d:List Int} {o:Int} (h:SV y c b o=some d):rM y c d=true:=by
 unfold SV at h;split at h
 ·cases h
 ·split at h
  ·rename_i h1 h2;obtain rfl:_=d:=by simpa using h
   exact h2
  ·cases h
theorem aRJ {z:List Int} (h:mW z) (n:Nat):mW (z.drop n):=fun x hx=>h x (fF hx)
theorem aBE:∀{es:List mK},wT es=true→es.Pairwise fun x y=>x.1<y.1
 | [],_=>List.Pairwise.nil
 | [_],_=>List.Pairwise.cons (fun _ h=>by cases h) List.Pairwise.nil
 |x::y::r,h=>by
  unfold wT at h;simp only[bF,decide_eq_true_eq]at h;have ih:=aBE h.2;refine List.Pairwise.cons (fun w hw=>?_) ih;rcases bQ.1 hw with rfl|hw
  ·exact h.1
  ·exact Int.lt_trans h.1 ((dR.1 ih).1 w hw)
theorem aLS {z:List Int} (hb:mW z) {o p:Int} (ho:o=1∨o=2) (h0:0≤p) (h1:p+12≤z.length):0≤(J9 z o p).1∧(J9 z o p).1<65536:=by
 have:=GL hb (p:=p) (s:=2) (o:=o) (by decide) ho h0 (by omega);rw[show rJ 2=65536 by decide]at this;exact this
theorem a07 {z:List Int} {o p no:Int} {s:St} {l:List mK} {s1:St} (h:lM z o p no s= .ok (l,s1)):
  0<kZ z p 2 o∧l=uU z o p (kZ z p 2 o).toNat∧mH z.length (2,no,0,p,6+12*kZ z p 2 o) s= .ok s1∧wT l=true:=by
 unfold lM at h;split at h
 ·split at h
  ·rename_i h0;cases ht:mH z.length (2,no,0,p,6+12*kZ z p 2 o) s with
   |error e=>rw[ht]at h;cases h
   |ok s2=>
    rw[ht]at h;simp only at h;split at h
    ·rename_i hr;injection h with h;injection h with h1 h2;subst h1 h2;exact⟨h0,rfl,rfl,hr⟩
    ·cases h
  ·cases h
 ·cases h
theorem aBF {z:List Int} (hb:mW z) {o:Int} {x:mK} {no:Int} {s:St} {v:nC} {s':St} (h:oI z o x no s= .ok (v,s')):
  v.1=x.1∧II v=true∧mW v.2.2.2∧s'.jQ.map uV=s.jQ.map uV++wY no [v]∧s'.no=s.no:=by
 unfold oI at h;split at h
 ·split at h
  ·rename_i h0;cases ht:mH z.length (3,no,x.1,x.2.2.2,oL x.2.1 x.2.2.1) s with
   |error e=>rw[ht]at h;cases h
   |ok s1=>
    rw[ht]at h;simp only at h;cases hv:SV x.2.1 x.2.2.1 (z.drop x.2.2.2.toNat) o with
    |none=>rw[hv]at h;cases h
    |some d=>
     rw[hv]at h;injection h with h;injection h with h1 h2;subst h1 h2;obtain⟨_,_,rfl⟩:=pX ht;refine⟨rfl,aI4 hv,aH5 hv (aRJ hb _),?_,rfl⟩
     have e:wY no [(x.1,x.2.1,x.2.2.1,d)]= [(3,no,x.1,oL x.2.1 x.2.2.1)]:=by
      unfold wY AU;simp[h0]
     rw[e,dL];rfl
  ·rename_i h0;cases hv:inS x o with
   |none=>rw[hv]at h;cases h
   |some d=>
    rw[hv]at h;injection h with h;injection h with h1 h2;subst h1 h2
    have e:wY no [(x.1,x.2.1,x.2.2.1,d.1)]= []:=by
     unfold wY AU;simp[h0]
    unfold inS at hv;split at hv
    ·cases ho:SV x.2.1 x.2.2.1 (kL x.2.2.2 4 o) o with
     |none=>rw[ho]at hv;cases hv
     |some d'=>
      rw[ho]at hv;simp only[fQ,Option.some.injEq]at hv;subst hv;exact⟨rfl,aI4 ho,aH5 ho (vE _ _ _),by rw[e,dM],rfl⟩
    ·cases hv
 ·cases h
theorem aRK (no:Int) (a b:List nC):wY no (a++b)=wY no a++wY no b:=by unfold wY;rw[eF,dL]
theorem a08 {z:List Int} (hb:mW z) {o:Int} {sh:lV} {no:Int}:∀(l:List mK) (acc acc':List nC×St),loopS (stepT z o sh no) l acc= .ok acc'→
  ∃ts:List nC,acc'.1=acc.1++ts∧ts.map (·.1)=(l.filter fun x=> !qQ sh x.1).map (·.1)∧(∀x∈ts,II x=true∧mW x.2.2.2)∧acc'.2.jQ.map uV=acc.2.jQ.map uV++wY no ts∧acc'.2.no=acc.2.no
 | [],acc,acc',h=>by
  unfold loopS at h;injection h with h;subst h;exact⟨[],by simp,rfl,fun x hx=>(by cases hx),by simp[wY],rfl⟩
 |x::l,acc,acc',h=>by
  rw[sG]at h;cases hx:stepT z o sh no acc x with
  |error e=>rw[hx]at h;cases h
  |ok a1=>
   rw[hx]at h;obtain⟨ts,e1,e2,e3,e4,e5⟩:=a08 hb l a1 acc' h;unfold stepT at hx;split at hx
   ·rename_i ho;split at hx
    ·injection hx with hx
     subst hx;exact⟨ts,e1,by rw[dJ (by simp[ho])];exact e2,e3,e4,e5⟩
    ·cases hx
   ·rename_i ho;cases hv:oI z o x no acc.2 with
    |error e=>rw[hv]at hx;cases hx
    |ok q=>
     obtain⟨v,s9⟩:=q;rw[hv]at hx;injection hx with hx;subst hx;obtain⟨v1,v2,v3,v4,v5⟩:=aBF hb hv;refine⟨v::ts,by rw[e1];simp,?_,fun y hy=>?_,?_,e5.trans v5⟩
     ·rw[dY (by simpa using ho),aS,aS,e2,v1]
     ·rcases bQ.1 hy with rfl|hy
      ·exact⟨v2,v3⟩
      ·exact e3 y hy
     ·rw[e4];show s9.jQ.map uV++wY no ts=_
      rw[v4,dB,←aRK];rfl
theorem CK (n:Nat) (s0:St):Keeps n (fun s=>s0.jQ.length≤s.jQ.length):=⟨fun x s s' _ h hp=>by
 obtain⟨_,_,rfl⟩:=pX h;simp only[bO];omega,fun s s' h hp=>by rw[h];exact hp⟩
theorem aFT {z:List Int} {o:Int} {L:List lV} {f:Nat} {p sh:Int} {s:St} {r:jD (f+1)×Int} {s':St} (h:nR z o L (f+1) p sh s= .ok (r,s')):
  ∃l s1 tags s2 subs s3,lM z o p s.no {s with no:=IntKind.i64.wrap (s.no+1)}= .ok (l,s1)∧loopS (stepT z o (L.getD sh.toNat jM) s.no) l ([],s1)= .ok (tags,s2)∧
   (l.filter (fun x=> !kT (L.getD sh.toNat jM) x.1&&nY (L.getD sh.toNat jM) x.1)).length≠1∧loopS (oJ (nR z o L f) (L.getD sh.toNat jM)) l ([],s2)= .ok (subs,s3)∧
   ∃blob,sQ z (L.getD sh.toNat jM) l s.no s3= .ok (blob,s')∧r=((tags,subs,blob),kZ z (p+2+12*l.length) 4 o):=by
 rw[M4]at h;cases hE:lM z o p s.no {s with no:=IntKind.i64.wrap (s.no+1)}with
 |error e=>rw[hE]at h;cases h
 |ok q=>
  obtain⟨l,s1⟩:=q;rw[hE]at h;simp only at h;cases hT:loopS (stepT z o (L.getD sh.toNat jM) s.no) l ([],s1)with
  |error e=>rw[hT]at h;cases h
  |ok q=>
   obtain⟨tags,s2⟩:=q;rw[hT]at h;simp only at h;split at h
   ·cases h
   rename_i hone;cases hD:loopS (oJ (nR z o L f) (L.getD sh.toNat jM)) l ([],s2)with
   |error e=>rw[hD]at h;cases h
   |ok q=>
    obtain⟨subs,s3⟩:=q;rw[hD]at h;simp only at h;cases hB:sQ z (L.getD sh.toNat jM) l s.no s3 with
    |error e=>rw[hB]at h;cases h
    |ok q=>
     obtain⟨blob,s4⟩:=q;rw[hB]at h;injection h with h;injection h with h1 h2;subst h2;exact⟨l,s1,tags,s2,subs,s3,rfl,hT,hone,hD,blob,hB,h1.symm⟩
theorem U8:∀(f:Nat) (d:jD f) (no:Int),(jT f d).length≤(mU f d no).length
 |0,_,_=>by simp[jT]
 |f+1,d,no=>by
  have hS:∀(ss:List (Int×jD f)) (no:Int),(kD f ss).length≤(nA (mU f) ss no).length:=by
   intro ss;induction ss with
   |nil=>intro no;simp[kD,nA]
   |cons s ss ih=>
    intro no;have h1:=U8 f s.2 no;have h2:=ih (no+(jT f s.2).length);have e1:(kD f (s::ss)).length=(jT f s.2).length+(kD f ss).length:=by unfold kD;rw[dO,bO]
    have e2:nA (mU f) (s::ss) no=mU f s.2 no++nA (mU f) ss (no+(jT f s.2).length):=rfl;rw[e1,e2,bO];omega
  have hfl:(jT (f+1) d).length=(kD f d.2.1).length+1:=by rw[lN];rfl
  have:=hS d.2.1 (no+1);rw[hfl,nN,dF,bO,bO];omega
def aY7 (z:List Int) (o:Int) (L:List lV) (f:Nat):Prop:=∀(p sh:Int) (s:St) (r:jD f×Int) (s':St),nR z o L f p sh s= .ok (r,s')→0≤s.no→s.no≤s.jQ.length→s'.jQ.length<4611686018427387904→0≤sh→sh<L.length→
 s'.jQ.map uV=s.jQ.map uV++mU f r.1 s.no∧s'.no=s.no+(jT f r.1).length∧lQ L f r.1 sh=true∧pU f r.1∧lC f r.1
theorem OL {z:List Int} {o:Int} {L:List lV} (hL:l9 L=true) {f:Nat} (ih:aY7 z o L f) {i:Int} (hi0:0≤i) (hi1:i<L.length):∀(l:List mK) (acc acc':List (Int×jD f)×St),loopS (oJ (nR z o L f) (L.getD i.toNat jM)) l acc= .ok acc'→
  0≤acc.2.no→acc.2.no≤acc.2.jQ.length→acc'.2.jQ.length<4611686018427387904→
  ∃us:List (Int×jD f),acc'.1=acc.1++us∧us.map (·.1)=(l.filter fun x=>kT (L.getD i.toNat jM) x.1).map (·.1)∧(∀u∈us,lQ L f u.2 (qH (L.getD i.toNat jM) u.1)=true∧pU f u.2∧lC f u.2)∧
   acc'.2.jQ.map uV=acc.2.jQ.map uV++nA (mU f) us acc.2.no∧acc'.2.no=acc.2.no+(kD f us).length
 | [],acc,acc',h,_,_,_=>by
  unfold loopS at h;injection h with h;subst h;exact⟨[],by simp,rfl,fun x hx=>(by cases hx),by simp[nA],by simp[kD]⟩
 |x::l,acc,acc',h,h0,h1,h2=>by
  rw[sG]at h;cases hx:oJ (nR z o L f) (L.getD i.toNat jM) acc x with
  |error e=>rw[hx]at h;cases h
  |ok a1=>
   rw[hx]at h;simp only at h;have aLT:∀(a:List (Int×jD f)×St) (y:mK) a',oJ (nR z o L f) (L.getD i.toNat jM) a y= .ok a'→a.2.jQ.length≤a'.2.jQ.length:=fun a y a' h=>by
    unfold oJ at h;split at h
    ·cases hr:nR z o L f y.2.2.2 ((L.getD i.toNat jM).1.getD (fst (fun w=>w.1==y.1) (L.getD i.toNat jM).1).toNat (0,0)).2 a.2 with
     |error e=>rw[hr]at h;cases h
     |ok q=>
      obtain⟨⟨d,nx⟩,s9⟩:=q;rw[hr]at h;simp only at h;split at h
      ·injection h with h
       subst h;exact CB (CK z.length a.2) hr (aU _)
      ·cases h
    ·injection h with h
     subst h;exact aU _
   have hm:a1.2.jQ.length≤acc'.2.jQ.length:=sH (P:=fun a:List (Int×jD f)×St=>a1.2.jQ.length≤a.2.jQ.length) (fun a y b h hp=>bK hp (aLT a y b h)) h (aU _);unfold oJ at hx;split at hx
   ·rename_i hlk;cases hr:nR z o L f x.2.2.2 ((L.getD i.toNat jM).1.getD (fst (fun w=>w.1==x.1) (L.getD i.toNat jM).1).toNat (0,0)).2 acc.2 with
    |error e=>rw[hr]at hx;cases hx
    |ok q=>
     obtain⟨⟨d,nx⟩,s9⟩:=q;rw[hr]at hx;simp only at hx;split at hx
     ·injection hx with hx
      subst hx;have hsi:=PO hL (i:=i.toNat) (by omega) hlk;obtain⟨g1,g2,g3,g4,g5⟩:=ih _ _ _ _ _ hr h0 h1 (by show s9.jQ.length<_;exact Nat.lt_of_le_of_lt hm h2) (by have:=hsi.1;unfold qH at this;omega) (by have:=hsi.2;unfold qH at this;omega);have hg1:=congrArg List.length g1;rw[bX,bO,bX]at hg1;have hmd:=U8 f d acc.2.no;simp only at g2 hg1;obtain⟨us,e1,e2,e3,e4,e5⟩:=OL hL ih hi0 hi1 l _ acc' h (by show 0≤s9.no;omega) (by show s9.no≤(s9.jQ.length:Int);omega) h2;refine⟨(x.1,d)::us,by rw[e1];simp,?_,fun u hu=>?_,?_,?_⟩
      ·rw[dY (p:=fun y:mK=>kT (L.getD i.toNat jM) y.1) hlk,aS,aS,e2]
      ·rcases bQ.1 hu with rfl|hu
       ·exact⟨g3,g4,g5⟩
       ·exact e3 u hu
      ·rw[e4];show s9.jQ.map uV++nA (mU f) us s9.no=_
       rw[g1,dB,g2];rfl
      ·have e6:(kD f ((x.1,d)::us)).length=(jT f d).length+(kD f us).length:=by unfold kD;rw[dO,bO]
       rw[e5,e6];show s9.no+_=_
       omega
     ·cases hx
   ·rename_i hlk;injection hx with hx;subst hx;obtain⟨us,e1,e2,e3,e4,e5⟩:=OL hL ih hi0 hi1 l _ acc' h h0 h1 h2;exact⟨us,e1,by rw[dJ (p:=fun y:mK=>kT (L.getD i.toNat jM) y.1) hlk];exact e2,e3,e4,e5⟩
theorem aRL {s:lV}:∀(l:List mK),(l.Pairwise fun x y=>x.1<y.1)→(l.filter fun x=> !kT s x.1&&nY s x.1).length≤2:=by
 intro l hl;have hf:(l.filter fun x=> !kT s x.1&&nY s x.1).Pairwise fun x y=>x.1<y.1:=hl.filter _;have hm:∀x∈l.filter (fun x=> !kT s x.1&&nY s x.1),x.1=s.2.1∨x.1=s.2.2.1:=fun x hx=>by
  have:=(eZ.1 hx).2;simp only[bF]at this;have h2:=this.2;unfold nY at h2;simp only[bF,dG,decide_eq_true_eq]at h2;exact h2.2
 generalize l.filter (fun x=> !kT s x.1&&nY s x.1)=q at*
 match q,hf,hm with
 | [],_,_=>simp
 | [_],_,_=>simp
 | [_,_],_,_=>simp
 |a::b::c::r,hf,hm=>
  obtain⟨h1,h2⟩:=dR.1 hf;obtain⟨h3,_⟩:=dR.1 h2;have ab:=h1 b (by simp);have ac:=h1 c (by simp);have bc:=h3 c (by simp);have ha:=hm a (by simp);have hb:=hm b (by simp);have hc:=hm c (by simp);omega
end Go.Proofs.YtceclmpmpldmlaaGreat
namespace Tt
open Go Go.RowKit
theorem b7M (a b:Nat) (ha:a<18446744073709551616) (hb:b<18446744073709551616):bits .or .u64 (a:Int) (b:Int)=((a|||b:Nat):Int):=by
 have hx:a|||b<2 ^ 64:=Nat.or_lt_two_pow (by omega) (by omega)
 have h1:(BitVec.ofInt 64 (a:Int)).toNat=a:=by rw[BitVec.ofInt_natCast,BitVec.toNat_ofNat];exact fC (by omega)
 have h2:(BitVec.ofInt 64 (b:Int)).toNat=b:=by rw[BitVec.ofInt_natCast,BitVec.toNat_ofNat];exact fC (by omega)
 show IntKind.u64.wrap ((BitVec.ofInt 64 (a:Int)|||BitVec.ofInt 64 (b:Int)).toNat:Int)=_
 rw[BitVec.toNat_or,h1,h2,gI];omega
theorem aI5 (a b:Nat) (ha:a<18446744073709551616) (hb:b<18446744073709551616):bits .and .u64 (a:Int) (b:Int)=((a&&& b:Nat):Int):=by
 have hx:a&&& b<2 ^ 64:=Nat.and_lt_two_pow _ (by omega);have h1:(BitVec.ofInt 64 (a:Int)).toNat=a:=by rw[BitVec.ofInt_natCast,BitVec.toNat_ofNat];exact fC (by omega)
 have h2:(BitVec.ofInt 64 (b:Int)).toNat=b:=by rw[BitVec.ofInt_natCast,BitVec.toNat_ofNat];exact fC (by omega)
 show IntKind.u64.wrap ((BitVec.ofInt 64 (a:Int)&&& BitVec.ofInt 64 (b:Int)).toNat:Int)=_
 rw[BitVec.toNat_and,h1,h2,gI];omega
theorem a3M (n:Nat) (h:n<18446744073709551616):bits .and .u64 (n:Int) 63=((n % 64:Nat):Int):=by
 have h1:=aI5 n 63 h (by decide);have h2:n&&& 63=n % 64:=Nat.and_two_pow_sub_one_eq_mod n 6;rw[h2]at h1;exact h1
theorem DX (p:World→Prop) (w:World) (h:p w):∃(S:Type) (f:S→World),Nonempty S∧(∀s,p (f s))∧∀W,p W→∃s,W=f s:=
 ⟨{W:World // p W},Subtype.val,⟨⟨w,h⟩⟩,fun s=>s.2,fun W h=>⟨⟨W,h⟩,rfl⟩⟩
theorem aRM (n:Nat) (h:n<18446744073709551616):bits .and .u64 (n:Int) 1=((n % 2:Nat):Int):=by
 have h1:=aI5 n 1 h (by decide);have h2:n&&& 1=n % 2:=Nat.and_two_pow_sub_one_eq_mod n 1;rw[h2]at h1;exact h1
end Tt
namespace Go.Proofs.YtceclmpmpldmlaaGreat
open Go.RowKit Tt
def pan (e:Int):List PanicEntry:= [{v:= .iface 208 (.agg #[.int .i64 e]),recovered:=false}]
def aRN (b:Bool) (e:Int):Ending:=if b=true then .returned (.tuple #[])else .panicked (pan e)
theorem kI (b:Bool) (e:Int) (w:World):Calls Tryz.prog 143 #[.bool b,.int .i64 e] w fun x w'=>x=aRN b e∧w=w':=by
 cases b
 ·
  go_enter Tryz.func143,Tryz.ntmps143;go_wp2;exact⟨rfl,rfl,rfl⟩
 ·
  go_enter Tryz.func143,Tryz.ntmps143;go_wp2;refine bodyPost_end (results_none rfl _ _ _) rfl ?_;exact⟨rfl,rfl⟩
def KP (l:List Nat):List Int:=l.map fun(x:Nat)=>(x:Int)
theorem aBG {l:List Nat} {i:Nat} (h:i<l.length):(KP l).getD i 0=((l.getD i 0:Nat):Int):=by
 rw[jI (by simpa [KP] using h),jI h];simp[KP]
theorem aRO (l:List Nat) (i v:Nat):(KP l).set i (v:Int)=KP (l.set i v):=by simp[KP,List.map_set]
def a6X (tk:List Nat) (k:Nat):Bool:=(tk.getD (k / 64) 0).testBit (k % 64)
theorem aRP {tk:List Nat} {k:Nat} (h:k / 64<tk.length) (j:Nat):a6X (tk.set (k / 64) ((tk.getD (k / 64) 0)|||2 ^ (k % 64))) j=(a6X tk j||decide (j=k)):=by
 unfold a6X;by_cases hj:j / 64=k / 64
 ·rw[hj,aV,List.getElem?_set_self h];simp only[Option.getD_some,Nat.testBit_or,Nat.testBit_two_pow];rw[eP];simp only[dG,decide_eq_true_eq];constructor <;> (rintro(h1|h1) <;> first|exact .inl h1|exact .inr (by omega))
 ·rw[aV,List.getElem?_set_ne (by omega),←aV];rw[decide_eq_false (show ¬j=k by rintro rfl;exact hj rfl),Bool.or_false]
structure WkS where
 w0:World
 a:Option Addr
 n:Nat
 c:Nat
 z:List Int
 o:Int
 sa:Option Addr
 sn:Nat
 sc:Nat
 zs:List VQ
 g:Nat
 gt:Nat
 tn:Nat
structure WkT (K:WkS):Prop where
 hs:Sl K.w0 K.a K.n K.c 1 (ints .u8 K.z)
 hsh:ShR K.w0 K.sa K.sn K.sc K.zs
 SI:mW K.z
 n1:K.n≤1000000000
 tn:K.tn=K.n / 64+1
 gB:K.w0.heap.size≤K.g
 gtB:K.w0.heap.size≤K.gt
 ne:K.g≠K.gt
structure vL (K:WkS) (s:St) (sv:Value) (tk:List Nat) (w:World):Prop where
 old:Below K.w0.heap.size K.w0 w
 blk:jJ w K.g 148 #[.slice K.a K.n K.c,.int .i64 K.o,.slice K.sa K.sn K.sc,.slice (some ⟨K.gt,0,none⟩) K.tn K.tn,sv,.int .i64 s.no,.int .i64 s.wS]
 tak:Row w K.gt 214 .u64 (KP tk)
 tkl:tk.length=K.tn
 tkb:∀x∈tk,x<18446744073709551616
 bits:∀k,k<K.n→a6X tk k=lD s k
 spot:w.ownsRow K.w0.heap.size 50 5 sv s.jQ.length (fl spC s.jQ)
 sg:sv.ownBlock≠some K.g
 sgt:sv.ownBlock≠some K.gt
theorem vL.later {K:WkS} {s:St} {sv:Value} {tk:List Nat} {w w':World} (h:vL K s sv tk w) (hb:Below w.heap.size w w'):vL K s sv tk w':=
 ⟨h.old.tm hb,h.blk.late hb,jJ.late (T:=214) h.tak hb,h.tkl,h.tkb,h.bits,jY h.spot hb,h.sg,h.sgt⟩
theorem vL.WL {K:WkS} {s:St} {sv:Value} {tk:List Nat} {w:World} (h:vL K s sv tk w) (t:WkT K):Sl w K.a K.n K.c 1 (ints .u8 K.z):=t.hs.mono h.old
theorem vL.jN {K:WkS} {s:St} {sv:Value} {tk:List Nat} {w:World} (h:vL K s sv tk w) (t:WkT K):ShR w K.sa K.sn K.sc K.zs:=t.hsh.mono h.old
theorem b7N (g gt tn:Nat) (cs:Array Value) (T:TypeId) (tk:List Nat) (k:Nat) (w:World) (hb:jJ w g T cs) (hc:cs[3]? =some (.slice (some ⟨gt,0,none⟩) tn tn)) (hr:Row w gt 214 .u64 (KP tk)) (hl:tk.length=tn) (ht:∀x∈tk,x<18446744073709551616) (hk:k / 64<tn) (hk2:k≤4611686018427387904):
  Calls Tryz.prog 86 #[.pointer (some ⟨g,0,none⟩),.int .i64 k] w fun e w'=>e= .returned (.bool (a6X tk k))∧w=w':=by
 have c3:w.cell? ⟨g,3,none⟩=some (.slice (some ⟨gt,0,none⟩) tn tn):=hb.cell hc;obtain⟨q,hq⟩:=aC (k / 64);obtain⟨r,hr2⟩:=aC (k % 64);have hqi:(k:Int) / 64=q:=by omega
 have f0:=hr.cell (i:=q) (by simp[KP,hl];omega);rw[aBG (by omega)]at f0;obtain⟨x,hx⟩:=aC (tk.getD q 0);rw[hx]at f0;have aLU:x<18446744073709551616:=by
  rw[←hx,jI (show q<tk.length by omega)];exact ht _ (bL _)
 have hbit:a6X tk k=((((x / 2 ^ r) % 2:Nat):Int)==1):=by
  unfold a6X;rw[hq,hr2,hx,Nat.testBit_eq_decide_div_mod_eq];generalize x / 2 ^ r=y;rw[eP,beq_iff_eq,decide_eq_true_eq];omega
 rw[hbit];have h1:bits .and .u64 (k:Int) 63=(r:Int):=by rw[a3M k (by omega),hr2]
 have h2:IntKind.u64.wrap (k:Int)=k:=by rw[gI];omega
 have h3:(x:Int) / 2 ^ r=((x / 2 ^ r:Nat):Int):=by simp
 have hrr:r≤64:=by omega
 have h4:bits .and .u64 ((x / 2 ^ r:Nat):Int) 1=(((x / 2 ^ r) % 2:Nat):Int):=aRM _ (Nat.lt_of_le_of_lt (Nat.div_le_self _ _) aLU);have hqn:(q:Int)<tn:=by omega
 generalize (x / 2 ^ r)=y at*;clear hbit hx hr hb ht;go_enter Tryz.func86,Tryz.ntmps86;go_wp2;go_ret;exact⟨rfl,rfl⟩
