import Derived.Test.YtceclmpmpldmlaaGreatCz19
set_option linter.unusedSimpArgs false
set_option linter.unusedVariables false
namespace Go.Proofs.YtceclmpmpldmlaaGreat
open Go.RowKit Tt
theorem sH {α σ:Type} {step:σ→α→Except Int σ} {P:σ→Prop} (hs:∀s x s',step s x= .ok s'→P s→P s'):∀{l:List α} {s s':σ},loopS step l s= .ok s'→P s→P s'
 | [],s,s',h,hp=>by
  injection h with h;subst h;exact hp
 |x::r,s,s',h,hp=>by
  rw[sG]at h;cases hx:step s x with
  |error e=>rw[hx]at h;cases h
  |ok s1=>
   rw[hx]at h;exact sH hs h (hs _ _ _ hx hp)
structure Keeps (n:Nat) (P:St→Prop):Prop where
 take:∀x s s',1≤x.2.2.2.2→mH n x s= .ok s'→P s→P s'
 free:∀s s',s'.jQ=s.jQ→P s→P s'
section
variable {z:List Int} {P:St→Prop} (hP:Keeps z.length P)
include hP
theorem Z7 {o p no:Int} {s:St} {l:List mK} {s':St} (h:lM z o p no s= .ok (l,s')) (hi:P s):P s':=by
 unfold lM at h;split at h
 ·split at h
  ·rename_i h0;cases ht:mH z.length (2,no,0,p,6+12*kZ z p 2 o) s with
   |error e=>rw[ht]at h;cases h
   |ok s1=>
    rw[ht]at h;simp only at h;split at h
    ·injection h with h
     injection h with h1 h2;subst h2;exact hP.take _ _ _ (by show 1≤6+12*kZ z p 2 o;omega) ht hi
    ·cases h
  ·cases h
 ·cases h
theorem a5W {o:Int} {x:mK} {no:Int} {s:St} {v:nC} {s':St} (h:oI z o x no s= .ok (v,s')) (hi:P s):P s':=by
 unfold oI at h;split at h
 ·split at h
  ·rename_i h0;cases ht:mH z.length (3,no,x.1,x.2.2.2,oL x.2.1 x.2.2.1) s with
   |error e=>rw[ht]at h;cases h
   |ok s1=>
    rw[ht]at h;simp only at h;cases hv:SV x.2.1 x.2.2.1 (z.drop x.2.2.2.toNat) o with
    |none=>rw[hv]at h;cases h
    |some d=>
     rw[hv]at h;injection h with h;injection h with h1 h2;subst h2;exact hP.take _ _ _ (by show 1≤oL x.2.1 x.2.2.1;omega) ht hi
  ·cases hv:inS x o with
   |none=>rw[hv]at h;cases h
   |some d=>
    rw[hv]at h;injection h with h;injection h with h1 h2;subst h2;exact hP.free s _ rfl hi
 ·cases h
theorem DU {o:Int} {sh:lV} {no:Int} {acc acc':List nC×St} {x:mK} (h:stepT z o sh no acc x= .ok acc') (hi:P acc.2):P acc'.2:=by
 unfold stepT at h;split at h
 ·split at h
  ·injection h with h
   subst h;exact hi
  ·cases h
 ·cases hv:oI z o x no acc.2 with
  |error e=>rw[hv]at h;cases h
  |ok r=>
   obtain⟨v,s'⟩:=r;rw[hv]at h;injection h with h;subst h;exact a5W hP hv hi
theorem JW {sh:lV} {l:List mK} {no:Int} {s:St} {b:List Int} {s':St} (h:sQ z sh l no s= .ok (b,s')) (hi:P s):P s':=by
 unfold sQ at h;split at h
 ·split at h
  ·rename_i x y _ h0;cases ht:mH z.length (4,no,0,x.2.2.2,y.2.2.2) s with
   |error e=>rw[ht]at h;cases h
   |ok s1=>
    rw[ht]at h;injection h with h;injection h with h1 h2;subst h2;exact hP.take _ _ _ (by show 1≤y.2.2.2;omega) ht hi
  ·cases h
 ·injection h with h
  injection h with h1 h2;subst h2;exact hi
theorem CB {o:Int} {L:List lV}:∀{f:Nat} {p sh:Int} {s:St} {r:jD f×Int} {s':St},nR z o L f p sh s= .ok (r,s')→P s→P s'
 |0,_,_,_,_,_,h,_=>by cases h
 |f+1,p,sh,s,r,s',h,hi=>by
  rw[M4]at h;cases hE:lM z o p s.no {s with no:=IntKind.i64.wrap (s.no+1)}with
  |error e=>rw[hE]at h;cases h
  |ok q=>
   obtain⟨l,s1⟩:=q;rw[hE]at h;simp only at h;have i1:=Z7 hP hE (hP.free s _ rfl hi);cases hT:loopS (stepT z o (L.getD sh.toNat jM) s.no) l ([],s1)with
   |error e=>rw[hT]at h;cases h
   |ok q=>
    obtain⟨tags,s2⟩:=q;rw[hT]at h;simp only at h;have i2:P s2:=sH (P:=fun a:List nC×St=>P a.2) (fun _ _ _ h hp=>DU hP h hp) hT i1;split at h
    ·cases h
    cases hD:loopS (oJ (nR z o L f) (L.getD sh.toNat jM)) l ([],s2)with
    |error e=>rw[hD]at h;cases h
    |ok q=>
     obtain⟨subs,s3⟩:=q;rw[hD]at h;simp only at h;have i3:P s3:=sH (P:=fun a:List (Int×jD f)×St=>P a.2) (fun acc x acc' h hp=>by
      unfold oJ at h;split at h
      ·cases hr:nR z o L f x.2.2.2 ((L.getD sh.toNat jM).1.getD (fst (fun y=>y.1==x.1) (L.getD sh.toNat jM).1).toNat (0,0)).2 acc.2 with
       |error e=>rw[hr]at h;cases h
       |ok q=>
        obtain⟨⟨d,nx⟩,s9⟩:=q;rw[hr]at h;simp only at h;split at h
        ·injection h with h
         subst h;exact CB hr hp
        ·cases h
      ·injection h with h
       subst h;exact hp) hD i2
     cases hB:sQ z (L.getD sh.toNat jM) l s.no s3 with
     |error e=>rw[hB]at h;cases h
     |ok q=>
      obtain⟨blob,s4⟩:=q;rw[hB]at h;injection h with h;injection h with h1 h2;subst h2;exact JW hP hB i3
theorem xA {o:Int} {L:List lV} {g:Nat}:∀{n:Nat} {acc:List (jD g)} {p sh:Int} {s:St} {r:List (jD g)} {s':St},wZ z o L g n acc p sh s= .ok (r,s')→P s→P s'
 |0,_,_,_,_,_,_,h,_=>by cases h
 |n+1,acc,p,sh,s,r,s',h,hi=>by
  unfold wZ at h;split at h
  ·split at h
   ·cases hr:nR z o L g p sh s with
    |error e=>rw[hr]at h;cases h
    |ok q=>
     obtain⟨⟨d,nx⟩,s9⟩:=q;rw[hr]at h;exact xA h (CB hP hr hi)
   ·cases h
  ·injection h with h
   injection h with h1 h2;subst h2;exact hi
theorem yU {L:List lV} {g:Nat} {r:List (jD g)} {s':St} (h:C9 z L g= .ok (r,s')) (h0:P ⟨[],0,0⟩):P s':=by
 unfold C9 at h;split at h
 ·cases hh:u7 z with
  |error e=>rw[hh]at h;cases h
  |ok s=>
   rw[hh]at h;refine xA hP h ?_;unfold u7 at hh;split at hh
   ·split at hh
    ·exact hP.take _ _ _ (by decide) hh h0
    ·cases hh
   ·cases hh
 ·cases h
end
theorem pX {n:Nat} {x:lK} {s s':St} (h:mH n x s= .ok s'):PE n x=true∧JC s x.2.2.2.1 x.2.2.2.2.toNat=true∧s'={s with jQ:=s.jQ++ [x]}:=by
 unfold mH at h;split at h
 ·rename_i h1;split at h
  ·rename_i h2;injection h with h;exact⟨h1,h2,h.symm⟩
  ·cases h
 ·cases h
def vI (s S:St):Prop:=∀k:Nat,lD s k=true→lD S k=true
theorem vI.refl (s:St):vI s s:=fun _ h=>h
theorem vI.trans {a b c:St} (h:vI a b) (h2:vI b c):vI a c:=fun k hk=>h2 k (h k hk)
theorem a2Z {s s':St} (h:s'.jQ=s.jQ) (k:Int):lD s' k=lD s k:=by unfold lD;rw[h]
theorem BG (n:Nat) (s0:St):Keeps n (vI s0):=⟨fun x s s' _ h hp k hk=>by
 obtain⟨_,_,rfl⟩:=pX h;have h2:=hp k hk;unfold lD at h2 ⊢;rw[List.any_append,h2];rfl,fun s s' h hp k hk=>by rw[a2Z h];exact hp k hk⟩
def Ag (z z2:List Int) (S:St):Prop:=z.length≤z2.length∧∀k:Nat,k<z.length→lD S k=true→z2.getD k 0=z.getD k 0
theorem GU {n n2:Nat} (hn:n≤n2) {x:lK} {s s':St} (h:mH n x s= .ok s'):mH n2 x s= .ok s':=by
 obtain⟨h1,h2,rfl⟩:=pX h;unfold mH;have hf:PE n2 x=true:=by
  unfold PE vX at h1 ⊢;simp only[bF,decide_eq_true_eq]at h1 ⊢;omega
 rw[if_pos hf,if_pos h2]
theorem O9 {z z2:List Int} {S:St} (hA:Ag z z2 S) {p n:Nat} (hl:p+n≤z.length) (ht:∀k:Nat,p≤k→k<p+n→lD S k=true):(z2.drop p).take n=(z.drop p).take n:=by
 have hz:=hA.1;refine AZ (by simp;omega) fun k hk=>?_;have hk2:k<n:=by simp at hk;omega
 have:=hA.2 (p+k) (by omega) (ht (p+k) (by omega) (by omega));simp only[aV,dI,eT]at this ⊢;rw[if_pos hk2,if_pos hk2,this]
theorem wC {z z2:List Int} {S:St} (hA:Ag z z2 S) {p s o:Int} (hs:s=1∨s=2∨s=4) (ho:o=1∨o=2) (h0:0≤p) (hl:p+s≤z.length) (ht:∀k:Nat,p≤k→(k:Int)<p+s→lD S k=true):kZ z2 p s o=kZ z p s o:=by
 have hz:=hA.1;rw[LY hs ho h0 hl,LY hs ho h0 (by omega)];unfold NJ;rw[O9 hA (p:=p.toNat) (n:=s.toNat) (by omega) fun k a b=>ht k (by omega) (by omega)]
theorem vS {s:St} {x:lK} (h:x∈s.jQ) (k:Nat) (h1:x.2.2.2.1≤k) (h2:(k:Int)<x.2.2.2.1+x.2.2.2.2):lD s k=true:=by
 unfold lD;rw[List.any_eq_true];refine⟨x,h,?_⟩;unfold SY;simp only[bF,decide_eq_true_eq];exact⟨h1,h2⟩
theorem JX {n:Nat} {x:lK} (h:PE n x=true):x.2.2.2.1 % 2=0∧0≤x.2.2.2.1∧0≤x.2.2.2.2∧x.2.2.2.1+x.2.2.2.2≤n:=by
 unfold PE vX at h;simp only[bF,decide_eq_true_eq]at h;omega
section
variable {z z2:List Int}
theorem aEM {S:St} (hA:Ag z z2 S) {o p:Int} (ho:o=1∨o=2) (h0:0≤p) (hl:p+12≤z.length) (ht:∀k:Nat,p≤k→(k:Int)<p+12→lD S k=true):J9 z2 o p=J9 z o p:=by
 unfold J9;rw[wC hA (by decide) ho h0 (by omega) (fun k a b=>ht k (by omega) (by omega)),wC hA (by decide) ho (by omega) (by omega) (fun k a b=>ht k (by omega) (by omega)),wC hA (by decide) ho (by omega) (by omega) (fun k a b=>ht k (by omega) (by omega)),wC hA (by decide) ho (by omega) (by omega) (fun k a b=>ht k (by omega) (by omega))]
theorem Z8 {o p no:Int} (ho:o=1∨o=2) {s:St} {l:List mK} {s':St} (h:lM z o p no s= .ok (l,s')) {S:St} (hS:vI s' S) (hA:Ag z z2 S):lM z2 o p no s= .ok (l,s')∧kZ z2 (p+2+12*l.length) 4 o=kZ z (p+2+12*l.length) 4 o:=by
 have hz:=hA.1;unfold lM at h ⊢;split at h
 ·rename_i hc;split at h
  ·rename_i h0;cases ht:mH z.length (2,no,0,p,6+12*kZ z p 2 o) s with
   |error e=>rw[ht]at h;cases h
   |ok s1=>
    rw[ht]at h;simp only at h;split at h
    ·rename_i hr;injection h with h;injection h with h1 h2;subst h1 h2;obtain⟨hf,_,hs1⟩:=pX ht;have hf:=JX hf;simp only at hf;have htk:∀k:Nat,p≤k→(k:Int)<p+(6+12*kZ z p 2 o)→lD S k=true:=fun k a b=>hS k (vS (x:=(2,no,0,p,6+12*kZ z p 2 o)) (by rw[hs1];simp) k a b);have hg:kZ z2 p 2 o=kZ z p 2 o:=wC hA (by decide) ho (by omega) (by omega) fun k a b=>htk k a (by omega)
     have hc2:(decide (p % 2=0)&&vX p 2 z2.length)=true:=by
      unfold vX at hc ⊢;simp only[bF,decide_eq_true_eq]at hc ⊢;omega
     have he:uU z2 o p (kZ z p 2 o).toNat=uU z o p (kZ z p 2 o).toNat:=by
      unfold uU;refine List.map_congr_left fun i hi=>?_;have hi:=bW.1 hi;exact aEM hA ho (by omega) (by omega) fun k a b=>htk k (by omega) (by omega)
     rw[if_pos hc2,hg,if_pos h0,GU hz ht,he];simp only;rw[if_pos hr];refine⟨rfl,?_⟩;have hlen:(uU z o p (kZ z p 2 o).toNat).length=(kZ z p 2 o).toNat:=by unfold uU;simp
     rw[hlen];exact wC hA (by decide) ho (by omega) (by omega) fun k a b=>htk k (by omega) (by omega)
    ·cases h
  ·cases h
 ·cases h
theorem aPA {y c:Int} {b b2 d:List Int} {o:Int} (h:SV y c b o=some d) (hl:b.length≤b2.length) (ht:b2.take (c*(kH y).1).toNat=b.take (c*(kH y).1).toNat):SV y c b2 o=some d:=by
 unfold SV at h ⊢;split at h
 ·cases h
 ·rename_i h1;rw[if_neg (by omega),ht];exact h
theorem a5X {o:Int} (ho:o=1∨o=2) {x:mK} {no:Int} {s:St} {v:nC} {s':St} (h:oI z o x no s= .ok (v,s')) {S:St} (hS:vI s' S) (hA:Ag z z2 S):oI z2 o x no s= .ok (v,s'):=by
 have hz:=hA.1;unfold oI at h ⊢;split at h
 ·rename_i hc;rw[if_pos hc];split at h
  ·rename_i h0;rw[if_pos h0];cases ht:mH z.length (3,no,x.1,x.2.2.2,oL x.2.1 x.2.2.1) s with
   |error e=>rw[ht]at h;cases h
   |ok s1=>
    rw[ht]at h;rw[GU hz ht];simp only at h ⊢;cases hv:SV x.2.1 x.2.2.1 (z.drop x.2.2.2.toNat) o with
    |none=>rw[hv]at h;cases h
    |some d=>
     rw[hv]at h;simp only at h;have h':=h;injection h with h;injection h with h1 h2;obtain⟨hf,_,hs1⟩:=pX ht;have hf:=JX hf;simp only at hf
     have hlo:oL x.2.1 x.2.2.1=x.2.2.1*(kH x.2.1).1:=by
      unfold oL at h0 ⊢;split at h0
      ·rename_i h4;rw[if_pos h4];unfold zY;rw[if_neg (by omega)]
      ·omega
     rw[←h2]at hS;have:=aPA (b2:=z2.drop x.2.2.2.toNat) hv (by rw[fH,fH];omega) (by
      rw[←hlo];exact O9 hA (by omega) fun k a b=>hS k (vS (x:=(3,no,x.1,x.2.2.2,oL x.2.1 x.2.2.1)) (by rw[hs1];simp) k (by show x.2.2.2≤k;omega) (by show(k:Int)<x.2.2.2+oL x.2.1 x.2.2.1;omega)))
     rw[this];exact h'
  ·rename_i h0;rw[if_neg h0];exact h
 ·cases h
theorem aAE {o:Int} (ho:o=1∨o=2) {sh:lV} {no:Int} {acc acc':List nC×St} {x:mK} (h:stepT z o sh no acc x= .ok acc') {S:St} (hS:vI acc'.2 S) (hA:Ag z z2 S):stepT z2 o sh no acc x= .ok acc':=by
 unfold stepT at h ⊢;split at h
 ·rename_i hc;rw[if_pos hc];exact h
 ·rename_i hc;rw[if_neg hc];cases hv:oI z o x no acc.2 with
  |error e=>rw[hv]at h;cases h
  |ok r=>
   obtain⟨v,s'⟩:=r;rw[hv]at h;injection h with h;subst h;rw[a5X ho hv hS hA]
theorem OA {α β:Type} {step step2:β×St→α→Except Int (β×St)} (hm:∀s x s',step s x= .ok s'→vI s.2 s'.2) {S:St} (hl:∀s x s',step s x= .ok s'→vI s'.2 S→step2 s x= .ok s'):∀(l:List α) (s s':β×St),loopS step l s= .ok s'→vI s'.2 S→loopS step2 l s= .ok s'
 | [],_,_,h,_=>h
 |x::l,s,s',h,hS=>by
  rw[sG]at h ⊢;cases hx:step s x with
  |error e=>rw[hx]at h;cases h
  |ok s1=>
   rw[hx]at h;simp only at h;have hs1:vI s1.2 s'.2:=sH (P:=fun a:β×St=>vI s1.2 a.2) (fun a y b h hp=>hp.trans (hm a y b h)) h (vI.refl _);rw[hl s x s1 hx (hs1.trans hS)];exact OA hm hl l s1 s' h hS
theorem aAF {sh:lV} {l:List mK} {no:Int} {s:St} {b:List Int} {s':St} (h:sQ z sh l no s= .ok (b,s')) {S:St} (hS:vI s' S) (hA:Ag z z2 S):sQ z2 sh l no s= .ok (b,s'):=by
 have hz:=hA.1;unfold sQ at h ⊢;split at h
 ·rename_i x y heq;split at h
  ·rename_i h0;cases ht:mH z.length (4,no,0,x.2.2.2,y.2.2.2) s with
   |error e=>rw[ht]at h;cases h
   |ok s1=>
    rw[ht]at h;rw[if_pos h0,GU hz ht];obtain⟨hf,_,hs1⟩:=pX ht;have hf:=JX hf;simp only at hf;have h':=h;injection h with h;injection h with h1 h2;rw[←h2]at hS;simp only;rw[O9 hA (p:=x.2.2.2.toNat) (n:=y.2.2.2.toNat) (by omega) fun k a b=>hS k (vS (x:=(4,no,0,x.2.2.2,y.2.2.2)) (by rw[hs1];simp) k (by show x.2.2.2≤k;omega) (by show(k:Int)<x.2.2.2+y.2.2.2;omega))];exact h'
  ·cases h
 ·exact h
theorem Z9 {o:Int} (ho:o=1∨o=2) {L:List lV}:∀{f:Nat} {p sh:Int} {s:St} {r:jD f×Int} {s':St},nR z o L f p sh s= .ok (r,s')→∀{S:St},vI s' S→Ag z z2 S→nR z2 o L f p sh s= .ok (r,s')
 |0,_,_,_,_,_,h,_,_,_=>by cases h
 |f+1,p,sh,s,r,s',h,S,hS,hA=>by
  rw[M4]at h ⊢;cases hE:lM z o p s.no {s with no:=IntKind.i64.wrap (s.no+1)}with
  |error e=>rw[hE]at h;cases h
  |ok q=>
   obtain⟨l,s1⟩:=q;rw[hE]at h;simp only at h;cases hT:loopS (stepT z o (L.getD sh.toNat jM) s.no) l ([],s1)with
   |error e=>rw[hT]at h;cases h
   |ok q=>
    obtain⟨tags,s2⟩:=q;rw[hT]at h;simp only at h;split at h
    ·cases h
    rename_i hone;cases hD:loopS (oJ (nR z o L f) (L.getD sh.toNat jM)) l ([],s2)with
    |error e=>rw[hD]at h;cases h
    |ok q=>
     obtain⟨subs,s3⟩:=q;rw[hD]at h;simp only at h;cases hB:sQ z (L.getD sh.toNat jM) l s.no s3 with
     |error e=>rw[hB]at h;cases h
     |ok q=>
      obtain⟨blob,s4⟩:=q;rw[hB]at h;have h':=h;injection h with h;injection h with h1 h2;subst h2
      have a3A:∀(a:List (Int×jD f)×St) x a',oJ (nR z o L f) (L.getD sh.toNat jM) a x= .ok a'→vI a.2 a'.2:=fun acc x acc' h=>by
       unfold oJ at h;split at h
       ·cases hr:nR z o L f x.2.2.2 ((L.getD sh.toNat jM).1.getD (fst (fun y=>y.1==x.1) (L.getD sh.toNat jM).1).toNat (0,0)).2 acc.2 with
        |error e=>rw[hr]at h;cases h
        |ok q=>
         obtain⟨⟨d,nx⟩,s9⟩:=q;rw[hr]at h;simp only at h;split at h
         ·injection h with h
          subst h;exact CB (BG z.length acc.2) hr (vI.refl _)
         ·cases h
       ·injection h with h
        subst h;exact vI.refl _
      have u3:vI s3 s4:=JW (BG z.length s3) hB (vI.refl _);have u2:vI s2 s3:=sH (P:=fun a:List (Int×jD f)×St=>vI s2 a.2) (fun a y b h hp=>hp.trans (a3A a y b h)) hD (vI.refl _);have u1:vI s1 s2:=sH (P:=fun a:List nC×St=>vI s1 a.2) (fun a y b h hp=>DU (BG z.length s1) h hp) hT (vI.refl _);obtain⟨e1,e2⟩:=Z8 ho hE (((u1.trans u2).trans u3).trans hS) hA;rw[e1];simp only;rw[OA (step2:=stepT z2 o (L.getD sh.toNat jM) s.no) (fun a y b h=>DU (BG z.length a.2) h (vI.refl _)) (fun a y b h hs=>aAE ho h hs hA) l _ _ hT ((u2.trans u3).trans hS)];simp only;rw[if_neg hone];rw[OA (step2:=oJ (nR z2 o L f) (L.getD sh.toNat jM)) a3A (fun acc x acc' h hs=>by
       unfold oJ at h ⊢;split at h
       ·rename_i hlk;rw[if_pos hlk];cases hr:nR z o L f x.2.2.2 ((L.getD sh.toNat jM).1.getD (fst (fun y=>y.1==x.1) (L.getD sh.toNat jM).1).toNat (0,0)).2 acc.2 with
        |error e=>rw[hr]at h;cases h
        |ok q=>
         obtain⟨⟨d,nx⟩,s9⟩:=q;rw[hr]at h;simp only at h;split at h
         ·rename_i hnx;have h':=h;injection h with h;subst h;rw[Z9 ho hr hs hA];simp only;rw[if_pos hnx]
         ·cases h
       ·rename_i hlk;rw[if_neg hlk];exact h) l _ _ hD (u3.trans hS)]
      simp only;rw[aAF hB hS hA];simp only;rw[e2];exact h'
theorem QU {o:Int} (ho:o=1∨o=2) {L:List lV} {g:Nat}:∀{n:Nat} {acc:List (jD g)} {p sh:Int} {s:St} {r:List (jD g)} {s':St},wZ z o L g n acc p sh s= .ok (r,s')→Ag z z2 s'→wZ z2 o L g n acc p sh s= .ok (r,s')
 |0,_,_,_,_,_,_,h,_=>by cases h
 |n+1,acc,p,sh,s,r,s',h,hA=>by
  unfold wZ at h ⊢;split at h
  ·rename_i hc;rw[if_pos hc];split at h
   ·rename_i hs;rw[if_pos hs];cases hr:nR z o L g p sh s with
    |error e=>rw[hr]at h;cases h
    |ok q=>
     obtain⟨⟨d,nx⟩,s9⟩:=q;rw[hr]at h;simp only at h;rw[Z9 ho hr (xA (BG z.length s9) h (vI.refl _)) hA];exact QU ho h hA
   ·cases h
  ·rename_i hc;rw[if_neg hc];exact h
theorem GV (z:List Int):kN z=0∨kN z=1∨kN z=2:=by
 unfold kN;split
 ·exact .inr (.inl rfl)
 ·split
  ·exact .inr (.inr rfl)
  ·exact .inl rfl
theorem aAG {L:List lV} {g:Nat} {r:List (jD g)} {s':St} (h:C9 z L g= .ok (r,s')) (hA:Ag z z2 s'):C9 z2 L g= .ok (r,s')∧kN z2=kN z:=by
 have hz:=hA.1;unfold C9 at h;split at h
 ·rename_i hL;cases hh:u7 z with
  |error e=>rw[hh]at h;cases h
  |ok s=>
   rw[hh]at h;simp only at h;have hs:=xA (BG z.length s) h (vI.refl _);have hh':=hh;unfold u7 at hh;split at hh
   ·rename_i h8;split at hh
    ·rename_i Z6;obtain⟨hf,_,hs1⟩:=pX hh;have htk:∀k:Nat,k<8→lD s' k=true:=fun k a=>hs k (vS (x:=(1, -1,0,0,8)) (by rw[hs1];simp) k (by show(0:Int)≤k;omega) (by show(k:Int)<0+8;omega));have uN:kN z2=kN z:=by
      unfold kN;rw[hA.2 0 (by omega) (htk 0 (by omega)),hA.2 1 (by omega) (htk 1 (by omega))]
     have ho:kN z=1∨kN z=2:=by
      rcases GV z with e|e
      ·rw[e]at Z6;omega
      ·exact e
     have g2:kZ z2 2 2 (kN z)=kZ z 2 2 (kN z):=wC hA (by decide) ho (by decide) (by omega) fun k a b=>htk k (by omega);have g4:kZ z2 4 4 (kN z)=kZ z 4 4 (kN z):=wC hA (by decide) ho (by decide) (by omega) fun k a b=>htk k (by omega);have hh2:u7 z2= .ok s:=by
      unfold u7;rw[if_pos (by omega),uN,g2,if_pos Z6];exact GU hz hh
     refine⟨?_,uN⟩;unfold C9;rw[if_pos hL,hh2,uN,g4];exact QU ho h hA
    ·cases hh
   ·cases hh
 ·cases h
end
theorem V5 {f:Nat} {o:Int} {ds:List (jD f)} {L:List lV} (h:mJ f o ds L=0) (hb:∀d∈ds,pU f d):kN (uG f o ds L)=o∧C9 (uG f o ds L) L f=C9 (uG f o ds L) L f:=by
 have hH:=aHN h hb 0;rw[List.replicate_zero,dM]at hH;have h2:=(pW h).2.1;have h8:=QK f ds;have hlen:=hH.len;have hsg:=hH.std (0,A9 o) (bJ ..);simp only[BF,gG]at hsg;refine⟨?_,rfl⟩
 match uG f o ds L,hsg.2,hlen with
 | [],_,hl=>simp at hl;omega
 | [x],hh,_=>have:=congrArg List.length hh;simp[BF]at this
 |x::y::r,hh,_=>
  unfold A9 at hh;unfold kN;rcases h2 with rfl|rfl
  ·rw[if_neg (by decide)]at hh;obtain⟨rfl,rfl⟩:x=73∧y=73:=by simpa using hh
   rfl
  ·rw[if_pos rfl]at hh;obtain⟨rfl,rfl⟩:x=77∧y=77:=by simpa using hh
   rfl
theorem ZA {f:Nat} {o:Int} {ds:List (jD f)} {L:List lV} (h:mJ f o ds L=0) (hb:∀d∈ds,pU f d) (hN:(lX f ds).length<1000000):C9 (uG f o ds L) L f= .ok (ds,⟨jV f ds,noT f ds ds.length,0⟩):=by
 have hH:=aHN h hb 0;rw[List.replicate_zero,dM]at hH;exact aKW h hb hH hN
theorem aKX (z e:List Int) (S:St):Ag z (z++e) S:=⟨by simp,fun k hk _=>by
 rw[aV,fV hk,←aV]⟩
section
variable {o:Int} {ds:List (jD 16)} {L:List lV} (h:mJ 16 o ds L=0) (hb:∀d∈ds,pU 16 d) (hN:(lX 16 ds).length<1000000)
include h hb hN
theorem aKY (m:Nat):qF (uG 16 o ds L++List.replicate m 0) L= .ok (ds,⟨jV 16 ds,noT 16 ds ds.length,0⟩)∧kN (uG 16 o ds L++List.replicate m 0)=o:=by
 have h1:=ZA h hb hN;have h2:=aAG h1 (aKX _ (List.replicate m 0) _);rw[←QT];exact⟨h2.1,h2.2.trans (V5 h hb).1⟩
omit hN in
theorem aKZ {k:Nat} (hk:k<(uG 16 o ds L).length) (ht:∀s∈jV 16 ds,¬(s.2.2.2.1≤k∧(k:Int)<s.2.2.2.1+s.2.2.2.2)):(uG 16 o ds L).getD k 0=0:=by
 rw[QS h hb,WW _ _ k (by simp only[List.length_replicate];exact FD h hb) fun q hq=>?_]
 ·rw[aV,List.getElem?_replicate];split <;> rfl
 ·obtain⟨s,s1,_,s2,s3⟩:=(QO h hb).2 q hq;have:=ht s s1;omega
theorem aEN (m:Nat):aDI (uG 16 o ds L++List.replicate m 0) L=true:=by
 unfold aDI;rw[(aKY h hb hN m).1];simp only[bF,decide_eq_true_eq];refine⟨by decide,?_⟩;rw[cZ];intro k hk;simp only[dG,decide_eq_true_eq];by_cases hkw:k<(uG 16 o ds L).length
 ·by_cases ht:lD ⟨jV 16 ds,noT 16 ds ds.length,0⟩ k=true
  ·exact .inr ht
  ·refine .inl ?_;rw[aV,fV hkw,←aV];exact aKZ h hb hkw fun s hs hc=>ht (vS (s:=⟨jV 16 ds,noT 16 ds ds.length,0⟩) hs k hc.1 hc.2)
 ·refine .inl ?_;rw[aV,iB (by omega),List.getElem?_replicate];split <;> rfl
end
