/- Texts WrSpec GvSpec KdT KdU KdV. -/
import Derived.Test.YtfcknhbmeofniaaGreatDoorR01
set_option linter.all false
set_option maxRecDepth 100000
set_option maxHeartbeats 16000000
namespace Go.Proofs.YtfcknhbmeofniaaGreatDoor.BT
variable {use was:Bs}{n h:Nat}{D:Dsk}
def qf9 (use was:Bs)(i:Nat):Bool:=!hasB use i&&!hasB was i
def qa1 (pages:Nat)(use was:Bs):Option Nat:=(List.range pages).find? (qf9 use was)
def qar (pages:Nat)(use was:Bs):Nat:=((List.range pages).filter (qf9 use was)).length
mutual
def qaY (pages:Nat)(was:Bs):Kd→Bs→Option (Nat×Bs×List (Nat×Bs))
 | .page p,use=>some (p,use,[])
 | .leaf ps,use=>(qa1 pages use was).map fun n=>(n,setB use n true,[(n,encK (.leaf ps))])
 | .inner ks xs,use=>match qaJ pages was xs use with
  | none=>none
  | some (ps,use1,l)=>(qa1 pages use1 was).map fun n=>(n,setB use1 n true,l++[(n,encK (.inner ks (ps.map .page)))])
def qaJ (pages:Nat)(was:Bs):List Kd→Bs→Option (List Nat×Bs×List (Nat×Bs))
 | [],use=>some ([],use,[])
 | x::xs,use=>match qaY pages was x use with
  | none=>none
  | some (p,use1,l1)=>match qaJ pages was xs use1 with
   | none=>none
   | some (ps,use2,l2)=>some (p::ps,use2,l1++l2)
end
mutual
def news:Kd→Nat
 | .page _=>0
 | .leaf _=>1
 | .inner _ xs=>1+qay xs
def qay:List Kd→Nat
 | []=>0
 | x::xs=>news x+qay xs
end
theorem qbC {pages:Nat}(h:qa1 pages use was=some n):n<pages∧hasB use n=false∧hasB was n=false:=by
 unfold qa1 at h;have h1:=List.find?_some h;have h2:=List.mem_of_find?_eq_some h;unfold qf9 at h1;simp only[zaQ,zb3]at h1;exact⟨za9.1 h2,h1.1,h1.2⟩
structure Put (pages:Nat) (was use use':Bs) (l:List Nat):Prop where
 len:use'.length=use.length
 has:∀ i,hasB use' i=(hasB use i||decide (i∈l))
 free:∀ i∈l,i<pages∧hasB use i=false∧hasB was i=false
 nd:l.Nodup
theorem Put.refl (pages:Nat)(was use:Bs):Put pages was use use []:=⟨rfl,by simp,by simp,zcJ⟩
theorem Put.trans {pages:Nat}{u1 u2 u3:Bs}{l1 l2:List Nat}(h1:Put pages was u1 u2 l1)(h2:Put pages was u2 u3 l2):Put pages was u1 u3 (l1++l2):=by
 refine⟨h2.len.trans h1.len,fun i=>?_,fun i hi=>?_,?_⟩
 ·rw[h2.has,h1.has];by_cases a:i∈l1<;>by_cases b:i∈l2<;>simp[a,b]
 ·rcases zar.1 hi with hi|hi
  ·exact h1.free i hi
  ·obtain⟨a,b,c⟩:=h2.free i hi;rw[h1.has]at b;simp only[Bool.or_eq_false_iff]at b;exact⟨a,b.1,c⟩
 ·rw[za2];refine⟨h1.nd,h2.nd,fun a ha b hb e=>?_⟩;subst e;obtain⟨_,b,_⟩:=h2.free a hb;rw[h1.has]at b;simp[ha]at b
theorem Put.one {pages:Nat}(hu:use.length=48)(hp:pages≤384)(h:qa1 pages use was=some n):Put pages was use (setB use n true) [n]:=by
 obtain⟨h1,h2,h3⟩:=qbC h;refine⟨qdz ..,fun i=>?_,fun i hi=>?_,by simp⟩
 ·rw[qga _ _ _ _ (by omega)];by_cases e:i=n<;>simp[e]
 ·obtain rfl:i=n:=by simpa using hi
  exact⟨h1,h2,h3⟩
mutual
theorem qcV {pages:Nat}{was:Bs}(hp:pages≤384):∀ (k:Kd) (use:Bs) {n:Nat} {use':Bs} {l:List (Nat×Bs)},use.length=48→qaY pages was k use=some (n,use',l)→Put pages was use use' (l.map Prod.fst)
 | .page p,use,n,use',l,hu,h=>by
  simp only[qaY,zau,zaE]at h;obtain⟨rfl,rfl,rfl⟩:=h;exact Put.refl ..
 | .leaf ps,use,n,use',l,hu,h=>by
  simp only[qaY,zbd,zaE]at h;obtain⟨m,h1,rfl,rfl,rfl⟩:=h;exact Put.one hu hp h1
 | .inner ks xs,use,n,use',l,hu,h=>by
  simp only[qaY]at h;split at h
  ·cases h
  ·rename_i ps use1 l1 h0;simp only[zbd,zaE]at h;obtain⟨m,h1,rfl,rfl,rfl⟩:=h;have h2:=qfl hp xs use hu h0;have h3:=Put.one (was:=was) (by rw[h2.len];exact hu) hp h1;have:=h2.trans h3;simpa using this
theorem qfl {pages:Nat}{was:Bs}(hp:pages≤384):∀ (xs:List Kd) (use:Bs) {ps:List Nat} {use':Bs} {l:List (Nat×Bs)},use.length=48→qaJ pages was xs use=some (ps,use',l)→Put pages was use use' (l.map Prod.fst)
 | [],use,ps,use',l,hu,h=>by
  simp only[qaJ,zau,zaE]at h;obtain⟨rfl,rfl,rfl⟩:=h;exact Put.refl ..
 | x::xs,use,ps,use',l,hu,h=>by
  simp only[qaJ]at h;split at h
  ·cases h
  ·rename_i p use1 l1 h0;split at h
   ·cases h
   ·rename_i ps2 use2 l2 h2;simp only[zau,zaE]at h;obtain⟨rfl,rfl,rfl⟩:=h;have e1:=qcV hp x use hu h0;have e2:=qfl hp xs use1 (by rw[e1.len];exact hu) h2;simpa using e1.trans e2
end
theorem qfy {n:Nat}{p q:Nat→Bool}:∀ {l:List Nat},l.Nodup→n∈l→p n=true→(∀ i,q i=(p i&&decide (i≠n)))→(l.filter q).length+1=(l.filter p).length
 | [],_,h,_,_=>by cases h
 | a::l,hn,h,hp,hq=>by
  have hn2:=List.nodup_cons.1 hn;by_cases e:a=n
  ·subst e;have e1:l.filter q=l.filter p:=by
    refine List.filter_congr fun i hi=>?_;have:i≠a:=fun e=>hn2.1 (e▸hi);simp[hq,this]
   have e2:q a=false:=by simp[hq]
   rw[zbM (by simp[e2]),zby hp,e1,zal]
  ·have hm:n∈l:=by
    rcases zaB.1 h with h|h
    ·exact absurd h.symm e
    ·exact h
   have ih:=qfy hn2.2 hm hp hq;have e2:q a=p a:=by simp[hq,e]
   cases hpa:p a with
   | false=>rw[zbM (by simp[e2,hpa]),zbM (by simp[hpa]),ih]
   | true=>rw[zby (by simp[e2,hpa]),zby hpa,zal,zal,ih]
theorem qdq {pages:Nat}(hu:use.length=48)(hp:pages≤384)(h:qa1 pages use was=some n):qar pages (setB use n true) was+1=qar pages use was:=by
 obtain⟨h1,h2,h3⟩:=qbC h;unfold qar;refine qfy List.nodup_range (za9.2 h1) (by simp[qf9,h2,h3]) fun i=>?_;unfold qf9;rw[qga _ _ _ _ (by omega)];by_cases e:i=n
 ·subst e;simp
 ·simp[e]
theorem qbW {pages:Nat}(h:0<qar pages use was):∃ n,qa1 pages use was=some n:=by
 unfold qar at h;obtain⟨x,hx⟩:=List.exists_mem_of_length_pos h;obtain⟨h1,h2⟩:=zbj.1 hx;cases hf:qa1 pages use was with
 | some n=>exact⟨n,rfl⟩
 | none=>
  unfold qa1 at hf;rw[List.find?_eq_none]at hf;exact absurd h2 (hf x h1)
mutual
theorem qfk {pages:Nat}{was:Bs}(hp:pages≤384):∀ (k:Kd) (use:Bs),use.length=48→news k≤qar pages use was→∃ n use' l,qaY pages was k use=some (n,use',l)∧qar pages use' was+news k=qar pages use was∧use'.length=48
 | .page p,use,hu,_=>⟨p,use,[],by simp only[qaY],by simp only[news];omega,hu⟩
 | .leaf ps,use,hu,h=>by
  simp only[news]at h;obtain⟨n,hn⟩:=qbW (pages:=pages) (use:=use) (was:=was) (by omega);refine⟨n,setB use n true,[(n,encK (.leaf ps))],by simp only[qaY,hn,zbB],?_,by rw[qdz];exact hu⟩;have:=qdq hu hp hn;simp only[news];omega
 | .inner ks xs,use,hu,h=>by
  simp only[news]at h;obtain⟨ps,use1,l1,h1,h2,h3⟩:=qer (was:=was) hp xs use hu (by omega);obtain⟨n,hn⟩:=qbW (pages:=pages) (use:=use1) (was:=was) (by omega);refine⟨n,setB use1 n true,l1++[(n,encK (.inner ks (ps.map .page)))],by simp only[qaY,h1,hn,zbB],?_,by rw[qdz];exact h3⟩;have:=qdq h3 hp hn;simp only[news];omega
theorem qer {pages:Nat}{was:Bs}(hp:pages≤384):∀ (xs:List Kd) (use:Bs),use.length=48→qay xs≤qar pages use was→∃ ps use' l,qaJ pages was xs use=some (ps,use',l)∧qar pages use' was+qay xs=qar pages use was∧use'.length=48
 | [],use,hu,_=>⟨[],use,[],by simp only[qaJ],by simp only[qay];omega,hu⟩
 | x::xs,use,hu,h=>by
  simp only[qay]at h;obtain⟨n,use1,l1,h1,h2,h3⟩:=qfk (was:=was) hp x use hu (by omega);obtain⟨ps,use2,l2,i1,i2,i3⟩:=qer (was:=was) hp xs use1 h3 (by omega);exact⟨n::ps,use2,l1++l2,by simp only[qaJ,h1,i1],by simp only[qay];omega,i3⟩
end
theorem qkW {D D':Dsk}:∀ (h:Nat) (k:Kd),WF D h k→(∀ p∈pgs D h k,D' p=D p)→WF D' h k∧itemsK D' h k=itemsK D h k∧pgs D' h k=pgs D h k
 | h,k,⟨m,h1,h2,h3⟩,hp=>by
  have hn:nd D' k=nd D k:=by
   cases k with
   | page p=>
    have:p∈pgs D h (.page p):=by rw[qbu h1 h2];simp[qah]
    exact hp p this
   | leaf ps=>rfl
   | inner ks xs=>rfl
  have Ha:nd D' k=some m:=hn.trans h1;have Hc:∀ p∈pgs D h m,D' p=D p:=fun p hpp=>hp p (by rw[qbu h1 h2];exact zaS _ hpp)
  match h,h2 with
  | 0,h2=>
   have Hb:Body D' 0 m:=h2;refine⟨⟨m,Ha,Hb,h3⟩,?_,?_⟩
   ·simp only[itemsK,hn]
   ·simp only[pgs]
  | h+1,h2=>
   obtain⟨ks,xs,rfl,l1,k1,s1,x1⟩:=h2;have hx:∀ x∈xs,WF D' h x∧itemsK D' h x=itemsK D h x∧pgs D' h x=pgs D h x:=fun x hx=>
    qkW h x (x1 x hx) (fun p hpp=>Hc p (by simp only[pgs,nd,qah,zaI];exact za4.2 ⟨x,hx,hpp⟩))
   have e1:xs.flatMap (itemsK D' h)=xs.flatMap (itemsK D h):=qbJ fun x h=>(hx x h).2.1;have e2:xs.flatMap (pgs D' h)=xs.flatMap (pgs D h):=qbJ fun x h=>(hx x h).2.2;refine⟨⟨_,Ha,⟨ks,xs,rfl,l1,k1,?_,fun x h=>(hx x h).1⟩,h3⟩,?_,?_⟩
   ·intro j a k b ha hk hb;have:=s1 j a k b ha hk hb;unfold qiP;rw[(hx a (zak ha)).2.1,(hx b (zak hb)).2.1];exact this
   ·simp only[itemsK,h1,Ha];exact e1
   ·simp only[pgs,h1,Ha];rw[e2]
theorem qgw:∀ {ks:List Bs} {xs:List Kd},xs.length=ks.length+1→Sep D h ks xs→(∀ x∈xs,itemsK D h x≠[])→Srt (xs.flatMap (itemsK D h))→Rise none ks:=by
 intro ks xs hl hs hne hsrt;refine⟨fun x h=>by(cases h),?_⟩;rw[zcu];intro i j hi hj hij;have Ha:ks[i]?=some ks[i]:=zab hi;have Hb:ks[j]?=some ks[j]:=zab hj;have a:=(qbZ hs hne hsrt Ha (by omega)).2;have b:=(qbZ hs hne hsrt Hb (by omega)).1;obtain⟨q,hq⟩:=zbH _ (hne xs[j] (zbi (by omega)));have a1:=a q (za4.2 ⟨xs[j],by
  refine zak (i:=j-(i+1)) ?_;rw[zaJ,show i+1+(j-(i+1))=j by omega];exact zab _,hq⟩)
 have b1:=b q (za4.2 ⟨xs[j],by
  refine zak (i:=j) ?_;rw[zaR,zax (by omega)];exact zab _,hq⟩)
 exact qg2 a1 b1
theorem qe5:∀ {ps:List Pr},(∀ p∈ps,plen p)→3*ps.length≤qaK ps
 | [],_=>by simp
 | p::ps,h=>by
  have h1:=(h p (by simp)).1;have:=qe5 (ps:=ps) fun q hq=>h q (by simp[hq]);unfold klen at h1;rw[qat,zal];omega
theorem qjR {n:Kd}(hb:Body D h n)(hs:qaz n≤500)(hsrt:Srt (itemsK D h n))(hpg:∀ ks xs,n=.inner ks xs→∀ x∈xs,∃ p,x=.page p∧p<65536):decK (encK n)=some n:=by
 cases h with
 | zero=>
  obtain⟨ps,rfl,h1,h2⟩:=hb;have:=qe5 h2;simp only[qaz]at hs;refine qjP h2 h1 (by omega) ⟨fun x h=>by(cases h),?_⟩;rw[List.pairwise_map];exact hsrt
 | succ h=>
  obtain⟨ks,xs,rfl,l1,k1,s1,x1⟩:=hb;have:=(qcQ k1).1;simp only[qaz]at hs;exact qfu k1 (by omega) l1 (hpg ks xs rfl) (qgw l1 s1 (fun x hx=>WF.ne (x1 x hx)) hsrt)
theorem qgC {D D':Dsk}{pages:Nat}{was:Bs}(hp:pages≤384):∀ (h:Nat) (k:Kd) (use:Bs) {n:Nat} {use':Bs} {l:List (Nat×Bs)},use.length=48→WF D h k→Srt (itemsK D h k)→(∀ p∈pgs D h k,p<65536∧D' p=D p)→
  qaY pages was k use=some (n,use',l)→(∀ x∈l,D' x.1=decK x.2)→WF D' h (.page n)∧itemsK D' h (.page n)=itemsK D h k∧List.Perm (pgs D' h (.page n)) (pgs D h k++l.map Prod.fst)∧n<65536
 | h,.page p,use,n,use',l,hu,hw,hs,hpp,he,hl=>by
  simp only[qaY,zau,zaE]at he;obtain⟨rfl,rfl,rfl⟩:=he;obtain⟨a,b,c⟩:=qkW h _ hw (fun q hq=>(hpp q hq).2);refine⟨a,b,by rw[c];simp,?_⟩;obtain⟨m,h1,h2,_⟩:=hw;exact(hpp p (by rw[qbu h1 h2];simp[qah])).1
 | 0,.inner ks xs,use,n,use',l,hu,hw,hs,hpp,he,hl=>by
  obtain⟨m,h1,⟨ps,h2,_⟩,_⟩:=hw;cases h1;cases h2
 | h+1,.leaf ps,use,n,use',l,hu,hw,hs,hpp,he,hl=>by
  obtain⟨m,h1,⟨ks,xs,h2,_⟩,_⟩:=hw;cases h1;cases h2
 | 0,.leaf ps,use,n,use',l,hu,hw,hs,hpp,he,hl=>by
  simp only[qaY,zbd,zaE]at he;obtain⟨m,e1,rfl,rfl,rfl⟩:=he;obtain⟨q,h1,h2,h3⟩:=hw;obtain rfl:Kd.leaf ps=q:=by cases h1;rfl
  have hd:D' m=some (.leaf ps):=(hl (m,encK (.leaf ps)) (za1.2 rfl)).trans (qjR h2 h3 hs (fun _ _ e=>by cases e));refine⟨⟨_,hd,h2,h3⟩,?_,by simp[pgs,qah],?_⟩
  ·simp only[itemsK,nd,hd]
  ·have:=(qbC e1).1;omega
 | h+1,.inner ks xs,use,n,use',l,hu,hw,hs,hpp,he,hl=>by
  simp only[qaY]at he;split at he
  ·cases he
  ·rename_i ps use1 l1 h0;simp only[zbd,zaE]at he;obtain⟨m,e1,rfl,rfl,rfl⟩:=he;obtain⟨q,h1,h2,h3⟩:=hw;obtain rfl:Kd.inner ks xs=q:=by cases h1;rfl
   obtain⟨ks',xs',e,g1,k1,s1,x1⟩:=h2;cases e;have Hb:∀ x∈xs,∀ p∈pgs D h x,p<65536∧D' p=D p:=fun x hx p hpx=>hpp p (by simp only[pgs,nd,qah,zaI];exact za4.2 ⟨x,hx,hpx⟩);have Hc:Srt (xs.flatMap (itemsK D h)):=hs;have key:∀ (ys:List Kd) (u:Bs) (qs:List Nat) (u':Bs) (l2:List (Nat×Bs)),u.length=48→(∀ x∈ys,WF D h x∧∀ p∈pgs D h x,p<65536∧D' p=D p)→Srt (ys.flatMap (itemsK D h))→qaJ pages was ys u=some (qs,u',l2)→(∀ x∈l2,D' x.1=decK x.2)→
     qs.length=ys.length∧(∀ (j:Nat) p x,qs[j]?=some p→ys[j]?=some x→itemsK D' h (.page p)=itemsK D h x)∧(∀ p∈qs,WF D' h (.page p)∧p<65536)∧List.Perm (qs.flatMap fun p=>pgs D' h (.page p)) (ys.flatMap (pgs D h)++l2.map Prod.fst)∧qs.flatMap (fun p=>itemsK D' h (.page p))=ys.flatMap (itemsK D h):=by
    intro ys
    induction ys with
    | nil=>
     intro u qs u' l2 _ _ _ he _;simp only[qaJ,zau,zaE]at he;obtain⟨rfl,rfl,rfl⟩:=he;exact⟨rfl,fun j p x h=>by simp at h,by simp,by simp,rfl⟩
    | cons y ys ih=>
     intro u qs u' l2 hu hy hs he hl2;simp only[qaJ]at he;split at he
     ·cases he
     ·rename_i p1 u1 la ha;split at he
      ·cases he
      ·rename_i qs2 u2 lb hb;simp only[zau,zaE]at he;obtain⟨rfl,rfl,rfl⟩:=he;rw[zat]at hs;have Hh:Srt (itemsK D h y):=(zbn.1 hs).1;have Ha:Srt (ys.flatMap (itemsK D h)):=(zbn.1 hs).2.1;have Hi:=(qcV hp y u hu ha).len;obtain⟨a1,a2,a3,a4⟩:=qgC hp h y u hu (hy y (by simp)).1 Hh (hy y (by simp)).2 ha (fun x hx=>hl2 x (by simp[hx]));obtain⟨b1,b2,b3,b4,b5⟩:=ih u1 qs2 u2 lb (by rw[Hi];exact hu) (fun x hx=>hy x (by simp[hx])) Ha hb (fun x hx=>hl2 x (by simp[hx]));refine⟨by simp[b1],?_,?_,?_,?_⟩
       ·intro j p x hj hx
        match j with
        | 0=>
         simp at hj hx;subst hj hx;exact a2
        | j+1=>exact b2 j p x (by simpa using hj) (by simpa using hx)
       ·intro p hp';rcases zaB.1 hp' with rfl|hp'
        ·exact⟨a1,a4⟩
        ·exact b3 p hp'
       ·simp only[zat,zbz];have:=List.Perm.append a3 b4;refine this.trans ?_
        grind
       ·simp only[zat,a2,b5]
   obtain⟨b1,b2,b3,b4,b5⟩:=key xs use ps use1 l1 hu (fun x hx=>⟨x1 x hx,Hb x hx⟩) Hc h0 (fun x hx=>hl x (by simp[hx]));have Ha:qaz (.inner ks (ps.map .page))=qaz (.inner ks xs):=by simp[qaz,b1]
   have i5:(ps.map Kd.page).flatMap (itemsK D' h)=xs.flatMap (itemsK D h):=by
    rw[←b5,List.flatMap_map]
   have hB:Body D' (h+1) (.inner ks (ps.map .page)):=by
    refine⟨_,_,rfl,by simp[b1,g1],k1,?_,?_⟩
    ·intro j a k b ha hk hb;rw[zaD,zbd]at ha hb;obtain⟨pa,ha,rfl⟩:=ha;obtain⟨pb,hb,rfl⟩:=hb;have He:j<xs.length:=by rw[←b1];exact(zac.1 ha).1
     have Hf:j+1<xs.length:=by rw[←b1];exact(zac.1 hb).1
     have xa:=zab He;have xb:=zab Hf;unfold qiP;rw[b2 j pa _ ha xa,b2 (j+1) pb _ hb xb];exact s1 j _ k _ xa hk xb
    ·intro x hx;obtain⟨p,hp',rfl⟩:=zbh.1 hx;exact(b3 p hp').1
   have Hg:Srt (itemsK D' (h+1) (.inner ks (ps.map .page))):=by
    simp only[itemsK,nd];rw[i5];exact Hc
   have hd:D' m=some (.inner ks (ps.map .page)):=(hl (m,encK (.inner ks (ps.map .page))) (zaS _ (za1.2 rfl))).trans (qjR hB (by rw[Ha];exact h3) Hg (fun ks' xs' e=>by
    cases e;intro x hx;obtain⟨p,hp',rfl⟩:=zbh.1 hx;exact⟨p,rfl,(b3 p hp').2⟩))
   refine⟨⟨_,hd,hB,by rw[Ha];exact h3⟩,?_,?_,?_⟩
   ·simp only[itemsK,nd,hd];exact i5
   ·simp only[pgs,nd,hd,qah,zaI,zbz,zbD,zbV];rw[List.flatMap_map];refine List.Perm.trans (zcp [m] b4) ?_
    grind
   ·have:=(qbC e1).1;omega
end Go.Proofs.YtfcknhbmeofniaaGreatDoor.BT
namespace Go.Proofs.YtfcknhbmeofniaaGreatDoor
open BT
structure Pg where
 pages:Nat
 gen:Nat
 root1:Nat
 use:Bs
 was:Bs
end Go.Proofs.YtfcknhbmeofniaaGreatDoor
namespace Go.Proofs.YtfcknhbmeofniaaGreatDoor.BT
def qbf (p:Pl):List Wt→Bool×Pl
 | []=>(true,p)
 | x::l=>if(p.give x).1 then qbf (p.give x).2 l else(false,(p.give x).2)
theorem qff (p:Pl):p.step.2.most=p.most∧p.step.2.tp=p.tp∧p.step.2.disk=p.disk∧p.step.2.waits=p.waits∧(p.step.1=true→p.step.2.off=p.off)∧(p.step.1=false→p.step.2.off=true):=by
 unfold Pl.step;split
 ·exact⟨rfl,rfl,rfl,rfl,(fun h=>by cases h),fun _=>rfl⟩
 ·exact⟨rfl,rfl,rfl,rfl,fun _=>rfl,fun h=>by cases h⟩
structure Gave (p q:Pl) (l:List Wt) (ok:Bool):Prop where
 most:q.most=p.most
 tp:q.tp=p.tp
 disk:q.disk=p.disk
 waits:∃ k,k≤l.length∧q.waits=p.waits++l.take k∧(ok=true→k=l.length)
 on:ok=true→q.off=p.off
 off:ok=false→q.off=true
theorem qdr (p:Pl)(x:Wt):Gave p (p.give x).2 [x] (p.give x).1:=by
 obtain⟨h1,h2,h3,h4,h5,h6⟩:=qff p;unfold Pl.give;cases hs:p.step.1 with
 | true=>
  simp only[zb5];exact⟨h1,h2,h3,⟨1,by simp,by simp,fun _=>rfl⟩,fun _=>h5 hs,fun h=>by cases h⟩
 | false=>
  simp only[zbY,zcP];exact⟨h1,h2,h3,⟨0,by simp,by simp[h4],fun h=>by cases h⟩,(fun h=>by cases h),fun _=>h6 hs⟩
theorem qfG:∀ (l:List Wt) (p:Pl),Gave p (qbf p l).2 l (qbf p l).1
 | [],p=>⟨rfl,rfl,rfl,⟨0,by simp,by simp[qbf],fun _=>rfl⟩,fun _=>rfl,fun h=>by cases h⟩
 | x::l,p=>by
  have g:=qdr p x;unfold qbf;split
  ·rename_i h1;rw[h1]at g;have ih:=qfG l (p.give x).2;obtain⟨k0,a1,a2,a3⟩:=g.waits;obtain⟨k,b1,b2,b3⟩:=ih.waits;have hk0:k0=1:=a3 rfl;subst hk0;refine⟨ih.most.trans g.most,ih.tp.trans g.tp,ih.disk.trans g.disk,⟨k+1,by simp;omega,?_,fun h=>by simp[b3 h]⟩,fun h=>(ih.on h).trans (g.on rfl),ih.off⟩;rw[b2,a2];simp
  ·rename_i h1;have h1:(p.give x).1=false:=by simpa using h1
   rw[h1]at g;obtain⟨k0,a1,a2,_⟩:=g.waits;refine⟨g.most,g.tp,g.disk,⟨k0,by simp at a1⊢;omega,?_,fun h=>by cases h⟩,(fun h=>by cases h),fun _=>g.off rfl⟩;show(p.give x).2.waits=_;rw[a2];simp at a1;have:k0=0∨k0=1:=by omega
   rcases this with rfl|rfl<;>simp
def qbj (d n:Nat)(b:Bs):List Wt:=(List.range 8).map fun i=>⟨d,2+n*8+i,qdf b i⟩
end Go.Proofs.YtfcknhbmeofniaaGreatDoor.BT
namespace Go.Proofs.YtfcknhbmeofniaaGreatDoor.BT
variable {D:Dsk}{met met2:List Nat}{k m a b x:Kd}{xs got:List Kd}{i L f:Nat}{ps:List Pr}{key:Bs}{v:Option Bs}{bet:List Bs}
def qa7:Kd→Nat
 | .inner _ xs=>qay xs
 | _=>0
def qjG (D:Dsk):Prop:=∀ p n,D p=some n→qa7 n=0
theorem qaM:∀ (a b:List Kd),qay (a++b)=qay a+qay b
 | [],b=>by simp[qay]
 | x::a,b=>by simp only[za3,qay,qaM a b];omega
theorem qmm {n:Kd}(h:isPage n=false):news n=1+qa7 n:=by
 cases n with
 | page p=>cases h
 | leaf ps=>rfl
 | inner ks xs=>rfl
theorem qe3 (hf:qjG D)(h:qdV D met k=some m):qa7 m≤news k∧(isPage k=false→qa7 m+1=news k):=by
 cases k with
 | page p=>
  simp only[qdV]at h;split at h
  ·cases h
  ·rw[hf p m h];exact⟨zbO _,fun h=>by cases h⟩
 | leaf ps=>
  cases h;exact⟨zbO _,fun _=>rfl⟩
 | inner ks xs=>
  cases h;refine⟨?_,fun _=>?_⟩<;>simp only[qa7,news]<;>omega
theorem qj3 {k:Bs}(h:join a k b=some x):news x=1+qa7 a+qa7 b∧isPage x=false:=by
 unfold join at h;split at h
 ·split at h
  ·cases h;exact⟨rfl,rfl⟩
  ·cases h
 ·split at h
  ·cases h;refine⟨?_,rfl⟩;simp only[news,qa7,qaM];omega
  ·cases h
 ·cases h
theorem qkg (ha:xs[i]?=some a)(hb:xs[i+1]?=some b):qay xs=qay (xs.take i)+news a+news b+qay (xs.drop (i+2)):=by
 have e:=qhp ha hb;have:qay xs=qay (xs.take i++a::b::xs.drop (i+2)):=by rw[←e]
 rw[this,qaM];simp only[qay];omega
theorem qdT {D:Dsk}(hf:qjG D):∀ (f at_ to:Nat) (ks:List Bs) (xs:List Kd) (met:List Nat) {ks2:List Bs} {xs2:List Kd} {met2:List Nat},qcC D f at_ to ks xs met=some (ks2,xs2,met2)→
  qay xs2≤qay xs+(to+1-at_)∧(∀ a,xs[at_]?=some a→isPage a=false→qay xs2≤qay xs+(to-at_))
 | 0,_,_,ks,xs,met,ks2,xs2,met2,h=>by
  simp only[qcC,zau,zaE]at h;obtain⟨rfl,rfl,rfl⟩:=h;exact⟨by omega,fun _ _ _=>by omega⟩
 | f+1,at_,to,ks,xs,met,ks2,xs2,met2,h=>by
  simp only[qcC]at h;split at h
  ·rename_i hc;split at h
   ·rename_i a b k ha hb hk;split at h
    ·rename_i na nb hna hnb;obtain⟨a1,a2⟩:=qe3 hf hna;obtain⟨b1,b2⟩:=qe3 hf hnb;split at h
     ·rename_i x hj;obtain⟨j1,j2⟩:=qj3 hj;obtain⟨m1,m2⟩:=qdT hf f at_ to _ _ _ h;have e:=qkg ha hb;have lt:(xs.take at_).length=at_:=by rw[zaj];omega
      have e2:qay (xs.take at_++x::xs.drop (at_+2))=qay (xs.take at_)+news x+qay (xs.drop (at_+2)):=by
       rw[qaM];simp only[qay];omega
      have m3:=m2 x (by rw[zaz (by omega),lt,zcd];rfl) j2;rw[e2]at m3;have Hb:news a=0∨isPage a=false:=by cases a<;>simp[isPage,news]
      have Ha:news b=0∨isPage b=false:=by cases b<;>simp[isPage,news]
      refine⟨?_,fun a' ha' hp=>?_⟩
      ·have:=hc.2;rcases Ha with Ha|Ha
       ·omega
       ·have:=b2 Ha;omega
      ·rw[ha]at ha';cases ha';have:=a2 hp;omega
     ·obtain⟨m1,m2⟩:=qdT hf f (at_+1) to _ _ _ h;exact⟨by omega,fun _ _ _=>by omega⟩
    ·cases h
   ·cases h
  ·simp only[zau,zaE]at h;obtain⟨rfl,rfl,rfl⟩:=h;exact⟨by omega,fun _ _ _=>by omega⟩
theorem qcE (xs:List Kd)(i:Nat):qay (xs.take i)+qay (xs.drop i)=qay xs:=by rw[←qaM,zay]
theorem qhP (t:Kd)(i:Nat):news (qaG t i).1+news (qaG t i).2.1≤qa7 t+2:=by
 cases t with
 | page p=>simp[qaG,news]
 | leaf ps=>simp[qaG,news,qa7]
 | inner ks xs=>
  simp only[qaG,news,qa7];have:=qcE xs (i+1);omega
theorem qil {t:Kd}(h:isPage t=false):qay (cutK t).1≤qa7 t+2:=by
 unfold cutK;split
 ·simp only[qay,qmm h];omega
 ·split
  ·simp[qay]
  ·rename_i a b k hb;rcases bestK_spec t (nk t)with⟨_,h1⟩|⟨i,_,_,h1,_⟩
   ·rw[h1]at hb;cases hb
   ·rw[h1]at hb;have:=qhP t i;rw[zaG hb]at this;simp only[qay];simp only at this;omega
theorem qkh (h:xs[i]?=some x):qay (xs.take i)+news x+qay (xs.drop (i+1))=qay xs:=by
 obtain⟨hi,rfl⟩:=zac.1 h;rw[←qcE xs i,←za8 (h:=hi)];simp only[qay];omega
theorem qeK {D:Dsk}(hf:qjG D):∀ (h f:Nat) (met:List Nat) (k m:Kd) (key:Bs) (v:Option Bs) {got:List Kd} {bet:List Bs} {met2:List Nat},nd D k=some m→Body D h m→qbd D f met k key v=some (got,bet,met2)→
  qay got≤news k+5*h+2
 | _,0,_,_,_,_,_,_,_,_,_,_,h=>by simp[qbd]at h
 | 0,f+1,met,k,m,key,v,got,bet,met2,h1,hb,hh=>by
  have h:=hh;simp only[qbd]at h;split at h
  ·cases h
  ·cases h
  ·split at h
   ·simp only[zau,zaE]at h;obtain⟨rfl,rfl,rfl⟩:=h;simp[qay]
   ·simp only[zau,zaE]at h;obtain⟨rfl,rfl,rfl⟩:=h;have:=qil (t:=.leaf (chgR key v ‹List Pr›)) rfl;simp only[qa7]at this;omega
  ·rename_i ks xs hp;obtain⟨ps,rfl,_⟩:=hb;exfalso;cases k with
   | page p=>
    simp only[qdV]at hp;split at hp
    ·cases hp
    ·have:D p=some (.leaf ps):=h1;rw[this]at hp;cases hp
   | leaf _=>cases hp
   | inner _ _=>cases h1
 | h'+1,f+1,met,k,m,key,v,got,bet,met2,h1,hb,h=>by
  have hpk:∀ m',qdV D met k=some m'→m'=m:=by
   intro m' hp;cases k with
   | page p=>
    simp only[qdV]at hp;split at hp
    ·cases hp
    ·have:D p=some m:=h1;rw[this]at hp;cases hp;rfl
   | leaf _=>cases hp;cases h1;rfl
   | inner _ _=>cases hp;cases h1;rfl
  simp only[qbd]at h;obtain⟨ks0,xs0,rfl,_,_,_,hx0⟩:=hb;split at h
  ·cases h
  ·cases h
  ·rename_i ps hp;have:=hpk _ hp;cases this
  ·rename_i ks xs hp;have Hb:=hpk _ hp;cases Hb;have hk:=(qe3 hf hp).1;simp only[qa7]at hk;split at h
   ·cases h
   ·rename_i x hx;obtain⟨mx,x1,x2,_⟩:=hx0 x (zak hx);split at h
    ·cases h
    ·rename_i got1 bet1 met1 hc;have ih:=qeK hf h' f _ x mx key v x1 x2 hc;split at h
     ·cases h
     ·rename_i ks2 xs2 met3 hm;have Hc:=(qdT hf _ _ _ _ _ _ hm).1;simp only[qaM]at Hc;have hs:=qkh hx;have He:down ks0 key+1+1-(down ks0 key-1)≤3:=by omega
      split at h
      ·simp only[zau,zaE]at h;obtain⟨rfl,rfl,rfl⟩:=h;simp[qay]
      ·simp only[zau,zaE]at h;obtain⟨rfl,rfl,rfl⟩:=h;have Ha:=qil (t:=.inner ks2 xs2) rfl;simp only[qa7]at Ha;omega
def lsz (D:Dsk)(k:Kd):Nat:=qaK (itemsK D 0 k)
theorem qcR (h:nd D k=some (.leaf ps)):lsz D k=qaK ps:=by
 unfold lsz;simp only[itemsK,h]
def qiQ (D:Dsk)(xs:List Kd):Prop:=∀ (j:Nat) a b,xs[j]?=some a→xs[j+1]?=some b→498<lsz D a+lsz D b
def qjH (D:Dsk)(xs:List Kd):Prop:=∀ x∈xs,∃ ps,nd D x=some (.leaf ps)
theorem qgo (h:qdV D met k=some m):nd D k=some m:=by
 cases k with
 | page p=>
  simp only[qdV]at h;split at h
  ·cases h
  ·exact h
 | leaf _=>exact h
 | inner _ _=>exact h
theorem qk0 (hi:i+1<xs.length)(j:Nat):(xs.take i++x::xs.drop (i+2))[j]?=if j<i then xs[j]? else if j=i then some x else xs[j+1]?:=by
 have lt:(xs.take i).length=i:=by rw[zaj];omega
 by_cases hj:j<i
 ·rw[zaH (by omega),zaR,zax hj,zax hj]
 ·rw[zaz (by omega),lt,zaC hj];by_cases hj2:j=i
  ·subst hj2;simp
  ·rw[zaC hj2,show j-i=(j-i-1)+1 by omega,zbe,zaJ,show i+2+(j-i-1)=j+1 by omega]
theorem qde {D:Dsk}:∀ (f at_ to:Nat) (ks:List Bs) (xs:List Kd) (met:List Nat) {ks2:List Bs} {xs2:List Kd} {met2:List Nat},qjH D xs→(xs≠[]→xs.length=ks.length+1)→xs.length+(to+1-at_)<f→
  (∀ (j:Nat) a b,j<at_∨to<j→xs[j]?=some a→xs[j+1]?=some b→498<lsz D a+lsz D b)→qcC D f at_ to ks xs met=some (ks2,xs2,met2)→
  qiQ D xs2∧qjH D xs2∧(∀ k∈ks2,k∈ks)∧xs2.length≤xs.length
 | 0,_,_,_,_,_,_,_,_,_,_,hf,_,_=>by omega
 | f+1,at_,to,ks,xs,met,ks2,xs2,met2,hL,hlen,hf,ht,h=>by
  simp only[qcC]at h;split at h
  ·rename_i hc;have hne:xs≠[]:=by intro e;rw[e]at hc;simp at hc
   have Hb:=hlen hne;split at h
   ·rename_i a b k ha hb hk;split at h
    ·rename_i na nb hna hnb;have ea:=qgo hna;have eb:=qgo hnb;obtain⟨pa,ea'⟩:=hL a (zak ha);obtain⟨pb,eb'⟩:=hL b (zak hb);obtain rfl:na=.leaf pa:=by rw[ea]at ea';exact zaG ea'
     obtain rfl:nb=.leaf pb:=by rw[eb]at eb';exact zaG eb'
     have la:=qcR ea;have lb:=qcR eb;split at h
     ·rename_i x hj;simp only[join]at hj;split at hj
      ·obtain rfl:=zaG hj;have lx:lsz D (.leaf (pa++pb))=qaK pa+qaK pb:=by rw[qcR (ps:=pa++pb) rfl,qbY]
       have Ha:(xs.take at_++Kd.leaf (pa++pb)::xs.drop (at_+2)).length+1=xs.length:=by
        simp only[zaf,zaj,zal,zap];omega
       obtain⟨r1,r2,r3,r4⟩:=qde f at_ to _ _ _ (fun y hy=>by
        rcases zar.1 hy with hy|hy
        ·exact hL y (zbb hy)
        ·rcases zaB.1 hy with rfl|hy
         ·exact⟨_,rfl⟩
         ·exact hL y (zbm hy)) (fun _=>by
          rw[List.length_eraseIdx];split<;>omega) (by omega) (fun j u v hj hu hv=>by
         rw[qk0 hc.1]at hu hv;by_cases c1:j+1<at_
         ·rw[zax (by omega)]at hu hv;exact ht j u v (.inl (by omega)) hu hv
         ·by_cases c2:j+1=at_
          ·rw[zax (by omega)]at hu;rw[zaC (by omega),zax c2]at hv;have:=ht j u a (.inl (by omega)) hu (by rw[c2];exact ha);obtain rfl:=zaG hv;omega
          ·rw[zaC (by omega),zaC (by omega)]at hu;rw[zaC (by omega),zaC (by omega)]at hv;exact ht (j+1) u v (.inr (by omega)) hu hv) h
       exact⟨r1,r2,fun k hk=>zcb (r3 k hk),by omega⟩
      ·cases hj
     ·rename_i hj;simp only[join]at hj;split at hj
      ·cases hj
      ·rename_i h5;simp only[qaz,qbY]at h5;exact qde f (at_+1) to _ _ _ hL hlen (by omega) (fun j u v hj hu hv=>by
        by_cases c:j=at_
        ·subst c;rw[ha]at hu;rw[hb]at hv;obtain rfl:=zaG hu;obtain rfl:=zaG hv;omega
        ·exact ht j u v (by omega) hu hv) h
    ·cases h
   ·cases h
  ·rename_i hc;simp only[zau,zaE]at h;obtain⟨rfl,rfl,rfl⟩:=h;refine⟨fun j u v hu hv=>?_,hL,fun _ h=>h,zad _⟩;have:=(zac.1 hv).1;exact ht j u v (by omega) hu hv
def KeyL (L:Nat)(l:List Pr):Prop:=∀ p∈l,p.1.length≤L
theorem KeyL.chg {l:List Pr}(h:KeyL L l)(hk:key.length≤L):KeyL L (chgR key v l):=fun p hp=>by
 rcases mem_chgR hp with h1|⟨h1,_⟩
 ·exact h p h1
 ·rw[h1];exact hk
theorem cut_leaf (hl:KeyL L ps)(h:cutK (.leaf ps)=(got,bet))(hb:Body D 0 (.leaf ps))(hw:wide (.leaf ps))(hs:Srt ps) :
  (got=[.leaf ps]∧bet=[]∧qaz (.leaf ps)≤500)∨∃ a b k,got=[.leaf a,.leaf b]∧bet=[k]∧k.length≤L∧498<qaK a+qaK b:=by
 have Ha:=qfH hb hw;unfold cutK at h;split at h
 ·cases h;exact .inl ⟨rfl,rfl,by assumption⟩
 ·rename_i h5;right;obtain⟨j,j1,j2,_⟩:=Ha (by omega);rcases bestK_spec (.leaf ps) (nk (.leaf ps))with⟨h1,_⟩|⟨i,i1,i2,i3,_⟩
  ·omega
  ·rw[i3]at h;simp only[qaG]at h;simp only[nk]at i2;have hk:ps[i]?=some ps[i]:=zab i2;rw[hk]at h;cases h;refine⟨_,_,_,rfl,rfl,hl _ (zbi ..),?_⟩;rw[←qbY,zay];simp only[qaz]at h5;omega
structure T2 (D:Dsk) (L h:Nat) (k:Kd):Prop where
 wf:WF D h k
 h1:h≤1
 srt:Srt (itemsK D h k)
 keys:KeyL L (itemsK D h k)
 tight:∀ ks xs,nd D k=some (.inner ks xs)→2≤xs.length∧qiQ D xs∧∀ k∈ks,k.length≤L
theorem change0 (h:qbd D f met k key v=some (got,bet,met2))(hw:WF D 0 k)(hs:Srt (itemsK D 0 k))(hl:KeyL L (itemsK D 0 k))
  (hk:klen key)(hkL:key.length≤L)(hv:∀ x,v=some x→x.length≤160) :
  got=[]∨(∃ ps,got=[.leaf ps]∧bet=[]∧qaz (.leaf ps)≤500)∨∃ a b k,got=[.leaf a,.leaf b]∧bet=[k]∧k.length≤L∧498<qaK a+qaK b:=by
 obtain⟨m,h1,⟨ps,rfl,p1,p2⟩,h5⟩:=hw;have ei:itemsK D 0 k=ps:=by simp only[itemsK,h1]
 rw[ei]at hs hl
 match f,h with
 | 0,h=>simp[qbd]at h
 | f+1,h=>
  simp only[qbd]at h;split at h
  ·cases h
  ·cases h
  ·rename_i ps' hp;have e:=qgo hp;rw[h1]at e;cases e;split at h
   ·cases h;exact .inl rfl
   ·rename_i h0;simp only[zau,zaE]at h;obtain⟨rfl,rfl,rfl⟩:=h;have hb:Body D 0 (.leaf (chgR key v ps)):=by
     refine⟨_,rfl,fun e=>h0 (by rw[e];rfl),fun p hp=>?_⟩;rcases mem_chgR hp with h4|⟨h4,h5⟩
     ·exact p2 p h4
     ·exact⟨by rw[h4];exact hk,hv _ h5⟩
    have Ha:wide (.leaf (chgR key v ps)):=by
     have:=qfP hk hv (ps:=ps);simp only[qaz]at h5;simp only[wide];omega
    rcases cut_leaf (hl.chg hkL) rfl hb Ha (Srt.chg hs)with⟨a,b,c⟩|h6
    ·exact .inr (.inl ⟨_,a,b,c⟩)
    ·exact .inr (.inr h6)
  ·rename_i ks xs hp;have e:=qgo hp;rw[h1]at e;cases e
theorem qf8 (hi:i<xs.length)(j:Nat):(j<i→(xs.take i++got++xs.drop (i+1))[j]?=xs[j]?)∧(i+got.length≤j→(xs.take i++got++xs.drop (i+1))[j]?=xs[j+1-got.length]?):=by
 have lt:(xs.take i).length=i:=by rw[zaj];omega
 refine⟨fun hj=>?_,fun hj=>?_⟩
 ·rw[zah,zaH (by omega),zaR,zax hj]
 ·rw[zaz (by rw[zaf,lt];omega),zaf,lt,zaJ,show i+1+(j-(i+got.length))=j+1-got.length by omega]
def Fit (D:Dsk)(L:Nat)(n:Nat)(l:List Pr):Prop:=∀ ks2 xs2,xs2.length=ks2.length+1→(∀ k∈ks2,k.length≤L)→qiQ D xs2→(∀ x∈xs2,WF D 0 x)→xs2.flatMap (itemsK D 0)=l→xs2.length≤n→qaI ks2+2*xs2.length≤498
theorem change1 (h:qbd D f met k key v=some (got,bet,met2))(hf:2≤f){ks:List Bs}(hnd:nd D k=some (.inner ks xs))(hw:WF D 1 k)(hs:Srt (itemsK D 1 k))(hl:KeyL L (itemsK D 1 k))
  (hn:(pgs D 1 k).Nodup)(hm:∀ p∈pgs D 1 k,p∉met)(ht:qiQ D xs∧∀ k∈ks,k.length≤L)(hfit:Fit D L (xs.length+1) (chgR key v (itemsK D 1 k)))
  (hk:klen key)(hkL:key.length≤L)(hv:∀ x,v=some x→x.length≤160) :
  got=[]∨∃ ks2 xs2,got=[.inner ks2 xs2]∧bet=[]∧qiQ D xs2∧(∀ k∈ks2,k.length≤L)∧xs2.length=ks2.length+1:=by
 obtain⟨m,h1,hb,h5⟩:=hw;obtain rfl:m=.inner ks xs:=by rw[h1]at hnd;exact zaG hnd
 have e2:=qbu h1 hb;have ei:itemsK D 1 k=xs.flatMap (itemsK D 0):=by simp only[itemsK,h1]
 have ep:pgs D 1 k=qah k++xs.flatMap (pgs D 0):=by rw[e2];simp only[pgs,nd,qah,zaI]
 rw[ei]at hs hl hfit;rw[ep]at hn hm;obtain⟨ks',xs',e,l1,k1,s1,x1⟩:=hb;cases e
 match f,h,hf with
 | f+2,h,_=>
  have Ht:qdV D met k=some (.inner ks xs):=qe4 h1 fun p hp=>hm p (za6 _ hp);simp only[qbd,Ht]at h;obtain⟨d1,d2,d3⟩:=qcy ks key;generalize hi:down ks key=i at *;have Hb:i<xs.length:=by omega
  have hx:xs[i]?=some xs[i]:=zab Hb;rw[hx]at h;simp only at h;have Hg:xs[i]∈xs:=zbi ..;generalize hX:xs[i]=x at *;have ex:xs=xs.take i++x::xs.drop (i+1):=by
   rw[←hX,za8,zay]
  have hr:Row' D 0 ks xs:=⟨fun _=>l1,k1,s1,x1⟩;have Hm:Srt (itemsK D 0 x):=by
   rw[ex]at hs;simp only[zaK,zat]at hs;rw[←zah]at hs;exact hs.sub
  have Hq:KeyL L (itemsK D 0 x):=fun p hp=>hl p (za4.2 ⟨x,Hg,hp⟩);have px:∀ p∈pgs D 0 x,p∈xs.flatMap (pgs D 0):=fun p hp=>za4.2 ⟨x,Hg,hp⟩;have Hf:=(za2.1 hn);have Hs:(pgs D 0 x).Nodup:=by
   have:=Hf.2.1;rw[ex]at this;simp only[zaK,zat]at this;exact(za2.1 (za2.1 this).2.1).1
  obtain⟨got0,bet0,m1,g1,g2,g3,g4⟩:=qeL 0 (f+1) (met++qah k) x key v (by omega) (x1 x Hg) Hm Hs (fun p hp hin=>by
   rcases zar.1 hin with h6|h6
   ·exact hm p (zaS _ (px p hp)) h6
   ·exact Hf.2.2 p h6 p (px p hp) rfl) hk hv
  have c0:=change0 g1 (x1 x Hg) Hm Hq hk hkL hv;have Ho:got0.length≤2∧∀ k∈bet0,k.length≤L:=by
   rcases g2.len with⟨e,e'⟩|⟨g,e,e'⟩|⟨g,g',b,e,e'⟩
   ·rw[e,e'];simp
   ·rw[e,e'];simp
   ·refine⟨by rw[e];simp,fun k hk=>?_⟩;rcases c0 with e3|⟨_,e3,e4,_⟩|⟨_,_,b',e3,e4,e5,_⟩
    ·rw[e]at e3;cases e3
    ·rw[e4]at hk;cases hk
    ·rw[e4]at hk;obtain rfl:k=b':=by simpa using hk
     exact e5
  simp only[qbd]at g1;rw[g1]at h;simp only at h;obtain⟨r1,r2⟩:=qkE hr l1 hs hi.symm hx g2 g3;have Hp:∀ q∈(if 0<got0.length then ks.take i++bet0++ks.drop i else ks.eraseIdx (i-1)),q.length≤L:=by
   intro q hq;split at hq
   ·simp only[zar]at hq;rcases hq with(hq|hq)|hq
    ·exact ht.2 q (zbb hq)
    ·exact Ho.2 q hq
    ·exact ht.2 q (zbm hq)
   ·exact ht.2 q (zcb hq)
  have Hh:∀ (j:Nat) a b,j<i-1∨i+1<j→(xs.take i++got0++xs.drop (i+1))[j]?=some a→(xs.take i++got0++xs.drop (i+1))[j+1]?=some b→498<lsz D a+lsz D b:=by
   intro j a b hj ha hb;rcases hj with hj|hj
   ·rw[(qf8 Hb j).1 (by omega)]at ha;rw[(qf8 Hb (j+1)).1 (by omega)]at hb;exact ht.1 j a b ha hb
   ·rw[(qf8 Hb j).2 (by omega)]at ha;rw[(qf8 Hb (j+1)).2 (by omega)]at hb;refine ht.1 (j+1-got0.length) a b ha ?_;rw[←hb];congr 1;omega
  have Ha:List.Perm (m1++(xs.take i++got0++xs.drop (i+1)).flatMap (pgs D 0)) (xs.flatMap (pgs D 0)):=by
   conv=>rhs;rw[ex]
   simp only[zaK,zat]
   grind
  have Hi:(xs.take i++got0++xs.drop (i+1)).length≤xs.length+1:=by
   simp only[zaf,zaj,zap];omega
  generalize hks1:(if 0<got0.length then ks.take i++bet0++ks.drop i else ks.eraseIdx (i-1))=ks1 at *;generalize hxs1:xs.take i++got0++xs.drop (i+1)=xs1 at *;have Hr:=(Ha.nodup_iff).2 Hf.2.1;have Hj:=za2.1 Hr;obtain⟨ks2,xs2,m2,q1,q2,q3,q4,q5,q6⟩:=qeG (D:=D) (h:=0) (xs1.length+i+3) (i-1) (i+1) ks1 xs1 (met++qah k++m1) r1 (fun y hy p hp hin=>by
   have Hk:p∈xs1.flatMap (pgs D 0):=by
    obtain⟨ny,y1,y2,_⟩:=r1.kids y hy;refine za4.2 ⟨y,hy,?_⟩;rw[qbu y1 y2];exact za6 _ hp
   have Hl:p∈xs.flatMap (pgs D 0):=Ha.subset (zaS _ Hk);rcases zar.1 hin with h6|h6
   ·rcases zar.1 h6 with h6|h6
    ·exact hm p (zaS _ Hl) h6
    ·exact Hf.2.2 p h6 p Hl rfl
   ·exact Hj.2.2 p h6 p Hk rfl) Hj.2.1
  have Hn:qjH D xs1:=fun y hy=>by
   obtain⟨my,y1,⟨ps,rfl,_⟩,_⟩:=r1.kids y hy;exact⟨ps,y1⟩
  obtain⟨t1,_,t3,t4⟩:=qde _ _ _ _ _ _ Hn r1.len (by omega) Hh q1;rw[q1]at h;simp only at h;split at h
  ·simp only[zau,zaE]at h;exact .inl h.1.symm
  ·rename_i h0;have He:xs2≠[]:=fun e=>h0 (by rw[e];rfl);have Hc:∀ q∈ks2,q.length≤L:=fun q hq=>Hp q (t3 q hq);have Hu:=hfit ks2 xs2 (q2.len He) Hc t1 q2.kids (by rw[q3,r2]) (by omega);have hc:cutK (.inner ks2 xs2)=([.inner ks2 xs2],[]):=by
    unfold cutK;rw[zax (by simp only[qaz];omega)]
   rw[hc]at h;simp only[zau,zaE]at h;exact .inr ⟨ks2,xs2,h.1.symm,h.2.1.symm,t1,Hc,q2.len He⟩
end Go.Proofs.YtfcknhbmeofniaaGreatDoor.BT
