/- Texts WrSpec GvSpec KdT KdU KdV. -/
import Derived.Test.YtpmebcgmgfcmiaaGreatDoorQ01
set_option linter.all false
set_option maxRecDepth 100000
set_option maxHeartbeats 16000000
namespace Go.Proofs.YtpmebcgmgfcmiaaGreatDoor.BT
variable {use was:Bs}{n h:Nat}{D:Dsk}
def qbJ (use was:Bs)(i:Nat):Bool:=!hasB use i&&!hasB was i
def qaC (pages:Nat)(use was:Bs):Option Nat:=(List.range pages).find? (qbJ use was)
def qal (pages:Nat)(use was:Bs):Nat:=((List.range pages).filter (qbJ use was)).length
mutual
def qbb (pages:Nat)(was:Bs):Kd→Bs→Option (Nat×Bs×List (Nat×Bs))
 | .page p,use=>some (p,use,[])
 | .leaf ps,use=>(qaC pages use was).map fun n=>(n,setB use n true,[(n,encK (.leaf ps))])
 | .inner ks xs,use=>match qaZ pages was xs use with
  | none=>none
  | some (ps,use1,l)=>(qaC pages use1 was).map fun n=>(n,setB use1 n true,l++[(n,encK (.inner ks (ps.map .page)))])
def qaZ (pages:Nat)(was:Bs):List Kd→Bs→Option (List Nat×Bs×List (Nat×Bs))
 | [],use=>some ([],use,[])
 | x::xs,use=>match qbb pages was x use with
  | none=>none
  | some (p,use1,l1)=>match qaZ pages was xs use1 with
   | none=>none
   | some (ps,use2,l2)=>some (p::ps,use2,l1++l2)
end
mutual
def news:Kd→Nat
 | .page _=>0
 | .leaf _=>1
 | .inner _ xs=>1+qaq xs
def qaq:List Kd→Nat
 | []=>0
 | x::xs=>news x+qaq xs
end
theorem qaT {pages:Nat}(h:qaC pages use was=some n):n<pages∧hasB use n=false∧hasB was n=false:=by
 unfold qaC at h;have h1:=List.find?_some h;have h2:=List.mem_of_find?_eq_some h;unfold qbJ at h1;simp only[zba,zc9]at h1;exact⟨zbb.1 h2,h1.1,h1.2⟩
structure Put (pages:Nat) (was use use':Bs) (l:List Nat):Prop where
 len:use'.length=use.length
 has:∀ i,hasB use' i=(hasB use i||decide (i∈l))
 free:∀ i∈l,i<pages∧hasB use i=false∧hasB was i=false
 nd:l.Nodup
theorem Put.refl (pages:Nat)(was use:Bs):Put pages was use use []:=⟨rfl,by simp,by simp,zch⟩
theorem Put.trans {pages:Nat}{u1 u2 u3:Bs}{l1 l2:List Nat}(h1:Put pages was u1 u2 l1)(h2:Put pages was u2 u3 l2):Put pages was u1 u3 (l1++l2):=by
 refine⟨h2.len.trans h1.len,fun i=>?_,fun i hi=>?_,?_⟩
 ·rw[h2.has,h1.has];by_cases a:i∈l1<;>by_cases b:i∈l2<;>simp[a,b]
 ·rcases zar.1 hi with hi|hi
  ·exact h1.free i hi
  ·obtain⟨a,b,c⟩:=h2.free i hi;rw[h1.has]at b;simp only[Bool.or_eq_false_iff]at b;exact⟨a,b.1,c⟩
 ·rw[zaD];refine⟨h1.nd,h2.nd,fun a ha b hb e=>?_⟩;subst e;obtain⟨_,b,_⟩:=h2.free a hb;rw[h1.has]at b;simp[ha]at b
theorem Put.one {pages:Nat}(hu:use.length=48)(hp:pages≤384)(h:qaC pages use was=some n):Put pages was use (setB use n true) [n]:=by
 obtain⟨h1,h2,h3⟩:=qaT h;refine⟨qcw ..,fun i=>?_,fun i hi=>?_,by simp⟩
 ·rw[qdv _ _ _ _ (by omega)];by_cases e:i=n<;>simp[e]
 ·obtain rfl:i=n:=by simpa using hi
  exact⟨h1,h2,h3⟩
mutual
theorem qc6 {pages:Nat}{was:Bs}(hp:pages≤384):∀ (k:Kd) (use:Bs) {n:Nat} {use':Bs} {l:List (Nat×Bs)},use.length=48→qbb pages was k use=some (n,use',l)→Put pages was use use' (l.map Prod.fst)
 | .page p,use,n,use',l,hu,h=>by
  simp only[qbb,zax,zaN]at h;obtain⟨rfl,rfl,rfl⟩:=h;exact Put.refl ..
 | .leaf ps,use,n,use',l,hu,h=>by
  simp only[qbb,zbl,zaN]at h;obtain⟨m,h1,rfl,rfl,rfl⟩:=h;exact Put.one hu hp h1
 | .inner ks xs,use,n,use',l,hu,h=>by
  simp only[qbb]at h;split at h
  ·cases h
  ·rename_i ps use1 l1 h0;simp only[zbl,zaN]at h;obtain⟨m,h1,rfl,rfl,rfl⟩:=h;have h2:=qfp hp xs use hu h0;have h3:=Put.one (was:=was) (by rw[h2.len];exact hu) hp h1;have:=h2.trans h3;simpa using this
theorem qfp {pages:Nat}{was:Bs}(hp:pages≤384):∀ (xs:List Kd) (use:Bs) {ps:List Nat} {use':Bs} {l:List (Nat×Bs)},use.length=48→qaZ pages was xs use=some (ps,use',l)→Put pages was use use' (l.map Prod.fst)
 | [],use,ps,use',l,hu,h=>by
  simp only[qaZ,zax,zaN]at h;obtain⟨rfl,rfl,rfl⟩:=h;exact Put.refl ..
 | x::xs,use,ps,use',l,hu,h=>by
  simp only[qaZ]at h;split at h
  ·cases h
  ·rename_i p use1 l1 h0;split at h
   ·cases h
   ·rename_i ps2 use2 l2 h2;simp only[zax,zaN]at h;obtain⟨rfl,rfl,rfl⟩:=h;have e1:=qc6 hp x use hu h0;have e2:=qfp hp xs use1 (by rw[e1.len];exact hu) h2;simpa using e1.trans e2
end
theorem qfF {n:Nat}{p q:Nat→Bool}:∀ {l:List Nat},l.Nodup→n∈l→p n=true→(∀ i,q i=(p i&&decide (i≠n)))→(l.filter q).length+1=(l.filter p).length
 | [],_,h,_,_=>by cases h
 | a::l,hn,h,hp,hq=>by
  have hn2:=List.nodup_cons.1 hn;by_cases e:a=n
  ·subst e;have e1:l.filter q=l.filter p:=by
    refine List.filter_congr fun i hi=>?_;have:i≠a:=fun e=>hn2.1 (e▸hi);simp[hq,this]
   have e2:q a=false:=by simp[hq]
   rw[zbw (by simp[e2]),zbr hp,e1,zao]
  ·have hm:n∈l:=by
    rcases za0.1 h with h|h
    ·exact absurd h.symm e
    ·exact h
   have ih:=qfF hn2.2 hm hp hq;have e2:q a=p a:=by simp[hq,e]
   cases hpa:p a with
   | false=>rw[zbw (by simp[e2,hpa]),zbw (by simp[hpa]),ih]
   | true=>rw[zbr (by simp[e2,hpa]),zbr hpa,zao,zao,ih]
theorem qdu {pages:Nat}(hu:use.length=48)(hp:pages≤384)(h:qaC pages use was=some n):qal pages (setB use n true) was+1=qal pages use was:=by
 obtain⟨h1,h2,h3⟩:=qaT h;unfold qal;refine qfF List.nodup_range (zbb.2 h1) (by simp[qbJ,h2,h3]) fun i=>?_;unfold qbJ;rw[qdv _ _ _ _ (by omega)];by_cases e:i=n
 ·subst e;simp
 ·simp[e]
theorem qb3 {pages:Nat}(h:0<qal pages use was):∃ n,qaC pages use was=some n:=by
 unfold qal at h;obtain⟨x,hx⟩:=List.exists_mem_of_length_pos h;obtain⟨h1,h2⟩:=zbH.1 hx;cases hf:qaC pages use was with
 | some n=>exact⟨n,rfl⟩
 | none=>
  unfold qaC at hf;rw[List.find?_eq_none]at hf;exact absurd h2 (hf x h1)
mutual
theorem qfo {pages:Nat}{was:Bs}(hp:pages≤384):∀ (k:Kd) (use:Bs),use.length=48→news k≤qal pages use was→∃ n use' l,qbb pages was k use=some (n,use',l)∧qal pages use' was+news k=qal pages use was∧use'.length=48
 | .page p,use,hu,_=>⟨p,use,[],by simp only[qbb],by simp only[news];omega,hu⟩
 | .leaf ps,use,hu,h=>by
  simp only[news]at h;obtain⟨n,hn⟩:=qb3 (pages:=pages) (use:=use) (was:=was) (by omega);refine⟨n,setB use n true,[(n,encK (.leaf ps))],by simp only[qbb,hn,zcb],?_,by rw[qcw];exact hu⟩;have:=qdu hu hp hn;simp only[news];omega
 | .inner ks xs,use,hu,h=>by
  simp only[news]at h;obtain⟨ps,use1,l1,h1,h2,h3⟩:=qel (was:=was) hp xs use hu (by omega);obtain⟨n,hn⟩:=qb3 (pages:=pages) (use:=use1) (was:=was) (by omega);refine⟨n,setB use1 n true,l1++[(n,encK (.inner ks (ps.map .page)))],by simp only[qbb,h1,hn,zcb],?_,by rw[qcw];exact h3⟩;have:=qdu h3 hp hn;simp only[news];omega
theorem qel {pages:Nat}{was:Bs}(hp:pages≤384):∀ (xs:List Kd) (use:Bs),use.length=48→qaq xs≤qal pages use was→∃ ps use' l,qaZ pages was xs use=some (ps,use',l)∧qal pages use' was+qaq xs=qal pages use was∧use'.length=48
 | [],use,hu,_=>⟨[],use,[],by simp only[qaZ],by simp only[qaq];omega,hu⟩
 | x::xs,use,hu,h=>by
  simp only[qaq]at h;obtain⟨n,use1,l1,h1,h2,h3⟩:=qfo (was:=was) hp x use hu (by omega);obtain⟨ps,use2,l2,i1,i2,i3⟩:=qel (was:=was) hp xs use1 h3 (by omega);exact⟨n::ps,use2,l1++l2,by simp only[qaZ,h1,i1],by simp only[qaq];omega,i3⟩
end
theorem qkZ {D D':Dsk}:∀ (h:Nat) (k:Kd),WF D h k→(∀ p∈pgs D h k,D' p=D p)→WF D' h k∧itemsK D' h k=itemsK D h k∧pgs D' h k=pgs D h k
 | h,k,⟨m,h1,h2,h3⟩,hp=>by
  have hn:nd D' k=nd D k:=by
   cases k with
   | page p=>
    have:p∈pgs D h (.page p):=by rw[qaY h1 h2];simp[pageOf]
    exact hp p this
   | leaf ps=>rfl
   | inner ks xs=>rfl
  have Ha:nd D' k=some m:=hn.trans h1;have Hc:∀ p∈pgs D h m,D' p=D p:=fun p hpp=>hp p (by rw[qaY h1 h2];exact zay _ hpp)
  match h,h2 with
  | 0,h2=>
   have Hb:Body D' 0 m:=h2;refine⟨⟨m,Ha,Hb,h3⟩,?_,?_⟩
   ·simp only[itemsK,hn]
   ·simp only[pgs]
  | h+1,h2=>
   obtain⟨ks,xs,rfl,l1,k1,s1,x1⟩:=h2;have hx:∀ x∈xs,WF D' h x∧itemsK D' h x=itemsK D h x∧pgs D' h x=pgs D h x:=fun x hx=>
    qkZ h x (x1 x hx) (fun p hpp=>Hc p (by simp only[pgs,nd,pageOf,zaA];exact zaS.2 ⟨x,hx,hpp⟩))
   have e1:xs.flatMap (itemsK D' h)=xs.flatMap (itemsK D h):=qbu fun x h=>(hx x h).2.1;have e2:xs.flatMap (pgs D' h)=xs.flatMap (pgs D h):=qbu fun x h=>(hx x h).2.2;refine⟨⟨_,Ha,⟨ks,xs,rfl,l1,k1,?_,fun x h=>(hx x h).1⟩,h3⟩,?_,?_⟩
   ·intro j a k b ha hk hb;have:=s1 j a k b ha hk hb;unfold qi7;rw[(hx a (zak ha)).2.1,(hx b (zak hb)).2.1];exact this
   ·simp only[itemsK,h1,Ha];exact e1
   ·simp only[pgs,h1,Ha];rw[e2]
theorem qdE:∀ {ks:List Bs} {xs:List Kd},xs.length=ks.length+1→Sep D h ks xs→(∀ x∈xs,itemsK D h x≠[])→Srt (xs.flatMap (itemsK D h))→Rise none ks:=by
 intro ks xs hl hs hne hsrt;refine⟨fun x h=>by(cases h),?_⟩;rw[zcV];intro i j hi hj hij;have Ha:ks[i]?=some ks[i]:=zaa hi;have Hb:ks[j]?=some ks[j]:=zaa hj;have a:=(qb6 hs hne hsrt Ha (by omega)).2;have b:=(qb6 hs hne hsrt Hb (by omega)).1;obtain⟨q,hq⟩:=zb5 _ (hne xs[j] (zbj (by omega)));have a1:=a q (zaS.2 ⟨xs[j],by
  refine zak (i:=j-(i+1)) ?_;rw[zaK,show i+1+(j-(i+1))=j by omega];exact zaa _,hq⟩)
 have b1:=b q (zaS.2 ⟨xs[j],by
  refine zak (i:=j) ?_;rw[zaV,zaw (by omega)];exact zaa _,hq⟩)
 exact qhm a1 b1
theorem qcL:∀ {ps:List Pr},(∀ p∈ps,plen p)→3*ps.length≤qaL ps
 | [],_=>by simp
 | p::ps,h=>by
  have h1:=(h p (by simp)).1;have:=qcL (ps:=ps) fun q hq=>h q (by simp[hq]);unfold klen at h1;rw[qay,zao];omega
theorem qj0 {n:Kd}(hb:Body D h n)(hs:nsize n≤500)(hsrt:Srt (itemsK D h n))(hpg:∀ ks xs,n=.inner ks xs→∀ x∈xs,∃ p,x=.page p∧p<65536):decK (encK n)=some n:=by
 cases h with
 | zero=>
  obtain⟨ps,rfl,h1,h2⟩:=hb;have:=qcL h2;simp only[nsize]at hs;refine qjY h2 h1 (by omega) ⟨fun x h=>by(cases h),?_⟩;rw[List.pairwise_map];exact hsrt
 | succ h=>
  obtain⟨ks,xs,rfl,l1,k1,s1,x1⟩:=hb;have:=(qbS k1).1;simp only[nsize]at hs;exact qfB k1 (by omega) l1 (hpg ks xs rfl) (qdE l1 s1 (fun x hx=>WF.ne (x1 x hx)) hsrt)
theorem qgX {D D':Dsk}{pages:Nat}{was:Bs}(hp:pages≤384):∀ (h:Nat) (k:Kd) (use:Bs) {n:Nat} {use':Bs} {l:List (Nat×Bs)},use.length=48→WF D h k→Srt (itemsK D h k)→(∀ p∈pgs D h k,p<65536∧D' p=D p)→
  qbb pages was k use=some (n,use',l)→(∀ x∈l,D' x.1=decK x.2)→WF D' h (.page n)∧itemsK D' h (.page n)=itemsK D h k∧List.Perm (pgs D' h (.page n)) (pgs D h k++l.map Prod.fst)∧n<65536
 | h,.page p,use,n,use',l,hu,hw,hs,hpp,he,hl=>by
  simp only[qbb,zax,zaN]at he;obtain⟨rfl,rfl,rfl⟩:=he;obtain⟨a,b,c⟩:=qkZ h _ hw (fun q hq=>(hpp q hq).2);refine⟨a,b,by rw[c];simp,?_⟩;obtain⟨m,h1,h2,_⟩:=hw;exact(hpp p (by rw[qaY h1 h2];simp[pageOf])).1
 | 0,.inner ks xs,use,n,use',l,hu,hw,hs,hpp,he,hl=>by
  obtain⟨m,h1,⟨ps,h2,_⟩,_⟩:=hw;cases h1;cases h2
 | h+1,.leaf ps,use,n,use',l,hu,hw,hs,hpp,he,hl=>by
  obtain⟨m,h1,⟨ks,xs,h2,_⟩,_⟩:=hw;cases h1;cases h2
 | 0,.leaf ps,use,n,use',l,hu,hw,hs,hpp,he,hl=>by
  simp only[qbb,zbl,zaN]at he;obtain⟨m,e1,rfl,rfl,rfl⟩:=he;obtain⟨q,h1,h2,h3⟩:=hw;obtain rfl:Kd.leaf ps=q:=by cases h1;rfl
  have hd:D' m=some (.leaf ps):=(hl (m,encK (.leaf ps)) (za3.2 rfl)).trans (qj0 h2 h3 hs (fun _ _ e=>by cases e));refine⟨⟨_,hd,h2,h3⟩,?_,by simp[pgs,pageOf],?_⟩
  ·simp only[itemsK,nd,hd]
  ·have:=(qaT e1).1;omega
 | h+1,.inner ks xs,use,n,use',l,hu,hw,hs,hpp,he,hl=>by
  simp only[qbb]at he;split at he
  ·cases he
  ·rename_i ps use1 l1 h0;simp only[zbl,zaN]at he;obtain⟨m,e1,rfl,rfl,rfl⟩:=he;obtain⟨q,h1,h2,h3⟩:=hw;obtain rfl:Kd.inner ks xs=q:=by cases h1;rfl
   obtain⟨ks',xs',e,g1,k1,s1,x1⟩:=h2;cases e;have Hb:∀ x∈xs,∀ p∈pgs D h x,p<65536∧D' p=D p:=fun x hx p hpx=>hpp p (by simp only[pgs,nd,pageOf,zaA];exact zaS.2 ⟨x,hx,hpx⟩);have Hc:Srt (xs.flatMap (itemsK D h)):=hs;have key:∀ (ys:List Kd) (u:Bs) (qs:List Nat) (u':Bs) (l2:List (Nat×Bs)),u.length=48→(∀ x∈ys,WF D h x∧∀ p∈pgs D h x,p<65536∧D' p=D p)→Srt (ys.flatMap (itemsK D h))→qaZ pages was ys u=some (qs,u',l2)→(∀ x∈l2,D' x.1=decK x.2)→
     qs.length=ys.length∧(∀ (j:Nat) p x,qs[j]?=some p→ys[j]?=some x→itemsK D' h (.page p)=itemsK D h x)∧(∀ p∈qs,WF D' h (.page p)∧p<65536)∧List.Perm (qs.flatMap fun p=>pgs D' h (.page p)) (ys.flatMap (pgs D h)++l2.map Prod.fst)∧qs.flatMap (fun p=>itemsK D' h (.page p))=ys.flatMap (itemsK D h):=by
    intro ys
    induction ys with
    | nil=>
     intro u qs u' l2 _ _ _ he _;simp only[qaZ,zax,zaN]at he;obtain⟨rfl,rfl,rfl⟩:=he;exact⟨rfl,fun j p x h=>by simp at h,by simp,by simp,rfl⟩
    | cons y ys ih=>
     intro u qs u' l2 hu hy hs he hl2;simp only[qaZ]at he;split at he
     ·cases he
     ·rename_i p1 u1 la ha;split at he
      ·cases he
      ·rename_i qs2 u2 lb hb;simp only[zax,zaN]at he;obtain⟨rfl,rfl,rfl⟩:=he;rw[zaq]at hs;have Hh:Srt (itemsK D h y):=(zbv.1 hs).1;have Ha:Srt (ys.flatMap (itemsK D h)):=(zbv.1 hs).2.1;have Hi:=(qc6 hp y u hu ha).len;obtain⟨a1,a2,a3,a4⟩:=qgX hp h y u hu (hy y (by simp)).1 Hh (hy y (by simp)).2 ha (fun x hx=>hl2 x (by simp[hx]));obtain⟨b1,b2,b3,b4,b5⟩:=ih u1 qs2 u2 lb (by rw[Hi];exact hu) (fun x hx=>hy x (by simp[hx])) Ha hb (fun x hx=>hl2 x (by simp[hx]));refine⟨by simp[b1],?_,?_,?_,?_⟩
       ·intro j p x hj hx
        match j with
        | 0=>
         simp at hj hx;subst hj hx;exact a2
        | j+1=>exact b2 j p x (by simpa using hj) (by simpa using hx)
       ·intro p hp';rcases za0.1 hp' with rfl|hp'
        ·exact⟨a1,a4⟩
        ·exact b3 p hp'
       ·simp only[zaq,zbD];have:=List.Perm.append a3 b4;refine this.trans ?_
        grind
       ·simp only[zaq,a2,b5]
   obtain⟨b1,b2,b3,b4,b5⟩:=key xs use ps use1 l1 hu (fun x hx=>⟨x1 x hx,Hb x hx⟩) Hc h0 (fun x hx=>hl x (by simp[hx]));have Ha:nsize (.inner ks (ps.map .page))=nsize (.inner ks xs):=by simp[nsize,b1]
   have i5:(ps.map Kd.page).flatMap (itemsK D' h)=xs.flatMap (itemsK D h):=by
    rw[←b5,List.flatMap_map]
   have hB:Body D' (h+1) (.inner ks (ps.map .page)):=by
    refine⟨_,_,rfl,by simp[b1,g1],k1,?_,?_⟩
    ·intro j a k b ha hk hb;rw[zbc,zbl]at ha hb;obtain⟨pa,ha,rfl⟩:=ha;obtain⟨pb,hb,rfl⟩:=hb;have He:j<xs.length:=by rw[←b1];exact(zae.1 ha).1
     have Hf:j+1<xs.length:=by rw[←b1];exact(zae.1 hb).1
     have xa:=zaa He;have xb:=zaa Hf;unfold qi7;rw[b2 j pa _ ha xa,b2 (j+1) pb _ hb xb];exact s1 j _ k _ xa hk xb
    ·intro x hx;obtain⟨p,hp',rfl⟩:=zbg.1 hx;exact(b3 p hp').1
   have Hg:Srt (itemsK D' (h+1) (.inner ks (ps.map .page))):=by
    simp only[itemsK,nd];rw[i5];exact Hc
   have hd:D' m=some (.inner ks (ps.map .page)):=(hl (m,encK (.inner ks (ps.map .page))) (zay _ (za3.2 rfl))).trans (qj0 hB (by rw[Ha];exact h3) Hg (fun ks' xs' e=>by
    cases e;intro x hx;obtain⟨p,hp',rfl⟩:=zbg.1 hx;exact⟨p,rfl,(b3 p hp').2⟩))
   refine⟨⟨_,hd,hB,by rw[Ha];exact h3⟩,?_,?_,?_⟩
   ·simp only[itemsK,nd,hd];exact i5
   ·simp only[pgs,nd,hd,pageOf,zaA,zbD,zbp,zbA];rw[List.flatMap_map];refine List.Perm.trans (zcq [m] b4) ?_
    grind
   ·have:=(qaT e1).1;omega
end Go.Proofs.YtpmebcgmgfcmiaaGreatDoor.BT
namespace Go.Proofs.YtpmebcgmgfcmiaaGreatDoor
open BT
structure Pg where
 pages:Nat
 gen:Nat
 root1:Nat
 use:Bs
 was:Bs
end Go.Proofs.YtpmebcgmgfcmiaaGreatDoor
namespace Go.Proofs.YtpmebcgmgfcmiaaGreatDoor.BT
def qax (p:Pl):List Wt→Bool×Pl
 | []=>(true,p)
 | x::l=>if(p.give x).1 then qax (p.give x).2 l else(false,(p.give x).2)
theorem qfP:∀ (l:List Wt) (p:Pl) (x:Wt),qax p (l++[x])=if(qax p l).1 then(qax p l).2.give x else qax p l
 | [],p,x=>by
  show(if(p.give x).1 then(true,(p.give x).2)else(false,(p.give x).2))=p.give x;split
  ·rename_i h;rw[←h]
  ·rename_i h;have:(p.give x).1=false:=by simpa using h
   rw[←this]
 | y::l,p,x=>by
  rw[zaW];unfold qax;split
  ·exact qfP l _ x
  ·rfl
theorem qcS (p:Pl):p.step.2.most=p.most∧p.step.2.tp=p.tp∧p.step.2.disk=p.disk∧p.step.2.waits=p.waits∧(p.step.1=true→p.step.2.off=p.off)∧(p.step.1=false→p.step.2.off=true):=by
 unfold Pl.step;split
 ·exact⟨rfl,rfl,rfl,rfl,(fun h=>by cases h),fun _=>rfl⟩
 ·exact⟨rfl,rfl,rfl,rfl,fun _=>rfl,fun h=>by cases h⟩
structure Gave (p q:Pl) (l:List Wt) (ok:Bool):Prop where
 most:q.most=p.most
 tp:q.tp=p.tp
 disk:q.disk=p.disk
 waits:∃ k,k≤l.length∧q.waits=p.waits++l.take k∧(ok=true→k=l.length)
 on:ok=true→q.off=p.off
 off:ok=false→q.off=true
theorem qbv (p:Pl)(x:Wt):Gave p (p.give x).2 [x] (p.give x).1:=by
 obtain⟨h1,h2,h3,h4,h5,h6⟩:=qcS p;unfold Pl.give;cases hs:p.step.1 with
 | true=>
  simp only[zcn];exact⟨h1,h2,h3,⟨1,by simp,by simp,fun _=>rfl⟩,fun _=>h5 hs,fun h=>by cases h⟩
 | false=>
  simp only[zbM,zc8];exact⟨h1,h2,h3,⟨0,by simp,by simp[h4],fun h=>by cases h⟩,(fun h=>by cases h),fun _=>h6 hs⟩
theorem qbW:∀ (l:List Wt) (p:Pl),Gave p (qax p l).2 l (qax p l).1
 | [],p=>⟨rfl,rfl,rfl,⟨0,by simp,by simp[qax],fun _=>rfl⟩,fun _=>rfl,fun h=>by cases h⟩
 | x::l,p=>by
  have g:=qbv p x;unfold qax;split
  ·rename_i h1;rw[h1]at g;have ih:=qbW l (p.give x).2;obtain⟨k0,a1,a2,a3⟩:=g.waits;obtain⟨k,b1,b2,b3⟩:=ih.waits;have hk0:k0=1:=a3 rfl;subst hk0;refine⟨ih.most.trans g.most,ih.tp.trans g.tp,ih.disk.trans g.disk,⟨k+1,by simp;omega,?_,fun h=>by simp[b3 h]⟩,fun h=>(ih.on h).trans (g.on rfl),ih.off⟩;rw[b2,a2];simp
  ·rename_i h1;have h1:(p.give x).1=false:=by simpa using h1
   rw[h1]at g;obtain⟨k0,a1,a2,_⟩:=g.waits;refine⟨g.most,g.tp,g.disk,⟨k0,by simp at a1⊢;omega,?_,fun h=>by cases h⟩,(fun h=>by cases h),fun _=>g.off rfl⟩;show(p.give x).2.waits=_;rw[a2];simp at a1;have:k0=0∨k0=1:=by omega
   rcases this with rfl|rfl<;>simp
theorem qdT:∀ (p:Pl) (l:List Wt) (n:Nat),(qax p (l.take n)).1=false→qax p l=qax p (l.take n)
 | p,[],n,h=>by simp
 | p,x::l,0,h=>by simp[qax]at h
 | p,x::l,n+1,h=>by
  rw[zbn]at h⊢;unfold qax at h⊢;split
  ·rename_i h1;rw[zaw h1]at h;exact qdT _ l n h
  ·rfl
def qaj (d n:Nat)(b:Bs):List Wt:=(List.range 8).map fun i=>⟨d,2+n*8+i,qaU b i⟩
theorem qhu (d n:Nat)(b:Bs)(j:Nat)(h:j<8):(qaj d n b).take (j+1)=(qaj d n b).take j++[⟨d,2+n*8+j,qaU b j⟩]:=by
 have hl:j<(qaj d n b).length:=by simpa [qaj] using h
 rw[zaP hl];simp[qaj]
theorem qcu (d n:Nat)(b:Bs):(qaj d n b).length=8:=by simp[qaj]
end Go.Proofs.YtpmebcgmgfcmiaaGreatDoor.BT
namespace Go.Proofs.YtpmebcgmgfcmiaaGreatDoor.BT
variable {D:Dsk}{met met2:List Nat}{k m a b x:Kd}{xs got:List Kd}{i L f:Nat}{ps:List Pr}{key:Bs}{v:Option Bs}{bet:List Bs}
def qbf:Kd→Nat
 | .inner _ xs=>qaq xs
 | _=>0
def qjP (D:Dsk):Prop:=∀ p n,D p=some n→qbf n=0
theorem qaQ:∀ (a b:List Kd),qaq (a++b)=qaq a+qaq b
 | [],b=>by simp[qaq]
 | x::a,b=>by simp only[zaW,qaq,qaQ a b];omega
theorem ql9 {n:Kd}(h:isPage n=false):news n=1+qbf n:=by
 cases n with
 | page p=>cases h
 | leaf ps=>rfl
 | inner ks xs=>rfl
theorem qe9 (hf:qjP D)(h:qb1 D met k=some m):qbf m≤news k∧(isPage k=false→qbf m+1=news k):=by
 cases k with
 | page p=>
  simp only[qb1]at h;split at h
  ·cases h
  ·rw[hf p m h];exact⟨za7 _,fun h=>by cases h⟩
 | leaf ps=>
  cases h;exact⟨za7 _,fun _=>rfl⟩
 | inner ks xs=>
  cases h;refine⟨?_,fun _=>?_⟩<;>simp only[qbf,news]<;>omega
theorem qkc {k:Bs}(h:join a k b=some x):news x=1+qbf a+qbf b∧isPage x=false:=by
 unfold join at h;split at h
 ·split at h
  ·cases h;exact⟨rfl,rfl⟩
  ·cases h
 ·split at h
  ·cases h;refine⟨?_,rfl⟩;simp only[news,qbf,qaQ];omega
  ·cases h
 ·cases h
theorem qkl (ha:xs[i]?=some a)(hb:xs[i+1]?=some b):qaq xs=qaq (xs.take i)+news a+news b+qaq (xs.drop (i+2)):=by
 have e:=qhH ha hb;have:qaq xs=qaq (xs.take i++a::b::xs.drop (i+2)):=by rw[←e]
 rw[this,qaQ];simp only[qaq];omega
theorem qdY {D:Dsk}(hf:qjP D):∀ (f at_ to:Nat) (ks:List Bs) (xs:List Kd) (met:List Nat) {ks2:List Bs} {xs2:List Kd} {met2:List Nat},qbL D f at_ to ks xs met=some (ks2,xs2,met2)→
  qaq xs2≤qaq xs+(to+1-at_)∧(∀ a,xs[at_]?=some a→isPage a=false→qaq xs2≤qaq xs+(to-at_))
 | 0,_,_,ks,xs,met,ks2,xs2,met2,h=>by
  simp only[qbL,zax,zaN]at h;obtain⟨rfl,rfl,rfl⟩:=h;exact⟨by omega,fun _ _ _=>by omega⟩
 | f+1,at_,to,ks,xs,met,ks2,xs2,met2,h=>by
  simp only[qbL]at h;split at h
  ·rename_i hc;split at h
   ·rename_i a b k ha hb hk;split at h
    ·rename_i na nb hna hnb;obtain⟨a1,a2⟩:=qe9 hf hna;obtain⟨b1,b2⟩:=qe9 hf hnb;split at h
     ·rename_i x hj;obtain⟨j1,j2⟩:=qkc hj;obtain⟨m1,m2⟩:=qdY hf f at_ to _ _ _ h;have e:=qkl ha hb;have lt:(xs.take at_).length=at_:=by rw[zag];omega
      have e2:qaq (xs.take at_++x::xs.drop (at_+2))=qaq (xs.take at_)+news x+qaq (xs.drop (at_+2)):=by
       rw[qaQ];simp only[qaq];omega
      have m3:=m2 x (by rw[zau (by omega),lt,zcP];rfl) j2;rw[e2]at m3;have Hb:news a=0∨isPage a=false:=by cases a<;>simp[isPage,news]
      have Ha:news b=0∨isPage b=false:=by cases b<;>simp[isPage,news]
      refine⟨?_,fun a' ha' hp=>?_⟩
      ·have:=hc.2;rcases Ha with Ha|Ha
       ·omega
       ·have:=b2 Ha;omega
      ·rw[ha]at ha';cases ha';have:=a2 hp;omega
     ·obtain⟨m1,m2⟩:=qdY hf f (at_+1) to _ _ _ h;exact⟨by omega,fun _ _ _=>by omega⟩
    ·cases h
   ·cases h
  ·simp only[zax,zaN]at h;obtain⟨rfl,rfl,rfl⟩:=h;exact⟨by omega,fun _ _ _=>by omega⟩
theorem qcI (xs:List Kd)(i:Nat):qaq (xs.take i)+qaq (xs.drop i)=qaq xs:=by rw[←qaQ,zav]
theorem qh8 (t:Kd)(i:Nat):news (qas t i).1+news (qas t i).2.1≤qbf t+2:=by
 cases t with
 | page p=>simp[qas,news]
 | leaf ps=>simp[qas,news,qbf]
 | inner ks xs=>
  simp only[qas,news,qbf];have:=qcI xs (i+1);omega
theorem qiA {t:Kd}(h:isPage t=false):qaq (cutK t).1≤qbf t+2:=by
 unfold cutK;split
 ·simp only[qaq,ql9 h];omega
 ·split
  ·simp[qaq]
  ·rename_i a b k hb;rcases bestK_spec t (nk t)with⟨_,h1⟩|⟨i,_,_,h1,_⟩
   ·rw[h1]at hb;cases hb
   ·rw[h1]at hb;have:=qh8 t i;rw[zaF hb]at this;simp only[qaq];simp only at this;omega
theorem qkm (h:xs[i]?=some x):qaq (xs.take i)+news x+qaq (xs.drop (i+1))=qaq xs:=by
 obtain⟨hi,rfl⟩:=zae.1 h;rw[←qcI xs i,←za4 (h:=hi)];simp only[qaq];omega
theorem qeG {D:Dsk}(hf:qjP D):∀ (h f:Nat) (met:List Nat) (k m:Kd) (key:Bs) (v:Option Bs) {got:List Kd} {bet:List Bs} {met2:List Nat},nd D k=some m→Body D h m→qaS D f met k key v=some (got,bet,met2)→
  qaq got≤news k+5*h+2
 | _,0,_,_,_,_,_,_,_,_,_,_,h=>by simp[qaS]at h
 | 0,f+1,met,k,m,key,v,got,bet,met2,h1,hb,hh=>by
  have h:=hh;simp only[qaS]at h;split at h
  ·cases h
  ·cases h
  ·split at h
   ·simp only[zax,zaN]at h;obtain⟨rfl,rfl,rfl⟩:=h;simp[qaq]
   ·simp only[zax,zaN]at h;obtain⟨rfl,rfl,rfl⟩:=h;have:=qiA (t:=.leaf (chgR key v ‹List Pr›)) rfl;simp only[qbf]at this;omega
  ·rename_i ks xs hp;obtain⟨ps,rfl,_⟩:=hb;exfalso;cases k with
   | page p=>
    simp only[qb1]at hp;split at hp
    ·cases hp
    ·have:D p=some (.leaf ps):=h1;rw[this]at hp;cases hp
   | leaf _=>cases hp
   | inner _ _=>cases h1
 | h'+1,f+1,met,k,m,key,v,got,bet,met2,h1,hb,h=>by
  have hpk:∀ m',qb1 D met k=some m'→m'=m:=by
   intro m' hp;cases k with
   | page p=>
    simp only[qb1]at hp;split at hp
    ·cases hp
    ·have:D p=some m:=h1;rw[this]at hp;cases hp;rfl
   | leaf _=>cases hp;cases h1;rfl
   | inner _ _=>cases hp;cases h1;rfl
  simp only[qaS]at h;obtain⟨ks0,xs0,rfl,_,_,_,hx0⟩:=hb;split at h
  ·cases h
  ·cases h
  ·rename_i ps hp;have:=hpk _ hp;cases this
  ·rename_i ks xs hp;have Hb:=hpk _ hp;cases Hb;have hk:=(qe9 hf hp).1;simp only[qbf]at hk;split at h
   ·cases h
   ·rename_i x hx;obtain⟨mx,x1,x2,_⟩:=hx0 x (zak hx);split at h
    ·cases h
    ·rename_i got1 bet1 met1 hc;have ih:=qeG hf h' f _ x mx key v x1 x2 hc;split at h
     ·cases h
     ·rename_i ks2 xs2 met3 hm;have Hc:=(qdY hf _ _ _ _ _ _ hm).1;simp only[qaQ]at Hc;have hs:=qkm hx;have He:down ks0 key+1+1-(down ks0 key-1)≤3:=by omega
      split at h
      ·simp only[zax,zaN]at h;obtain⟨rfl,rfl,rfl⟩:=h;simp[qaq]
      ·simp only[zax,zaN]at h;obtain⟨rfl,rfl,rfl⟩:=h;have Ha:=qiA (t:=.inner ks2 xs2) rfl;simp only[qbf]at Ha;omega
def lsz (D:Dsk)(k:Kd):Nat:=qaL (itemsK D 0 k)
theorem qc1 (h:nd D k=some (.leaf ps)):lsz D k=qaL ps:=by
 unfold lsz;simp only[itemsK,h]
def qi8 (D:Dsk)(xs:List Kd):Prop:=∀ (j:Nat) a b,xs[j]?=some a→xs[j+1]?=some b→498<lsz D a+lsz D b
def qjQ (D:Dsk)(xs:List Kd):Prop:=∀ x∈xs,∃ ps,nd D x=some (.leaf ps)
theorem qgN (h:qb1 D met k=some m):nd D k=some m:=by
 cases k with
 | page p=>
  simp only[qb1]at h;split at h
  ·cases h
  ·exact h
 | leaf _=>exact h
 | inner _ _=>exact h
theorem qk5 (hi:i+1<xs.length)(j:Nat):(xs.take i++x::xs.drop (i+2))[j]?=if j<i then xs[j]? else if j=i then some x else xs[j+1]?:=by
 have lt:(xs.take i).length=i:=by rw[zag];omega
 by_cases hj:j<i
 ·rw[zaL (by omega),zaV,zaw hj,zaw hj]
 ·rw[zau (by omega),lt,zaB hj];by_cases hj2:j=i
  ·subst hj2;simp
  ·rw[zaB hj2,show j-i=(j-i-1)+1 by omega,zbd,zaK,show i+2+(j-i-1)=j+1 by omega]
theorem qdh {D:Dsk}:∀ (f at_ to:Nat) (ks:List Bs) (xs:List Kd) (met:List Nat) {ks2:List Bs} {xs2:List Kd} {met2:List Nat},qjQ D xs→(xs≠[]→xs.length=ks.length+1)→xs.length+(to+1-at_)<f→
  (∀ (j:Nat) a b,j<at_∨to<j→xs[j]?=some a→xs[j+1]?=some b→498<lsz D a+lsz D b)→qbL D f at_ to ks xs met=some (ks2,xs2,met2)→
  qi8 D xs2∧qjQ D xs2∧(∀ k∈ks2,k∈ks)∧xs2.length≤xs.length
 | 0,_,_,_,_,_,_,_,_,_,_,hf,_,_=>by omega
 | f+1,at_,to,ks,xs,met,ks2,xs2,met2,hL,hlen,hf,ht,h=>by
  simp only[qbL]at h;split at h
  ·rename_i hc;have hne:xs≠[]:=by intro e;rw[e]at hc;simp at hc
   have Hb:=hlen hne;split at h
   ·rename_i a b k ha hb hk;split at h
    ·rename_i na nb hna hnb;have ea:=qgN hna;have eb:=qgN hnb;obtain⟨pa,ea'⟩:=hL a (zak ha);obtain⟨pb,eb'⟩:=hL b (zak hb);obtain rfl:na=.leaf pa:=by rw[ea]at ea';exact zaF ea'
     obtain rfl:nb=.leaf pb:=by rw[eb]at eb';exact zaF eb'
     have la:=qc1 ea;have lb:=qc1 eb;split at h
     ·rename_i x hj;simp only[join]at hj;split at hj
      ·obtain rfl:=zaF hj;have lx:lsz D (.leaf (pa++pb))=qaL pa+qaL pb:=by rw[qc1 (ps:=pa++pb) rfl,qbM]
       have Ha:(xs.take at_++Kd.leaf (pa++pb)::xs.drop (at_+2)).length+1=xs.length:=by
        simp only[zad,zag,zao,zap];omega
       obtain⟨r1,r2,r3,r4⟩:=qdh f at_ to _ _ _ (fun y hy=>by
        rcases zar.1 hy with hy|hy
        ·exact hL y (zaY hy)
        ·rcases za0.1 hy with rfl|hy
         ·exact⟨_,rfl⟩
         ·exact hL y (zaU hy)) (fun _=>by
          rw[zcx];split<;>omega) (by omega) (fun j u v hj hu hv=>by
         rw[qk5 hc.1]at hu hv;by_cases c1:j+1<at_
         ·rw[zaw (by omega)]at hu hv;exact ht j u v (.inl (by omega)) hu hv
         ·by_cases c2:j+1=at_
          ·rw[zaw (by omega)]at hu;rw[zaB (by omega),zaw c2]at hv;have:=ht j u a (.inl (by omega)) hu (by rw[c2];exact ha);obtain rfl:=zaF hv;omega
          ·rw[zaB (by omega),zaB (by omega)]at hu;rw[zaB (by omega),zaB (by omega)]at hv;exact ht (j+1) u v (.inr (by omega)) hu hv) h
       exact⟨r1,r2,fun k hk=>zcc (r3 k hk),by omega⟩
      ·cases hj
     ·rename_i hj;simp only[join]at hj;split at hj
      ·cases hj
      ·rename_i h5;simp only[nsize,qbM]at h5;exact qdh f (at_+1) to _ _ _ hL hlen (by omega) (fun j u v hj hu hv=>by
        by_cases c:j=at_
        ·subst c;rw[ha]at hu;rw[hb]at hv;obtain rfl:=zaF hu;obtain rfl:=zaF hv;omega
        ·exact ht j u v (by omega) hu hv) h
    ·cases h
   ·cases h
  ·rename_i hc;simp only[zax,zaN]at h;obtain⟨rfl,rfl,rfl⟩:=h;refine⟨fun j u v hu hv=>?_,hL,fun _ h=>h,zac _⟩;have:=(zae.1 hv).1;exact ht j u v (by omega) hu hv
def KeyL (L:Nat)(l:List Pr):Prop:=∀ p∈l,p.1.length≤L
theorem KeyL.chg {l:List Pr}(h:KeyL L l)(hk:key.length≤L):KeyL L (chgR key v l):=fun p hp=>by
 rcases mem_chgR hp with h1|⟨h1,_⟩
 ·exact h p h1
 ·rw[h1];exact hk
theorem cut_leaf (hl:KeyL L ps)(h:cutK (.leaf ps)=(got,bet))(hb:Body D 0 (.leaf ps))(hw:wide (.leaf ps))(hs:Srt ps) :
  (got=[.leaf ps]∧bet=[]∧nsize (.leaf ps)≤500)∨∃ a b k,got=[.leaf a,.leaf b]∧bet=[k]∧k.length≤L∧498<qaL a+qaL b:=by
 have Ha:=qfQ hb hw;unfold cutK at h;split at h
 ·cases h;exact .inl ⟨rfl,rfl,by assumption⟩
 ·rename_i h5;right;obtain⟨j,j1,j2,_⟩:=Ha (by omega);rcases bestK_spec (.leaf ps) (nk (.leaf ps))with⟨h1,_⟩|⟨i,i1,i2,i3,_⟩
  ·omega
  ·rw[i3]at h;simp only[qas]at h;simp only[nk]at i2;have hk:ps[i]?=some ps[i]:=zaa i2;rw[hk]at h;cases h;refine⟨_,_,_,rfl,rfl,hl _ (zbj ..),?_⟩;rw[←qbM,zav];simp only[nsize]at h5;omega
structure T2 (D:Dsk) (L h:Nat) (k:Kd):Prop where
 wf:WF D h k
 h1:h≤1
 srt:Srt (itemsK D h k)
 keys:KeyL L (itemsK D h k)
 tight:∀ ks xs,nd D k=some (.inner ks xs)→2≤xs.length∧qi8 D xs∧∀ k∈ks,k.length≤L
theorem change0 (h:qaS D f met k key v=some (got,bet,met2))(hw:WF D 0 k)(hs:Srt (itemsK D 0 k))(hl:KeyL L (itemsK D 0 k))
  (hk:klen key)(hkL:key.length≤L)(hv:∀ x,v=some x→x.length≤160) :
  got=[]∨(∃ ps,got=[.leaf ps]∧bet=[]∧nsize (.leaf ps)≤500)∨∃ a b k,got=[.leaf a,.leaf b]∧bet=[k]∧k.length≤L∧498<qaL a+qaL b:=by
 obtain⟨m,h1,⟨ps,rfl,p1,p2⟩,h5⟩:=hw;have ei:itemsK D 0 k=ps:=by simp only[itemsK,h1]
 rw[ei]at hs hl
 match f,h with
 | 0,h=>simp[qaS]at h
 | f+1,h=>
  simp only[qaS]at h;split at h
  ·cases h
  ·cases h
  ·rename_i ps' hp;have e:=qgN hp;rw[h1]at e;cases e;split at h
   ·cases h;exact .inl rfl
   ·rename_i h0;simp only[zax,zaN]at h;obtain⟨rfl,rfl,rfl⟩:=h;have hb:Body D 0 (.leaf (chgR key v ps)):=by
     refine⟨_,rfl,fun e=>h0 (by rw[e];rfl),fun p hp=>?_⟩;rcases mem_chgR hp with h4|⟨h4,h5⟩
     ·exact p2 p h4
     ·exact⟨by rw[h4];exact hk,hv _ h5⟩
    have Ha:wide (.leaf (chgR key v ps)):=by
     have:=qdZ hk hv (ps:=ps);simp only[nsize]at h5;simp only[wide];omega
    rcases cut_leaf (hl.chg hkL) rfl hb Ha (Srt.chg hs)with⟨a,b,c⟩|h6
    ·exact .inr (.inl ⟨_,a,b,c⟩)
    ·exact .inr (.inr h6)
  ·rename_i ks xs hp;have e:=qgN hp;rw[h1]at e;cases e
theorem qgu (hi:i<xs.length)(j:Nat):(j<i→(xs.take i++got++xs.drop (i+1))[j]?=xs[j]?)∧(i+got.length≤j→(xs.take i++got++xs.drop (i+1))[j]?=xs[j+1-got.length]?):=by
 have lt:(xs.take i).length=i:=by rw[zag];omega
 refine⟨fun hj=>?_,fun hj=>?_⟩
 ·rw[zaj,zaL (by omega),zaV,zaw hj]
 ·rw[zau (by rw[zad,lt];omega),zad,lt,zaK,show i+1+(j-(i+got.length))=j+1-got.length by omega]
def Fit (D:Dsk)(L:Nat)(n:Nat)(l:List Pr):Prop:=∀ ks2 xs2,xs2.length=ks2.length+1→(∀ k∈ks2,k.length≤L)→qi8 D xs2→(∀ x∈xs2,WF D 0 x)→xs2.flatMap (itemsK D 0)=l→xs2.length≤n→ksize ks2+2*xs2.length≤498
theorem change1 (h:qaS D f met k key v=some (got,bet,met2))(hf:2≤f){ks:List Bs}(hnd:nd D k=some (.inner ks xs))(hw:WF D 1 k)(hs:Srt (itemsK D 1 k))(hl:KeyL L (itemsK D 1 k))
  (hn:(pgs D 1 k).Nodup)(hm:∀ p∈pgs D 1 k,p∉met)(ht:qi8 D xs∧∀ k∈ks,k.length≤L)(hfit:Fit D L (xs.length+1) (chgR key v (itemsK D 1 k)))
  (hk:klen key)(hkL:key.length≤L)(hv:∀ x,v=some x→x.length≤160) :
  got=[]∨∃ ks2 xs2,got=[.inner ks2 xs2]∧bet=[]∧qi8 D xs2∧(∀ k∈ks2,k.length≤L)∧xs2.length=ks2.length+1:=by
 obtain⟨m,h1,hb,h5⟩:=hw;obtain rfl:m=.inner ks xs:=by rw[h1]at hnd;exact zaF hnd
 have e2:=qaY h1 hb;have ei:itemsK D 1 k=xs.flatMap (itemsK D 0):=by simp only[itemsK,h1]
 have ep:pgs D 1 k=pageOf k++xs.flatMap (pgs D 0):=by rw[e2];simp only[pgs,nd,pageOf,zaA]
 rw[ei]at hs hl hfit;rw[ep]at hn hm;obtain⟨ks',xs',e,l1,k1,s1,x1⟩:=hb;cases e
 match f,h,hf with
 | f+2,h,_=>
  have Ht:qb1 D met k=some (.inner ks xs):=qfa h1 fun p hp=>hm p (zaX _ hp);simp only[qaS,Ht]at h;obtain⟨d1,d2,d3⟩:=qbZ ks key;generalize hi:down ks key=i at *;have Hb:i<xs.length:=by omega
  have hx:xs[i]?=some xs[i]:=zaa Hb;rw[hx]at h;simp only at h;have Hg:xs[i]∈xs:=zbj ..;generalize hX:xs[i]=x at *;have ex:xs=xs.take i++x::xs.drop (i+1):=by
   rw[←hX,za4,zav]
  have hr:Row' D 0 ks xs:=⟨fun _=>l1,k1,s1,x1⟩;have Hm:Srt (itemsK D 0 x):=by
   rw[ex]at hs;simp only[zat,zaq]at hs;rw[←zaj]at hs;exact hs.sub
  have Hq:KeyL L (itemsK D 0 x):=fun p hp=>hl p (zaS.2 ⟨x,Hg,hp⟩);have px:∀ p∈pgs D 0 x,p∈xs.flatMap (pgs D 0):=fun p hp=>zaS.2 ⟨x,Hg,hp⟩;have Hf:=(zaD.1 hn);have Hs:(pgs D 0 x).Nodup:=by
   have:=Hf.2.1;rw[ex]at this;simp only[zat,zaq]at this;exact(zaD.1 (zaD.1 this).2.1).1
  obtain⟨got0,bet0,m1,g1,g2,g3,g4⟩:=qcD 0 (f+1) (met++pageOf k) x key v (by omega) (x1 x Hg) Hm Hs (fun p hp hin=>by
   rcases zar.1 hin with h6|h6
   ·exact hm p (zay _ (px p hp)) h6
   ·exact Hf.2.2 p h6 p (px p hp) rfl) hk hv
  have c0:=change0 g1 (x1 x Hg) Hm Hq hk hkL hv;have Ho:got0.length≤2∧∀ k∈bet0,k.length≤L:=by
   rcases g2.len with⟨e,e'⟩|⟨g,e,e'⟩|⟨g,g',b,e,e'⟩
   ·rw[e,e'];simp
   ·rw[e,e'];simp
   ·refine⟨by rw[e];simp,fun k hk=>?_⟩;rcases c0 with e3|⟨_,e3,e4,_⟩|⟨_,_,b',e3,e4,e5,_⟩
    ·rw[e]at e3;cases e3
    ·rw[e4]at hk;cases hk
    ·rw[e4]at hk;obtain rfl:k=b':=by simpa using hk
     exact e5
  simp only[qaS]at g1;rw[g1]at h;simp only at h;obtain⟨r1,r2⟩:=qin hr l1 hs hi.symm hx g2 g3;have Hp:∀ q∈(if 0<got0.length then ks.take i++bet0++ks.drop i else ks.eraseIdx (i-1)),q.length≤L:=by
   intro q hq;split at hq
   ·simp only[zar]at hq;rcases hq with(hq|hq)|hq
    ·exact ht.2 q (zaY hq)
    ·exact Ho.2 q hq
    ·exact ht.2 q (zaU hq)
   ·exact ht.2 q (zcc hq)
  have Hh:∀ (j:Nat) a b,j<i-1∨i+1<j→(xs.take i++got0++xs.drop (i+1))[j]?=some a→(xs.take i++got0++xs.drop (i+1))[j+1]?=some b→498<lsz D a+lsz D b:=by
   intro j a b hj ha hb;rcases hj with hj|hj
   ·rw[(qgu Hb j).1 (by omega)]at ha;rw[(qgu Hb (j+1)).1 (by omega)]at hb;exact ht.1 j a b ha hb
   ·rw[(qgu Hb j).2 (by omega)]at ha;rw[(qgu Hb (j+1)).2 (by omega)]at hb;refine ht.1 (j+1-got0.length) a b ha ?_;rw[←hb];congr 1;omega
  have Ha:List.Perm (m1++(xs.take i++got0++xs.drop (i+1)).flatMap (pgs D 0)) (xs.flatMap (pgs D 0)):=by
   conv=>rhs;rw[ex]
   simp only[zat,zaq]
   grind
  have Hi:(xs.take i++got0++xs.drop (i+1)).length≤xs.length+1:=by
   simp only[zad,zag,zap];omega
  generalize hks1:(if 0<got0.length then ks.take i++bet0++ks.drop i else ks.eraseIdx (i-1))=ks1 at *;generalize hxs1:xs.take i++got0++xs.drop (i+1)=xs1 at *;have Hr:=(Ha.nodup_iff).2 Hf.2.1;have Hj:=zaD.1 Hr;obtain⟨ks2,xs2,m2,q1,q2,q3,q4,q5,q6⟩:=qdC (D:=D) (h:=0) (xs1.length+i+3) (i-1) (i+1) ks1 xs1 (met++pageOf k++m1) r1 (fun y hy p hp hin=>by
   have Hk:p∈xs1.flatMap (pgs D 0):=by
    obtain⟨ny,y1,y2,_⟩:=r1.kids y hy;refine zaS.2 ⟨y,hy,?_⟩;rw[qaY y1 y2];exact zaX _ hp
   have Hl:p∈xs.flatMap (pgs D 0):=Ha.subset (zay _ Hk);rcases zar.1 hin with h6|h6
   ·rcases zar.1 h6 with h6|h6
    ·exact hm p (zay _ Hl) h6
    ·exact Hf.2.2 p h6 p Hl rfl
   ·exact Hj.2.2 p h6 p Hk rfl) Hj.2.1
  have Hn:qjQ D xs1:=fun y hy=>by
   obtain⟨my,y1,⟨ps,rfl,_⟩,_⟩:=r1.kids y hy;exact⟨ps,y1⟩
  obtain⟨t1,_,t3,t4⟩:=qdh _ _ _ _ _ _ Hn r1.len (by omega) Hh q1;rw[q1]at h;simp only at h;split at h
  ·simp only[zax,zaN]at h;exact .inl h.1.symm
  ·rename_i h0;have He:xs2≠[]:=fun e=>h0 (by rw[e];rfl);have Hc:∀ q∈ks2,q.length≤L:=fun q hq=>Hp q (t3 q hq);have Hu:=hfit ks2 xs2 (q2.len He) Hc t1 q2.kids (by rw[q3,r2]) (by omega);have hc:cutK (.inner ks2 xs2)=([.inner ks2 xs2],[]):=by
    unfold cutK;rw[zaw (by simp only[nsize];omega)]
   rw[hc]at h;simp only[zax,zaN]at h;exact .inr ⟨ks2,xs2,h.1.symm,h.2.1.symm,t1,Hc,q2.len He⟩
end Go.Proofs.YtpmebcgmgfcmiaaGreatDoor.BT
