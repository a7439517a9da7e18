/- Texts KdW StSpec TsSpec TvSpec. -/
import Derived.Test.YtpmebcgmgfcmiaaGreatDoorQ02
set_option linter.all false
set_option maxRecDepth 100000
set_option maxHeartbeats 16000000
namespace Go.Proofs.YtpmebcgmgfcmiaaGreatDoor.BT
variable {D:Dsk}{x:Wt}{L h n i d:Nat}{k:Kd}{key was use b:Bs}{v:Option Bs}{l:List Wt}{s s':Nat→Bs}{p:Pl}{old now:List Pr}{U:List Nat}
def single:Nat→Kd→Kd
 | f+1,.inner _ [x]=>single f x
 | _,k=>k
theorem qfk (f p:Nat):single f (.page p)=.page p:=by cases f<;>rfl
theorem qaO (f:Nat)(ps:List Pr):single f (.leaf ps)=.leaf ps:=by cases f<;>rfl
theorem qjD (f:Nat)(ks:List Bs){xs:List Kd}(h:2≤xs.length):single f (.inner ks xs)=.inner ks xs:=by
 match f,xs,h with
 | 0,_,_=>rfl
 | f+1,_::_::_,_=>rfl
def topK (got:List Kd)(bet:List Bs):Option Kd:=match got with
 | []=>none
 | [x]=>some x
 | _=>some (.inner bet got)
theorem WF.zero {x:Kd}(h:WF D 0 x)(f:Nat):single f x=x:=by
 obtain⟨m,h1,⟨ps,rfl,_⟩,_⟩:=h;cases x with
 | page p=>exact qfk ..
 | leaf ps=>exact qaO ..
 | inner ks xs=>cases h1
theorem WF.t2 {x:Kd}(h:WF D 0 x)(hs:Srt (itemsK D 0 x))(hl:KeyL L (itemsK D 0 x)):T2 D L 0 x:=
 ⟨h,by omega,hs,hl,fun ks xs e=>by
  obtain⟨m,h1,⟨ps,rfl,_⟩,_⟩:=h;rw[h1]at e;cases e⟩
theorem T2.change {f:Nat}(ht:T2 D L h k)(hn:(pgs D h k).Nodup)(hf:2≤f)(hF:qjP D)(hpg:isPage k=true)
  (hfit:∀ ks xs,nd D k=some (.inner ks xs)→Fit D L (xs.length+1) (chgR key v (itemsK D h k)))(hk:klen key)(hkL:key.length≤L)(hv:∀ x,v=some x→x.length≤160) :
  ∃ got bet m,qaS D f [] k key v=some (got,bet,m)∧((got=[]∧chgR key v (itemsK D h k)=[]∧List.Perm m (pgs D h k))∨
   ∃ h' t,topK got bet=some t∧T2 D L h' (single 400 t)∧itemsK D h' (single 400 t)=chgR key v (itemsK D h k)∧List.Perm (m++pgs D h' (single 400 t)) (pgs D h k)∧news (single 400 t)≤8):=by
 obtain⟨got,bet,m,c1,c2,c3,c4⟩:=qcD h f [] k key v (by have:=ht.h1;omega) ht.wf ht.srt hn (by simp) hk hv;have Hc:Srt (chgR key v (itemsK D h k)):=Srt.chg ht.srt;have Hb:KeyL L (chgR key v (itemsK D h k)):=ht.keys.chg hkL;rw[zaA]at c1;refine⟨got,bet,m,c1,?_⟩;obtain⟨mk,n1,n2,n3⟩:=ht.wf;have Ha:=qeG hF h f [] k mk key v n1 n2 c1;have Hh:news k=0:=by cases k<;>first|rfl|cases hpg
 rw[Hh]at Ha
 match h,ht,hn,hfit,c2,c3,c4,Hc,Hb,Ha,n2 with
 | 0,ht,hn,hfit,c2,c3,c4,Hc,Hb,Ha,n2=>
  rcases change0 c1 ht.wf ht.srt ht.keys hk hkL hv with rfl|⟨ps,rfl,rfl,h5⟩|⟨a,b,q,rfl,rfl,hq,ht2⟩
  ·exact .inl ⟨rfl,c3.symm,by simpa using c4⟩
  ·right;have hw:=(c2.kids (.leaf ps) (by simp)).2;have hi:itemsK D 0 (.leaf ps)=chgR key v (itemsK D 0 k):=by simpa using c3
   refine⟨0,.leaf ps,rfl,?_,?_,?_,?_⟩
   ·rw[qaO];exact hw.t2 (by rw[hi];exact Hc) (by rw[hi];exact Hb)
   ·rw[qaO];exact hi
   ·rw[qaO];simpa using c4
   ·rw[qaO];simp[news]
  ·right;have e:single 400 (.inner [q] [.leaf a,.leaf b])=.inner [q] [.leaf a,.leaf b]:=rfl;have hi:itemsK D 1 (.inner [q] [.leaf a,.leaf b])=chgR key v (itemsK D 0 k):=by
    rw[←c3];simp[itemsK,nd]
   have hb:Body D 1 (.inner [q] [.leaf a,.leaf b]):=⟨_,_,rfl,rfl,c2.keys,c2.sep,fun x hx=>(c2.kids x hx).2⟩;have Hi:klen q:=c2.keys q (by simp);unfold klen at Hi;refine⟨1,.inner [q] [.leaf a,.leaf b],rfl,?_,?_,?_,?_⟩
   ·rw[e];refine⟨⟨_,rfl,hb,by simp[nsize,ksize];omega⟩,by omega,by rw[hi];exact Hc,by rw[hi];exact Hb,fun ks xs he=>?_⟩;obtain⟨rfl,rfl⟩:[q]=ks∧[Kd.leaf a,Kd.leaf b]=xs:=by
     have:=zaF he;injection this with h1 h2
     exact⟨h1,h2⟩
    refine⟨by simp,?_,by simpa using hq⟩;intro j x y hx hy
    match j,hx,hy with
    | 0,hx,hy=>
     simp at hx hy;subst hx hy;rw[qc1 (ps:=a) rfl,qc1 (ps:=b) rfl];exact ht2
    | j+1,hx,hy=>simp at hy
   ·rw[e];exact hi
   ·rw[e];simpa [pgs,nd,pageOf] using c4
   ·rw[e];simp[news,qaq]
 | 1,ht,hn,hfit,c2,c3,c4,Hc,Hb,Ha,n2=>
  obtain⟨ks,xs,rfl,_⟩:=n2;have Hj:=ht.tight ks xs n1;rcases change1 c1 hf n1 ht.wf ht.srt ht.keys hn (by simp) Hj.2 (hfit ks xs n1) hk hkL hv with rfl|⟨ks2,xs2,rfl,rfl,t1,t2,t3⟩
  ·exact .inl ⟨rfl,c3.symm,by simpa using c4⟩
  ·right;have hw:=(c2.kids (.inner ks2 xs2) (by simp)).2;have hi:itemsK D 1 (.inner ks2 xs2)=chgR key v (itemsK D 1 k):=by simpa using c3
   have Hf:List.Perm (m++pgs D 1 (.inner ks2 xs2)) (pgs D 1 k):=by simpa using c4
   obtain⟨mm,e1,⟨ks3,xs3,e2,w1,w2,w3,w4⟩,w5⟩:=hw;obtain rfl:=zaF e1;obtain⟨rfl,rfl⟩:ks2=ks3∧xs2=xs3:=by
    injection e2 with h1 h2
    exact⟨h1,h2⟩
   by_cases h1:2≤xs2.length
   ·have e:=qjD 400 ks2 h1;refine⟨1,.inner ks2 xs2,rfl,?_,?_,?_,?_⟩
    ·rw[e];refine⟨⟨_,rfl,⟨_,_,rfl,w1,w2,w3,w4⟩,w5⟩,by omega,by rw[hi];exact Hc,by rw[hi];exact Hb,fun ks xs he=>?_⟩;obtain⟨rfl,rfl⟩:ks2=ks∧xs2=xs:=by
      have:=zaF he;injection this with h1 h2
      exact⟨h1,h2⟩
     exact⟨h1,t1,t2⟩
    ·rw[e];exact hi
    ·rw[e];exact Hf
    ·rw[e];simp only[qaq]at Ha;omega
   ·obtain⟨x,rfl⟩:∃ x,xs2=[x]:=by
     cases xs2 with
     | nil=>simp at w1
     | cons x t=>cases t with
      | nil=>exact⟨x,rfl⟩
      | cons _ _=>simp at h1
    ·have Hg:WF D 0 x:=w4 x (by simp);have e:single 400 (.inner ks2 [x])=x:=Hg.zero 399;have He:itemsK D 0 x=chgR key v (itemsK D 1 k):=by rw[←hi];simp[itemsK,nd]
     refine⟨0,.inner ks2 [x],rfl,?_,?_,?_,?_⟩
     ·rw[e];exact Hg.t2 (by rw[He];exact Hc) (by rw[He];exact Hb)
     ·rw[e];exact He
     ·rw[e];have:pgs D 1 (.inner ks2 [x])=pgs D 0 x:=by simp[pgs,nd,pageOf]
      rw[←this];exact Hf
     ·rw[e];simp only[qaq,news]at Ha;omega
 | h+2,ht,_,_,_,_,_,_,_,_,_=>exact absurd ht.h1 (by omega)
theorem qec {D D':Dsk}{pages:Nat}{was:Bs}(hp:pages≤384):∀ (ys:List Kd) (u:Bs) {qs:List Nat} {u':Bs} {l2:List (Nat×Bs)},u.length=48→(∀ x∈ys,WF D 0 x∧Srt (itemsK D 0 x)∧∀ p∈pgs D 0 x,p<65536∧D' p=D p)→qaZ pages was ys u=some (qs,u',l2)→(∀ x∈l2,D' x.1=decK x.2)→
  qs.length=ys.length∧(∀ p∈qs,p<65536)∧∀ (j:Nat) p x,qs[j]?=some p→ys[j]?=some x→itemsK D' 0 (.page p)=itemsK D 0 x
 | [],u,qs,u',l2,_,_,he,_=>by
  simp only[qaZ,zax,zaN]at he;obtain⟨rfl,rfl,rfl⟩:=he;exact⟨rfl,by simp,fun j p x h=>by simp at h⟩
 | y::ys,u,qs,u',l2,hu,hy,he,hl2=>by
  simp only[qaZ]at he;split at he
  ·cases he
  ·rename_i p1 u1 la ha;split at he
   ·cases he
   ·rename_i qs2 u2 lb hb;simp only[zax,zaN]at he;obtain⟨rfl,rfl,rfl⟩:=he;have hy0:=hy y (by simp);obtain⟨_,a2,_,a4⟩:=qgX hp 0 y u hu hy0.1 hy0.2.1 hy0.2.2 ha (fun x hx=>hl2 x (by simp[hx]));obtain⟨b1,b2,b3⟩:=qec hp ys u1 (by rw[(qc6 hp y u hu ha).len];exact hu) (fun x hx=>hy x (by simp[hx])) hb (fun x hx=>hl2 x (by simp[hx]));refine⟨by simp[b1],fun p hp=>?_,fun j p x hj hx=>?_⟩
    ·rcases za0.1 hp with rfl|hp
     ·exact a4
     ·exact b2 p hp
    ·match j with
     | 0=>
      simp at hj hx;subst hj hx;exact a2
     | j+1=>exact b3 j p x (by simpa using hj) (by simpa using hx)
theorem T2.write {D':Dsk}{pages:Nat}{use':Bs}{l:List (Nat×Bs)}(hp:pages≤384)(ht:T2 D L h k)(hu:use.length=48)(hpp:∀ p∈pgs D h k,p<65536∧D' p=D p)
  (he:qbb pages was k use=some (n,use',l))(hl:∀ x∈l,D' x.1=decK x.2):T2 D' L h (.page n)∧itemsK D' h (.page n)=itemsK D h k∧List.Perm (pgs D' h (.page n)) (pgs D h k++l.map Prod.fst)∧n<65536:=by
 obtain⟨a1,a2,a3,a4⟩:=qgX hp h k use hu ht.wf ht.srt hpp he hl;refine⟨⟨a1,ht.h1,by rw[a2];exact ht.srt,by rw[a2];exact ht.keys,fun ks' xs' hnd=>?_⟩,a2,a3,a4⟩;have Ha:D' n=some (.inner ks' xs'):=hnd
 match h,ht,hpp,a1 with
 | 0,ht,hpp,a1=>
  obtain⟨m,h1,⟨ps,rfl,_⟩,_⟩:=a1;rw[hnd]at h1;cases h1
 | 1,ht,hpp,a1=>
  obtain⟨m,h1,⟨ks,xs,rfl,l1,k1,s1,x1⟩,h5⟩:=ht.wf;have Hc:=ht.tight ks xs h1;have e2:=qaY h1 (show Body D 1 (.inner ks xs)from⟨ks,xs,rfl,l1,k1,s1,x1⟩);have He:∀ x∈xs,∀ p∈pgs D 0 x,p<65536∧D' p=D p:=fun x hx p He=>hpp p (by
   rw[e2];refine zay _ ?_;simp only[pgs,nd,pageOf,zaA];exact zaS.2 ⟨x,hx,He⟩)
  cases k with
  | leaf ps=>cases h1
  | page p=>
   simp only[qbb,zax,zaN]at he;obtain⟨rfl,rfl,rfl⟩:=he;have Hh:D' p=D p:=(hpp p (by rw[e2];simp[pageOf])).2;have Hg:D p=some (.inner ks xs):=h1;rw[Hh,Hg]at Ha;obtain⟨rfl,rfl⟩:ks=ks'∧xs=xs':=by
    have:=zaF Ha;injection this with h1 h2
    exact⟨h1,h2⟩
   refine⟨Hc.1,fun j a b ha hb=>?_,Hc.2.2⟩;have ea:=(qkZ 0 a (x1 a (zak ha)) fun p hp=>(He a (zak ha) p hp).2).2.1;have eb:=(qkZ 0 b (x1 b (zak hb)) fun p hp=>(He b (zak hb) p hp).2).2.1;unfold lsz;rw[ea,eb];exact Hc.2.1 j a b ha hb
  | inner ks0 xs0=>
   obtain⟨rfl,rfl⟩:ks0=ks∧xs0=xs:=by
    have:=zaF h1;injection this with h1 h2
    exact⟨h1,h2⟩
   simp only[qbb]at he;split at he
   ·cases he
   ·rename_i qs use1 l1' h0;simp only[zbl,zaN]at he;obtain⟨m,e1,rfl,rfl,rfl⟩:=he;have Hb:Srt (xs0.flatMap (itemsK D 0)):=by
     have:=ht.srt;simpa [itemsK,nd] using this
    have Hk:∀ x∈xs0,Srt (itemsK D 0 x):=by
     intro x hx;obtain⟨s,t,rfl⟩:=List.append_of_mem hx;simp only[zat,zaq]at Hb;rw[←zaj]at Hb;exact Hb.sub
    obtain⟨b1,b2,b3⟩:=qec hp xs0 use hu (fun x hx=>⟨x1 x hx,Hk x hx,He x hx⟩) h0 (fun x hx=>hl x (by simp[hx]));have Hf:=qdE l1 s1 (fun x hx=>WF.ne (x1 x hx)) Hb;have Hl:=(qbS k1).1;simp only[nsize]at h5;have hd:D' m=some (.inner ks0 (qs.map .page)):=(hl (m,encK (.inner ks0 (qs.map .page))) (zay _ (za3.2 rfl))).trans
     (qfB k1 (by omega) (by simp[b1,l1]) (fun x hx=>by
      obtain⟨p,hp',rfl⟩:=zbg.1 hx;exact⟨p,rfl,b2 p hp'⟩) Hf)
    rw[hd]at Ha;obtain⟨rfl,rfl⟩:ks0=ks'∧qs.map Kd.page=xs':=by
     have:=zaF Ha;injection this with h1 h2
     exact⟨h1,h2⟩
    refine⟨by rw[zaE,b1];exact Hc.1,fun j a b ha hb=>?_,Hc.2.2⟩;rw[zbc,zbl]at ha hb;obtain⟨pa,ha,rfl⟩:=ha;obtain⟨pb,hb,rfl⟩:=hb;have Hi:j<xs0.length:=by rw[←b1];exact(zae.1 ha).1
    have Hj:j+1<xs0.length:=by rw[←b1];exact(zae.1 hb).1
    have xa:=zaa Hi;have xb:=zaa Hj;unfold lsz;rw[b3 j pa _ ha xa,b3 (j+1) pb _ hb xb];exact Hc.2.1 j _ _ xa xb
 | h+2,ht,_,_=>exact absurd ht.h1 (by omega)
theorem qiV {L:Nat}:∀ {ps:List Pr},KeyL L ps→(∀ p∈ps,p.2.length≤160)→qaL ps≤(162+L)*ps.length
 | [],_,_=>by simp[qaL]
 | p::ps,h,hv=>by
  have h1:=h p (by simp);have h2:=hv p (by simp);have:=qiV (ps:=ps) (fun q hq=>h q (by simp[hq])) (fun q hq=>hv q (by simp[hq]));rw[qay,zao,Nat.mul_add,zbG];omega
theorem qdn {D:Dsk}{L c:Nat}(hc:(162+L)*c≤498):∀ {xs:List Kd},(∀ x∈xs,WF D 0 x)→KeyL L (xs.flatMap (itemsK D 0))→qi8 D xs→(c+1)*(xs.length / 2)+xs.length % 2≤(xs.flatMap (itemsK D 0)).length
 | [],_,_,_=>by simp
 | [x],h,_,_=>by
  have:=List.length_pos_iff.2 (WF.ne (h x (by simp)));simp;omega
 | a::b::xs,h,hk,ht=>by
  have ih:=qdn hc (xs:=xs) (fun x hx=>h x (by simp[hx])) (fun p hp=>hk p (by simp only[zaq,zar];exact .inr (.inr hp))) (fun j u v hu hv=>ht (j+2) u v (by simpa using hu) (by simpa using hv));have hab:=ht 0 a b rfl rfl;have e:∀ x,x∈[a,b]→lsz D x≤(162+L)*(itemsK D 0 x).length:=by
   intro x hx;have Ha:x∈a::b::xs:=by
    simp only[za0,zcD,or_false]at hx;rcases hx with rfl|rfl<;>simp
   obtain⟨m,h1,⟨ps,rfl,_,p2⟩,_⟩:=h x Ha;have ei:itemsK D 0 x=ps:=by simp only[itemsK,h1]
   rw[qc1 h1,ei];exact qiV (fun p hp=>hk p (zaS.2 ⟨x,Ha,by rw[ei];exact hp⟩)) (fun p hp=>(p2 p hp).2)
  have ea:=e a (by simp);have eb:=e b (by simp);have Hb:c+1≤(itemsK D 0 a).length+(itemsK D 0 b).length:=by
   refine Nat.lt_of_not_le fun hle=>?_;have:(162+L)*((itemsK D 0 a).length+(itemsK D 0 b).length)≤(162+L)*c:=Nat.mul_le_mul_left _ hle;rw[Nat.mul_add]at this;omega
  simp only[zaq,zad,zao];rw[show(xs.length+1+1) / 2=xs.length / 2+1 by omega,show(xs.length+1+1) % 2=xs.length % 2 by omega,Nat.mul_add,zbG];omega
theorem qfH {D:Dsk}:∀ (xs:List Kd),(xs.flatMap (pgs D 0)).length≤xs.length
 | []=>by simp
 | x::xs=>by
  have:=qfH (D:=D) xs;simp only[zaq,zad,zao];have:(pgs D 0 x).length≤1:=by cases x<;>simp[pgs,pageOf]
  omega
theorem T2.count (hL:L≤24)(ht:T2 D L h (.page n)):(pgs D h (.page n)).length≤(itemsK D h (.page n)).length:=by
 have Ha:KeyL 24 (itemsK D h (.page n)):=fun p hp=>zah (ht.keys p hp) hL
 match h,ht,Ha with
 | 0,ht,_=>
  have:=List.length_pos_iff.2 (WF.ne ht.wf);simp[pgs,pageOf];omega
 | 1,ht,Ha=>
  obtain⟨m,h1,⟨ks,xs,rfl,l1,k1,s1,x1⟩,h5⟩:=ht.wf;have Hb:=ht.tight ks xs h1;have e2:=qaY h1 (show Body D 1 (.inner ks xs)from⟨ks,xs,rfl,l1,k1,s1,x1⟩);have ei:itemsK D 1 (.page n)=xs.flatMap (itemsK D 0):=by simp only[itemsK,h1]
  have hc:=qdn (L:=24) (c:=2) (by decide) x1 (by rw[←ei];exact Ha) Hb.2.1;have hf:=qfH (D:=D) xs;have e3:pgs D 1 (.inner ks xs)=xs.flatMap (pgs D 0):=rfl;rw[e2,ei,e3,zad];simp only[pageOf,zao,zaZ];omega
 | h+2,ht,_=>exact absurd ht.h1 (by omega)
theorem qiE {c N:Nat}(hc:(162+L)*c≤498)(n:Nat)(l:List Pr)(hl:KeyL L l)(hN:l.length≤N)(h:∀ M,(c+1)*(M / 2)+M % 2≤N→1≤M→(L+1)*(M-1)+2*M≤498):Fit D L n l:=by
 intro ks2 xs2 h1 h2 h3 h4 h5 h6;have Ha:=qdn hc h4 (by rw[h5];exact hl) h3;rw[h5]at Ha;have hm:=h xs2.length (by omega) (by omega);have Hb:∀ ks:List Bs,(∀ k∈ks,k.length≤L)→ksize ks≤(L+1)*ks.length:=by
  intro ks
  induction ks with
  | nil=>intro _;simp[ksize]
  | cons k ks ih=>
   intro h;have h7:=h k (by simp);have h8:=ih fun q hq=>h q (by simp[hq]);rw[qbo,zao,Nat.mul_add,zbG];omega
 have h9:=Hb ks2 h2;rw[show ks2.length=xs2.length-1 by omega]at h9;omega
def qah (s:Nat→Bs)(pages:Nat)(use:Bs):Dsk:=fun n=>if n<pages∧hasB use n=true then(qba s n).bind decK else none
theorem qk1 {u v:Bs}(hu:u.length=48)(hv:v.length=48)(h:∀ i,i<384→hasB u i=hasB v i):u=v:=by
 refine List.ext_getElem (by omega) fun k h1 h2=>?_;refine UInt8.toNat_inj.1 (Nat.eq_of_testBit_eq fun j=>?_);by_cases hj:j<8
 ·have:=h (8*k+j) (by omega);unfold hasB at this;rw[show(8*k+j) / 8=k by omega,show(8*k+j) % 8=j by omega]at this;simpa [zaC,zaa h1,zaa h2] using this
 ·have e:∀ c:UInt8,c.toNat.testBit j=false:=fun c=>Nat.testBit_lt_two_pow (zam c.toNat_lt (by
   have:2 ^ 8≤2 ^ j:=Nat.pow_le_pow_right (by omega) (by omega);exact this))
  rw[e,e]
def qaK (use:Bs)(l:List Nat):Bs:=l.foldl (fun u i=>setB u i false) use
theorem qdf:∀ (l:List Nat) (use:Bs),(qaK use l).length=use.length
 | [],_=>rfl
 | i::l,use=>by rw[qaK,List.foldl_cons];exact(qdf l _).trans (qcw ..)
theorem qde:∀ (l:List Nat) (use:Bs),use.length=48→(∀ i∈l,i<384)→∀ j,hasB (qaK use l) j=(hasB use j&&!decide (j∈l))
 | [],use,_,_,j=>by simp[qaK]
 | i::l,use,hu,hl,j=>by
  rw[qaK,List.foldl_cons];have ih:=qde l (setB use i false) (by rw[qcw];exact hu) (fun k hk=>hl k (by simp[hk])) j;unfold qaK at ih;have hi:=hl i (by simp);rw[ih,qdv _ _ _ _ (by omega)];by_cases e:j=i
  ·subst e;simp
  ·simp[e]
theorem qg8 (hu:use.length=48)(hi:i<384)(h:hasB use i=false):setB use i false=use:=
 qk1 (by rw[qcw];exact hu) hu fun j _=>by
  rw[qdv _ _ _ _ (by omega)];by_cases e:j=i
  ·subst e;simp[h]
  ·simp[e]
structure Ws where
 e:Nat
 p:Pl
 use:Bs
 put:List Nat
def putW (d pages:Nat)(was b:Bs)(s:Ws):Int×Ws:=
 if s.e≠0 then(-1,s)else match qaC pages s.use was with
  | none=>(-1,{ s with e:=3 })
  | some n=>if(qax s.p (qaj d n b)).1 then((n:Int),{ s with p:=(qax s.p (qaj d n b)).2,use:=setB s.use n true,put:=s.put++[n] })else(-1,{ s with e:=2,p:=(qax s.p (qaj d n b)).2 })
mutual
def wrP (d pages:Nat)(was:Bs):Kd→Ws→Int×Ws
 | .page p,s=>((p:Int),s)
 | .leaf ps,s=>putW d pages was (encK (.leaf ps)) s
 | .inner ks xs,s=>putW d pages was (encK (.inner ks ((wrPs d pages was xs s).1.map fun(i:Int)=>Kd.page i.toNat))) (wrPs d pages was xs s).2
def wrPs (d pages:Nat)(was:Bs):List Kd→Ws→List Int×Ws
 | [],s=>([],s)
 | x::xs,s=>((wrP d pages was x s).1::(wrPs d pages was xs (wrP d pages was x s).2).1,(wrPs d pages was xs (wrP d pages was x s).2).2)
end
theorem qc0 (x:Wt)(l:List Wt)(p:Pl):qax p (x::l)=if(p.give x).1 then qax (p.give x).2 l else(false,(p.give x).2):=rfl
theorem qcE:∀ (a b:List Wt) (p:Pl),qax p (a++b)=if(qax p a).1 then qax (qax p a).2 b else qax p a
 | [],b,p=>by simp[qax]
 | x::a,b,p=>by
  rw[zaW,qc0,qc0];split
  ·exact qcE a b _
  ·rfl
structure Wrote (d pages:Nat) (was:Bs) (s s':Ws) (l:List Nat):Prop where
 put:s'.put=s.put++l
 use:Put pages was s.use s'.use l
 most:s'.p.most=s.p.most
 tp:s'.p.tp=s.p.tp
 disk:s'.p.disk=s.p.disk
 waits:∃ ws,s'.p.waits=s.p.waits++ws∧∀ x∈ws,x.dev=d∧2≤x.place∧(x.place-2) / 8<pages∧hasB s.use ((x.place-2) / 8)=false∧hasB was ((x.place-2) / 8)=false
 e:s'.e=0∨s'.e=2∨s'.e=3
 on:s'.e≠2→s'.p.off=s.p.off
 off:s'.e=2→s'.p.off=true
theorem Wrote.refl (d pages:Nat)(was:Bs)(s:Ws)(he:s.e=0):Wrote d pages was s s []:=
 ⟨by simp,Put.refl ..,rfl,rfl,rfl,⟨[],by simp,by simp⟩,.inl he,fun _=>rfl,fun h=>by omega⟩
theorem Wrote.trans {pages:Nat}{a b c:Ws}{l m:List Nat}(h:Wrote d pages was a b l)(k:Wrote d pages was b c m)(hb:b.e=0):Wrote d pages was a c (l++m):=by
 obtain⟨u,h1,h2⟩:=h.waits;obtain⟨v,k1,k2⟩:=k.waits;refine⟨by rw[k.put,h.put,zaj],h.use.trans k.use,k.most.trans h.most,k.tp.trans h.tp,k.disk.trans h.disk,⟨u++v,by rw[k1,h1,zaj],fun x hx=>?_⟩,k.e,fun hc=>(k.on hc).trans (h.on (by omega)),k.off⟩;rcases zar.1 hx with hx|hx
 ·exact h2 x hx
 ·obtain⟨a1,a2,a3,a4,a5⟩:=k2 x hx;refine⟨a1,a2,a3,?_,a5⟩;rw[h.use.has]at a4;simp only[Bool.or_eq_false_iff]at a4;exact a4.1
theorem qcv (h:x∈qaj d n b):x.dev=d∧2≤x.place∧(x.place-2) / 8=n:=by
 unfold qaj at h;obtain⟨i,hi,rfl⟩:=zbg.1 h;have:=zbb.1 hi;exact⟨rfl,by simp;omega,by simp;omega⟩
theorem qd0 (d pages:Nat)(was b:Bs)(s:Ws)(hp:pages≤384)(hu:s.use.length=48)(he:s.e=0):∃ l,Wrote d pages was s (putW d pages was b s).2 l:=by
 unfold putW;rw[zaB (by omega)];split
 ·exact⟨[],by simp,Put.refl ..,rfl,rfl,rfl,⟨[],by simp,by simp⟩,.inr (.inr rfl),fun _=>rfl,fun h=>by cases h⟩
 ·rename_i n hn;have hf:=qaT hn;have g:=qbW (qaj d n b) s.p;obtain⟨k,g1,g2,g3⟩:=g.waits;have hw:∀ x∈(qaj d n b).take k,x.dev=d∧2≤x.place∧(x.place-2) / 8<pages∧hasB s.use ((x.place-2) / 8)=false∧hasB was ((x.place-2) / 8)=false:=by
   intro x hx;obtain⟨a,b,c⟩:=qcv (zaY hx);rw[c];exact⟨a,b,hf⟩
  split
  ·rename_i h1;exact⟨[n],rfl,Put.one hu hp hn,g.most,g.tp,g.disk,⟨_,g2,hw⟩,.inl he,fun _=>g.on h1,fun h=>by have h':s.e=2:=h;omega⟩
  ·rename_i h1;exact⟨[],by simp,Put.refl ..,g.most,g.tp,g.disk,⟨_,g2,hw⟩,.inr (.inl rfl),fun h=>absurd rfl h,fun _=>g.off (by simpa using h1)⟩
theorem qck (d pages:Nat)(was b:Bs)(s:Ws)(he:s.e≠0):putW d pages was b s=(-1,s):=by
 unfold putW;rw[zaw he]
mutual
theorem qlK (d pages:Nat)(was:Bs):∀ (k:Kd) (s:Ws),s.e≠0→(wrP d pages was k s).2=s
 | .page p,s,_=>by simp only[wrP]
 | .leaf ps,s,he=>by simp only[wrP,qck _ _ _ _ s he]
 | .inner ks xs,s,he=>by
  simp only[wrP];rw[qcW d pages was xs s he,qck _ _ _ _ s he]
theorem qcW (d pages:Nat)(was:Bs):∀ (xs:List Kd) (s:Ws),s.e≠0→(wrPs d pages was xs s).2=s
 | [],s,_=>by simp only[wrPs]
 | x::xs,s,he=>by
  simp only[wrPs];rw[qlK d pages was x s he,qcW d pages was xs s he]
end
mutual
theorem qhQ (d pages:Nat)(was:Bs)(hp:pages≤384):∀ (k:Kd) (s:Ws),s.use.length=48→s.e=0→∃ l,Wrote d pages was s (wrP d pages was k s).2 l
 | .page p,s,_,he=>⟨[],by simp only[wrP];exact Wrote.refl _ _ _ _ he⟩
 | .leaf ps,s,hu,he=>by simp only[wrP];exact qd0 d pages was _ s hp hu he
 | .inner ks xs,s,hu,he=>by
  simp only[wrP];obtain⟨l,h⟩:=qgh d pages was hp xs s hu he;by_cases h1:(wrPs d pages was xs s).2.e=0
  ·obtain⟨m,h2⟩:=qd0 d pages was (encK (.inner ks ((wrPs d pages was xs s).1.map fun(i:Int)=>Kd.page i.toNat))) _ hp (by rw[h.use.len];exact hu) h1;exact⟨l++m,h.trans h2 h1⟩
  ·rw[qck _ _ _ _ _ h1];exact⟨l,h⟩
theorem qgh (d pages:Nat)(was:Bs)(hp:pages≤384):∀ (xs:List Kd) (s:Ws),s.use.length=48→s.e=0→∃ l,Wrote d pages was s (wrPs d pages was xs s).2 l
 | [],s,_,he=>⟨[],by simp only[wrPs];exact Wrote.refl _ _ _ _ he⟩
 | x::xs,s,hu,he=>by
  simp only[wrPs];obtain⟨l,h⟩:=qhQ d pages was hp x s hu he;by_cases h1:(wrP d pages was x s).2.e=0
  ·obtain⟨m,h2⟩:=qgh d pages was hp xs _ (by rw[h.use.len];exact hu) h1;exact⟨l++m,h.trans h2 h1⟩
  ·rw[qcW _ _ _ _ _ h1];exact⟨l,h⟩
end
def qbO (d:Nat)(l:List (Nat×Bs)):List Wt:=l.flatMap fun x=>qaj d x.1 x.2
theorem qem (d:Nat)(a b:List (Nat×Bs)):qbO d (a++b)=qbO d a++qbO d b:=by simp[qbO]
def Went (d:Nat)(s:Ws)(n:Int)(use':Bs)(l:List (Nat×Bs))(r:Int×Ws):Prop:=
 if(qax s.p (qbO d l)).1 then r=(n,⟨0,(qax s.p (qbO d l)).2,use',s.put++l.map Prod.fst⟩)else r.2.e=2∧r.2.p=(qax s.p (qbO d l)).2
theorem qhy {pages:Nat}{s:Ws}(he:s.e=0)(hn:qaC pages s.use was=some n):Went d s n (setB s.use n true) [(n,b)] (putW d pages was b s):=by
 have e:putW d pages was b s=if(qax s.p (qaj d n b)).1 then((n:Int),{ s with p:=(qax s.p (qaj d n b)).2,use:=setB s.use n true,put:=s.put++[n] })else(-1,{ s with e:=2,p:=(qax s.p (qaj d n b)).2 }):=by
  unfold putW;rw[zaB (by omega),hn]
 unfold Went;rw[e];simp only[qbO,zaq,zbU,zaG,zbp,zbA];by_cases h:(qax s.p (qaj d n b)).1=true
 ·rw[zaw h,zaw h,he]
 ·rw[zaB h,zaB h];exact⟨rfl,rfl⟩
mutual
theorem qi4 {d pages:Nat}{was:Bs}:∀ (k:Kd) (s:Ws) {n:Nat} {use':Bs} {l:List (Nat×Bs)},s.e=0→qbb pages was k s.use=some (n,use',l)→Went d s n use' l (wrP d pages was k s)
 | .page p,s,n,use',l,he,h=>by
  simp only[qbb,zax,zaN]at h;obtain⟨rfl,rfl,rfl⟩:=h;unfold Went wrP;simp only[qbO,zbU,qax,zcn,zbA,zaG];rw[←he]
 | .leaf ps,s,n,use',l,he,h=>by
  simp only[qbb,zbl,zaN]at h;obtain⟨m,h1,rfl,rfl,rfl⟩:=h;simp only[wrP];exact qhy he h1
 | .inner ks xs,s,n,use',l,he,h=>by
  simp only[qbb]at h;split at h
  ·cases h
  ·rename_i ps use1 l1 h0;simp only[zbl,zaN]at h;obtain⟨m,h1,rfl,rfl,rfl⟩:=h;have ih:=qhS (d:=d) xs s he h0;simp only[wrP];unfold Went;rw[qem,qcE];split at ih
   ·rename_i hg;rw[zaw hg,ih];have e:(ps.map fun(i:Nat)=>(i:Int)).map (fun(i:Int)=>Kd.page i.toNat)=ps.map Kd.page:=by
     rw[zcN];exact List.map_congr_left fun a _=>by simp
    simp only;rw[e];have hw:=qhy (d:=d) (pages:=pages) (was:=was) (b:=encK (.inner ks (ps.map .page))) (s:=⟨0,(qax s.p (qbO d l1)).2,use1,s.put++l1.map Prod.fst⟩) rfl h1;unfold Went at hw;simp only[zbp,zbA]at hw;simp only[zbD,zbp,zbA];rw[zaj]at hw;exact hw
   ·rename_i hg;rw[zaB hg,zaB hg];rw[qck _ _ _ _ _ (by rw[ih.1];decide)];exact ih
theorem qhS {d pages:Nat}{was:Bs}:∀ (xs:List Kd) (s:Ws) {ps:List Nat} {use':Bs} {l:List (Nat×Bs)},s.e=0→qaZ pages was xs s.use=some (ps,use',l)→
  if(qax s.p (qbO d l)).1 then wrPs d pages was xs s=(ps.map (fun(i:Nat)=>(i:Int)),⟨0,(qax s.p (qbO d l)).2,use',s.put++l.map Prod.fst⟩)else(wrPs d pages was xs s).2.e=2∧(wrPs d pages was xs s).2.p=(qax s.p (qbO d l)).2
 | [],s,ps,use',l,he,h=>by
  simp only[qaZ,zax,zaN]at h;obtain⟨rfl,rfl,rfl⟩:=h;simp only[qbO,zbU,qax,zcn,zbA,zaG,wrPs];rw[←he]
 | x::xs,s,ps,use',l,he,h=>by
  simp only[qaZ]at h;split at h
  ·cases h
  ·rename_i p use1 l1 h0;split at h
   ·cases h
   ·rename_i ps2 use2 l2 h2;simp only[zax,zaN]at h;obtain⟨rfl,rfl,rfl⟩:=h;have a:=qi4 (d:=d) x s he h0;simp only[wrPs];rw[qem,qcE];unfold Went at a;split at a
    ·rename_i hg;rw[zaw hg,a];have ih:=qhS (d:=d) xs ⟨0,(qax s.p (qbO d l1)).2,use1,s.put++l1.map Prod.fst⟩ rfl h2;simp only at ih⊢;split at ih
     ·rename_i hg2;rw[zaw hg2,ih];simp
     ·rename_i hg2;rw[zaB hg2];exact ih
    ·rename_i hg;rw[zaB hg,zaB hg];rw[qcW _ _ _ _ _ (by rw[a.1];decide)];exact a
end
theorem qh1 {pages:Nat}(h:∀ n,n<pages→hasB use n=true→∀ i,i<8→s' (2+n*8+i)=s (2+n*8+i)):qah s' pages use=qah s pages use:=by
 funext n;unfold qah;split
 ·rename_i hc;rw[qc9 (h n hc.1 hc.2)]
 ·rfl
theorem qjX {n:Kd}(h:decK b=some n):qbf n=0∧isPage n=false:=by
 obtain⟨hd,_⟩:=qjZ h;cases hd with
 | leaf _ _ _=>exact⟨rfl,rfl⟩
 | @inner ks xs _ _ _ hp=>
  refine⟨?_,rfl⟩;simp only[qbf];have:∀ ys:List Kd,(∀ x∈ys,∃ p,x=.page p∧p<65536)→qaq ys=0:=by
   intro ys
   induction ys with
   | nil=>intro _;rfl
   | cons y ys ih=>
    intro h;obtain⟨p,rfl,_⟩:=h y (by simp);simp only[qaq,news];rw[ih fun x hx=>h x (by simp[hx])]
  exact this xs hp
theorem qdP (s:Nat→Bs)(pages:Nat)(use:Bs):qjP (qah s pages use):=by
 intro p n h;unfold qah at h;split at h
 ·obtain⟨b,_,h2⟩:=zbS.1 h;exact(qjX h2).1
 ·cases h
structure TreeIs (s:Nat→Bs) (pages:Nat) (use:Bs) (L root1:Nat) (l:List Pr):Prop where
 none:root1=0→l=[]∧∀ i,i<384→hasB use i=false
 some:root1≠0→∃ h,T2 (qah s pages use) L h (.page (root1-1))∧itemsK (qah s pages use) h (.page (root1-1))=l∧(pgs (qah s pages use) h (.page (root1-1))).Nodup∧∀ i,i<384→(hasB use i=true↔i∈pgs (qah s pages use) h (.page (root1-1)))
theorem TreeIs.congr {pages:Nat}{root1:Nat}{l:List Pr}(h:TreeIs s pages use L root1 l)(hs:∀ n,n<pages→hasB use n=true→∀ i,i<8→s' (2+n*8+i)=s (2+n*8+i)):TreeIs s' pages use L root1 l:=by
 have e:=qh1 hs;exact⟨h.none,by rw[e];exact h.some⟩
structure OldIs (p:Pl) (d pages L:Nat) (c:Cm) (old:List Pr):Prop where
 com:Com p d pages c
 tree:TreeIs (p.disk d) pages c.ub L c.root1 old
theorem OldIs.to {q:Pl}{pages:Nat}{c:Cm}(h:OldIs p d pages L c old)(hm:q.most=p.most)(hd:q.disk=p.disk)(hw:∀ x∈q.waits,x.dev=d→2≤x.place∧hasB c.ub ((x.place-2) / 8)=false):OldIs q d pages L c old:=
 ⟨h.com.to hm (fun k _=>by rw[hd]) hw,by rw[hd];exact h.tree⟩
theorem qgM (n i:Nat)(hi:i<8):(2+n*8+i-2) / 8=n:=by omega
theorem OldIs.seen {pages:Nat}{c:Cm}(h:OldIs p d pages L c old):TreeIs (p.seen d) pages c.ub L c.root1 old:=
 h.tree.congr fun n _ hu i hi=>h.com.seen (.inr (by rw[qgM n i hi];exact hu))
theorem OldIs.boot {pages:Nat}{c:Cm}(h:OldIs p d pages L c old)(keep:List Int):OldIs (p.boot keep) d pages L c old:=
 ⟨h.com.boot keep,h.tree.congr fun n _ hu i hi=>h.com.lay (fun _=>qdx) (.inr (by rw[qgM n i hi];exact hu))⟩
structure Ts where
 p:Pl
 g:Pg
 root1:Nat
structure Std (d L:Nat) (t:Ts) (now old:List Pr):Prop where
 old:OldIs t.p d t.g.pages L ⟨t.g.gen,t.g.root1,t.g.was⟩ old
 on:t.p.off=false
 now:TreeIs (t.p.seen d) t.g.pages t.g.use L t.root1 now
 use:t.g.use.length=48
 up:∀ i,t.g.pages≤i→i<384→hasB t.g.use i=false
theorem Std.pages {t:Ts}(h:Std d L t now old):t.g.pages≤384:=by
 obtain⟨m,_,h1,_⟩:=h.old.com.m;omega
def qdI (D:Dsk)(root1:Nat)(key:Bs)(v:Option Bs):Option (Option Kd×List Nat):=
 if root1=0 then some (some (.leaf (chgR key v [])),[])else(qaS D 400 [] (.page (root1-1)) key v).map fun x=>(topK x.1 x.2.1,x.2.2)
def qeq (d:Nat)(t:Ts)(met:List Nat):Option Kd→Nat×Ts
 | none=>(0,{ t with g:={ t.g with use:=qaK t.g.use met },root1:=0 })
 | some k=>let r:=wrP d t.g.pages t.g.was (single 400 k) ⟨0,t.p,t.g.use,[]⟩
  if r.2.e=0 then(0,⟨r.2.p,{ t.g with use:=qaK r.2.use met },r.1.toNat+1⟩)else(r.2.e,⟨r.2.p,{ t.g with use:=qaK r.2.use r.2.put },t.root1⟩)
def qa5 (d:Nat)(t:Ts)(key:Bs)(v:Option Bs):Nat×Ts:=
 if qal t.g.pages t.g.use t.g.was<16 then(3,t)else match qdI (qah (t.p.seen d) t.g.pages t.g.use) t.root1 key v with
  | none=>(4,t)
  | some x=>qeq d t x.2 x.1
theorem qgL {D:qa9}{k:Nat}(h:k<2∨(k-2) / 8≠n):lay D (qaj d n b) d k=D d k:=
 qci fun x hx e=>by
  obtain⟨_,h2,h3⟩:=qcv hx;rcases h with h|h
  ·omega
  ·rw[e.2]at h3;exact h h3
theorem ql6 {D:qa9}(hx:x∈l)(hu:∀ y∈l,y.dev=x.dev→y.place=x.place→y=x):lay D l x.dev x.place=x.b:=by
 induction l generalizing D with
 | nil=>cases hx
 | cons y l ih=>
  rw[lay];by_cases hm:x∈l
  ·exact ih hm fun z hz=>hu z (by simp[hz])
  ·rw[qci fun z hz e=>hm (by rw[←hu z (by simp[hz]) e.1 e.2];exact hz)];obtain rfl:x=y:=by
    rcases za0.1 hx with h|h
    ·exact h
    ·exact absurd h hm
   unfold setD;rw[zaw ⟨rfl,rfl⟩]
theorem qij {D:qa9}(hi:i<8):lay D (qaj d n b) d (2+n*8+i)=qaU b i:=by
 have hx:(⟨d,2+n*8+i,qaU b i⟩:Wt)∈qaj d n b:=zbg.2 ⟨i,zbb.2 hi,rfl⟩;refine ql6 (x:=⟨d,2+n*8+i,qaU b i⟩) hx fun y hy _ e2=>?_;obtain⟨j,hj,rfl⟩:=zbg.1 hy;have Ha:2+n*8+j=2+n*8+i:=e2;obtain rfl:j=i:=by omega
 rfl
theorem qdo {d:Nat}:∀ {l:List (Nat×Bs)} {D:qa9} {k:Nat},(k<2∨∀ x∈l,(k-2) / 8≠x.1)→lay D (qbO d l) d k=D d k
 | [],_,_,_=>rfl
 | x::l,D,k,h=>by
  have e:qbO d (x::l)=qaj d x.1 x.2++qbO d l:=rfl;rw[e,qbp,qdo (l:=l) (by
   rcases h with h|h
   ·exact .inl h
   ·exact .inr fun y hy=>h y (by simp[hy])),qgL]
  rcases h with h|h
  ·exact .inl h
  ·exact .inr (h x (by simp))
theorem qhT {d:Nat}:∀ {l:List (Nat×Bs)} {D:qa9} {x:Nat×Bs} {i:Nat},(l.map Prod.fst).Nodup→x∈l→i<8→lay D (qbO d l) d (2+x.1*8+i)=qaU x.2 i
 | [],_,_,_,_,h,_=>by cases h
 | y::l,D,x,i,hn,hx,hi=>by
  have e:qbO d (y::l)=qaj d y.1 y.2++qbO d l:=rfl;rw[zbp,List.nodup_cons]at hn;rw[e,qbp];rcases za0.1 hx with rfl|hx
  ·rw[qdo (.inr fun z hz e=>hn.1 (by
    rw[qgM _ i hi]at e;rw[e];exact zbg.2 ⟨z,hz,rfl⟩))]
   exact qij hi
  ·exact qhT hn.2 hx hi
theorem qek {D:Dsk}{pages:Nat}{was:Bs}:∀ (h:Nat) (k:Kd) (use:Bs) {n:Nat} {use':Bs} {l:List (Nat×Bs)},WF D h k→qbb pages was k use=some (n,use',l)→∀ x∈l,x.2.length≤500
 | h,.page p,use,n,use',l,hw,he=>by
  simp only[qbb,zax,zaN]at he;obtain⟨_,_,rfl⟩:=he;simp
 | 0,.inner ks xs,use,n,use',l,hw,he=>by
  obtain⟨m,h1,⟨ps,rfl,_⟩,_⟩:=hw;cases h1
 | h+1,.leaf ps,use,n,use',l,hw,he=>by
  obtain⟨m,h1,⟨ks,xs,rfl,_⟩,_⟩:=hw;cases h1
 | 0,.leaf ps,use,n,use',l,hw,he=>by
  simp only[qbb,zbl,zaN]at he;obtain⟨m,e1,rfl,rfl,rfl⟩:=he;obtain⟨q,h1,h2,h3⟩:=hw;obtain rfl:Kd.leaf ps=q:=zaF h1;intro x hx;obtain rfl:=za3.1 hx;rw[qew _ rfl];exact h3
 | h+1,.inner ks xs,use,n,use',l,hw,he=>by
  simp only[qbb]at he;split at he
  ·cases he
  ·rename_i ps use1 l1 h0;simp only[zbl,zaN]at he;obtain⟨m,e1,rfl,rfl,rfl⟩:=he;obtain⟨q,h1,h2,h3⟩:=hw;obtain rfl:Kd.inner ks xs=q:=zaF h1;obtain⟨ks',xs',e,g1,k1,s1,x1⟩:=h2;cases e;have key:∀ (ys:List Kd) (u:Bs) (qs:List Nat) (u':Bs) (l2:List (Nat×Bs)),(∀ x∈ys,WF D h x)→qaZ pages was ys u=some (qs,u',l2)→(∀ x∈l2,x.2.length≤500)∧qs.length=ys.length:=by
    intro ys
    induction ys with
    | nil=>
     intro u qs u' l2 _ he;simp only[qaZ,zax,zaN]at he;obtain⟨rfl,_,rfl⟩:=he;simp
    | cons y ys ih=>
     intro u qs u' l2 hy he;simp only[qaZ]at he;split at he
     ·cases he
     ·rename_i p1 u1 la ha;split at he
      ·cases he
      ·rename_i qs2 u2 lb hb;simp only[zax,zaN]at he;obtain⟨rfl,rfl,rfl⟩:=he;have a:=qek h y u (hy y (by simp)) ha;obtain⟨b1,b2⟩:=ih u1 qs2 u2 lb (fun x hx=>hy x (by simp[hx])) hb;refine⟨fun x hx=>?_,by simp[b2]⟩;rcases zar.1 hx with hx|hx
       ·exact a x hx
       ·exact b1 x hx
   obtain⟨b1,b2⟩:=key xs use ps use1 l1 x1 h0;intro x hx;rcases zar.1 hx with hx|hx
   ·exact b1 x hx
   ·obtain rfl:=za3.1 hx;rw[qew _ rfl];simp only[nsize,zaE]at h3⊢;rw[b2];exact h3
theorem qha {q:Pl}(h:Gave p q l true):q.waits=p.waits++l∧q.seen=lay p.seen l:=by
 obtain⟨k,_,h2,h3⟩:=h.waits;have hk:=h3 rfl;subst hk;rw[zby]at h2;refine⟨h2,?_⟩;unfold Pl.seen;rw[h.disk,h2,qbp]
theorem OldIs.gave {q:Pl}{pages:Nat}{c:Cm}{ok:Bool}(h:OldIs p d pages L c old)(hg:Gave p q l ok)(hl:∀ x∈l,x.dev=d→2≤x.place∧hasB c.ub ((x.place-2) / 8)=false):OldIs q d pages L c old:=by
 obtain⟨k,_,h2,_⟩:=hg.waits;refine h.to hg.most hg.disk fun x hx hd=>?_;rw[h2]at hx;rcases zar.1 hx with hx|hx
 ·exact h.com.wt x hx hd
 ·exact hl x (zaY hx) hd
theorem qkj {l:List (Nat×Bs)}(h:x∈qbO d l):2≤x.place∧(x.place-2) / 8∈l.map Prod.fst:=by
 obtain⟨y,hy,hx⟩:=zaS.1 h;obtain⟨_,h2,h3⟩:=qcv hx;exact⟨h2,by rw[h3];exact zbg.2 ⟨y,hy,rfl⟩⟩
def Came (d L:Nat)(t:Ts)(r:Nat×Ts)(l old:List Pr):Prop:=
 (r.1=0∧Std d L r.2 l old∧r.2.g.gen=t.g.gen∧r.2.g.root1=t.g.root1∧r.2.g.was=t.g.was∧r.2.g.pages=t.g.pages∧∃ ws,r.2.p.waits=t.p.waits++ws)∨
 (r.1=2∧r.2.p.off=true∧OldIs r.2.p d t.g.pages L ⟨t.g.gen,t.g.root1,t.g.was⟩ old)
theorem Std.swap {t:Ts}{l:List Pr}(hs:Std d L t now old){h':Nat}{met:List Nat}(h16:16≤qal t.g.pages t.g.use t.g.was)(hU:∀ i,i<384→(hasB t.g.use i=true↔i∈U))(hUn:U.Nodup)(hUl:∀ i∈U,i<384)
  (ht:T2 (qah (t.p.seen d) t.g.pages t.g.use) L h' (single 400 k))(hi:itemsK (qah (t.p.seen d) t.g.pages t.g.use) h' (single 400 k)=l)(hp:List.Perm (met++pgs (qah (t.p.seen d) t.g.pages t.g.use) h' (single 400 k)) U)(hn:news (single 400 k)≤8) :
  Came d L t (qeq d t met (some k)) l old:=by
 have Hk:=hs.pages;generalize hk:single 400 k=s at *;generalize hD:qah (t.p.seen d) t.g.pages t.g.use=D at *;obtain⟨n,use',wl,w1,w2,w3⟩:=qfo (was:=t.g.was) Hk s t.g.use hs.use (by omega);have He:=qc6 Hk s t.g.use hs.use w1;have Ha:=qi4 (d:=d) (pages:=t.g.pages) (was:=t.g.was) s ⟨0,t.p,t.g.use,[]⟩ rfl w1;have Hf:=qbW (qbO d wl) t.p;have Hj:∀ x∈qbO d wl,x.dev=d→2≤x.place∧hasB t.g.was ((x.place-2) / 8)=false:=fun x hx _=>by
  obtain⟨a,b⟩:=qkj hx;exact⟨a,(He.free _ b).2.2⟩
 unfold Went at Ha;simp only at Ha;simp only[qeq,hk];split at Ha
 ·rename_i hg;left;rw[hg]at Hf;rw[Ha];simp only[zcn];obtain⟨g1,g2⟩:=qha Hf;generalize hq:(qax t.p (qbO d wl)).2=q at *;have Hp:=(hp.nodup_iff).2 hUn;obtain⟨nd1,nd2,nd3⟩:=zaD.1 Hp;have Hh:∀ i,i∈U↔i∈met∨i∈pgs D h' s:=fun i=>by rw[←hp.mem_iff,zar]
  have Hi:∀ i∈met,i<384:=fun i hm=>hUl i ((Hh i).2 (.inl hm));have Hb:∀ i∈wl.map Prod.fst,i<t.g.pages∧i∉U:=fun i hw=>by
   obtain⟨a,b,_⟩:=He.free i hw;refine⟨a,fun hu=>?_⟩;rw[(hU i (by omega)).2 hu]at b;cases b
  have Hm:∀ i,hasB (qaK use' met) i=((hasB t.g.use i||decide (i∈wl.map Prod.fst))&&!decide (i∈met)):=fun i=>by
   rw[qde met use' w3 Hi,He.has]
  have Hg:∀ i,i<384→(hasB (qaK use' met) i=true↔i∈pgs D h' s∨i∈wl.map Prod.fst):=by
   intro i hi4;rw[Hm];simp only[zba,Bool.or_eq_true,zbf,zc9,decide_eq_false_iff_not];rw[hU i hi4,Hh];constructor
   ·rintro⟨(h1|h1)|h1,h2⟩
    ·exact absurd h1 h2
    ·exact .inl h1
    ·exact .inr h1
   ·rintro(h1|h1)
    ·exact⟨.inl (.inr h1),fun h2=>nd3 i h2 i h1 rfl⟩
    ·exact⟨.inr h1,fun h2=>(Hb i h1).2 ((Hh i).2 (.inl h2))⟩
  have Hc:∀ i,(i∈pgs D h' s∨i∈wl.map Prod.fst)→i<t.g.pages∧hasB (qaK use' met) i=true:=by
   intro i hi2;have Hn:i<t.g.pages:=by
    rcases hi2 with h1|h1
    ·have h2:=(Hh i).2 (.inr h1);have h3:=hUl i h2;refine Nat.lt_of_not_le fun h4=>?_;have:=hs.up i h4 h3;rw[(hU i h3).2 h2]at this;cases this
    ·exact(Hb i h1).1
   exact⟨Hn,(Hg i (by omega)).2 hi2⟩
  have Hq:∀ i∈pgs D h' s,i<65536∧qah (q.seen d) t.g.pages (qaK use' met) i=D i:=by
   intro i hi2;obtain⟨c1,c2⟩:=Hc i (.inl hi2);have Hl:=(Hh i).2 (.inr hi2);have Hr:=(hU i (by omega)).2 Hl;refine⟨by omega,?_⟩;rw[←hD];unfold qah;rw[zaw ⟨c1,c2⟩,zaw ⟨c1,Hr⟩];congr 1;refine qc9 fun j hj=>?_;rw[g2,qdo (.inr fun x hx e=>?_)];rw[qgM i j hj]at e;exact(Hb x.1 (zbg.2 ⟨x,hx,rfl⟩)).2 (e▸Hl)
  have Ho:∀ x∈wl,qah (q.seen d) t.g.pages (qaK use' met) x.1=decK x.2:=by
   intro x hx;have Hs:x.1∈wl.map Prod.fst:=zbg.2 ⟨x,hx,rfl⟩;obtain⟨c1,c2⟩:=Hc x.1 (.inr Hs);unfold qah;rw[zaw ⟨c1,c2⟩,qep (b:=x.2) (qek h' s t.g.use ht.wf w1 x hx) fun j hj=>by rw[g2];exact qhT He.nd hx hj];rfl
  obtain⟨t1,t2,t3,t4⟩:=T2.write Hk ht hs.use Hq w1 Ho;refine⟨trivial,⟨hs.old.gave Hf Hj,(Hf.on rfl).trans hs.on,⟨fun h0=>by simp at h0,fun _=>?_⟩,by rw[qdf];exact w3,fun i i1 i2=>?_⟩,trivial,trivial,trivial,trivial,_,g1⟩
  ·refine⟨h',by simpa using t1,by simpa [hi] using t2,?_,fun i hi4=>?_⟩
   ·simp only[zda,Nat.add_sub_cancel];refine(t3.nodup_iff).2 ?_;rw[zaD];refine⟨nd2,He.nd,fun a ha b hb e=>?_⟩;subst e;exact(Hb a hb).2 ((Hh a).2 (.inr ha))
   ·simp only[zda,Nat.add_sub_cancel];rw[t3.mem_iff,zar];exact Hg i hi4
  ·have Ht:t.g.pages≤i:=i1;cases h0:hasB (qaK use' met) i with
   | false=>rfl
   | true=>
    have:=(Hc i ((Hg i i2).1 h0)).1;omega
 ·right;rename_i hg;have hg:(qax t.p (qbO d wl)).1=false:=by simpa using hg
  rw[hg]at Hf;rw[zaB (by rw[Ha.1];decide)];refine⟨Ha.1,?_,?_⟩
  ·show(wrP d t.g.pages t.g.was s ⟨0,t.p,t.g.use,[]⟩).2.p.off=true;rw[Ha.2];exact Hf.off rfl
  ·show OldIs (wrP d t.g.pages t.g.was s ⟨0,t.p,t.g.use,[]⟩).2.p d _ _ _ _;rw[Ha.2];exact hs.old.gave Hf Hj
theorem qfY {l1:List Nat}:∀ {l2:List Nat},l1.Nodup→(∀ x∈l1,x∈l2)→l1.length≤l2.length:=by
 induction l1 with
 | nil=>intro l2 _ _;simp
 | cons a l1 ih=>
  intro l2 hn hs;have ha:=hs a (by simp);obtain⟨n1,n2⟩:=List.nodup_cons.1 hn;have:=ih (l2:=l2.erase a) n2 fun x hx=>(List.mem_erase_of_ne (fun e=>n1 (by rw[←e];exact hx))).2 (hs x (by simp[hx]));rw[List.length_erase_of_mem ha]at this;have hp:=List.length_pos_of_mem ha;rw[zao];omega
theorem qkW {pages:Nat}(hn:U.Nodup)(hU:∀ i∈U,i<pages∧hasB use i=true):U.length+qal pages use was≤pages:=by
 have h:(U++(List.range pages).filter (qbJ use was)).Nodup:=by
  rw[zaD];refine⟨hn,List.nodup_range.filter _,fun a ha b hb e=>?_⟩;subst e;have:=(zbH.1 hb).2;unfold qbJ at this;rw[(hU a ha).2]at this;simp at this
 have:=qfY (l2:=List.range pages) h fun x hx=>by
  rcases zar.1 hx with hx|hx
  ·exact zbb.2 (hU x hx).1
  ·exact(zbH.1 hx).1
 rw[zad,zci]at this;exact this
theorem Std.apply {t:Ts}(hs:Std d L t now old)(hk:klen key)(hkL:key.length≤L)(hv:∀ x,v=some x→x.length≤160)(hne:t.root1=0→v≠none)
  (hfit:∀ ks xs,qah (t.p.seen d) t.g.pages t.g.use (t.root1-1)=some (.inner ks xs)→xs.length+1+qal t.g.pages t.g.use t.g.was≤t.g.pages→Fit (qah (t.p.seen d) t.g.pages t.g.use) L (xs.length+1) (chgR key v now)) :
  ((qa5 d t key v).1=3∧qal t.g.pages t.g.use t.g.was<16∧(qa5 d t key v).2=t)∨Came d L t (qa5 d t key v) (chgR key v now) old:=by
 have Hm:=hs.pages;unfold qa5;by_cases Hc:qal t.g.pages t.g.use t.g.was<16
 ·rw[zaw Hc];exact .inl ⟨rfl,Hc,rfl⟩
 ·rw[zaB Hc];right;have Hc:16≤qal t.g.pages t.g.use t.g.was:=by omega
  unfold qdI;by_cases h0:t.root1=0
  ·rw[zaw h0];obtain⟨n1,n2⟩:=hs.now.none h0;subst n1;cases v with
   | none=>exact absurd rfl (hne h0)
   | some x=>
    have e:chgR key (some x) []=[(key,x)]:=rfl;have hx:=hv x rfl;have Hk:=hk;unfold klen at Hk;have hw:WF (qah (t.p.seen d) t.g.pages t.g.use) 0 (.leaf (chgR key (some x) [])):=⟨_,rfl,⟨_,rfl,by rw[e];simp,fun p hp=>by
     rw[e]at hp;obtain rfl:=za3.1 hp;exact⟨hk,hx⟩⟩,by rw[e];simp[nsize,qaL];omega⟩
    refine hs.swap (U:=[]) (h':=0) Hc (fun i hi=>by simp[n2 i hi]) zch (by simp) (by rw[qaO];exact hw.t2 (by rw[e];simp[itemsK,nd,Srt]) (by rw[e];intro p hp;simp[itemsK,nd]at hp;subst hp;exact hkL)) (by rw[qaO];rfl) (by rw[qaO];simp[pgs,pageOf]) (by rw[qaO];simp[news])
  ·rw[zaB h0];obtain⟨h,t1,t2,t3,t4⟩:=hs.now.some h0;have Hg:∀ i∈pgs (qah (t.p.seen d) t.g.pages t.g.use) h (.page (t.root1-1)),i<384:=by
    intro i hi;refine Nat.lt_of_not_le fun h4=>?_;have key:∀ (h:Nat) (k:Kd),WF (qah (t.p.seen d) t.g.pages t.g.use) h k→∀ i∈pgs (qah (t.p.seen d) t.g.pages t.g.use) h k,i<t.g.pages:=by
     intro h
     induction h with
     | zero=>
      intro k hw i hi;obtain⟨m,h1,_⟩:=hw;cases k with
      | page p=>
       obtain rfl:i=p:=by simpa [pgs,pageOf] using hi
       have Hb:qah (t.p.seen d) t.g.pages t.g.use i=some m:=h1;unfold qah at Hb;split at Hb
       ·rename_i hc;exact hc.1
       ·cases Hb
      | leaf _=>simp[pgs,pageOf]at hi
      | inner _ _=>simp[pgs,pageOf]at hi
     | succ h ih=>
      intro k hw i hi;obtain⟨m,h1,hb,_⟩:=hw;rw[qaY h1 hb]at hi;rcases zar.1 hi with hi|hi
      ·cases k with
       | page p=>
        obtain rfl:i=p:=by simpa [pageOf] using hi
        have Hb:qah (t.p.seen d) t.g.pages t.g.use i=some m:=h1;unfold qah at Hb;split at Hb
        ·rename_i hc;exact hc.1
        ·cases Hb
       | leaf _=>simp[pageOf]at hi
       | inner _ _=>simp[pageOf]at hi
      ·obtain⟨ks,xs,rfl,_,_,_,hx⟩:=hb;simp only[pgs,nd,pageOf,zaA]at hi;obtain⟨x,hx1,hx2⟩:=zaS.1 hi;exact ih x (hx x hx1) i hx2
    have:=key h _ t1.wf i hi;omega
   have Hi:∀ i∈pgs (qah (t.p.seen d) t.g.pages t.g.use) h (.page (t.root1-1)),i<t.g.pages∧hasB t.g.use i=true:=fun i hi=>by
    have h1:=(t4 i (Hg i hi)).2 hi;refine⟨Nat.lt_of_not_le fun h2=>?_,h1⟩;rw[hs.up i h2 (Hg i hi)]at h1;cases h1
   have Ha:=qkW (was:=t.g.was) t3 Hi;rw[←t2];obtain⟨got,bet,m,c1,c2⟩:=t1.change (f:=400) t3 (by omega) (qdP _ _ _) rfl (key:=key) (v:=v) (fun ks xs hnd=>by
    rw[t2];refine hfit ks xs hnd ?_;obtain⟨mm,m1,m2,_⟩:=t1.wf;have Hf:nd (qah (t.p.seen d) t.g.pages t.g.use) (.page (t.root1-1))=some (.inner ks xs):=hnd;rw[m1]at Hf;obtain rfl:=zaF Hf
    match h,t1,m2,Ha,m1 with
    | 0,t1,m2,Ha,m1=>obtain⟨_,e,_⟩:=m2;cases e
    | 1,t1,m2,Ha,m1=>
     have Hj:∀ ys:List Kd,(∀ x∈ys,isPage x=true)→(ys.flatMap (pgs (qah (t.p.seen d) t.g.pages t.g.use) 0)).length=ys.length:=by
      intro ys
      induction ys with
      | nil=>intro _;rfl
      | cons y ys ih=>
       intro hy;have h1:=hy y (by simp);cases y with
       | page p=>simp only[zaq,zad,zao,ih fun x hx=>hy x (by simp[hx])];simp[pgs,pageOf];omega
       | leaf _=>cases h1
       | inner _ _=>cases h1
     have He:=qdP (t.p.seen d) t.g.pages t.g.use _ _ hnd;have Hl:∀ ys:List Kd,qaq ys=0→∀ x∈ys,isPage x=true:=by
      intro ys
      induction ys with
      | nil=>intro _ x hx;cases hx
      | cons y ys ih=>
       intro h0 x hx;simp only[qaq]at h0;rcases za0.1 hx with rfl|hx
       ·cases x with
        | page p=>rfl
        | leaf _=>simp[news]at h0
        | inner _ _=>simp[news]at h0
       ·exact ih (by omega) x hx
     rw[qaY m1 m2]at Ha;have e3:pgs (qah (t.p.seen d) t.g.pages t.g.use) 1 (.inner ks xs)=xs.flatMap (pgs (qah (t.p.seen d) t.g.pages t.g.use) 0):=rfl;rw[e3,zad,Hj xs (Hl xs He)]at Ha;simp only[pageOf,zao,zaZ]at Ha;omega
    | h+2,t1,_,_,_=>exact absurd t1.h1 (by omega)) hk hkL hv
   rw[c1];simp only[zcb];rcases c2 with⟨rfl,e1,e2⟩|⟨h',k,e0,e1,e2,e3,e4⟩
   ·left;have Hh:∀ i,i<384→hasB (qaK t.g.use m) i=false:=fun i hi=>by
     rw[qde m _ hs.use (fun j hj=>Hg j ((e2.mem_iff).1 hj))];cases hu:hasB t.g.use i with
     | false=>simp
     | true=>simp[(e2.mem_iff).2 ((t4 i hi).1 hu)]
    refine⟨rfl,⟨hs.old,hs.on,⟨fun _=>⟨e1,Hh⟩,fun h=>absurd rfl h⟩,by show(qaK t.g.use m).length=48;rw[qdf];exact hs.use,fun i _ hi=>Hh i hi⟩,rfl,rfl,rfl,rfl,[],by simp[topK,qeq]⟩
   ·rw[e0];exact hs.swap Hc t4 t3 Hg e1 e2 e3 e4
end Go.Proofs.YtpmebcgmgfcmiaaGreatDoor.BT
