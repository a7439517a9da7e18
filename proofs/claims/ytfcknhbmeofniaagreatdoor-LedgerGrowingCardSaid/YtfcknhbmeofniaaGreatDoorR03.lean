/- Texts KdW StSpec TsSpec TvSpec. -/
import Derived.Test.YtfcknhbmeofniaaGreatDoorR02
set_option linter.all false
set_option maxRecDepth 100000
set_option maxHeartbeats 16000000
namespace Go.Proofs.YtfcknhbmeofniaaGreatDoor.BT
variable {D:Dsk}{x:Wt}{L h n d:Nat}{k:Kd}{key was use b:Bs}{v:Option Bs}{s s':Nat→Bs}{p:Pl}{old now:List Pr}{U:List Nat}
def single:Nat→Kd→Kd
 | f+1,.inner _ [x]=>single f x
 | _,k=>k
theorem qie (f p:Nat):single f (.page p)=.page p:=by cases f<;>rfl
theorem qaR (f:Nat)(ps:List Pr):single f (.leaf ps)=.leaf ps:=by cases f<;>rfl
theorem qjq (f:Nat)(ks:List Bs){xs:List Kd}(h:2≤xs.length):single f (.inner ks xs)=.inner ks xs:=by
 match f,xs,h with
 | 0,_,_=>rfl
 | f+1,_::_::_,_=>rfl
def topK (got:List Kd)(bet:List Bs):Option Kd:=match got with
 | []=>none
 | [x]=>some x
 | _=>some (.inner bet got)
theorem WF.zero {x:Kd}(h:WF D 0 x)(f:Nat):single f x=x:=by
 obtain⟨m,h1,⟨ps,rfl,_⟩,_⟩:=h;cases x with
 | page p=>exact qie ..
 | leaf ps=>exact qaR ..
 | inner ks xs=>cases h1
theorem WF.t2 {x:Kd}(h:WF D 0 x)(hs:Srt (itemsK D 0 x))(hl:KeyL L (itemsK D 0 x)):T2 D L 0 x:=
 ⟨h,by omega,hs,hl,fun ks xs e=>by
  obtain⟨m,h1,⟨ps,rfl,_⟩,_⟩:=h;rw[h1]at e;cases e⟩
theorem T2.change {f:Nat}(ht:T2 D L h k)(hn:(pgs D h k).Nodup)(hf:2≤f)(hF:qjG D)(hpg:isPage k=true)
  (hfit:∀ ks xs,nd D k=some (.inner ks xs)→Fit D L (xs.length+1) (chgR key v (itemsK D h k)))(hk:klen key)(hkL:key.length≤L)(hv:∀ x,v=some x→x.length≤160) :
  ∃ got bet m,qbd D f [] k key v=some (got,bet,m)∧((got=[]∧chgR key v (itemsK D h k)=[]∧List.Perm m (pgs D h k))∨
   ∃ h' t,topK got bet=some t∧T2 D L h' (single 400 t)∧itemsK D h' (single 400 t)=chgR key v (itemsK D h k)∧List.Perm (m++pgs D h' (single 400 t)) (pgs D h k)∧news (single 400 t)≤8):=by
 obtain⟨got,bet,m,c1,c2,c3,c4⟩:=qeL h f [] k key v (by have:=ht.h1;omega) ht.wf ht.srt hn (by simp) hk hv;have Hc:Srt (chgR key v (itemsK D h k)):=Srt.chg ht.srt;have Hb:KeyL L (chgR key v (itemsK D h k)):=ht.keys.chg hkL;rw[zaI]at c1;refine⟨got,bet,m,c1,?_⟩;obtain⟨mk,n1,n2,n3⟩:=ht.wf;have Ha:=qeK hF h f [] k mk key v n1 n2 c1;have Hh:news k=0:=by cases k<;>first|rfl|cases hpg
 rw[Hh]at Ha
 match h,ht,hn,hfit,c2,c3,c4,Hc,Hb,Ha,n2 with
 | 0,ht,hn,hfit,c2,c3,c4,Hc,Hb,Ha,n2=>
  rcases change0 c1 ht.wf ht.srt ht.keys hk hkL hv with rfl|⟨ps,rfl,rfl,h5⟩|⟨a,b,q,rfl,rfl,hq,ht2⟩
  ·exact .inl ⟨rfl,c3.symm,by simpa using c4⟩
  ·right;have hw:=(c2.kids (.leaf ps) (by simp)).2;have hi:itemsK D 0 (.leaf ps)=chgR key v (itemsK D 0 k):=by simpa using c3
   refine⟨0,.leaf ps,rfl,?_,?_,?_,?_⟩
   ·rw[qaR];exact hw.t2 (by rw[hi];exact Hc) (by rw[hi];exact Hb)
   ·rw[qaR];exact hi
   ·rw[qaR];simpa using c4
   ·rw[qaR];simp[news]
  ·right;have e:single 400 (.inner [q] [.leaf a,.leaf b])=.inner [q] [.leaf a,.leaf b]:=rfl;have hi:itemsK D 1 (.inner [q] [.leaf a,.leaf b])=chgR key v (itemsK D 0 k):=by
    rw[←c3];simp[itemsK,nd]
   have hb:Body D 1 (.inner [q] [.leaf a,.leaf b]):=⟨_,_,rfl,rfl,c2.keys,c2.sep,fun x hx=>(c2.kids x hx).2⟩;have Hi:klen q:=c2.keys q (by simp);unfold klen at Hi;refine⟨1,.inner [q] [.leaf a,.leaf b],rfl,?_,?_,?_,?_⟩
   ·rw[e];refine⟨⟨_,rfl,hb,by simp[qaz,qaI];omega⟩,by omega,by rw[hi];exact Hc,by rw[hi];exact Hb,fun ks xs he=>?_⟩;obtain⟨rfl,rfl⟩:[q]=ks∧[Kd.leaf a,Kd.leaf b]=xs:=by
     have:=zaG he;injection this with h1 h2
     exact⟨h1,h2⟩
    refine⟨by simp,?_,by simpa using hq⟩;intro j x y hx hy
    match j,hx,hy with
    | 0,hx,hy=>
     simp at hx hy;subst hx hy;rw[qcR (ps:=a) rfl,qcR (ps:=b) rfl];exact ht2
    | j+1,hx,hy=>simp at hy
   ·rw[e];exact hi
   ·rw[e];simpa [pgs,nd,qah] using c4
   ·rw[e];simp[news,qay]
 | 1,ht,hn,hfit,c2,c3,c4,Hc,Hb,Ha,n2=>
  obtain⟨ks,xs,rfl,_⟩:=n2;have Hj:=ht.tight ks xs n1;rcases change1 c1 hf n1 ht.wf ht.srt ht.keys hn (by simp) Hj.2 (hfit ks xs n1) hk hkL hv with rfl|⟨ks2,xs2,rfl,rfl,t1,t2,t3⟩
  ·exact .inl ⟨rfl,c3.symm,by simpa using c4⟩
  ·right;have hw:=(c2.kids (.inner ks2 xs2) (by simp)).2;have hi:itemsK D 1 (.inner ks2 xs2)=chgR key v (itemsK D 1 k):=by simpa using c3
   have Hf:List.Perm (m++pgs D 1 (.inner ks2 xs2)) (pgs D 1 k):=by simpa using c4
   obtain⟨mm,e1,⟨ks3,xs3,e2,w1,w2,w3,w4⟩,w5⟩:=hw;obtain rfl:=zaG e1;obtain⟨rfl,rfl⟩:ks2=ks3∧xs2=xs3:=by
    injection e2 with h1 h2
    exact⟨h1,h2⟩
   by_cases h1:2≤xs2.length
   ·have e:=qjq 400 ks2 h1;refine⟨1,.inner ks2 xs2,rfl,?_,?_,?_,?_⟩
    ·rw[e];refine⟨⟨_,rfl,⟨_,_,rfl,w1,w2,w3,w4⟩,w5⟩,by omega,by rw[hi];exact Hc,by rw[hi];exact Hb,fun ks xs he=>?_⟩;obtain⟨rfl,rfl⟩:ks2=ks∧xs2=xs:=by
      have:=zaG he;injection this with h1 h2
      exact⟨h1,h2⟩
     exact⟨h1,t1,t2⟩
    ·rw[e];exact hi
    ·rw[e];exact Hf
    ·rw[e];simp only[qay]at Ha;omega
   ·obtain⟨x,rfl⟩:∃ x,xs2=[x]:=by
     cases xs2 with
     | nil=>simp at w1
     | cons x t=>cases t with
      | nil=>exact⟨x,rfl⟩
      | cons _ _=>simp at h1
    ·have Hg:WF D 0 x:=w4 x (by simp);have e:single 400 (.inner ks2 [x])=x:=Hg.zero 399;have He:itemsK D 0 x=chgR key v (itemsK D 1 k):=by rw[←hi];simp[itemsK,nd]
     refine⟨0,.inner ks2 [x],rfl,?_,?_,?_,?_⟩
     ·rw[e];exact Hg.t2 (by rw[He];exact Hc) (by rw[He];exact Hb)
     ·rw[e];exact He
     ·rw[e];have:pgs D 1 (.inner ks2 [x])=pgs D 0 x:=by simp[pgs,nd,qah]
      rw[←this];exact Hf
     ·rw[e];simp only[qay,news]at Ha;omega
 | h+2,ht,_,_,_,_,_,_,_,_,_=>exact absurd ht.h1 (by omega)
theorem qei {D D':Dsk}{pages:Nat}{was:Bs}(hp:pages≤384):∀ (ys:List Kd) (u:Bs) {qs:List Nat} {u':Bs} {l2:List (Nat×Bs)},u.length=48→(∀ x∈ys,WF D 0 x∧Srt (itemsK D 0 x)∧∀ p∈pgs D 0 x,p<65536∧D' p=D p)→qaJ pages was ys u=some (qs,u',l2)→(∀ x∈l2,D' x.1=decK x.2)→
  qs.length=ys.length∧(∀ p∈qs,p<65536)∧∀ (j:Nat) p x,qs[j]?=some p→ys[j]?=some x→itemsK D' 0 (.page p)=itemsK D 0 x
 | [],u,qs,u',l2,_,_,he,_=>by
  simp only[qaJ,zau,zaE]at he;obtain⟨rfl,rfl,rfl⟩:=he;exact⟨rfl,by simp,fun j p x h=>by simp at h⟩
 | y::ys,u,qs,u',l2,hu,hy,he,hl2=>by
  simp only[qaJ]at he;split at he
  ·cases he
  ·rename_i p1 u1 la ha;split at he
   ·cases he
   ·rename_i qs2 u2 lb hb;simp only[zau,zaE]at he;obtain⟨rfl,rfl,rfl⟩:=he;have hy0:=hy y (by simp);obtain⟨_,a2,_,a4⟩:=qgC hp 0 y u hu hy0.1 hy0.2.1 hy0.2.2 ha (fun x hx=>hl2 x (by simp[hx]));obtain⟨b1,b2,b3⟩:=qei hp ys u1 (by rw[(qcV hp y u hu ha).len];exact hu) (fun x hx=>hy x (by simp[hx])) hb (fun x hx=>hl2 x (by simp[hx]));refine⟨by simp[b1],fun p hp=>?_,fun j p x hj hx=>?_⟩
    ·rcases zaB.1 hp with rfl|hp
     ·exact a4
     ·exact b2 p hp
    ·match j with
     | 0=>
      simp at hj hx;subst hj hx;exact a2
     | j+1=>exact b3 j p x (by simpa using hj) (by simpa using hx)
theorem T2.write {D':Dsk}{pages:Nat}{use':Bs}{l:List (Nat×Bs)}(hp:pages≤384)(ht:T2 D L h k)(hu:use.length=48)(hpp:∀ p∈pgs D h k,p<65536∧D' p=D p)
  (he:qaY pages was k use=some (n,use',l))(hl:∀ x∈l,D' x.1=decK x.2):T2 D' L h (.page n)∧itemsK D' h (.page n)=itemsK D h k∧List.Perm (pgs D' h (.page n)) (pgs D h k++l.map Prod.fst)∧n<65536:=by
 obtain⟨a1,a2,a3,a4⟩:=qgC hp h k use hu ht.wf ht.srt hpp he hl;refine⟨⟨a1,ht.h1,by rw[a2];exact ht.srt,by rw[a2];exact ht.keys,fun ks' xs' hnd=>?_⟩,a2,a3,a4⟩;have Ha:D' n=some (.inner ks' xs'):=hnd
 match h,ht,hpp,a1 with
 | 0,ht,hpp,a1=>
  obtain⟨m,h1,⟨ps,rfl,_⟩,_⟩:=a1;rw[hnd]at h1;cases h1
 | 1,ht,hpp,a1=>
  obtain⟨m,h1,⟨ks,xs,rfl,l1,k1,s1,x1⟩,h5⟩:=ht.wf;have Hc:=ht.tight ks xs h1;have e2:=qbu h1 (show Body D 1 (.inner ks xs)from⟨ks,xs,rfl,l1,k1,s1,x1⟩);have He:∀ x∈xs,∀ p∈pgs D 0 x,p<65536∧D' p=D p:=fun x hx p He=>hpp p (by
   rw[e2];refine zaS _ ?_;simp only[pgs,nd,qah,zaI];exact za4.2 ⟨x,hx,He⟩)
  cases k with
  | leaf ps=>cases h1
  | page p=>
   simp only[qaY,zau,zaE]at he;obtain⟨rfl,rfl,rfl⟩:=he;have Hh:D' p=D p:=(hpp p (by rw[e2];simp[qah])).2;have Hg:D p=some (.inner ks xs):=h1;rw[Hh,Hg]at Ha;obtain⟨rfl,rfl⟩:ks=ks'∧xs=xs':=by
    have:=zaG Ha;injection this with h1 h2
    exact⟨h1,h2⟩
   refine⟨Hc.1,fun j a b ha hb=>?_,Hc.2.2⟩;have ea:=(qkW 0 a (x1 a (zak ha)) fun p hp=>(He a (zak ha) p hp).2).2.1;have eb:=(qkW 0 b (x1 b (zak hb)) fun p hp=>(He b (zak hb) p hp).2).2.1;unfold lsz;rw[ea,eb];exact Hc.2.1 j a b ha hb
  | inner ks0 xs0=>
   obtain⟨rfl,rfl⟩:ks0=ks∧xs0=xs:=by
    have:=zaG h1;injection this with h1 h2
    exact⟨h1,h2⟩
   simp only[qaY]at he;split at he
   ·cases he
   ·rename_i qs use1 l1' h0;simp only[zbd,zaE]at he;obtain⟨m,e1,rfl,rfl,rfl⟩:=he;have Hb:Srt (xs0.flatMap (itemsK D 0)):=by
     have:=ht.srt;simpa [itemsK,nd] using this
    have Hk:∀ x∈xs0,Srt (itemsK D 0 x):=by
     intro x hx;obtain⟨s,t,rfl⟩:=List.append_of_mem hx;simp only[zaK,zat]at Hb;rw[←zah]at Hb;exact Hb.sub
    obtain⟨b1,b2,b3⟩:=qei hp xs0 use hu (fun x hx=>⟨x1 x hx,Hk x hx,He x hx⟩) h0 (fun x hx=>hl x (by simp[hx]));have Hf:=qgw l1 s1 (fun x hx=>WF.ne (x1 x hx)) Hb;have Hl:=(qcQ k1).1;simp only[qaz]at h5;have hd:D' m=some (.inner ks0 (qs.map .page)):=(hl (m,encK (.inner ks0 (qs.map .page))) (zaS _ (za1.2 rfl))).trans
     (qfu k1 (by omega) (by simp[b1,l1]) (fun x hx=>by
      obtain⟨p,hp',rfl⟩:=zbh.1 hx;exact⟨p,rfl,b2 p hp'⟩) Hf)
    rw[hd]at Ha;obtain⟨rfl,rfl⟩:ks0=ks'∧qs.map Kd.page=xs':=by
     have:=zaG Ha;injection this with h1 h2
     exact⟨h1,h2⟩
    refine⟨by rw[zbc,b1];exact Hc.1,fun j a b ha hb=>?_,Hc.2.2⟩;rw[zaD,zbd]at ha hb;obtain⟨pa,ha,rfl⟩:=ha;obtain⟨pb,hb,rfl⟩:=hb;have Hi:j<xs0.length:=by rw[←b1];exact(zac.1 ha).1
    have Hj:j+1<xs0.length:=by rw[←b1];exact(zac.1 hb).1
    have xa:=zab Hi;have xb:=zab Hj;unfold lsz;rw[b3 j pa _ ha xa,b3 (j+1) pb _ hb xb];exact Hc.2.1 j _ _ xa xb
 | h+2,ht,_,_=>exact absurd ht.h1 (by omega)
theorem qiD {L:Nat}:∀ {ps:List Pr},KeyL L ps→(∀ p∈ps,p.2.length≤160)→qaK ps≤(162+L)*ps.length
 | [],_,_=>by simp[qaK]
 | p::ps,h,hv=>by
  have h1:=h p (by simp);have h2:=hv p (by simp);have:=qiD (ps:=ps) (fun q hq=>h q (by simp[hq])) (fun q hq=>hv q (by simp[hq]));rw[qat,zal,Nat.mul_add,zcA];omega
theorem qfh {D:Dsk}{L c:Nat}(hc:(162+L)*c≤498):∀ {xs:List Kd},(∀ x∈xs,WF D 0 x)→KeyL L (xs.flatMap (itemsK D 0))→qiQ D xs→(c+1)*(xs.length / 2)+xs.length % 2≤(xs.flatMap (itemsK D 0)).length
 | [],_,_,_=>by simp
 | [x],h,_,_=>by
  have:=List.length_pos_iff.2 (WF.ne (h x (by simp)));simp;omega
 | a::b::xs,h,hk,ht=>by
  have ih:=qfh hc (xs:=xs) (fun x hx=>h x (by simp[hx])) (fun p hp=>hk p (by simp only[zat,zar];exact .inr (.inr hp))) (fun j u v hu hv=>ht (j+2) u v (by simpa using hu) (by simpa using hv));have hab:=ht 0 a b rfl rfl;have e:∀ x,x∈[a,b]→lsz D x≤(162+L)*(itemsK D 0 x).length:=by
   intro x hx;have Ha:x∈a::b::xs:=by
    simp only[zaB,zch,or_false]at hx;rcases hx with rfl|rfl<;>simp
   obtain⟨m,h1,⟨ps,rfl,_,p2⟩,_⟩:=h x Ha;have ei:itemsK D 0 x=ps:=by simp only[itemsK,h1]
   rw[qcR h1,ei];exact qiD (fun p hp=>hk p (za4.2 ⟨x,Ha,by rw[ei];exact hp⟩)) (fun p hp=>(p2 p hp).2)
  have ea:=e a (by simp);have eb:=e b (by simp);have Hb:c+1≤(itemsK D 0 a).length+(itemsK D 0 b).length:=by
   refine Nat.lt_of_not_le fun hle=>?_;have:(162+L)*((itemsK D 0 a).length+(itemsK D 0 b).length)≤(162+L)*c:=Nat.mul_le_mul_left _ hle;rw[Nat.mul_add]at this;omega
  simp only[zat,zaf,zal];rw[show(xs.length+1+1) / 2=xs.length / 2+1 by omega,show(xs.length+1+1) % 2=xs.length % 2 by omega,Nat.mul_add,zcA];omega
theorem qfA {D:Dsk}:∀ (xs:List Kd),(xs.flatMap (pgs D 0)).length≤xs.length
 | []=>by simp
 | x::xs=>by
  have:=qfA (D:=D) xs;simp only[zat,zaf,zal];have:(pgs D 0 x).length≤1:=by cases x<;>simp[pgs,qah]
  omega
theorem T2.count (hL:L≤24)(ht:T2 D L h (.page n)):(pgs D h (.page n)).length≤(itemsK D h (.page n)).length:=by
 have Ha:KeyL 24 (itemsK D h (.page n)):=fun p hp=>zam (ht.keys p hp) hL
 match h,ht,Ha with
 | 0,ht,_=>
  have:=List.length_pos_iff.2 (WF.ne ht.wf);simp[pgs,qah];omega
 | 1,ht,Ha=>
  obtain⟨m,h1,⟨ks,xs,rfl,l1,k1,s1,x1⟩,h5⟩:=ht.wf;have Hb:=ht.tight ks xs h1;have e2:=qbu h1 (show Body D 1 (.inner ks xs)from⟨ks,xs,rfl,l1,k1,s1,x1⟩);have ei:itemsK D 1 (.page n)=xs.flatMap (itemsK D 0):=by simp only[itemsK,h1]
  have hc:=qfh (L:=24) (c:=2) (by decide) x1 (by rw[←ei];exact Ha) Hb.2.1;have hf:=qfA (D:=D) xs;have e3:pgs D 1 (.inner ks xs)=xs.flatMap (pgs D 0):=rfl;rw[e2,ei,e3,zaf];simp only[qah,zal,zbl];omega
 | h+2,ht,_=>exact absurd ht.h1 (by omega)
def qax (s:Nat→Bs)(pages:Nat)(use:Bs):Dsk:=fun n=>if n<pages∧hasB use n=true then(qaX s n).bind decK else none
def qa6 (use:Bs)(l:List Nat):Bs:=l.foldl (fun u i=>setB u i false) use
theorem qdd:∀ (l:List Nat) (use:Bs),(qa6 use l).length=use.length
 | [],_=>rfl
 | i::l,use=>by rw[qa6,List.foldl_cons];exact(qdd l _).trans (qdz ..)
theorem qdc:∀ (l:List Nat) (use:Bs),use.length=48→(∀ i∈l,i<384)→∀ j,hasB (qa6 use l) j=(hasB use j&&!decide (j∈l))
 | [],use,_,_,j=>by simp[qa6]
 | i::l,use,hu,hl,j=>by
  rw[qa6,List.foldl_cons];have ih:=qdc l (setB use i false) (by rw[qdz];exact hu) (fun k hk=>hl k (by simp[hk])) j;unfold qa6 at ih;have hi:=hl i (by simp);rw[ih,qga _ _ _ _ (by omega)];by_cases e:j=i
  ·subst e;simp
  ·simp[e]
structure Ws where
 e:Nat
 p:Pl
 use:Bs
 put:List Nat
def putW (d pages:Nat)(was b:Bs)(s:Ws):Int×Ws:=
 if s.e≠0 then(-1,s)else match qa1 pages s.use was with
  | none=>(-1,{ s with e:=3 })
  | some n=>if(qbf s.p (qbj d n b)).1 then((n:Int),{ s with p:=(qbf s.p (qbj d n b)).2,use:=setB s.use n true,put:=s.put++[n] })else(-1,{ s with e:=2,p:=(qbf s.p (qbj d n b)).2 })
mutual
def wrP (d pages:Nat)(was:Bs):Kd→Ws→Int×Ws
 | .page p,s=>((p:Int),s)
 | .leaf ps,s=>putW d pages was (encK (.leaf ps)) s
 | .inner ks xs,s=>putW d pages was (encK (.inner ks ((wrPs d pages was xs s).1.map fun(i:Int)=>Kd.page i.toNat))) (wrPs d pages was xs s).2
def wrPs (d pages:Nat)(was:Bs):List Kd→Ws→List Int×Ws
 | [],s=>([],s)
 | x::xs,s=>((wrP d pages was x s).1::(wrPs d pages was xs (wrP d pages was x s).2).1,(wrPs d pages was xs (wrP d pages was x s).2).2)
end
theorem qfF (x:Wt)(l:List Wt)(p:Pl):qbf p (x::l)=if(p.give x).1 then qbf (p.give x).2 l else(false,(p.give x).2):=rfl
theorem qcA:∀ (a b:List Wt) (p:Pl),qbf p (a++b)=if(qbf p a).1 then qbf (qbf p a).2 b else qbf p a
 | [],b,p=>by simp[qbf]
 | x::a,b,p=>by
  rw[za3,qfF,qfF];split
  ·exact qcA a b _
  ·rfl
structure Wrote (d pages:Nat) (was:Bs) (s s':Ws) (l:List Nat):Prop where
 put:s'.put=s.put++l
 use:Put pages was s.use s'.use l
 most:s'.p.most=s.p.most
 tp:s'.p.tp=s.p.tp
 disk:s'.p.disk=s.p.disk
 waits:∃ ws,s'.p.waits=s.p.waits++ws∧∀ x∈ws,x.dev=d∧2≤x.place∧(x.place-2) / 8<pages∧hasB s.use ((x.place-2) / 8)=false∧hasB was ((x.place-2) / 8)=false
 e:s'.e=0∨s'.e=2∨s'.e=3
 on:s'.e≠2→s'.p.off=s.p.off
 off:s'.e=2→s'.p.off=true
theorem Wrote.refl (d pages:Nat)(was:Bs)(s:Ws)(he:s.e=0):Wrote d pages was s s []:=
 ⟨by simp,Put.refl ..,rfl,rfl,rfl,⟨[],by simp,by simp⟩,.inl he,fun _=>rfl,fun h=>by omega⟩
theorem Wrote.trans {pages:Nat}{a b c:Ws}{l m:List Nat}(h:Wrote d pages was a b l)(k:Wrote d pages was b c m)(hb:b.e=0):Wrote d pages was a c (l++m):=by
 obtain⟨u,h1,h2⟩:=h.waits;obtain⟨v,k1,k2⟩:=k.waits;refine⟨by rw[k.put,h.put,zah],h.use.trans k.use,k.most.trans h.most,k.tp.trans h.tp,k.disk.trans h.disk,⟨u++v,by rw[k1,h1,zah],fun x hx=>?_⟩,k.e,fun hc=>(k.on hc).trans (h.on (by omega)),k.off⟩;rcases zar.1 hx with hx|hx
 ·exact h2 x hx
 ·obtain⟨a1,a2,a3,a4,a5⟩:=k2 x hx;refine⟨a1,a2,a3,?_,a5⟩;rw[h.use.has]at a4;simp only[Bool.or_eq_false_iff]at a4;exact a4.1
theorem qdv (h:x∈qbj d n b):x.dev=d∧2≤x.place∧(x.place-2) / 8=n:=by
 unfold qbj at h;obtain⟨i,hi,rfl⟩:=zbh.1 h;have:=za9.1 hi;exact⟨rfl,by simp;omega,by simp;omega⟩
theorem qe6 (d pages:Nat)(was b:Bs)(s:Ws)(he:s.e≠0):putW d pages was b s=(-1,s):=by
 unfold putW;rw[zax he]
mutual
theorem qlN (d pages:Nat)(was:Bs):∀ (k:Kd) (s:Ws),s.e≠0→(wrP d pages was k s).2=s
 | .page p,s,_=>by simp only[wrP]
 | .leaf ps,s,he=>by simp only[wrP,qe6 _ _ _ _ s he]
 | .inner ks xs,s,he=>by
  simp only[wrP];rw[qfj d pages was xs s he,qe6 _ _ _ _ s he]
theorem qfj (d pages:Nat)(was:Bs):∀ (xs:List Kd) (s:Ws),s.e≠0→(wrPs d pages was xs s).2=s
 | [],s,_=>by simp only[wrPs]
 | x::xs,s,he=>by
  simp only[wrPs];rw[qlN d pages was x s he,qfj d pages was xs s he]
end
def qbH (d:Nat)(l:List (Nat×Bs)):List Wt:=l.flatMap fun x=>qbj d x.1 x.2
theorem qes (d:Nat)(a b:List (Nat×Bs)):qbH d (a++b)=qbH d a++qbH d b:=by simp[qbH]
def Went (d:Nat)(s:Ws)(n:Int)(use':Bs)(l:List (Nat×Bs))(r:Int×Ws):Prop:=
 if(qbf s.p (qbH d l)).1 then r=(n,⟨0,(qbf s.p (qbH d l)).2,use',s.put++l.map Prod.fst⟩)else r.2.e=2∧r.2.p=(qbf s.p (qbH d l)).2
theorem qhh {pages:Nat}{s:Ws}(he:s.e=0)(hn:qa1 pages s.use was=some n):Went d s n (setB s.use n true) [(n,b)] (putW d pages was b s):=by
 have e:putW d pages was b s=if(qbf s.p (qbj d n b)).1 then((n:Int),{ s with p:=(qbf s.p (qbj d n b)).2,use:=setB s.use n true,put:=s.put++[n] })else(-1,{ s with e:=2,p:=(qbf s.p (qbj d n b)).2 }):=by
  unfold putW;rw[zaC (by omega),hn]
 unfold Went;rw[e];simp only[qbH,zat,zbQ,zaP,zbD,zbV];by_cases h:(qbf s.p (qbj d n b)).1=true
 ·rw[zax h,zax h,he]
 ·rw[zaC h,zaC h];exact⟨rfl,rfl⟩
mutual
theorem qiN {d pages:Nat}{was:Bs}:∀ (k:Kd) (s:Ws) {n:Nat} {use':Bs} {l:List (Nat×Bs)},s.e=0→qaY pages was k s.use=some (n,use',l)→Went d s n use' l (wrP d pages was k s)
 | .page p,s,n,use',l,he,h=>by
  simp only[qaY,zau,zaE]at h;obtain⟨rfl,rfl,rfl⟩:=h;unfold Went wrP;simp only[qbH,zbQ,qbf,zb5,zbV,zaP];rw[←he]
 | .leaf ps,s,n,use',l,he,h=>by
  simp only[qaY,zbd,zaE]at h;obtain⟨m,h1,rfl,rfl,rfl⟩:=h;simp only[wrP];exact qhh he h1
 | .inner ks xs,s,n,use',l,he,h=>by
  simp only[qaY]at h;split at h
  ·cases h
  ·rename_i ps use1 l1 h0;simp only[zbd,zaE]at h;obtain⟨m,h1,rfl,rfl,rfl⟩:=h;have ih:=qhC (d:=d) xs s he h0;simp only[wrP];unfold Went;rw[qes,qcA];split at ih
   ·rename_i hg;rw[zax hg,ih];have e:(ps.map fun(i:Nat)=>(i:Int)).map (fun(i:Int)=>Kd.page i.toNat)=ps.map Kd.page:=by
     rw[zcO];exact List.map_congr_left fun a _=>by simp
    simp only;rw[e];have hw:=qhh (d:=d) (pages:=pages) (was:=was) (b:=encK (.inner ks (ps.map .page))) (s:=⟨0,(qbf s.p (qbH d l1)).2,use1,s.put++l1.map Prod.fst⟩) rfl h1;unfold Went at hw;simp only[zbD,zbV]at hw;simp only[zbz,zbD,zbV];rw[zah]at hw;exact hw
   ·rename_i hg;rw[zaC hg,zaC hg];rw[qe6 _ _ _ _ _ (by rw[ih.1];decide)];exact ih
theorem qhC {d pages:Nat}{was:Bs}:∀ (xs:List Kd) (s:Ws) {ps:List Nat} {use':Bs} {l:List (Nat×Bs)},s.e=0→qaJ pages was xs s.use=some (ps,use',l)→
  if(qbf s.p (qbH d l)).1 then wrPs d pages was xs s=(ps.map (fun(i:Nat)=>(i:Int)),⟨0,(qbf s.p (qbH d l)).2,use',s.put++l.map Prod.fst⟩)else(wrPs d pages was xs s).2.e=2∧(wrPs d pages was xs s).2.p=(qbf s.p (qbH d l)).2
 | [],s,ps,use',l,he,h=>by
  simp only[qaJ,zau,zaE]at h;obtain⟨rfl,rfl,rfl⟩:=h;simp only[qbH,zbQ,qbf,zb5,zbV,zaP,wrPs];rw[←he]
 | x::xs,s,ps,use',l,he,h=>by
  simp only[qaJ]at h;split at h
  ·cases h
  ·rename_i p use1 l1 h0;split at h
   ·cases h
   ·rename_i ps2 use2 l2 h2;simp only[zau,zaE]at h;obtain⟨rfl,rfl,rfl⟩:=h;have a:=qiN (d:=d) x s he h0;simp only[wrPs];rw[qes,qcA];unfold Went at a;split at a
    ·rename_i hg;rw[zax hg,a];have ih:=qhC (d:=d) xs ⟨0,(qbf s.p (qbH d l1)).2,use1,s.put++l1.map Prod.fst⟩ rfl h2;simp only at ih⊢;split at ih
     ·rename_i hg2;rw[zax hg2,ih];simp
     ·rename_i hg2;rw[zaC hg2];exact ih
    ·rename_i hg;rw[zaC hg,zaC hg];rw[qfj _ _ _ _ _ (by rw[a.1];decide)];exact a
end
theorem qhL {pages:Nat}(h:∀ n,n<pages→hasB use n=true→∀ i,i<8→s' (2+n*8+i)=s (2+n*8+i)):qax s' pages use=qax s pages use:=by
 funext n;unfold qax;split
 ·rename_i hc;rw[qc0 (h n hc.1 hc.2)]
 ·rfl
theorem qjO {n:Kd}(h:decK b=some n):qa7 n=0∧isPage n=false:=by
 obtain⟨hd,_⟩:=qjQ h;cases hd with
 | leaf _ _ _=>exact⟨rfl,rfl⟩
 | @inner ks xs _ _ _ hp=>
  refine⟨?_,rfl⟩;simp only[qa7];have:∀ ys:List Kd,(∀ x∈ys,∃ p,x=.page p∧p<65536)→qay ys=0:=by
   intro ys
   induction ys with
   | nil=>intro _;rfl
   | cons y ys ih=>
    intro h;obtain⟨p,rfl,_⟩:=h y (by simp);simp only[qay,news];rw[ih fun x hx=>h x (by simp[hx])]
  exact this xs hp
theorem qfw (s:Nat→Bs)(pages:Nat)(use:Bs):qjG (qax s pages use):=by
 intro p n h;unfold qax at h;split at h
 ·obtain⟨b,_,h2⟩:=zbF.1 h;exact(qjO h2).1
 ·cases h
structure TreeIs (s:Nat→Bs) (pages:Nat) (use:Bs) (L root1:Nat) (l:List Pr):Prop where
 none:root1=0→l=[]∧∀ i,i<384→hasB use i=false
 some:root1≠0→∃ h,T2 (qax s pages use) L h (.page (root1-1))∧itemsK (qax s pages use) h (.page (root1-1))=l∧(pgs (qax s pages use) h (.page (root1-1))).Nodup∧∀ i,i<384→(hasB use i=true↔i∈pgs (qax s pages use) h (.page (root1-1)))
theorem TreeIs.congr {pages:Nat}{root1:Nat}{l:List Pr}(h:TreeIs s pages use L root1 l)(hs:∀ n,n<pages→hasB use n=true→∀ i,i<8→s' (2+n*8+i)=s (2+n*8+i)):TreeIs s' pages use L root1 l:=by
 have e:=qhL hs;exact⟨h.none,by rw[e];exact h.some⟩
structure OldIs (p:Pl) (d pages L:Nat) (c:Cm) (old:List Pr):Prop where
 com:Com p d pages c
 tree:TreeIs (p.disk d) pages c.ub L c.root1 old
theorem OldIs.to {q:Pl}{pages:Nat}{c:Cm}(h:OldIs p d pages L c old)(hm:q.most=p.most)(hd:q.disk=p.disk)(hw:∀ x∈q.waits,x.dev=d→2≤x.place∧hasB c.ub ((x.place-2) / 8)=false):OldIs q d pages L c old:=
 ⟨h.com.to hm (fun k _=>by rw[hd]) hw,by rw[hd];exact h.tree⟩
theorem qgn (n i:Nat)(hi:i<8):(2+n*8+i-2) / 8=n:=by omega
theorem OldIs.seen {pages:Nat}{c:Cm}(h:OldIs p d pages L c old):TreeIs (p.seen d) pages c.ub L c.root1 old:=
 h.tree.congr fun n _ hu i hi=>h.com.seen (.inr (by rw[qgn n i hi];exact hu))
theorem OldIs.boot {pages:Nat}{c:Cm}(h:OldIs p d pages L c old)(keep:List Int):OldIs (p.boot keep) d pages L c old:=
 ⟨h.com.boot keep,h.tree.congr fun n _ hu i hi=>h.com.lay (fun _=>qeE) (.inr (by rw[qgn n i hi];exact hu))⟩
structure Ts where
 p:Pl
 g:Pg
 root1:Nat
structure Std (d L:Nat) (t:Ts) (now old:List Pr):Prop where
 old:OldIs t.p d t.g.pages L ⟨t.g.gen,t.g.root1,t.g.was⟩ old
 on:t.p.off=false
 now:TreeIs (t.p.seen d) t.g.pages t.g.use L t.root1 now
 use:t.g.use.length=48
 up:∀ i,t.g.pages≤i→i<384→hasB t.g.use i=false
theorem Std.pages {t:Ts}(h:Std d L t now old):t.g.pages≤384:=by
 obtain⟨m,_,h1,_⟩:=h.old.com.m;omega
def qmV (D:Dsk)(root1:Nat)(key:Bs)(v:Option Bs):Option (Option Kd×List Nat):=
 if root1=0 then some (some (.leaf (chgR key v [])),[])else(qbd D 400 [] (.page (root1-1)) key v).map fun x=>(topK x.1 x.2.1,x.2.2)
def qlJ (d:Nat)(t:Ts)(met:List Nat):Option Kd→Nat×Ts
 | none=>(0,{ t with g:={ t.g with use:=qa6 t.g.use met },root1:=0 })
 | some k=>let r:=wrP d t.g.pages t.g.was (single 400 k) ⟨0,t.p,t.g.use,[]⟩
  if r.2.e=0 then(0,⟨r.2.p,{ t.g with use:=qa6 r.2.use met },r.1.toNat+1⟩)else(r.2.e,⟨r.2.p,{ t.g with use:=qa6 r.2.use r.2.put },t.root1⟩)
def qij (d:Nat)(t:Ts)(key:Bs)(v:Option Bs):Nat×Ts:=
 if qar t.g.pages t.g.use t.g.was<16 then(3,t)else match qmV (qax (t.p.seen d) t.g.pages t.g.use) t.root1 key v with
  | none=>(4,t)
  | some x=>qlJ d t x.2 x.1
theorem qgm {D:qaZ}{k:Nat}(h:k<2∨(k-2) / 8≠n):lay D (qbj d n b) d k=D d k:=
 qbP fun x hx e=>by
  obtain⟨_,h2,h3⟩:=qdv hx;rcases h with h|h
  ·omega
  ·rw[e.2]at h3;exact h h3
theorem qmh {D:qaZ}{l:List Wt}(hx:x∈l)(hu:∀ y∈l,y.dev=x.dev→y.place=x.place→y=x):lay D l x.dev x.place=x.b:=by
 induction l generalizing D with
 | nil=>cases hx
 | cons y l ih=>
  rw[lay];by_cases hm:x∈l
  ·exact ih hm fun z hz=>hu z (by simp[hz])
  ·rw[qbP fun z hz e=>hm (by rw[←hu z (by simp[hz]) e.1 e.2];exact hz)];obtain rfl:x=y:=by
    rcases zaB.1 hx with h|h
    ·exact h
    ·exact absurd h hm
   unfold setD;rw[zax ⟨rfl,rfl⟩]
theorem qh5 {D:qaZ}{i:Nat}(hi:i<8):lay D (qbj d n b) d (2+n*8+i)=qdf b i:=by
 have hx:(⟨d,2+n*8+i,qdf b i⟩:Wt)∈qbj d n b:=zbh.2 ⟨i,za9.2 hi,rfl⟩;refine qmh (x:=⟨d,2+n*8+i,qdf b i⟩) hx fun y hy _ e2=>?_;obtain⟨j,hj,rfl⟩:=zbh.1 hy;have Ha:2+n*8+j=2+n*8+i:=e2;obtain rfl:j=i:=by omega
 rfl
theorem qdi {d:Nat}:∀ {l:List (Nat×Bs)} {D:qaZ} {k:Nat},(k<2∨∀ x∈l,(k-2) / 8≠x.1)→lay D (qbH d l) d k=D d k
 | [],_,_,_=>rfl
 | x::l,D,k,h=>by
  have e:qbH d (x::l)=qbj d x.1 x.2++qbH d l:=rfl;rw[e,qbm,qdi (l:=l) (by
   rcases h with h|h
   ·exact .inl h
   ·exact .inr fun y hy=>h y (by simp[hy])),qgm]
  rcases h with h|h
  ·exact .inl h
  ·exact .inr (h x (by simp))
theorem qhD {d:Nat}:∀ {l:List (Nat×Bs)} {D:qaZ} {x:Nat×Bs} {i:Nat},(l.map Prod.fst).Nodup→x∈l→i<8→lay D (qbH d l) d (2+x.1*8+i)=qdf x.2 i
 | [],_,_,_,_,h,_=>by cases h
 | y::l,D,x,i,hn,hx,hi=>by
  have e:qbH d (y::l)=qbj d y.1 y.2++qbH d l:=rfl;rw[zbD,List.nodup_cons]at hn;rw[e,qbm];rcases zaB.1 hx with rfl|hx
  ·rw[qdi (.inr fun z hz e=>hn.1 (by
    rw[qgn _ i hi]at e;rw[e];exact zbh.2 ⟨z,hz,rfl⟩))]
   exact qh5 hi
  ·exact qhD hn.2 hx hi
theorem qeq {D:Dsk}{pages:Nat}{was:Bs}:∀ (h:Nat) (k:Kd) (use:Bs) {n:Nat} {use':Bs} {l:List (Nat×Bs)},WF D h k→qaY pages was k use=some (n,use',l)→∀ x∈l,x.2.length≤500
 | h,.page p,use,n,use',l,hw,he=>by
  simp only[qaY,zau,zaE]at he;obtain⟨_,_,rfl⟩:=he;simp
 | 0,.inner ks xs,use,n,use',l,hw,he=>by
  obtain⟨m,h1,⟨ps,rfl,_⟩,_⟩:=hw;cases h1
 | h+1,.leaf ps,use,n,use',l,hw,he=>by
  obtain⟨m,h1,⟨ks,xs,rfl,_⟩,_⟩:=hw;cases h1
 | 0,.leaf ps,use,n,use',l,hw,he=>by
  simp only[qaY,zbd,zaE]at he;obtain⟨m,e1,rfl,rfl,rfl⟩:=he;obtain⟨q,h1,h2,h3⟩:=hw;obtain rfl:Kd.leaf ps=q:=zaG h1;intro x hx;obtain rfl:=za1.1 hx;rw[qiq _ rfl];exact h3
 | h+1,.inner ks xs,use,n,use',l,hw,he=>by
  simp only[qaY]at he;split at he
  ·cases he
  ·rename_i ps use1 l1 h0;simp only[zbd,zaE]at he;obtain⟨m,e1,rfl,rfl,rfl⟩:=he;obtain⟨q,h1,h2,h3⟩:=hw;obtain rfl:Kd.inner ks xs=q:=zaG h1;obtain⟨ks',xs',e,g1,k1,s1,x1⟩:=h2;cases e;have key:∀ (ys:List Kd) (u:Bs) (qs:List Nat) (u':Bs) (l2:List (Nat×Bs)),(∀ x∈ys,WF D h x)→qaJ pages was ys u=some (qs,u',l2)→(∀ x∈l2,x.2.length≤500)∧qs.length=ys.length:=by
    intro ys
    induction ys with
    | nil=>
     intro u qs u' l2 _ he;simp only[qaJ,zau,zaE]at he;obtain⟨rfl,_,rfl⟩:=he;simp
    | cons y ys ih=>
     intro u qs u' l2 hy he;simp only[qaJ]at he;split at he
     ·cases he
     ·rename_i p1 u1 la ha;split at he
      ·cases he
      ·rename_i qs2 u2 lb hb;simp only[zau,zaE]at he;obtain⟨rfl,rfl,rfl⟩:=he;have a:=qeq h y u (hy y (by simp)) ha;obtain⟨b1,b2⟩:=ih u1 qs2 u2 lb (fun x hx=>hy x (by simp[hx])) hb;refine⟨fun x hx=>?_,by simp[b2]⟩;rcases zar.1 hx with hx|hx
       ·exact a x hx
       ·exact b1 x hx
   obtain⟨b1,b2⟩:=key xs use ps use1 l1 x1 h0;intro x hx;rcases zar.1 hx with hx|hx
   ·exact b1 x hx
   ·obtain rfl:=za1.1 hx;rw[qiq _ rfl];simp only[qaz,zbc]at h3⊢;rw[b2];exact h3
theorem qgR {q:Pl}{l:List Wt}(h:Gave p q l true):q.waits=p.waits++l∧q.seen=lay p.seen l:=by
 obtain⟨k,_,h2,h3⟩:=h.waits;have hk:=h3 rfl;subst hk;rw[zbA]at h2;refine⟨h2,?_⟩;unfold Pl.seen;rw[h.disk,h2,qbm]
theorem OldIs.gave {q:Pl}{pages:Nat}{c:Cm}{l:List Wt}{ok:Bool}(h:OldIs p d pages L c old)(hg:Gave p q l ok)(hl:∀ x∈l,x.dev=d→2≤x.place∧hasB c.ub ((x.place-2) / 8)=false):OldIs q d pages L c old:=by
 obtain⟨k,_,h2,_⟩:=hg.waits;refine h.to hg.most hg.disk fun x hx hd=>?_;rw[h2]at hx;rcases zar.1 hx with hx|hx
 ·exact h.com.wt x hx hd
 ·exact hl x (zbb hx) hd
theorem qke {l:List (Nat×Bs)}(h:x∈qbH d l):2≤x.place∧(x.place-2) / 8∈l.map Prod.fst:=by
 obtain⟨y,hy,hx⟩:=za4.1 h;obtain⟨_,h2,h3⟩:=qdv hx;exact⟨h2,by rw[h3];exact zbh.2 ⟨y,hy,rfl⟩⟩
def Came (d L:Nat)(t:Ts)(r:Nat×Ts)(l old:List Pr):Prop:=
 (r.1=0∧Std d L r.2 l old∧r.2.g.gen=t.g.gen∧r.2.g.root1=t.g.root1∧r.2.g.was=t.g.was∧r.2.g.pages=t.g.pages∧∃ ws,r.2.p.waits=t.p.waits++ws)∨
 (r.1=2∧r.2.p.off=true∧OldIs r.2.p d t.g.pages L ⟨t.g.gen,t.g.root1,t.g.was⟩ old)
theorem Std.swap {t:Ts}{l:List Pr}(hs:Std d L t now old){h':Nat}{met:List Nat}(h16:16≤qar t.g.pages t.g.use t.g.was)(hU:∀ i,i<384→(hasB t.g.use i=true↔i∈U))(hUn:U.Nodup)(hUl:∀ i∈U,i<384)
  (ht:T2 (qax (t.p.seen d) t.g.pages t.g.use) L h' (single 400 k))(hi:itemsK (qax (t.p.seen d) t.g.pages t.g.use) h' (single 400 k)=l)(hp:List.Perm (met++pgs (qax (t.p.seen d) t.g.pages t.g.use) h' (single 400 k)) U)(hn:news (single 400 k)≤8) :
  Came d L t (qlJ d t met (some k)) l old:=by
 have Hk:=hs.pages;generalize hk:single 400 k=s at *;generalize hD:qax (t.p.seen d) t.g.pages t.g.use=D at *;obtain⟨n,use',wl,w1,w2,w3⟩:=qfk (was:=t.g.was) Hk s t.g.use hs.use (by omega);have He:=qcV Hk s t.g.use hs.use w1;have Ha:=qiN (d:=d) (pages:=t.g.pages) (was:=t.g.was) s ⟨0,t.p,t.g.use,[]⟩ rfl w1;have Hf:=qfG (qbH d wl) t.p;have Hj:∀ x∈qbH d wl,x.dev=d→2≤x.place∧hasB t.g.was ((x.place-2) / 8)=false:=fun x hx _=>by
  obtain⟨a,b⟩:=qke hx;exact⟨a,(He.free _ b).2.2⟩
 unfold Went at Ha;simp only at Ha;simp only[qlJ,hk];split at Ha
 ·rename_i hg;left;rw[hg]at Hf;rw[Ha];simp only[zb5];obtain⟨g1,g2⟩:=qgR Hf;generalize hq:(qbf t.p (qbH d wl)).2=q at *;have Hp:=(hp.nodup_iff).2 hUn;obtain⟨nd1,nd2,nd3⟩:=za2.1 Hp;have Hh:∀ i,i∈U↔i∈met∨i∈pgs D h' s:=fun i=>by rw[←hp.mem_iff,zar]
  have Hi:∀ i∈met,i<384:=fun i hm=>hUl i ((Hh i).2 (.inl hm));have Hb:∀ i∈wl.map Prod.fst,i<t.g.pages∧i∉U:=fun i hw=>by
   obtain⟨a,b,_⟩:=He.free i hw;refine⟨a,fun hu=>?_⟩;rw[(hU i (by omega)).2 hu]at b;cases b
  have Hm:∀ i,hasB (qa6 use' met) i=((hasB t.g.use i||decide (i∈wl.map Prod.fst))&&!decide (i∈met)):=fun i=>by
   rw[qdc met use' w3 Hi,He.has]
  have Hg:∀ i,i<384→(hasB (qa6 use' met) i=true↔i∈pgs D h' s∨i∈wl.map Prod.fst):=by
   intro i hi4;rw[Hm];simp only[zaQ,Bool.or_eq_true,zbf,zb3,decide_eq_false_iff_not];rw[hU i hi4,Hh];constructor
   ·rintro⟨(h1|h1)|h1,h2⟩
    ·exact absurd h1 h2
    ·exact .inl h1
    ·exact .inr h1
   ·rintro(h1|h1)
    ·exact⟨.inl (.inr h1),fun h2=>nd3 i h2 i h1 rfl⟩
    ·exact⟨.inr h1,fun h2=>(Hb i h1).2 ((Hh i).2 (.inl h2))⟩
  have Hc:∀ i,(i∈pgs D h' s∨i∈wl.map Prod.fst)→i<t.g.pages∧hasB (qa6 use' met) i=true:=by
   intro i hi2;have Hn:i<t.g.pages:=by
    rcases hi2 with h1|h1
    ·have h2:=(Hh i).2 (.inr h1);have h3:=hUl i h2;refine Nat.lt_of_not_le fun h4=>?_;have:=hs.up i h4 h3;rw[(hU i h3).2 h2]at this;cases this
    ·exact(Hb i h1).1
   exact⟨Hn,(Hg i (by omega)).2 hi2⟩
  have Hq:∀ i∈pgs D h' s,i<65536∧qax (q.seen d) t.g.pages (qa6 use' met) i=D i:=by
   intro i hi2;obtain⟨c1,c2⟩:=Hc i (.inl hi2);have Hl:=(Hh i).2 (.inr hi2);have Hr:=(hU i (by omega)).2 Hl;refine⟨by omega,?_⟩;rw[←hD];unfold qax;rw[zax ⟨c1,c2⟩,zax ⟨c1,Hr⟩];congr 1;refine qc0 fun j hj=>?_;rw[g2,qdi (.inr fun x hx e=>?_)];rw[qgn i j hj]at e;exact(Hb x.1 (zbh.2 ⟨x,hx,rfl⟩)).2 (e▸Hl)
  have Ho:∀ x∈wl,qax (q.seen d) t.g.pages (qa6 use' met) x.1=decK x.2:=by
   intro x hx;have Hs:x.1∈wl.map Prod.fst:=zbh.2 ⟨x,hx,rfl⟩;obtain⟨c1,c2⟩:=Hc x.1 (.inr Hs);unfold qax;rw[zax ⟨c1,c2⟩,qex (b:=x.2) (qeq h' s t.g.use ht.wf w1 x hx) fun j hj=>by rw[g2];exact qhD He.nd hx hj];rfl
  obtain⟨t1,t2,t3,t4⟩:=T2.write Hk ht hs.use Hq w1 Ho;refine⟨trivial,⟨hs.old.gave Hf Hj,(Hf.on rfl).trans hs.on,⟨fun h0=>by simp at h0,fun _=>?_⟩,by rw[qdd];exact w3,fun i i1 i2=>?_⟩,trivial,trivial,trivial,trivial,_,g1⟩
  ·refine⟨h',by simpa using t1,by simpa [hi] using t2,?_,fun i hi4=>?_⟩
   ·simp only[Int.toNat_natCast,Nat.add_sub_cancel];refine(t3.nodup_iff).2 ?_;rw[za2];refine⟨nd2,He.nd,fun a ha b hb e=>?_⟩;subst e;exact(Hb a hb).2 ((Hh a).2 (.inr ha))
   ·simp only[Int.toNat_natCast,Nat.add_sub_cancel];rw[t3.mem_iff,zar];exact Hg i hi4
  ·have Ht:t.g.pages≤i:=i1;cases h0:hasB (qa6 use' met) i with
   | false=>rfl
   | true=>
    have:=(Hc i ((Hg i i2).1 h0)).1;omega
 ·right;rename_i hg;have hg:(qbf t.p (qbH d wl)).1=false:=by simpa using hg
  rw[hg]at Hf;rw[zaC (by rw[Ha.1];decide)];refine⟨Ha.1,?_,?_⟩
  ·show(wrP d t.g.pages t.g.was s ⟨0,t.p,t.g.use,[]⟩).2.p.off=true;rw[Ha.2];exact Hf.off rfl
  ·show OldIs (wrP d t.g.pages t.g.was s ⟨0,t.p,t.g.use,[]⟩).2.p d _ _ _ _;rw[Ha.2];exact hs.old.gave Hf Hj
theorem qj9 {l1:List Nat}:∀ {l2:List Nat},l1.Nodup→(∀ x∈l1,x∈l2)→l1.length≤l2.length:=by
 induction l1 with
 | nil=>intro l2 _ _;simp
 | cons a l1 ih=>
  intro l2 hn hs;have ha:=hs a (by simp);obtain⟨n1,n2⟩:=List.nodup_cons.1 hn;have:=ih (l2:=l2.erase a) n2 fun x hx=>(List.mem_erase_of_ne (fun e=>n1 (by rw[←e];exact hx))).2 (hs x (by simp[hx]));rw[List.length_erase_of_mem ha]at this;have hp:=List.length_pos_of_mem ha;rw[zal];omega
theorem qkQ {pages:Nat}(hn:U.Nodup)(hU:∀ i∈U,i<pages∧hasB use i=true):U.length+qar pages use was≤pages:=by
 have h:(U++(List.range pages).filter (qf9 use was)).Nodup:=by
  rw[za2];refine⟨hn,List.nodup_range.filter _,fun a ha b hb e=>?_⟩;subst e;have:=(zbj.1 hb).2;unfold qf9 at this;rw[(hU a ha).2]at this;simp at this
 have:=qj9 (l2:=List.range pages) h fun x hx=>by
  rcases zar.1 hx with hx|hx
  ·exact za9.2 (hU x hx).1
  ·exact(zbj.1 hx).1
 rw[zaf,zcI]at this;exact this
theorem Std.apply {t:Ts}(hs:Std d L t now old)(hk:klen key)(hkL:key.length≤L)(hv:∀ x,v=some x→x.length≤160)(hne:t.root1=0→v≠none)
  (hfit:∀ ks xs,qax (t.p.seen d) t.g.pages t.g.use (t.root1-1)=some (.inner ks xs)→xs.length+1+qar t.g.pages t.g.use t.g.was≤t.g.pages→Fit (qax (t.p.seen d) t.g.pages t.g.use) L (xs.length+1) (chgR key v now)) :
  ((qij d t key v).1=3∧qar t.g.pages t.g.use t.g.was<16∧(qij d t key v).2=t)∨Came d L t (qij d t key v) (chgR key v now) old:=by
 have Hm:=hs.pages;unfold qij;by_cases Hc:qar t.g.pages t.g.use t.g.was<16
 ·rw[zax Hc];exact .inl ⟨rfl,Hc,rfl⟩
 ·rw[zaC Hc];right;have Hc:16≤qar t.g.pages t.g.use t.g.was:=by omega
  unfold qmV;by_cases h0:t.root1=0
  ·rw[zax h0];obtain⟨n1,n2⟩:=hs.now.none h0;subst n1;cases v with
   | none=>exact absurd rfl (hne h0)
   | some x=>
    have e:chgR key (some x) []=[(key,x)]:=rfl;have hx:=hv x rfl;have Hk:=hk;unfold klen at Hk;have hw:WF (qax (t.p.seen d) t.g.pages t.g.use) 0 (.leaf (chgR key (some x) [])):=⟨_,rfl,⟨_,rfl,by rw[e];simp,fun p hp=>by
     rw[e]at hp;obtain rfl:=za1.1 hp;exact⟨hk,hx⟩⟩,by rw[e];simp[qaz,qaK];omega⟩
    refine hs.swap (U:=[]) (h':=0) Hc (fun i hi=>by simp[n2 i hi]) zcJ (by simp) (by rw[qaR];exact hw.t2 (by rw[e];simp[itemsK,nd,Srt]) (by rw[e];intro p hp;simp[itemsK,nd]at hp;subst hp;exact hkL)) (by rw[qaR];rfl) (by rw[qaR];simp[pgs,qah]) (by rw[qaR];simp[news])
  ·rw[zaC h0];obtain⟨h,t1,t2,t3,t4⟩:=hs.now.some h0;have Hg:∀ i∈pgs (qax (t.p.seen d) t.g.pages t.g.use) h (.page (t.root1-1)),i<384:=by
    intro i hi;refine Nat.lt_of_not_le fun h4=>?_;have key:∀ (h:Nat) (k:Kd),WF (qax (t.p.seen d) t.g.pages t.g.use) h k→∀ i∈pgs (qax (t.p.seen d) t.g.pages t.g.use) h k,i<t.g.pages:=by
     intro h
     induction h with
     | zero=>
      intro k hw i hi;obtain⟨m,h1,_⟩:=hw;cases k with
      | page p=>
       obtain rfl:i=p:=by simpa [pgs,qah] using hi
       have Hb:qax (t.p.seen d) t.g.pages t.g.use i=some m:=h1;unfold qax at Hb;split at Hb
       ·rename_i hc;exact hc.1
       ·cases Hb
      | leaf _=>simp[pgs,qah]at hi
      | inner _ _=>simp[pgs,qah]at hi
     | succ h ih=>
      intro k hw i hi;obtain⟨m,h1,hb,_⟩:=hw;rw[qbu h1 hb]at hi;rcases zar.1 hi with hi|hi
      ·cases k with
       | page p=>
        obtain rfl:i=p:=by simpa [qah] using hi
        have Hb:qax (t.p.seen d) t.g.pages t.g.use i=some m:=h1;unfold qax at Hb;split at Hb
        ·rename_i hc;exact hc.1
        ·cases Hb
       | leaf _=>simp[qah]at hi
       | inner _ _=>simp[qah]at hi
      ·obtain⟨ks,xs,rfl,_,_,_,hx⟩:=hb;simp only[pgs,nd,qah,zaI]at hi;obtain⟨x,hx1,hx2⟩:=za4.1 hi;exact ih x (hx x hx1) i hx2
    have:=key h _ t1.wf i hi;omega
   have Hi:∀ i∈pgs (qax (t.p.seen d) t.g.pages t.g.use) h (.page (t.root1-1)),i<t.g.pages∧hasB t.g.use i=true:=fun i hi=>by
    have h1:=(t4 i (Hg i hi)).2 hi;refine⟨Nat.lt_of_not_le fun h2=>?_,h1⟩;rw[hs.up i h2 (Hg i hi)]at h1;cases h1
   have Ha:=qkQ (was:=t.g.was) t3 Hi;rw[←t2];obtain⟨got,bet,m,c1,c2⟩:=t1.change (f:=400) t3 (by omega) (qfw _ _ _) rfl (key:=key) (v:=v) (fun ks xs hnd=>by
    rw[t2];refine hfit ks xs hnd ?_;obtain⟨mm,m1,m2,_⟩:=t1.wf;have Hf:nd (qax (t.p.seen d) t.g.pages t.g.use) (.page (t.root1-1))=some (.inner ks xs):=hnd;rw[m1]at Hf;obtain rfl:=zaG Hf
    match h,t1,m2,Ha,m1 with
    | 0,t1,m2,Ha,m1=>obtain⟨_,e,_⟩:=m2;cases e
    | 1,t1,m2,Ha,m1=>
     have Hj:∀ ys:List Kd,(∀ x∈ys,isPage x=true)→(ys.flatMap (pgs (qax (t.p.seen d) t.g.pages t.g.use) 0)).length=ys.length:=by
      intro ys
      induction ys with
      | nil=>intro _;rfl
      | cons y ys ih=>
       intro hy;have h1:=hy y (by simp);cases y with
       | page p=>simp only[zat,zaf,zal,ih fun x hx=>hy x (by simp[hx])];simp[pgs,qah];omega
       | leaf _=>cases h1
       | inner _ _=>cases h1
     have He:=qfw (t.p.seen d) t.g.pages t.g.use _ _ hnd;have Hl:∀ ys:List Kd,qay ys=0→∀ x∈ys,isPage x=true:=by
      intro ys
      induction ys with
      | nil=>intro _ x hx;cases hx
      | cons y ys ih=>
       intro h0 x hx;simp only[qay]at h0;rcases zaB.1 hx with rfl|hx
       ·cases x with
        | page p=>rfl
        | leaf _=>simp[news]at h0
        | inner _ _=>simp[news]at h0
       ·exact ih (by omega) x hx
     rw[qbu m1 m2]at Ha;have e3:pgs (qax (t.p.seen d) t.g.pages t.g.use) 1 (.inner ks xs)=xs.flatMap (pgs (qax (t.p.seen d) t.g.pages t.g.use) 0):=rfl;rw[e3,zaf,Hj xs (Hl xs He)]at Ha;simp only[qah,zal,zbl]at Ha;omega
    | h+2,t1,_,_,_=>exact absurd t1.h1 (by omega)) hk hkL hv
   rw[c1];simp only[zbB];rcases c2 with⟨rfl,e1,e2⟩|⟨h',k,e0,e1,e2,e3,e4⟩
   ·left;have Hh:∀ i,i<384→hasB (qa6 t.g.use m) i=false:=fun i hi=>by
     rw[qdc m _ hs.use (fun j hj=>Hg j ((e2.mem_iff).1 hj))];cases hu:hasB t.g.use i with
     | false=>simp
     | true=>simp[(e2.mem_iff).2 ((t4 i hi).1 hu)]
    refine⟨rfl,⟨hs.old,hs.on,⟨fun _=>⟨e1,Hh⟩,fun h=>absurd rfl h⟩,by show(qa6 t.g.use m).length=48;rw[qdd];exact hs.use,fun i _ hi=>Hh i hi⟩,rfl,rfl,rfl,rfl,[],by simp[topK,qlJ]⟩
   ·rw[e0];exact hs.swap Hc t4 t3 Hg e1 e2 e3 e4
end Go.Proofs.YtfcknhbmeofniaaGreatDoor.BT
