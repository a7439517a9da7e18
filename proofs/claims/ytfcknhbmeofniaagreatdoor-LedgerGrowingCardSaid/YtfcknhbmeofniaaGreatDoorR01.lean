/- Texts KdB KdC KdD EncSpec. -/
import Derived.Test.YtfcknhbmeofniaaGreatDoorR00
set_option linter.all false
set_option maxRecDepth 100000
set_option maxHeartbeats 16000000
namespace Go.Proofs.YtfcknhbmeofniaaGreatDoor.BT
variable {D:Dsk}{h i:Nat}{k key:Bs}{m a b x n:Kd}{xs:List Kd}{v:Option Bs}{ps:List Pr}{ks:List Bs}
theorem qbu {k:Kd}(h1:nd D k=some m)(hb:Body D h m):pgs D h k=qah k++pgs D h m:=by
 cases h with
 | zero=>obtain⟨_,rfl,_⟩:=hb;cases k<;>simp_all [pgs,qah]
 | succ h=>obtain⟨_,_,rfl,_⟩:=hb;cases k<;>simp_all [pgs,qah,nd]
theorem qaL (a b:List Bs):qaI (a++b)=qaI a+qaI b:=by simp[qaI]
theorem qbY (a b:List Pr):qaK (a++b)=qaK a+qaK b:=by simp[qaK]
theorem qcd (a:Bs)(b:List Bs):qaI (a::b)=1+a.length+qaI b:=by simp[qaI]
theorem qat (a:Pr)(b:List Pr):qaK (a::b)=2+a.1.length+a.2.length+qaK b:=by simp[qaK]
theorem qmf (ha:Body D h a)(hb:Body D h b)(hk:klen k)(hp:(∀ p∈itemsK D h a,blt p.1 k=true)∧∀ p∈itemsK D h b,blt p.1 k=false)(hj:join a k b=some x) :
  Body D h x∧qaz x≤500∧itemsK D h x=itemsK D h a++itemsK D h b∧pgs D h x=pgs D h a++pgs D h b∧isPage x=false:=by
 cases h with
 | zero=>
  obtain⟨p,rfl,p1,p2⟩:=ha;obtain⟨q,rfl,q1,q2⟩:=hb;simp only[join]at hj;split at hj
  ·cases hj;refine⟨⟨p++q,rfl,by simp[p1],fun r hr=>?_⟩,by assumption,by simp[itemsK,nd],by simp[pgs,qah],rfl⟩;rcases zar.1 hr with hr|hr
   ·exact p2 r hr
   ·exact q2 r hr
  ·cases hj
 | succ h=>
  obtain⟨ks,xs,rfl,l1,k1,s1,x1⟩:=ha;obtain⟨ls,ys,rfl,l2,k2,s2,x2⟩:=hb;simp only[join]at hj;split at hj
  ·cases hj;refine⟨⟨_,_,rfl,by simp[l1,l2];omega,?_,?_,?_⟩,by assumption,by simp[itemsK,nd],by simp[pgs,nd,qah],rfl⟩
   ·intro r hr;rcases zar.1 hr with hr|hr
    ·exact k1 r hr
    ·rcases zaB.1 hr with rfl|hr
     ·exact hk
     ·exact k2 r hr
   ·intro j u m v hu hm hv;by_cases h1:j<ks.length
    ·rw[zaH (by omega)]at hu hv;rw[zaH h1]at hm;exact s1 j u m v hu hm hv
    ·by_cases h2:j=ks.length
     ·subst h2;rw[zaH (by omega)]at hu;rw[zaz (by omega)]at hm hv;rw[zcd]at hm;rw[l1,zcd]at hv;simp only[zcf,zau]at hm;subst hm;refine⟨fun p hp'=>hp.1 p ?_,fun p hp'=>hp.2 p ?_⟩
      ·simp only[itemsK,nd];exact za4.2 ⟨u,zak hu,hp'⟩
      ·simp only[itemsK,nd];exact za4.2 ⟨v,zak hv,hp'⟩
     ·rw[zaz (by omega)]at hu hm hv;have e1:j-ks.length=(j-xs.length)+1:=by omega
      have e2:j+1-xs.length=(j-xs.length)+1:=by omega
      rw[e1,zbe]at hm;rw[e2]at hv;exact s2 _ u m v hu hm hv
   ·intro y hy;rcases zar.1 hy with hy|hy
    ·exact x1 y hy
    ·exact x2 y hy
  ·cases hj
theorem bestK_spec (t:Kd):∀ n,(n≤1∧qjL t n=none)∨(∃ i,1≤i∧i<n∧qjL t n=some (qaG t i)∧∀ j,1≤j→j<n→max (qaz (qaG t i).1) (qaz (qaG t i).2.1)≤max (qaz (qaG t j).1) (qaz (qaG t j).2.1)):=by
 intro n
 induction n with
 | zero=>exact .inl ⟨by omega,rfl⟩
 | succ n ih=>
  by_cases h0:n=0
  ·subst h0;exact .inl ⟨by omega,rfl⟩
  ·right;simp only[qjL,zaC h0];rcases ih with⟨h1,h2⟩|⟨i,h1,h2,h3,h4⟩
   ·rw[h2];exact⟨n,by omega,by omega,rfl,fun j j1 j2=>by
      obtain rfl:j=n:=by omega
      exact zad _⟩
   ·rw[h3];simp only;split
    ·rename_i hlt;refine⟨n,by omega,by omega,rfl,fun j j1 j2=>?_⟩;by_cases hj:j=n
     ·subst hj;exact zad _
     ·exact zam (Nat.le_of_lt hlt) (h4 j j1 (by omega))
    ·rename_i hlt;refine⟨i,h1,by omega,rfl,fun j j1 j2=>?_⟩;by_cases hj:j=n
     ·subst hj;omega
     ·exact h4 j j1 (by omega)
theorem qc2 {α β:Type}(f:α→List β)(l:List α)(i:Nat):(l.take i).flatMap f++(l.drop i).flatMap f=l.flatMap f:=by
 rw[←zaK,zay]
theorem qjY (hb:Body D h n)(hs:Srt (itemsK D h n))(h1:1≤i)(h2:i<nk n) :
  ∃ a b k,qaG n i=(a,b,k)∧Body D h a∧Body D h b∧isPage a=false∧isPage b=false∧klen k∧qiP D h a k b∧itemsK D h a++itemsK D h b=itemsK D h n∧pgs D h a++pgs D h b=pgs D h n:=by
 cases h with
 | zero=>
  obtain⟨ps,rfl,p1,p2⟩:=hb;simp only[nk]at h2;have Ha:Srt ps:=hs;have hk:ps[i]?=some ps[i]:=zab h2;refine⟨.leaf (ps.take i),.leaf (ps.drop i),ps[i].1,by simp[qaG,hk],⟨_,rfl,?_,fun p hp=>p2 p (zbb hp)⟩,⟨_,rfl,?_,fun p hp=>p2 p (zbm hp)⟩,rfl,rfl,(p2 _ (zbi ..)).1,⟨?_,?_⟩,by simp[itemsK,nd],by simp[pgs,qah]⟩
  ·intro h0;have:=congrArg List.length h0;rw[zaj,zbl]at this;omega
  ·intro h0;have:=congrArg List.length h0;rw[zap,zbl]at this;omega
  ·intro p hp;have Hb:p∈ps.take i:=hp;unfold Srt at Ha;rw[←zay i ps,zbn]at Ha;refine Ha.2.2 p Hb _ ?_;rw[←za8 (h:=h2)];exact zbN ..
  ·intro p hp;have Hb:p∈ps.drop i:=hp;unfold Srt at Ha;rw[←zay i ps,zbn]at Ha;have h3:=Ha.2.1;rw[←za8 (h:=h2)]at h3 Hb;rcases zaB.1 Hb with rfl|Hb
   ·exact blt_irrefl _
   ·exact qcv ((zbr.1 h3).1 p Hb)
 | succ h=>
  obtain⟨ks,xs,rfl,l1,k1,s1,x1⟩:=hb;simp only[nk]at h2;have Ha:Srt (xs.flatMap (itemsK D h)):=hs;have hk:ks[i]?=some ks[i]:=zab h2;have Hc:=qbZ s1 (fun x hx=>WF.ne (x1 x hx)) Ha hk (by omega);refine⟨.inner (ks.take i) (xs.take (i+1)),.inner (ks.drop (i+1)) (xs.drop (i+1)),ks[i],by simp[qaG,hk],⟨_,_,rfl,by simp;omega,fun k hk=>k1 k (zbb hk),?_,fun x hx=>x1 x (zbb hx)⟩,
   ⟨_,_,rfl,by simp;omega,fun k hk=>k1 k (zbm hk),?_,fun x hx=>x1 x (zbm hx)⟩,rfl,rfl,k1 _ (zbi ..),?_,?_,?_⟩
  ·intro j a k b ha hk hb;rw[zaR]at ha hk hb;split at ha
   ·split at hk
    ·split at hb
     ·exact s1 j a k b ha hk hb
     ·cases hb
    ·cases hk
   ·cases ha
  ·intro j a k b ha hk hb;rw[zaJ]at ha hk hb;exact s1 (i+1+j) a k b ha hk hb
  ·exact⟨fun p hp=>Hc.1 p hp,fun p hp=>Hc.2 p hp⟩
  ·simp only[itemsK,nd];exact qc2 ..
  ·simp only[pgs,nd,qah,zaI];exact qc2 ..
def wide:Kd→Prop
 | .leaf ps=>qaK ps≤684
 | .inner ks xs=>qaI ks+2*xs.length≤525
 | .page _=>False
theorem qfR:∀ {ps:List Pr},(∀ p∈ps,plen p)→∀ {T},T≤qaK ps→T≤186→1≤T→∃ i,1≤i∧i≤ps.length∧T≤qaK (ps.take i)∧qaK (ps.take i)≤T+185
 | [],_,T,h1,_,h3=>by simp[qaK]at h1;omega
 | p::ps,hp,T,h1,h2,h3=>by
  rw[qat]at h1;have hp0:=hp p (by simp);have hq:2+p.1.length+p.2.length≤186:=by
   obtain⟨⟨_,a⟩,b⟩:=hp0;omega
  by_cases hT:T≤2+p.1.length+p.2.length
  ·exact⟨1,by omega,by simp,by rw[zbt,qat];omega,by rw[zbt,qat];simp[qaK];omega⟩
  ·obtain⟨i,i1,i2,i3,i4⟩:=qfR (ps:=ps) (fun q hq=>hp q (by simp[hq])) (T:=T-(2+p.1.length+p.2.length)) (by omega) (by omega) (by omega);exact⟨i+1,by omega,by simp;omega,by rw[zbt,qat];omega,by rw[zbt,qat];omega⟩
theorem qcQ:∀ {ks:List Bs},(∀ k∈ks,klen k)→2*ks.length≤qaI ks∧qaI ks≤25*ks.length
 | [],_=>by simp[qaI]
 | k::ks,h=>by
  have h1:=h k (by simp);obtain⟨h2,h3⟩:=qcQ (ks:=ks) (fun q hq=>h q (by simp[hq]));unfold klen at h1;rw[qcd];simp only[zal];omega
theorem qfH (hb:Body D h n)(hw:wide n)(hbig:500<qaz n):∃ i,1≤i∧i<nk n∧qaz (qaG n i).1≤500∧qaz (qaG n i).2.1≤500:=by
 cases h with
 | zero=>
  obtain⟨ps,rfl,p1,p2⟩:=hb;simp only[wide,qaz]at hw hbig;obtain⟨i,i1,i2,i3,i4⟩:=qfR p2 (T:=186) (by omega) (by omega) (by omega);have e:qaK (ps.take i)+qaK (ps.drop i)=qaK ps:=by rw[←qbY,zay]
  refine⟨i,i1,?_,?_,?_⟩
  ·simp only[nk];by_cases hi:i=ps.length
   ·subst hi;rw[zbA]at i4;omega
   ·omega
  ·simp only[qaG,qaz];omega
  ·simp only[qaG,qaz];omega
 | succ h=>
  obtain⟨ks,xs,rfl,l1,k1,s1,x1⟩:=hb;simp only[wide,qaz]at hw hbig;have b1:=qcQ k1;have hl:7≤ks.length:=by omega
  have b2:=qcQ (ks:=ks.take 6) (fun k hk=>k1 k (zbb hk));have b3:=qcQ (ks:=ks.take 7) (fun k hk=>k1 k (zbb hk));have e:qaI (ks.take 7)+qaI (ks.drop 7)=qaI ks:=by rw[←qaL,zay]
  simp only[zaj]at b2 b3;refine⟨6,by omega,by simp only[nk];omega,?_,?_⟩
  ·simp only[qaG,qaz,zaj,Nat.reduceAdd];omega
  ·simp only[qaG,qaz,zap,Nat.reduceAdd];omega
theorem qlP (hb:Body D h n)(hs:Srt (itemsK D h n))(hw:wide n) :
  Got D h (cutK n).1 (cutK n).2∧(cutK n).1.flatMap (itemsK D h)=itemsK D h n∧(cutK n).1.flatMap (pgs D h)=pgs D h n∧(cutK n).1≠[]:=by
 unfold cutK;split
 ·rename_i h5;refine⟨⟨.inr (.inl ⟨n,rfl,rfl⟩),?_,by simp,by intro j a k b _ h;simp at h⟩,by simp,by simp,by simp⟩;intro x hx;obtain rfl:x=n:=by simpa using hx
  refine⟨?_,x,hb.notPage,hb,h5⟩;cases h with
  | zero=>obtain⟨_,rfl,_⟩:=hb;rfl
  | succ h=>obtain⟨_,_,rfl,_⟩:=hb;rfl
 ·rename_i h5;obtain⟨j,j1,j2,j3,j4⟩:=qfH hb hw (by omega);rcases bestK_spec n (nk n)with⟨h1,_⟩|⟨i,i1,i2,i3,i4⟩
  ·omega
  ·have hm:=i4 j j1 j2;obtain⟨a,b,k,e,ba,bb,pa,pb,kk,hp,hi,hpg⟩:=qjY hb hs i1 i2;rw[i3,e];rw[e]at hm;simp only at hm⊢;have Ha:qaz a≤500:=by omega
   have Hb:qaz b≤500:=by omega
   refine⟨⟨.inr (.inr ⟨a,b,k,rfl,rfl⟩),?_,by simp[kk],?_⟩,by simpa using hi,by simpa using hpg,by simp⟩
   ·intro x hx;simp only[zaB,zch,or_false]at hx;rcases hx with rfl|rfl
    ·exact⟨pa,_,ba.notPage,ba,Ha⟩
    ·exact⟨pb,_,bb.notPage,bb,Hb⟩
   ·intro m u q v hu hq hv
    match m with
    | 0=>simp at hu hq hv;subst hu hq hv;exact hp
    | m+1=>simp at hv
structure Row' (D:Dsk) (h:Nat) (ks:List Bs) (xs:List Kd):Prop where
 len:xs≠[]→xs.length=ks.length+1
 keys:∀ k∈ks,klen k
 sep:Sep D h ks xs
 kids:∀ x∈xs,WF D h x
theorem qe4 {met:List Nat}{k:Kd}(h1:nd D k=some m)(hm:∀ p∈qah k,p∉met):qdV D met k=some m:=by
 cases k with
 | page p=>
  have:=hm p (by simp[qah]);simp[qdV,this];exact h1
 | leaf ps=>exact h1
 | inner ks xs=>exact h1
theorem qhp (ha:xs[i]?=some a)(hb:xs[i+1]?=some b):xs=xs.take i++a::b::xs.drop (i+2):=by
 have h1:i<xs.length:=(zac.1 ha).1;have h2:i+1<xs.length:=(zac.1 hb).1;have e1:a=xs[i]:=by rw[zab h1]at ha;exact(zaG ha).symm
 have e2:b=xs[i+1]:=by rw[zab h2]at hb;exact(zaG hb).symm
 rw[e1,e2,za8,za8,zay]
theorem qeG {D:Dsk}{h:Nat}:∀ (f at_ to:Nat) (ks:List Bs) (xs:List Kd) (met:List Nat),Row' D h ks xs→(∀ x∈xs,∀ p∈qah x,p∉met)→(xs.flatMap (pgs D h)).Nodup→
  ∃ ks2 xs2 m,qcC D f at_ to ks xs met=some (ks2,xs2,met++m)∧Row' D h ks2 xs2∧xs2.flatMap (itemsK D h)=xs.flatMap (itemsK D h)∧List.Perm (m++xs2.flatMap (pgs D h)) (xs.flatMap (pgs D h))∧
   qaI ks2+2*xs2.length≤qaI ks+2*xs.length∧(xs≠[]→xs2≠[])
 | 0,_,_,ks,xs,met,hr,_,_=>⟨ks,xs,[],by simp[qcC],hr,rfl,by simp,zad _,fun h=>h⟩
 | f+1,at_,to,ks,xs,met,hr,hm,hn=>by
  simp only[qcC];split
  ·rename_i hc;have hlen:=hr.len (by intro h0;rw[h0]at hc;simp at hc);have ha:xs[at_]?=some xs[at_]:=zab (by omega);have hb:xs[at_+1]?=some xs[at_+1]:=zab (by omega);have hk:ks[at_]?=some ks[at_]:=zab (by omega);rw[ha,hb,hk];simp only;obtain⟨na,a1,a2,a3⟩:=hr.kids _ (zbi (h:=(by omega:at_<xs.length)));obtain⟨nb,b1,b2,b3⟩:=hr.kids _ (zbi (h:=hc.1));rw[qe4 a1 (hm _ (zbi ..)),qe4 b1 (hm _ (zbi ..))];simp only;have hp:=hr.sep at_ _ _ _ ha hk hb;have hp':(∀ p∈itemsK D h na,blt p.1 ks[at_]=true)∧∀ p∈itemsK D h nb,blt p.1 ks[at_]=false:=by
    rw[←qaE a1 a2,←qaE b1 b2];exact hp
   have Hi:klen ks[at_]:=hr.keys _ (zbi ..);split
   ·rename_i x hj;obtain⟨j1,j2,j3,j4,j5⟩:=qmf a2 b2 Hi hp' hj;have ex:=qhp ha hb;generalize hA:xs[at_]=a at *;generalize hB:xs[at_+1]=b at *;have Hg:nd D x=some x:=j1.notPage;have Ha:itemsK D h x=itemsK D h a++itemsK D h b:=by rw[j3,qaE a1 a2,qaE b1 b2]
    have He:pgs D h a++pgs D h b=qah a++(pgs D h na++(qah b++pgs D h nb)):=by rw[qbu a1 a2,qbu b1 b2];simp
    have lt:(xs.take at_).length=at_:=by rw[zaj];omega
    have Hf:Row' D h (ks.eraseIdx at_) (xs.take at_++x::xs.drop (at_+2)):=by
     refine⟨fun _=>?_,fun k hk=>hr.keys k (zcb hk),?_,?_⟩
     ·simp only[zaf,zal,zaj,zap,List.length_eraseIdx];split<;>omega
     ·intro j u m v hu hq hv;rw[List.getElem?_eraseIdx]at hq;by_cases c1:j+1<at_
      ·rw[zaH (by omega),zaR,zax (by omega)]at hu hv;rw[zax (by omega)]at hq;exact hr.sep j u m v hu hq hv
      ·by_cases c2:j+1=at_
       ·rw[zaH (by omega),zaR,zax (by omega)]at hu;rw[zax (by omega)]at hq;rw[zaz (by omega),lt,c2,zcd]at hv;simp only[zcf,zau]at hv;subst hv;have h3:=hr.sep j u m a hu hq (by rw[c2];exact ha);refine⟨h3.1,fun p hp=>?_⟩;rw[Ha,zar]at hp;rcases hp with hp|hp
        ·exact h3.2 p hp
        ·-- b's pairs lie behind a's
         obtain⟨q,hq'⟩:=zbH _ (WF.ne (D:=D) (h:=h) (k:=a) ⟨na,a1,a2,a3⟩);have q1:=h3.2 q hq';have q2:=hp'.1 q (by rw[←qaE a1 a2];exact hq');have q3:=hp'.2 p (by rw[←qaE b1 b2];exact hp);cases hc':blt p.1 m with
         | false=>rfl
         | true=>
          have q4:=qa0 q2 q3;have q5:=qaT q4 hc';rw[q1]at q5;cases q5
       ·rw[zaC (by omega)]at hq;by_cases c3:j=at_
        ·rw[c3]at hu hq hv;rw[zaz (by omega),lt,zcd]at hu;rw[zaz (by omega),lt,show at_+1-at_=0+1 by omega,zbe,zaJ]at hv;simp only[zcf,zau]at hu;subst hu;have h3:=hr.sep (at_+1) b m v hb hq (by simpa using hv);refine⟨fun p hp=>?_,h3.2⟩;rw[Ha,zar]at hp;rcases hp with hp|hp
         ·obtain⟨q,hq'⟩:=zbH _ (WF.ne (D:=D) (h:=h) (k:=b) ⟨nb,b1,b2,b3⟩);have q1:=h3.1 q hq';have q2:=hp'.2 q (by rw[←qaE b1 b2];exact hq');have q3:=hp'.1 p (by rw[←qaE a1 a2];exact hp);exact qaT (qa0 q3 q2) q1
         ·exact h3.1 p hp
        ·rw[zaz (by omega),lt,show j-at_=(j-at_-1)+1 by omega,zbe,zaJ]at hu;rw[zaz (by omega),lt,show j+1-at_=(j-at_)+1 by omega,zbe,zaJ]at hv;rw[show at_+2+(j-at_-1)=j+1 by omega]at hu;rw[show at_+2+(j-at_)=j+1+1 by omega]at hv;exact hr.sep (j+1) u m v hu hq hv
     ·intro y hy;rcases zar.1 hy with hy|hy
      ·exact hr.kids y (zbb hy)
      ·rcases zaB.1 hy with rfl|hy
       ·exact⟨_,Hg,j1,j2⟩
       ·exact hr.kids y (zbm hy)
    have xp:qah x=[]:=by
     clear Hf Hg
     match x,j5 with
     | .leaf _,_=>rfl
     | .inner _ _,_=>rfl
     | .page _,h=>cases h
    have Hb:List.Perm (qah a++qah b++(xs.take at_++x::xs.drop (at_+2)).flatMap (pgs D h)) (xs.flatMap (pgs D h)):=by
     conv=>rhs;rw[ex]
     simp only[zaK,zat,j4];rw[←zah (pgs D h a),He]
     grind
    have Hk:((xs.take at_++x::xs.drop (at_+2)).flatMap (pgs D h)).Nodup:=by
     have:=(Hb.nodup_iff).2 hn;exact(za2.1 this).2.1
    have Hj:∀ y∈xs.take at_++x::xs.drop (at_+2),∀ p∈qah y,p∉met++qah a++qah b:=by
     intro y hy p hp hin;have Hc:y∈xs∨y=x:=by
      rcases zar.1 hy with hy|hy
      ·exact .inl (zbb hy)
      ·rcases zaB.1 hy with rfl|hy
       ·exact .inr rfl
       ·exact .inl (zbm hy)
     rcases Hc with Hc|rfl
     ·rw[zah]at hin;rcases zar.1 hin with hin|hin
      ·exact hm y Hc p hp hin
      ·have h5:=(Hb.nodup_iff).2 hn;have h6:=(za2.1 h5).2.2 p hin p;refine h6 ?_ rfl;refine za4.2 ⟨y,hy,?_⟩;obtain⟨ny,y1,y2,_⟩:=hr.kids y Hc;rw[qbu y1 y2];exact za6 _ hp
     ·rw[xp]at hp;cases hp
    obtain⟨ks2,xs2,m,e1,e2,e3,e4,e5,e6⟩:=qeG f at_ to _ _ _ Hf Hj Hk;refine⟨ks2,xs2,qah a++qah b++m,by rw[e1];simp,e2,?_,?_,?_,fun _=>e6 (by simp)⟩
    ·rw[e3]
     conv=>rhs;rw[ex]
     simp[Ha]
    ·refine List.Perm.trans ?_ Hb;rw[zah];exact zcp _ e4
    ·refine zam e5 ?_;have e7:qaI (ks.eraseIdx at_)≤qaI ks:=by
      have Hh:at_<ks.length:=by omega
      rw[List.eraseIdx_eq_take_drop_succ,qaL];have:qaI ks=qaI (ks.take at_)+qaI (ks.drop at_):=by rw[←qaL,zay]
      rw[←za8 (h:=Hh),qcd]at this;omega
     simp only[zaf,zal,zaj,zap];omega
   ·exact qeG f (at_+1) to ks xs met hr hm hn
  ·exact⟨ks,xs,[],by simp,hr,rfl,by simp,zad _,fun h=>h⟩
theorem qfS {key v:Bs}:∀ {ps:List Pr},qaK (putR key v ps)≤qaK ps+(2+key.length+v.length)
 | []=>by simp[putR,qaK]
 | p::ps=>by
  have:=qfS (key:=key) (v:=v) (ps:=ps);simp only[putR];split
  ·rw[qat,qat];omega
  ·split
   ·simp only[qat];omega
   ·simp only[qat];omega
theorem qfQ {key:Bs}:∀ {ps:List Pr},qaK (delR key ps)≤qaK ps
 | []=>by simp[delR]
 | p::ps=>by
  have:=qfQ (key:=key) (ps:=ps);simp only[delR];split
  ·rw[qat,qat];omega
  ·split
   ·rw[qat];omega
   ·exact zad _
theorem qfP (hk:klen key)(hv:∀ x,v=some x→x.length≤160):qaK (chgR key v ps)≤qaK ps+186:=by
 unfold klen at hk;cases v with
 | none=>exact zam qfQ (by omega)
 | some v=>
  have:=hv v rfl;have:=qfS (key:=key) (v:=v) (ps:=ps);simp only[chgR];omega
theorem qkE {got:List Kd}{bet:List Bs}(hr:Row' D h ks xs)(hlen:xs.length=ks.length+1)(hs:Srt (xs.flatMap (itemsK D h)))
  (hi:i=down ks key)(hx:xs[i]?=some x)(hg:Got D h got bet)(hc:got.flatMap (itemsK D h)=chgR key v (itemsK D h x)) :
  Row' D h (if 0<got.length then ks.take i++bet++ks.drop i else ks.eraseIdx (i-1)) (xs.take i++got++xs.drop (i+1))∧
  (xs.take i++got++xs.drop (i+1)).flatMap (itemsK D h)=chgR key v (xs.flatMap (itemsK D h)):=by
 have Ha:∀ y∈xs,itemsK D h y≠[]:=fun y hy=>WF.ne (hr.kids y hy);obtain⟨d1,d2,d3⟩:=qcy ks key;rw[←hi]at d1 d2 d3;have Hf:i<xs.length:=by omega
 have ex:xs=xs.take i++x::xs.drop (i+1):=by
  rw[zab Hf]at hx;rw[←zaG hx,za8,zay]
 have lt:(xs.take i).length=i:=by rw[zaj];omega
 have hL:∀ p∈(xs.take i).flatMap (itemsK D h),blt p.1 key=true:=by
  intro p hp;by_cases h0:i=0
  ·rw[h0]at hp;simp at hp
  ·have e:ks[i-1]?=some ks[i-1]:=zab (by omega);have:=(qbZ hr.sep Ha hs e (by omega)).1;rw[show i-1+1=i by omega]at this;exact qa0 (this p hp) (d2 (i-1) _ (by omega) e)
 have hR:∀ p∈(xs.drop (i+1)).flatMap (itemsK D h),blt key p.1=true:=by
  intro p hp;by_cases h0:i=ks.length
  ·rw[za0 (by omega)]at hp;simp at hp
  ·have e:ks[i]?=some ks[i]:=zab (by omega);have:=(qbZ hr.sep Ha hs e (by omega)).2;exact qa0 (d3 _ e) (this p hp)
 have Hc:∀ g∈got,∀ p∈itemsK D h g,p∈itemsK D h x∨p.1=key:=by
  intro g hg' p hp;have:p∈chgR key v (itemsK D h x):=by rw[←hc];exact za4.2 ⟨g,hg',hp⟩
  rcases mem_chgR this with h1|⟨h1,_⟩
  ·exact .inl h1
  ·exact .inr h1
 have Hb:∀ g∈got,∀ k b,ks[i]?=some k→xs[i+1]?=some b→qiP D h g k b:=by
  intro g hg' k b hk hb;have h3:=hr.sep i x k b hx hk hb;refine⟨fun p hp=>?_,h3.2⟩;rcases Hc g hg' p hp with h1|h1
  ·exact h3.1 p h1
  ·rw[h1];exact d3 k hk
 have He:∀ g∈got,∀ a k,0<i→xs[i-1]?=some a→ks[i-1]?=some k→qiP D h a k g:=by
  intro g hg' a k h0 ha hk;have h3:=hr.sep (i-1) a k x ha hk (by rw[show i-1+1=i by omega];exact hx);refine⟨h3.1,fun p hp=>?_⟩;rcases Hc g hg' p hp with h1|h1
  ·exact h3.2 p h1
  ·rw[h1];exact d2 (i-1) k (by omega) hk
 refine⟨⟨?_,?_,?_,?_⟩,?_⟩
 ·intro hne';rcases hg.len with⟨rfl,rfl⟩|⟨g,rfl,rfl⟩|⟨g,g',b,rfl,rfl⟩
  ·rw[zaC (by simp)];simp only[zaP,ne_eq,zcF,not_and]at hne';simp only[zaP,zaf,zaj,zap,List.length_eraseIdx];have h2:2≤xs.length:=by
    by_cases h2:2≤xs.length
    ·exact h2
    ·exfalso;obtain rfl:i=0:=by omega
     refine hne' (by simp) ?_;exact za0 (by omega)
   split<;>omega
  ·rw[zax (by simp)];simp;omega
  ·rw[zax (by simp)];simp;omega
 ·intro k hk;split at hk
  ·simp only[zar]at hk;rcases hk with(hk|hk)|hk
   ·exact hr.keys k (zbb hk)
   ·exact hg.keys k hk
   ·exact hr.keys k (zbm hk)
  ·exact hr.keys k (zcb hk)
 ·rcases hg.len with⟨rfl,rfl⟩|⟨g,rfl,rfl⟩|⟨g,g',b,rfl,rfl⟩
  ·rw[zaC (by simp)];simp only[zaP];intro j u m w hu hq hw;rw[List.getElem?_eraseIdx]at hq;have gx:∀ j,(xs.take i++xs.drop (i+1))[j]?=if j<i then xs[j]? else xs[j+1]?:=by
    intro j;by_cases hj:j<i
    ·rw[zaH (by omega),zaR,zax hj,zax hj]
    ·rw[zaz (by omega),lt,zaJ,zaC hj,show i+1+(j-i)=j+1 by omega]
   rw[gx]at hu hw;by_cases c1:j+1<i
   ·rw[zax (by omega)]at hu hw hq;exact hr.sep j u m w hu hq hw
   ·by_cases c2:j+1=i
    ·rw[zax (by omega)]at hu;rw[zaC (by omega)]at hw hq;have h2:=qbZ hr.sep Ha hs (j:=j+1) hq (by have:=(zac.1 hw).1;omega);refine⟨fun p hp=>h2.1 p ?_,fun p hp=>h2.2 p ?_⟩
     ·refine za4.2 ⟨u,?_,hp⟩;refine zak (i:=j) ?_;rw[zaR,zax (by omega)];exact hu
     ·refine za4.2 ⟨w,?_,hp⟩;refine zak (i:=0) ?_;rw[zaJ];exact hw
    ·rw[zaC (by omega)]at hu hw;rw[zaC (by omega)]at hq;exact hr.sep (j+1) u m w hu hq hw
  ·rw[zax (by simp)];intro j u m w hu hq hw;have gk:(ks.take i++[]++ks.drop i)=ks:=by simp
   rw[gk]at hq;have gx:∀ j,(xs.take i++[g]++xs.drop (i+1))[j]?=if j=i then some g else xs[j]?:=by
    intro j;rw[zah];by_cases hj:j<i
    ·rw[zaH (by omega),zaR,zax hj,zaC (by omega)]
    ·rw[zaz (by omega),lt];by_cases hj2:j=i
     ·subst hj2;simp
     ·rw[zaC hj2,show j-i=(j-i-1)+1 by omega,zcM,zbe,zaJ,show i+1+(j-i-1)=j by omega]
   rw[gx]at hu hw;by_cases c1:j=i
   ·rw[zax c1]at hu;rw[zaC (by omega)]at hw;cases hu;subst c1;exact Hb g (by simp) m w hq hw
   ·rw[zaC c1]at hu;by_cases c2:j+1=i
    ·rw[zax c2]at hw;cases hw;exact He g (by simp) u m (by omega) (by rw[←c2];exact hu) (by rw[←c2];exact hq)
    ·rw[zaC c2]at hw;exact hr.sep j u m w hu hq hw
  ·rw[zax (by simp)];intro j u m w hu hq hw;have lk:(ks.take i).length=i:=by rw[zaj];omega
   have gk:∀ j,(ks.take i++[b]++ks.drop i)[j]?=if j<i then ks[j]? else if j=i then some b else ks[j-1]?:=by
    intro j;rw[zah];by_cases hj:j<i
    ·rw[zaH (by omega),zaR,zax hj,zax hj]
    ·rw[zaz (by omega),lk,zaC hj];by_cases hj2:j=i
     ·subst hj2;simp
     ·rw[zaC hj2,show j-i=(j-i-1)+1 by omega,zcM,zbe,zaJ,show i+(j-i-1)=j-1 by omega]
   have gx:∀ j,(xs.take i++[g,g']++xs.drop (i+1))[j]?=if j<i then xs[j]? else if j=i then some g else if j=i+1 then some g' else xs[j-1]?:=by
    intro j;rw[zah];by_cases hj:j<i
    ·rw[zaH (by omega),zaR,zax hj,zax hj]
    ·rw[zaz (by omega),lt,zaC hj];by_cases hj2:j=i
     ·subst hj2;simp
     ·rw[zaC hj2,show j-i=(j-i-1)+1 by omega,za3,zbe];by_cases hj3:j=i+1
      ·subst hj3;simp
      ·rw[zaC hj3,show j-i-1=(j-i-2)+1 by omega,za3,zbe,zaI,zaJ,show i+1+(j-i-2)=j-1 by omega]
   rw[gx]at hu hw;rw[gk]at hq;by_cases c1:j+1<i
   ·rw[zax (by omega)]at hu hw hq;exact hr.sep j u m w hu hq hw
   ·by_cases c2:j+1=i
    ·rw[zax (by omega)]at hu hq;rw[zaC (by omega),zax c2]at hw;cases hw;exact He g (by simp) u m (by omega) (by rw[←c2];exact hu) (by rw[←c2];exact hq)
    ·by_cases c3:j=i
     ·rw[zaC (by omega),zax c3]at hu hq;rw[zaC (by omega),zaC (by omega),zax (by omega)]at hw;cases hu;cases hw;cases hq;exact hg.sep 0 g b g' rfl rfl rfl
     ·by_cases c4:j=i+1
      ·rw[zaC (by omega),zaC (by omega),zax c4]at hu;rw[zaC (by omega),zaC (by omega)]at hq;rw[zaC (by omega),zaC (by omega),zaC (by omega)]at hw;cases hu;refine Hb g' (by simp) m w ?_ ?_
       ·rw[←hq,c4];simp
       ·rw[←hw,c4];simp
      ·rw[zaC (by omega),zaC (by omega),zaC (by omega)]at hu;rw[zaC (by omega),zaC (by omega)]at hq;rw[zaC (by omega),zaC (by omega),zaC (by omega)]at hw;refine hr.sep (j-1) u m w hu hq ?_;rw[show j-1+1=j by omega];simpa using hw
 ·intro y hy;simp only[zar]at hy;rcases hy with(hy|hy)|hy
  ·exact hr.kids y (zbb hy)
  ·exact(hg.kids y hy).2
  ·exact hr.kids y (zbm hy)
 ·conv=>rhs;rw[ex]
  simp only[zaK,zat,hc];rw[←zah,qkZ key v _ _ _ hL hR]
theorem Srt.sub {a b:List Pr}{l:List Pr}(h:Srt (a++l++b)):Srt l:=by
 unfold Srt at *;rw[zbn,zbn]at h;exact h.1.2.1
theorem qeL {D:Dsk}:∀ (h f:Nat) (met:List Nat) (k:Kd) (key:Bs) (v:Option Bs),h<f→WF D h k→Srt (itemsK D h k)→(pgs D h k).Nodup→(∀ p∈pgs D h k,p∉met)→klen key→(∀ x,v=some x→x.length≤160)→
  ∃ got bet m,qbd D f met k key v=some (got,bet,met++m)∧Got D h got bet∧got.flatMap (itemsK D h)=chgR key v (itemsK D h k)∧List.Perm (m++got.flatMap (pgs D h)) (pgs D h k)
 | _,0,_,_,_,_,hf,_,_,_,_,_,_=>by omega
 | 0,f+1,met,k,key,v,_,hw,hs,hn,hm,hk,hv=>by
  obtain⟨n,h1,h2,h3⟩:=hw;have hpk:∀ p∈qah k,p∉met:=fun p hp=>hm p (by rw[qbu h1 h2];exact za6 _ hp);have e1:=qaE h1 h2;have e2:=qbu h1 h2;simp only[qbd,qe4 h1 hpk];obtain⟨ps,rfl,p1,p2⟩:=h2;simp only;have ei:itemsK D 0 k=ps:=e1;have ep:pgs D 0 k=qah k:=by rw[e2];simp[pgs,qah]
  rw[ei]at hs⊢;split
  ·rename_i h0;refine⟨[],[],qah k,rfl,Got.nil D 0,?_,by rw[ep];simp⟩;rw[zaX h0];rfl
  ·rename_i h0;have hb:Body D 0 (.leaf (chgR key v ps)):=by
    refine⟨_,rfl,fun e=>h0 (by rw[e];rfl),fun p hp=>?_⟩;rcases mem_chgR hp with h4|⟨h4,h5⟩
    ·exact p2 p h4
    ·exact⟨by rw[h4];exact hk,hv _ h5⟩
   have Hp:wide (.leaf (chgR key v ps)):=by
    have:=qfP hk hv (ps:=ps);simp only[qaz]at h3;simp only[wide];omega
   obtain⟨c1,c2,c3,_⟩:=qlP hb (Srt.chg hs) Hp;refine⟨_,_,qah k,rfl,c1,c2,?_⟩;rw[c3,ep];simp[pgs,qah]
 | h+1,f+1,met,k,key,v,hf,hw,hs,hn,hm,hk,hv=>by
  obtain⟨n,h1,h2,h3⟩:=hw;have e1:=qaE h1 h2;have e2:=qbu h1 h2;have hpk:∀ p∈qah k,p∉met:=fun p hp=>hm p (by rw[e2];exact za6 _ hp);simp only[qbd,qe4 h1 hpk];obtain⟨ks,xs,rfl,l1,k1,s1,x1⟩:=h2;simp only;have ei:itemsK D (h+1) k=xs.flatMap (itemsK D h):=e1;have ep:pgs D (h+1) k=qah k++xs.flatMap (pgs D h):=by rw[e2];simp[pgs,nd,qah]
  rw[ei]at hs⊢;rw[ep]at hn hm⊢;obtain⟨d1,d2,d3⟩:=qcy ks key;generalize hi:down ks key=i at *;have Hk:i<xs.length:=by omega
  have hx:xs[i]?=some xs[i]:=zab Hk;rw[hx];simp only;have Hj:xs[i]∈xs:=zbi ..;generalize hX:xs[i]=x at *;have ex:xs=xs.take i++x::xs.drop (i+1):=by
   rw[←hX,za8,zay]
  have hr:Row' D h ks xs:=⟨fun _=>l1,k1,s1,x1⟩;have Ho:Srt (itemsK D h x):=by
   rw[ex]at hs;simp only[zaK,zat]at hs;rw[←zah]at hs;exact hs.sub
  have px:∀ p∈pgs D h x,p∈xs.flatMap (pgs D h):=fun p hp=>za4.2 ⟨x,Hj,hp⟩;have Hc:=(za2.1 hn);have Hm:(pgs D h x).Nodup:=by
   have:=Hc.2.1;rw[ex]at this;simp only[zaK,zat]at this;exact(za2.1 (za2.1 this).2.1).1
  obtain⟨got,bet,m1,g1,g2,g3,g4⟩:=qeL h f (met++qah k) x key v (by omega) (x1 x Hj) Ho Hm (fun p hp hin=>by
   rcases zar.1 hin with h5|h5
   ·exact hm p (zaS _ (px p hp)) h5
   ·exact Hc.2.2 p h5 p (px p hp) rfl) hk hv
  rw[g1];simp only;obtain⟨r1,r2⟩:=qkE hr l1 hs hi.symm hx g2 g3;generalize hks1:(if 0<got.length then ks.take i++bet++ks.drop i else ks.eraseIdx (i-1))=ks1 at *;have Hb:List.Perm (m1++(xs.take i++got++xs.drop (i+1)).flatMap (pgs D h)) (xs.flatMap (pgs D h)):=by
   conv=>rhs;rw[ex]
   simp only[zaK,zat]
   grind
  have Ht:qaI ks1+2*(xs.take i++got++xs.drop (i+1)).length≤525:=by
   have Hr:qaI (ks.take i)+qaI (ks.drop i)=qaI ks:=by rw[←qaL,zay]
   simp only[qaz]at h3;have Hq:qaI bet≤25∧got.length≤2:=by
    rcases g2.len with⟨e,e'⟩|⟨g,e,e'⟩|⟨g,g',b,e,e'⟩
    ·rw[e,e'];simp[qaI]
    ·rw[e,e'];simp[qaI]
    ·have:=g2.keys b (by rw[e'];simp);unfold klen at this;rw[e,e'];simp[qaI];omega
   have Hs:qaI ks1≤qaI ks+25:=by
    rw[←hks1];split
    ·rw[qaL,qaL];omega
    ·by_cases hc:i-1<ks.length
     ·rw[List.eraseIdx_eq_take_drop_succ,qaL];have:qaI ks=qaI (ks.take (i-1))+qaI (ks.drop (i-1)):=by rw[←qaL,zay]
      rw[←za8 (h:=hc),qcd]at this;omega
     ·rw[List.eraseIdx_of_length_le (by omega)];omega
   simp only[zaf,zaj,zap];omega
  generalize hxs1:xs.take i++got++xs.drop (i+1)=xs1 at *;have Hl:=(Hb.nodup_iff).2 Hc.2.1;have Hg:=za2.1 Hl;obtain⟨ks2,xs2,m2,q1,q2,q3,q4,q5,q6⟩:=qeG (D:=D) (h:=h) (xs1.length+i+3) (i-1) (i+1) ks1 xs1 (met++qah k++m1) r1 (fun y hy p hp hin=>by
   have Hh:p∈xs1.flatMap (pgs D h):=by
    obtain⟨ny,y1,y2,_⟩:=r1.kids y hy;refine za4.2 ⟨y,hy,?_⟩;rw[qbu y1 y2];exact za6 _ hp
   have Hi:p∈xs.flatMap (pgs D h):=Hb.subset (zaS _ Hh);rcases zar.1 hin with h5|h5
   ·rcases zar.1 h5 with h5|h5
    ·exact hm p (zaS _ Hi) h5
    ·exact Hc.2.2 p h5 p Hi rfl
   ·exact Hg.2.2 p h5 p Hh rfl) Hg.2.1
  rw[q1];simp only;have Ha:∀ l:List Nat,List.Perm (m2++l) (xs1.flatMap (pgs D h))→List.Perm (qah k++m1++m2++l) (qah k++xs.flatMap (pgs D h)):=by
   intro l hl;rw[zah,zah];refine zcp _ (List.Perm.trans ?_ Hb);exact zcp _ hl
  split
  ·rename_i h0;refine⟨[],[],qah k++m1++m2,by simp,Got.nil D _,?_,?_⟩
   ·rw[←r2,←q3,zaX h0];rfl
   ·refine Ha _ ?_;rw[zaX h0]at q4;simpa using q4
  ·rename_i h0;have He:xs2≠[]:=fun e=>h0 (by rw[e];rfl);have hb:Body D (h+1) (.inner ks2 xs2):=⟨ks2,xs2,rfl,q2.len He,q2.keys,q2.sep,q2.kids⟩;have Hf:itemsK D (h+1) (.inner ks2 xs2)=xs2.flatMap (itemsK D h):=rfl;have Hn:Srt (itemsK D (h+1) (.inner ks2 xs2)):=by
    rw[Hf,q3,r2];exact Srt.chg hs
   obtain⟨c1,c2,c3,_⟩:=qlP hb Hn (by simp only[wide];omega);refine⟨_,_,qah k++m1++m2,by simp,c1,?_,?_⟩
   ·rw[c2,Hf,q3,r2]
   ·rw[c3];refine Ha _ ?_;simp only[pgs,nd,qah,zaI];exact q4
def rowE (k:Bs):Bs:=UInt8.ofNat k.length::k
def kidE:Kd→Bs
 | .page p=>[UInt8.ofNat (p / 256),UInt8.ofNat p]
 | _=>[0,0]
def encK:Kd→Bs
 | .page _=>[]
 | .leaf ps=>[0,UInt8.ofNat ps.length]++ps.flatMap fun p=>rowE p.1++rowE p.2
 | .inner ks xs=>[1,UInt8.ofNat ks.length]++xs.flatMap kidE++ks.flatMap rowE
def rowD:Bs→Option (Bs×Bs)
 | []=>none
 | n::r=>if r.length<n.toNat then none else some (r.take n.toNat,r.drop n.toNat)
def qeY (prev:Option Bs)(k:Bs):Bool:=decide (1≤k.length)&&decide (k.length≤24)&&(match prev with|none=>true|some q=>blt q k)
def qf4:Nat→Option Bs→Bs→Option (List Bs×Bs)
 | 0,_,b=>some ([],b)
 | m+1,prev,b=>match rowD b with
  | none=>none
  | some (k,r)=>if qeY prev k then(qf4 m (some k) r).map fun x=>(k::x.1,x.2)else none
def qf5:Nat→Option Bs→Bs→Option (List Pr×Bs)
 | 0,_,b=>some ([],b)
 | m+1,prev,b=>match rowD b with
  | none=>none
  | some (k,r)=>if qeY prev k then
    match rowD r with
    | none=>none
    | some (v,r2)=>if v.length≤160 then(qf5 m (some k) r2).map fun x=>((k,v)::x.1,x.2)else none
   else none
def decKids:Nat→Bs→List Kd
 | 0,_=>[]
 | m+1,b=>.page ((b.getD 0 0).toNat*256+(b.getD 1 0).toNat)::decKids m (b.drop 2)
def qc9 (m:Nat)(r:Bs):Option Kd:=(qf5 m none r).bind fun x=>if x.2.isEmpty&&decide (0<m)then some (.leaf x.1)else none
def qcj (m:Nat)(r:Bs):Option Kd:=
 if r.length<2*(m+1)then none else(qf4 m none (r.drop (2*(m+1)))).bind fun x=>if x.2.isEmpty then some (.inner x.1 (decKids (m+1) r))else none
def decK:Bs→Option Kd
 | t::m::r=>if t=0 then qc9 m.toNat r else if t=1 then qcj m.toNat r else none
 | _=>none
theorem qdn (t m:UInt8)(r:Bs):decK (t::m::r)=if t=0 then qc9 m.toNat r else if t=1 then qcj m.toNat r else none:=rfl
theorem qcg (n:UInt8)(r:Bs):rowD (n::r)=if r.length<n.toNat then none else some (r.take n.toNat,r.drop n.toNat):=rfl
theorem qdM (m:Nat)(prev:Option Bs)(b:Bs):qf4 (m+1) prev b=match rowD b with
  | none=>none
  | some (k,r)=>if qeY prev k then(qf4 m (some k) r).map fun x=>(k::x.1,x.2)else none:=rfl
theorem qdN (m:Nat)(prev:Option Bs)(b:Bs):qf5 (m+1) prev b=match rowD b with
  | none=>none
  | some (k,r)=>if qeY prev k then
    match rowD r with
    | none=>none
    | some (v,r2)=>if v.length≤160 then(qf5 m (some k) r2).map fun x=>((k,v)::x.1,x.2)else none
   else none:=rfl
theorem qfa (k r:Bs)(h:k.length<256):rowD (rowE k++r)=some (k,r):=by
 have e:(UInt8.ofNat k.length).toNat=k.length:=by rw[zco];exact zbs h
 unfold rowE;rw[za3,qcg,e,zaC (by simp),zbo rfl,zbG rfl]
theorem qgs (k:Bs):(rowE k).length=1+k.length:=by simp[rowE];omega
def Rise (q:Option Bs)(ks:List Bs):Prop:=(∀ x,q=some x→∀ k∈ks,blt x k=true)∧ks.Pairwise fun a b=>blt a b=true
theorem qfL {q:Option Bs}(hk:klen k)(h:Rise q (k::ks)):qeY q k=true∧Rise (some k) ks:=by
 unfold klen at hk;have h2:=zbr.1 h.2;refine⟨?_,fun x hx y hy=>by cases hx;exact h2.1 y hy,h2.2⟩;unfold qeY;cases q with
 | none=>simp[hk]
 | some q=>simp[hk,h.1 q rfl k (by simp)]
theorem qhj {q:Option Bs}(h1:∀ x,q=some x→blt x k=true)(h:Rise (some k) ks):Rise q (k::ks):=by
 refine⟨fun x hx y hy=>?_,zbr.2 ⟨fun y hy=>h.1 k rfl y hy,h.2⟩⟩;rcases zaB.1 hy with rfl|hy
 ·exact h1 x hx
 ·exact qaT (h1 x hx) (h.1 k rfl y hy)
theorem qiG (q:Option Bs):Rise q []:=⟨by simp,List.Pairwise.nil⟩
theorem qgI:∀ (ks:List Bs) (q:Option Bs) (r:Bs),(∀ k∈ks,klen k)→Rise q ks→qf4 ks.length q (ks.flatMap rowE++r)=some (ks,r)
 | [],_,_,_,_=>rfl
 | k::ks,q,r,hk,h=>by
  have h1:=hk k (by simp);obtain⟨h2,h3⟩:=qfL h1 h;unfold klen at h1;rw[zat,zah,zal];rw[qdM,qfa _ _ (by omega)];simp only[h2,zb5];rw[qgI ks (some k) r (fun x hx=>hk x (by simp[hx])) h3];rfl
theorem qgJ:∀ (ps:List Pr) (q:Option Bs) (r:Bs),(∀ p∈ps,plen p)→Rise q (ps.map Prod.fst)→qf5 ps.length q ((ps.flatMap fun p=>rowE p.1++rowE p.2)++r)=some (ps,r)
 | [],_,_,_,_=>rfl
 | p::ps,q,r,hk,h=>by
  have h1:=hk p (by simp);obtain⟨h2,h3⟩:=qfL h1.1 h;have h4:=h1.1;have h5:=h1.2;unfold klen at h4;rw[zat,zah,zah,zal];rw[qdN,qfa _ _ (by omega)];simp only[h2,zb5];rw[qfa _ _ (by omega)];simp only[h5,zb5];rw[qgJ ps (some p.1) r (fun x hx=>hk x (by simp[hx])) h3];rfl
theorem qeM:∀ (xs:List Kd) (r:Bs),(∀ x∈xs,∃ p,x=.page p∧p<65536)→decKids xs.length (xs.flatMap kidE++r)=xs
 | [],_,_=>rfl
 | x::xs,r,h=>by
  obtain⟨p,rfl,hp⟩:=h x (by simp);rw[zat,zah,zal];unfold decKids;have e:(kidE (.page p)++(xs.flatMap kidE++r)).drop 2=xs.flatMap kidE++r:=rfl;rw[e,qeM xs r (fun y hy=>h y (by simp[hy]))];congr 2;simp[kidE];omega
theorem qeF:∀ (xs:List Kd),(xs.flatMap kidE).length=2*xs.length
 | []=>rfl
 | x::xs=>by
  rw[zat,zaf,qeF xs,zal];cases x<;>simp[kidE]<;>omega
theorem qix:∀ (ks:List Bs),(ks.flatMap rowE).length=qaI ks
 | []=>rfl
 | k::ks=>by rw[zat,zaf,qix ks,qcd,qgs]
theorem qhf:∀ (ps:List Pr),(ps.flatMap fun p=>rowE p.1++rowE p.2).length=qaK ps
 | []=>rfl
 | p::ps=>by
  rw[zat,zaf,qhf ps,qat,zaf,qgs,qgs];omega
theorem qiq (n:Kd)(h:isPage n=false):(encK n).length=qaz n:=by
 cases n with
 | page p=>cases h
 | leaf ps=>
  simp only[encK,qaz,zaf,zal,zbl];rw[qhf]
 | inner ks xs=>
  simp only[encK,qaz,zaf,zal,zbl];rw[qeF,qix];omega
theorem qjP (hp:∀ p∈ps,plen p)(hne:ps≠[])(hl:ps.length<256)(hr:Rise none (ps.map Prod.fst)):decK (encK (.leaf ps))=some (.leaf ps):=by
 have e:(UInt8.ofNat ps.length).toNat=ps.length:=by rw[zco];exact zbs hl
 have h1:=qgJ ps none [] hp hr;rw[zaP]at h1;have Ha:0<ps.length:=List.length_pos_iff.2 hne;show decK (0::UInt8.ofNat ps.length::(ps.flatMap fun p=>rowE p.1++rowE p.2))=_;rw[qdn,zax rfl,e];unfold qc9;rw[h1];simp[Ha]
theorem qfu (hk:∀ k∈ks,klen k)(hl:ks.length<256)(hx:xs.length=ks.length+1)(hp:∀ x∈xs,∃ p,x=.page p∧p<65536)(hr:Rise none ks):decK (encK (.inner ks xs))=some (.inner ks xs):=by
 have e:(UInt8.ofNat ks.length).toNat=ks.length:=by rw[zco];exact zbs hl
 have h1:=qgI ks none [] hk hr;rw[zaP]at h1;have h2:=qeM xs (ks.flatMap rowE) hp;rw[hx]at h2;show decK (1::UInt8.ofNat ks.length::(xs.flatMap kidE++ks.flatMap rowE))=_;rw[qdn,zaC (by decide),zax rfl,e];unfold qcj;rw[zaC (by rw[zaf,qeF];omega),zbG (by rw[qeF,hx]),h1,h2];rfl
theorem qim:∀ {m:Nat} {q:Option Bs} {b:Bs} {ks:List Bs} {r:Bs},qf4 m q b=some (ks,r)→ks.length=m∧(∀ k∈ks,klen k)∧Rise q ks∧b.length=qaI ks+r.length
 | 0,q,b,ks,r,h=>by
  cases h;exact⟨rfl,by simp,qiG q,by simp[qaI]⟩
 | m+1,q,b,ks,r,h=>by
  rw[qdM]at h;split at h
  ·cases h
  ·rename_i k r1 hr1;split at h
   ·rename_i hk;cases h2:qf4 m (some k) r1 with
    | none=>rw[h2]at h;cases h
    | some x=>
     rw[h2]at h;simp only[zbB,zau,zaE]at h;obtain⟨rfl,rfl⟩:=h;obtain⟨i1,i2,i3,i4⟩:=qim h2;have hkk:klen k∧∀ x,q=some x→blt x k=true:=by
      unfold qeY at hk;simp only[zaQ,zbf]at hk;refine⟨hk.1,fun y hy=>?_⟩;subst hy;exact hk.2
     refine⟨by simp[i1],?_,?_,?_⟩
     ·intro y hy;rcases zaB.1 hy with rfl|hy
      ·exact hkk.1
      ·exact i2 y hy
     ·exact qhj hkk.2 i3
     ·cases b with
      | nil=>cases hr1
      | cons n b=>
       rw[qcg]at hr1;split at hr1
       ·cases hr1
       ·simp only[zau,zaE]at hr1;obtain⟨rfl,rfl⟩:=hr1;rw[qcd];simp only[zal,zaj,zap]at i4⊢;omega
   ·cases h
theorem qin:∀ {m:Nat} {q:Option Bs} {b:Bs} {ps:List Pr} {r:Bs},qf5 m q b=some (ps,r)→ps.length=m∧(∀ p∈ps,plen p)∧Rise q (ps.map Prod.fst)∧b.length=qaK ps+r.length
 | 0,q,b,ks,r,h=>by
  cases h;exact⟨rfl,by simp,qiG q,by simp[qaK]⟩
 | m+1,q,b,ks,r,h=>by
  rw[qdN]at h;split at h
  ·cases h
  ·rename_i k r1 hr1;split at h
   ·rename_i hk;split at h
    ·cases h
    ·rename_i v r2 hr2;split at h
     ·rename_i hv;cases h2:qf5 m (some k) r2 with
      | none=>rw[h2]at h;cases h
      | some x=>
       rw[h2]at h;simp only[zbB,zau,zaE]at h;obtain⟨rfl,rfl⟩:=h;obtain⟨i1,i2,i3,i4⟩:=qin h2;have hkk:klen k∧∀ x,q=some x→blt x k=true:=by
        unfold qeY at hk;simp only[zaQ,zbf]at hk;refine⟨hk.1,fun y hy=>?_⟩;subst hy;exact hk.2
       refine⟨by simp[i1],?_,?_,?_⟩
       ·intro y hy;rcases zaB.1 hy with rfl|hy
        ·exact⟨hkk.1,hv⟩
        ·exact i2 y hy
       ·exact qhj hkk.2 i3
       ·cases b with
        | nil=>cases hr1
        | cons n b=>
         rw[qcg]at hr1;split at hr1
         ·cases hr1
         ·simp only[zau,zaE]at hr1;obtain⟨rfl,rfl⟩:=hr1;cases hb2:b.drop n.toNat with
          | nil=>rw[hb2]at hr2;cases hr2
          | cons n2 b2=>
           rw[hb2]at hr2;rw[qcg]at hr2;split at hr2
           ·cases hr2
           ·simp only[zau,zaE]at hr2;obtain⟨rfl,rfl⟩:=hr2;rw[qat];have Ha:b.length-n.toNat=b2.length+1:=by
             have:=congrArg List.length hb2;simpa using this
            simp only[zal,zaj,zap]at i4⊢;omega
     ·cases h
   ·cases h
inductive Dec:Kd→Prop
 | leaf {ps:List Pr} (ne:ps≠[]) (len:∀ p∈ps,plen p) (rise:Rise none (ps.map Prod.fst)):Dec (.leaf ps)
 | inner {ks:List Bs} {xs:List Kd} (xlen:xs.length=ks.length+1) (len:∀ k∈ks,klen k) (rise:Rise none ks) (pages:∀ x∈xs,∃ p,x=.page p∧p<65536):Dec (.inner ks xs)
theorem qb9:∀ (m:Nat) (b:Bs),(decKids m b).length=m∧∀ x∈decKids m b,∃ p,x=.page p∧p<65536
 | 0,_=>⟨rfl,by simp[decKids]⟩
 | m+1,b=>by
  obtain⟨h1,h2⟩:=qb9 m (b.drop 2);unfold decKids;refine⟨by simp[h1],fun x hx=>?_⟩;rcases zaB.1 hx with rfl|hx
  ·refine⟨_,rfl,?_⟩;have:=(b.getD 0 0).toNat_lt;have:=(b.getD 1 0).toNat_lt;omega
  ·exact h2 x hx
theorem qjQ {b:Bs}(h:decK b=some n):Dec n∧qaz n=b.length:=by
 match b,h with
 | t::m::r,h=>
  rw[qdn]at h;split at h
  ·unfold qc9 at h;obtain⟨x,h1,h2⟩:=zbF.1 h;split at h2
   ·rename_i hc;simp only[zaQ,zcN,zbf]at hc;cases h2;obtain⟨ps,r'⟩:=x;obtain⟨rfl,hm⟩:=hc;obtain⟨i1,i2,i3,i4⟩:=qin h1;refine⟨.leaf ?_ i2 i3,?_⟩
    ·intro e;simp only at e;subst e;simp at i1;omega
    ·simp only[qaz,zal,zbl]at i4⊢;omega
   ·cases h2
  ·split at h
   ·unfold qcj at h;split at h
    ·cases h
    ·rename_i hr;obtain⟨x,h1,h2⟩:=zbF.1 h;split at h2
     ·rename_i hc;rw[zcN]at hc;cases h2;obtain⟨ks,r'⟩:=x;simp only at hc;subst hc;obtain⟨i1,i2,i3,i4⟩:=qim h1;obtain⟨j1,j2⟩:=qb9 (m.toNat+1) r;refine⟨.inner (by rw[j1,i1]) i2 i3 j2,?_⟩;simp only[qaz,zal,zbl,zap]at i4⊢;rw[j1];omega
     ·cases h2
   ·cases h
end Go.Proofs.YtfcknhbmeofniaaGreatDoor.BT
