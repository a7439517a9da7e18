/- Texts SwB ChC ApW ApA. -/
import Derived.Test.YtpmebcgmgfcmiaaGreatDoorQ24
set_option linter.all false
set_option maxRecDepth 100000
set_option maxHeartbeats 16000000
namespace Go.Proofs.YtpmebcgmgfcmiaaGreatDoor
open Go.RowKit BT Go.Lib
section
variable {w w':World} {a:PA} {G d T:Nat} {F F':Nat→Prop} {g:Pg} {root1 B W PT:Nat} {mv:Value} {met:List Nat} {pv pv':Value} {s:Ws}
theorem qkX {t:Ts}(ht:TrB w B a G d T F t.p t.g t.root1)(hw:WkM w B W T mv met 0)(hB:B≤w.heap.size)(hoff:t.p.off=false){w1:World}(hb:Below w.heap.size w w1)(hPT:w1.heap[w.heap.size]?=some (.cells #[.slice none 0 0] 23 (0,0))) :
  WrI w1 a G d T F t.g t.root1 B W w.heap.size mv met (.slice none 0 0) ⟨0,t.p,t.g.use,[]⟩:=by
 have Ha:∀ b,GF F G b→b<B:=fun b hb=>hb.elim (ht.hF b) (fun e=>by rw[e];exact ht.hG);refine⟨ht.tr.below hb,hw.below hb,hPT,Own.nil _ _ _ _,fun b hb=>?_,⟨fun e=>by have:=hw.lt;omega,(fun e=>by cases e),(fun e=>by cases e),fun e=>by have:=(hw.own.blk _ e).2;omega⟩,(fun b e=>by cases e),⟨ht.hT,ht.h1,hB⟩,fun _=>hoff⟩;have h1:=Ha b hb;exact⟨fun e=>by have:=hw.lo;omega,fun e=>by omega,(fun e=>by cases e),fun e=>by have:=(hw.own.blk b e).1;omega⟩
theorem qkO {S:Nat→Prop}(hS:SOk S (MW W mv) w)(hSx:∀ b,S b→¬GF F G b∧b≠T∧b≠1){w1:World}(hz:w.heap.size≤w1.heap.size):SOk S (WX F G W T w.heap.size mv (.slice none 0 0)) w1:=
 ⟨fun b hb=>zam (hS.lt b hb) hz,fun b hb hx=>by
  obtain⟨h1,h2,h3⟩:=hSx b hb;rcases hx with(hx|hx|hx|hx)|hx|hx|hx
  ·exact h1 hx
  ·exact hS.ap b hb (.inl hx)
  ·have:=hS.lt b hb;omega
  ·cases hx
  ·exact h2 hx
  ·exact h3 hx
  ·exact hS.ap b hb (.inr hx)⟩
def SwO (a:PA)(G d T:Nat)(F:Nat→Prop)(B W PT:Nat)(mv:Value)(met:List Nat)(t:Ts)(topc:Option Kd)(w:World)(s7:Value)(wx:World):Prop:=
 ∃ F2 pv2,s7=.int .i64 (qbN d t topc).1∧WrI wx a G d T F2 t.g t.root1 B W PT mv met pv2 (qbN d t topc).2∧Touch (fun b=>GF F G b∨B≤b) w wx∧∀ b,GF F2 G b→GF F G b∨B≤b
theorem qkR {S:Nat→Prop}{D:Dsk}{t:Ts}{topc:Option Kd}{tv:Value}(ht:TrB w B a G d T F t.p t.g t.root1)(hw:WkM w B W T mv met 0)(hB:B≤w.heap.size)(hoff:t.p.off=false)(hS:SOk S (MW W mv) w)(hSx:∀ b,S b→¬GF F G b∧b≠T∧b≠1)(htop:TopM w B S topc tv)
  (hwf:∀ k,topc=some k→∃ h,h≤400∧WF D h k∧∀ q∈pgs D h k,q<65536)(hnw:∀ k,topc=some k→news (single 400 k)≤1000)(hmet:∀ q∈met,q<384)(hml:met.length≤1000)(hwt:t.p.waits.length≤549755813888) :
  Calls Tryz.prog 58 #[.pointer (some ⟨T,0,none⟩),.pointer (some ⟨W,0,none⟩),tv] w (SwF a G d T F B (qeq d t met topc) w):=by
 have HT:=zH ht;have HW:=zH hw;have HS:=zH hS;have hc:=zH hSx;have Hj:=zH htop;have hd:=zH hwf;have HP:=zH hnw;have Hv:=zH hmet;clear ht hw hS hSx htop hwf hnw hmet;have hp:∃ o,tv=.pointer o:=by
  rcases Hj.o with⟨_,h⟩|⟨_,N,_,_,h,_⟩<;>exact⟨_,h⟩
 obtain⟨tq,rfl⟩:=hp;go_enter Tryz.func58,Tryz.ntmps58
 go_upto_block 0 with fail
 have Hr:Below w.heap.size w (w.alloc (.cells #[.slice none 0 0] 23)):=zB _ _;have Hs:=zH Hr;have HM:=zH (qkX HT.o HW.o hB hoff Hr (zaf w _));have Hz:=zH (qkO HS.o hc.o Hr.size);obtain⟨PT,hPT⟩:∃ q,w.heap.size=q:=⟨_,rfl⟩;rw[hPT]at HM Hz⊢;have ha:=zH hPT;clear Hr hPT;generalize w.alloc (.cells #[.slice none 0 0] 23)=w1 at *;go_cut [7,2] (fun s7 s2 wx=>Below w1.heap.size w1 wx∧TopO D S B topc s7 s2 wx)
 case first=>
  go_wp2_with fail
  go_loopg [7,2] 402 (fun gk s7 s2 wr=>Below w1.heap.size w1 wr∧TopW D S B topc gk s7 s2 wr)
  case atStart=>
   refine⟨zai _ _,?_⟩;rcases Hj.o with⟨h1,h2⟩|⟨k,N,L,h1,h2,h3,h4,h5⟩
   ·exact .inl ⟨h2,-1,rfl,.inl ⟨h1,rfl⟩⟩
   ·obtain⟨h,q1,q2,q3⟩:=hd.o k h1;exact .inr ⟨rfl,k,400,k,N,L,h,h1,h2,NM.below h3 Hs.o,h4,h5,rfl,q1,by omega,q2,q3⟩
  case round=>
   rename World=>wr;obtain⟨hb,hT⟩:=hrel;have He:=zH hb;clear hb;rcases hT with⟨rfl,q,rfl,hq⟩|⟨rfl,k,f,cur,N,L,h,hk,rfl,hn,hnd,hl,hsg,hhf,hhg,hwf,hpg⟩
   ·have HQ:=zH hq;clear hq;go_wp2;go_meet
    case rel=>exact⟨He.o,.inl ⟨rfl,q,rfl,HQ.o⟩⟩
   ·have HK:=zH hk;have HN:=zH hn;have Hw:=zH hnd;have HL:=zH hl;have HA:=zH hsg;have Hq:=zH hwf;have Hx:=zH hpg;clear hk hnd hl hsg hwf hpg;cases cur with
    | page p=>simp only[NM]at hn
    | leaf ps=>
     simp only[NM]at hn;obtain⟨-,-,K,ck,V,cv,X,cx,vk,vv,hnc,-⟩:=hn;have c0:=hnc.c0;have H9:=zH hnc;clear hnc;go_wp2;go_meet
     case rel=>
      have hs:=HA.o;rw[qaO]at hs;exact⟨He.o,.inr ⟨rfl,k,N,L,h,HK.o,rfl,by rw[←hs];exact HN.o,Hw.o,HL.o,by rw[←hs];exact Hq.o,by rw[←hs];exact Hx.o⟩⟩
    | inner ks xs=>
     simp only[NM]at hn;obtain⟨-,K,ck,V,cv,X,cx,vk,vs,L',hnc,hsk,hrk,hsx,hkm,hLL⟩:=hn;have c0:=hnc.c0;have c3:=hnc.c3;have H9:=zH hnc;obtain⟨nx,hnx⟩:∃ n,xs.length=n:=⟨_,rfl⟩;rw[hnx]at c3;have HR:=zH hnx;have HC:=zH hsx;have H5:=zH hkm;have H6:=zH hLL;clear hnc hsk hrk hsx hkm hLL hnx;by_cases h1:nx=1
     ·subst h1;obtain⟨x,rfl⟩:=List.length_eq_one_iff.1 HR.o;obtain⟨v,r,L1,L2,hv,hL',hk2,hkid⟩:=km_cons.1 H5.o;have Hm:r=[]∧L2=[]:=by simp only[KM]at hk2;exact hk2
      obtain⟨rfl,rfl⟩:=Hm;rw[zaG]at hL';have ho:L1=L':=hL'.symm;subst ho;subst hv;obtain⟨f2,rfl⟩:∃ q,f=q+1:=by
       obtain⟨m,y1,y2,_⟩:=Hq.o;cases h with
       | zero=>obtain⟨ps,rfl,_⟩:=y2;simp[nd]at y1
       | succ h=>exact⟨f-1,by omega⟩
      have H2:single f2 x=single 400 k:=HA.o;obtain⟨xb,xo,rfl,-,hxat⟩:=HC.o.at_ (by simp);have g1:wr.cell? ⟨xb,xo,none⟩=some (.int .i64 v.1):=hxat 0 _ rfl;have g2:wr.cell? ⟨xb,xo+1,none⟩=some (.pointer (v.2.map fun N=>⟨N,0,none⟩)):=hxat 1 _ rfl;have HX:=zH H2;have hg:Hd (∃ h2,h2<h∧h2≤f2∧WF D h2 x∧∀ q∈pgs D h2 x,q<65536):=zH (by
       obtain⟨m,y1,y2,_⟩:=Hq.o;have ep:=qaY y1 y2;cases h with
       | zero=>obtain⟨ps,rfl,_⟩:=y2;simp[nd]at y1
       | succ h=>
        obtain⟨ks',xs',rfl,_,_,_,z⟩:=y2;obtain⟨rfl,rfl⟩:ks=ks'∧[x]=xs':=by simpa [nd] using y1
        refine⟨h,by omega,by omega,z x (by simp),fun q hq=>Hx.o q ?_⟩;rw[ep];refine zay _ ?_;simp only[pgs,nd,pageOf,zaA];exact zaS.2 ⟨x,by simp,hq⟩)
      have Hf:=zH (show L1.Nodup∧∀ y∈L1,B≤y.1 by
       have h1:=Hw.o;have h2:=HL.o;rw[H6.o]at h1 h2;exact⟨(zaD.1 h1).2.1,fun y hy=>h2 y (zay _ hy)⟩)
      clear hxat H2 hk2;rcases hkid with⟨q,rfl,rfl,rfl⟩|⟨N2,rfl,hnm⟩
      ·go_wp2
       go_roundg 0
       case measure=>omega
       case rel=>
        refine⟨He.o.trans ?_,.inl ⟨rfl,q,rfl,.inr ⟨k,q,HK.o,by rw[←HX.o,qfk],rfl⟩⟩⟩;exact(zB _ _).mono He.o.size
      ·have Ho:=zH hnm;clear hnm;go_wp2
       go_roundg h
       case measure=>omega
       case rel=>
        obtain⟨h2,y1,y2,y3,y4⟩:=hg.o;have HZ:Below wr.heap.size wr (wr.alloc (.cells #[.int .i64 0,.pointer (some ⟨N2,0,none⟩)] 102)):=zB _ _;exact⟨He.o.trans (HZ.mono He.o.size),.inr ⟨rfl,k,f2,x,N2,L1,h2,HK.o,rfl,NM.below Ho.o HZ,Hf.o.1,Hf.o.2,HX.o,y2,y1,y3,y4⟩⟩
     ·have hE:¬((nx:Int)=1):=by omega
      go_wp2;go_meet
      case rel=>
       have hs:=HA.o;rw[qir f (fun ks2 x e=>by
        have h:=HR.o;rw[(Kd.inner.inj e).2]at h;exact h1 h.symm)]at hs
       exact⟨He.o,.inr ⟨rfl,k,N,L,h,HK.o,rfl,by rw[←hs];exact HN.o,Hw.o,HL.o,by rw[←hs];exact Hq.o,by rw[←hs];exact Hx.o⟩⟩
 case rest=>
  rename World=>wx;obtain⟨hb,hO⟩:=hcut;obtain⟨tp,rfl⟩:=hO.ptr;have hu:=zH hb;have Ha:=HT.o.tr.pg.pages_le;have Hu:=zH (HM.o.below hb);have HB:=zH (show SOk S (WX F G W T PT mv (.slice none 0 0)) wx from⟨fun b h=>zam (Hz.o.lt b h) hb.size,Hz.o.ap⟩);have hh:B≤wx.heap.size:=zah hB (zah Hs.o.size hb.size);have Hp:=zH (show Touch (fun b=>GF F G b∨B≤b) w wx from(Touch.of_below Hs.o).trans (Touch.of_below hb));clear hb;go_upto_if 45 with fail
  go_cut [7] (fun s7 wy=>SwO a G d T F B W PT mv met t topc w s7 wy)
  case first=>
   rcases hO with⟨e2,q,rfl,hq⟩|⟨rfl,k,N,L,h,hk,e2,hn,hnd,hl,hwf,hpg⟩
   ·cases e2;have HQ:=zH hq;clear hq;go_wp2;go_meet
    case rel=>
     rcases HQ.o with⟨rfl,rfl⟩|⟨k,pg,rfl,e,rfl⟩
     ·exact⟨F,_,rfl,Hu.o,Hp.o,fun b h=>.inl h⟩
     ·refine⟨F,.slice none 0 0,?_,?_,Hp.o,fun b h=>.inl h⟩
      ·simp only[qbN,e,wrP]
      ·simp only[qbN,e,wrP];exact Hu.o
   ·cases e2;have HK:=zH hk;have hJ:=HP.o k hk;have H0:∀ y∈L,B≤y.1:=hl;have H8:=zH H0;have Hg:=zH (qe1 (D:=D) Ha.1 h Hu.o hn hnd HB.o hh hwf hpg (by show t.p.waits.length+_≤_;omega) (by show 0+_≤_;omega));clear hk hn hnd hl hwf hpg H0;unfold WrF at Hg;go_wp2_with (go_at_call 77;refine Hg.o.mono ?_;rintro e wz ⟨F2,pv2,rfl,hi,hr⟩;have H4:=zH hi;have HV:=zH hr;clear hi hr)
    go_meet
    case rel=>
     have H3:qbN d t topc=wrP d t.g.pages t.g.was (single 400 k) ⟨0,t.p,t.g.use,[]⟩:=by rw[HK.o];rfl
     have hz:=Hp.o.size;have hm:∀ b,WT F G W PT (.slice none 0 0) b→GF F G b∨B≤b:=fun b hb=>by
      rcases hb with hb|hb|hb|hb
      ·exact .inl hb
      ·exact .inr (by rw[hb];exact HW.o.lo)
      ·exact .inr (by rw[hb];have:=ha.o;omega)
      ·cases hb
     refine⟨F2,pv2,by rw[H3],by rw[H3];exact H4.o,Hp.o.trans (HV.o.touch.mono fun b _ hb=>hb.elim (hm b) (fun⟨y,hy,e⟩=>.inr (by rw[e];exact H8.o y hy))),fun b hb=>?_⟩;rcases HV.o.own b (.inl hb)with h1|h1
     ·exact hm b h1
     ·exact .inr (by omega)
  case rest=>
   rename World=>wy;obtain⟨F2,pv2,rfl,hi,ht,hsub⟩:=hcut;have Hm:∀ k,topc=some k→(qbN d t topc).2.e=0→0≤(qbN d t topc).1:=fun k hk he=>by
    subst hk;exact qjO Ha.1 _ _ he
   have HH:(qbN d t topc).2.e=0→-1≤(qbN d t topc).1:=fun he=>by
    cases topc with
    | none=>exact Int.le_refl _
    | some k=>have:=Hm k rfl he;omega
   have Hi:=zH (qlI d t met topc Hm);have Hh:=zH (qkQ (d:=d) (t:=t) (topc:=topc) Ha.1 HT.o.tr.pg.ok.use);have H1:(qbN d t topc).2.put.length≤100000:=by
    cases topc with
    | none=>exact za7 _
    | some k=>
     have h1:=(qhP d t.g.pages t.g.was (single 400 k) ⟨0,t.p,t.g.use,[]⟩).2;have h2:=HP.o k rfl;have h3:(qbN d t (some k)).2.put.length≤0+news (single 400 k):=h1;omega
   obtain⟨r,hr⟩:∃ q,qbN d t topc=q:=⟨_,rfl⟩;have HU:=zH hr;rw[hr]at hi HH Hi Hh H1⊢;have H7:=zH HH;have HI:=zH hi;have HY:=zH ht;have Hc:=zH hsub;have gW:=hi.wk.c2;obtain⟨A1,c1,hpv,hc1⟩:=hi.po.slice;obtain⟨A2,c2,hmv,hc2⟩:=hi.wk.own.slice;subst hpv hmv;obtain⟨np,hnp⟩:∃ n,r.2.put.length=n:=⟨_,rfl⟩;obtain⟨nm,hnm⟩:∃ n,met.length=n:=⟨_,rfl⟩;have gP:wy.cell? ⟨PT,0,none⟩=some (.slice A1 np c1):=by rw[zan _ _ _ _ _ _ hi.pt,←hnp];rfl
   have gM:wy.cell? ⟨W,1,none⟩=some (.slice A2 nm c2):=by rw[←hnm];exact hi.wk.c1
   rw[hnp]at H1;rw[hnm]at hml;have HO:=zH hnp;have Ho:=zH hnm;have HD:¬GF F2 G T∧T≠1:=hi.tr.nT;clear Hm HH hi ht hsub hnp hnm hr;by_cases he:r.2.e=0
   ·rw[he]at gW;have HE:=zH he;clear he;go_wp2;go_loopw [76] (fun i wr=>∃ j:Nat,i=.int .i64 j∧j≤nm∧WrI wr a G d T F2 t.g t.root1 B W PT (.slice A2 met.length c2) met (.slice A1 r.2.put.length c1) { r.2 with use:=qaK r.2.use (met.take j) }∧Touch (GF F2 G) wy wr) (fun i _=>nm-(RowKit.intOf i).toNat)
    case atStart=>exact⟨0,rfl,za7 _,HI.o,Touch.refl _ _⟩
    case round=>
     rename World=>wr;obtain⟨j,rfl,hj,hI,hTr⟩:=hrel;have Hb:=zH hI;have Hk:=zH hTr;clear hI hTr;by_cases hlt:j<nm
     ·obtain⟨q,hq⟩:∃ q,met[j]?=some q:=⟨_,zaa (by have:=Ho.o;omega)⟩;obtain⟨g0,rfl,gc⟩:=qbT Hb.o.wk.own j q hq;have HJ:=Hv.o q (zak hq);have gT:=Hb.o.tr.c0;have Ht:=zH (qiF Hb.o.tr.pg q HJ);have HQ:=zH hq;have HF:(j:Int)<(nm:Int):=by omega
      have HG:¬((nm:Int)≤(j:Int)):=by omega
      clear hq;go_wp2_with (go_at_call 78;refine Ht.o.mono ?_;rintro e wz ⟨⟨ez,rfl⟩,hpz,hxz⟩;have Hy:=zH hpz;have Hl:=zH hxz;clear hpz hxz)
      refine⟨⟨j+1,by simp,by omega,?_,Hk.o.trans Hl.o.touch⟩,by simp[RowKit.intOf];omega⟩;have h:=Hb.o.free Hy.o Hl.o;rw[qeb _ _ HQ.o];exact h
     ·obtain rfl:j=nm:=by omega
      have hI:=Hb.o;rw[zbe (by have:=Ho.o;omega)]at hI;have Hn:=zH hI;have hC:=hI.tr.c1;have hA:wr.frozen? ⟨T,1,none⟩=false:=zaQ _ _ _ _ _ hI.tr.t;have HF:¬((j:Int)<(j:Int)):=by omega
      clear hI;go_wp2;go_ret;have hT:Touch (fun b=>b=T) wr (wr.setCell ⟨T,1,none⟩ (.int .i64 r.1)):=Touch.setCell (F:=fun b=>b=T) (Touch.refl _ _) (p:=⟨T,1,none⟩) rfl _;rw[HU.o]at *;refine⟨F2,by rw[Hi.o,zaw HE.o];rfl,?_,?_,Hc.o⟩
      ·rw[Hi.o,zaw HE.o];refine⟨Hn.o.tr.pg.touch hT (fun b hb e=>HD.1 (by rw[←e];exact hb)) (fun e=>HD.2 e.symm),?_,HD⟩;have h:=qab (i:=1) Hn.o.tr.t (.int .i64 r.1);have e:(((r.1+1).toNat:Nat):Int)-1=r.1:=by have:=H7.o HE.o;omega
       show(wr.setCell ⟨T,1,none⟩ (.int .i64 r.1)).heap[T]?=some (.cells #[_,.int .i64 ((((r.1+1).toNat:Nat):Int)-1)] _ _);rw[e];exact h
      ·exact(HY.o.mono fun b _ h=>h.elim .inl (fun h=>.inr (.inr h))).trans ((Hk.o.mono fun b _ h=>(Hc.o b h).elim .inl (fun h=>.inr (.inr h))).trans (hT.mono fun b _ h=>.inr (.inl h)))
   ·have hH:¬((r.2.e:Int)=0):=by omega
    have HE:=zH he;clear he;go_wp2;go_loopw [56] (fun i wr=>∃ j:Nat,i=.int .i64 j∧j≤np∧WrI wr a G d T F2 t.g t.root1 B W PT (.slice A2 met.length c2) met (.slice A1 r.2.put.length c1) { r.2 with use:=qaK r.2.use (r.2.put.take j) }∧Touch (GF F2 G) wy wr) (fun i _=>np-(RowKit.intOf i).toNat)
    case atStart=>exact⟨0,rfl,za7 _,HI.o,Touch.refl _ _⟩
    case round=>
     rename World=>wr;obtain⟨j,rfl,hj,hI,hTr⟩:=hrel;have Hb:=zH hI;have Hk:=zH hTr;clear hI hTr;by_cases hlt:j<np
     ·obtain⟨q,hq⟩:∃ q,r.2.put[j]?=some q:=⟨_,zaa (by have:=HO.o;omega)⟩;obtain⟨g0,rfl,gc⟩:=qbT Hb.o.po j q hq;have HJ:=Hh.o q (zak hq);have gT:=Hb.o.tr.c0;have Ht:=zH (qiF Hb.o.tr.pg q HJ);have HQ:=zH hq;have HF:(j:Int)<(np:Int):=by omega
      have HG:¬((np:Int)≤(j:Int)):=by omega
      clear hq;go_wp2_with (go_at_call 78;refine Ht.o.mono ?_;rintro e wz ⟨⟨ez,rfl⟩,hpz,hxz⟩;have Hy:=zH hpz;have Hl:=zH hxz;clear hpz hxz)
      refine⟨⟨j+1,by simp,by omega,?_,Hk.o.trans Hl.o.touch⟩,by simp[RowKit.intOf];omega⟩;have h:=Hb.o.free Hy.o Hl.o;rw[qeb _ _ HQ.o];exact h
     ·obtain rfl:j=np:=by omega
      have hI:=Hb.o;rw[zbe (by have:=HO.o;omega)]at hI;have Hn:=zH hI;have hD:wr.cell? ⟨W,2,none⟩=some (.int .i64 (r.2.e:Int)):=hI.wk.c2;have HF:¬((j:Int)<(j:Int)):=by omega
      clear hI;go_wp2;go_ret;rw[HU.o]at *;have he:=HE.o;refine⟨F2,by rw[Hi.o,zaB he];rfl,?_,?_,Hc.o⟩
      ·rw[Hi.o,zaB he];exact Hn.o.tr
      ·exact(HY.o.mono fun b _ h=>h.elim .inl (fun h=>.inr (.inr h))).trans (Hk.o.mono fun b _ h=>(Hc.o b h).elim .inl (fun h=>.inr (.inr h)))
end
theorem qeF {a:PA}{G d T:Nat}{F:Nat→Prop}{p:Pl}{g:Pg}{root1 B W:Nat}(hoff:p.off=false){A:Option Addr}{key:Bs}{n c:Nat}{val:Value}{v:Option Bs}(hkl:key.length=n)(hkc:n≤c)(hk:klen key)(hv:∀ x,v=some x→x.length≤160) :
  ∀ (h f:Nat) {w:World} {mv:Value} {met:List Nat} {S:Nat→Prop} {pg:Nat} {got:List Kd} {bet:List Bs} {met2:List Nat},h<f→TrB w B a G d T F p g root1→WkM w B W T mv met 0→B≤w.heap.size→SOk S (MW W mv) w→ByS w S A key→VaM w S val v→
   WF (qah (p.seen d) g.pages g.use) h (.page pg)→Srt (itemsK (qah (p.seen d) g.pages g.use) h (.page pg))→(pgs (qah (p.seen d) g.pages g.use) h (.page pg)).Nodup→(∀ q∈pgs (qah (p.seen d) g.pages g.use) h (.page pg),q∉met)→met.length+(pgs (qah (p.seen d) g.pages g.use) h (.page pg)).length≤450→
   qaS (qah (p.seen d) g.pages g.use) f met (.page pg) key v=some (got,bet,met2)→
   Calls Tryz.prog 57 #[.pointer (some ⟨W,0,none⟩),.agg #[.int .i64 (pg:Nat),.pointer none],.slice A n c,val] w (ChF S B W T mv got bet met2 w)
 | 0,f,w,mv,met,S,pg,got,bet,met2,hf,ht,hw,hB,hS,hkb,hvm,hwf,hs,hn,hm,hl,hch=>by
  obtain⟨f1,rfl⟩:∃ q,f=q+1:=⟨f-1,by omega⟩;obtain⟨m,h1,⟨ps,rfl,hne,hpl⟩,hsz⟩:=hwf;have hmp:pg∉met:=hm pg (by simp[pgs,pageOf]);have h1':qah (p.seen d) g.pages g.use pg=some (.leaf ps):=h1;unfold itemsK at hs;rw[h1]at hs;unfold qaS at hch;simp only[qb1,zaB hmp,h1',pageOf]at hch;have hL:=qhY hoff ht hw hB hS h1' hmp (by omega) hkb hkl hkc hvm hk hv hs hpl hsz;split at hch
  ·rename_i h0;rw[zaw h0,zaw h0]at hL;obtain⟨rfl,e⟩:=zcu (zaF hch);obtain⟨rfl,rfl⟩:=zcu e;exact hL
  ·rename_i h0;rw[zaB h0,zaB h0]at hL;obtain⟨rfl,e⟩:=zcu (zaF hch);obtain⟨rfl,rfl⟩:=zcu e;exact hL
 | h+1,f,w,mv,met,S,pg,got,bet,met2,hf,ht,hw,hB,hS,hkb,hvm,hwf,hs,hn,hm,hl,hch=>by
  obtain⟨f1,rfl⟩:∃ q,f=q+1:=⟨f-1,by omega⟩;obtain⟨ks,xs,x,got1,bet1,m1,ks1,xs1,ks2,xs2,m2,hc⟩:=qg0 (f:=f1) (met:=met) (by omega) hwf hs hn hm hk hv;have hnd:qah (p.seen d) g.pages g.use pg=some (.inner ks xs):=hc.nd;have hkd:=qdQ hnd;obtain⟨q,rfl,_⟩:=hkd x (zak hc.hx);obtain⟨m,h1,h2,h3⟩:=hwf;have ep:=qaY h1 h2;obtain⟨ks',xs',rfl,l1,k1,s1,x1⟩:=h2;obtain⟨rfl,rfl⟩:ks'=ks∧xs'=xs:=by
   have:=zaF (h1.symm.trans hnd);exact⟨(Kd.inner.inj this).1,(Kd.inner.inj this).2⟩
  have ei:itemsK (qah (p.seen d) g.pages g.use) (h+1) (.page pg)=xs'.flatMap (itemsK (qah (p.seen d) g.pages g.use) h):=by
   unfold itemsK;rw[h1]
  have Hb:pgs (qah (p.seen d) g.pages g.use) (h+1) (.page pg)=[pg]++xs'.flatMap (pgs (qah (p.seen d) g.pages g.use) h):=by
   rw[ep];simp[pgs,nd,pageOf]
  have hmp:pg∉met:=hm pg (by rw[Hb];simp);have He:=(qdE l1 s1 (fun y hy=>WF.ne (x1 y hy)) (by rw[←ei];exact hs)).2;rw[Hb,zad]at hl;have Hc:=hc.pm;rw[zad]at Hc;have Hf:(pgs (qah (p.seen d) g.pages g.use) h (.page q)).length≤(xs'.flatMap (pgs (qah (p.seen d) g.pages g.use) h)).length:=by
   obtain⟨s,t,e⟩:=List.append_of_mem (zak hc.hx);rw[e];simp only[zat,zaq,zad];omega
  have Ha:=qlZ hc hmp;obtain⟨rfl,e⟩:=zcu (zaF (hch.symm.trans Ha));obtain⟨rfl,rfl⟩:=zcu e;simp only[zao,zaZ]at hl;refine qgZ hoff ht hw hB hS hc (fun y hy=>?_) He hkb hkl hvm hmp (by omega) (fun {w' mv' S'} t1 t2 t3 t4 t5 t6=>?_)
  ·obtain⟨r,hr,_⟩:=hkd y hy;exact⟨r,hr⟩
  ·exact qeF hoff hkl hkc hk hv h f1 (by omega) t1 t2 t3 t4 t5 t6 hc.wf hc.srt hc.nodup hc.out (by simp only[zad,zao,zaZ];omega) hc.ch
section
variable {P:Program}
theorem qjz (w:World){t e:TypeId}{i:TypeInfo}{z:Value}{n:Nat}(ht:P.underlying t=some (.slice e))(hi:P.info? e=some i)(hz:i.zero=some z)(hsize:i.size=n)(h0:0<n)(hn:n≤524288)
  (v u:Value)(cs cu:List Value)(hv:v.cells=cs.toArray)(hu:u.cells=cu.toArray)(hl:cs.length=n)(hm:cu.length=n) :
  (Instr.buildSlice t 2 #[(0,v),(1,u)]).run P w=.ok (.slice (some ⟨w.heap.size,0,none⟩) 2 2) (w.alloc (.cells (cs++cu).toArray e)):=by
 subst hsize;refine run_buildSlice w t e 2 _ _ i z ht hi hz (by omega) (by omega) ?_;have:=Great.fill_whole h0 [v,u] ((Array.range (2*i.size)).map (z.cells[· % z.cells.size]!)) (fun q hq=>by
  rcases za0.1 hq with rfl|hq
  ·rw[hv];simpa using hl
  ·obtain rfl:q=u:=by simpa using hq
   rw[hu];simpa using hm) (by simp)
 simpa [hv,hu] using this
theorem qfl {w:World}{o:Oper}{a:Act}{K:Act→World→Prop}{Q:Exit→Act→World→Prop}(t:TypeId)(x y:Operand)(ho:o.op=.buildSlice t 2 #[(0,x),(1,y)])
  {e:TypeId}{i:TypeInfo}{z:Value}{n:Nat}(ht:P.underlying t=some (.slice e))(hi:P.info? e=some i)(hz:i.zero=some z)(hsize:i.size=n)(h0:0<n)(hn:n≤524288)
  (v u:Value)(hx:a.eval x=v)(hy:a.eval y=u)(cs cu:List Value)(hv:v.cells=cs.toArray)(hu:u.cells=cu.toArray)(hl:cs.length=n)(hm:cu.length=n)
  (h:K (a.put o.dst (.slice (some ⟨w.heap.size,0,none⟩) 2 2)) (w.alloc (.cells (cs++cu).toArray e))):o.wp P a w K Q:=by
 have hr:=qjz (P:=P) w ht hi hz hsize h0 hn v u cs cu hv hu hl hm;unfold Oper.wp execOp;simp only[ho,zbF,zco,zbp,zbA,hx,hy,hr,zbh];exact h
theorem qmH {w:World}{o:Oper}{a:Act}{K:Act→World→Prop}{Q:Exit→Act→World→Prop}(t:TypeId)(x:Operand)(ho:o.op=.box t x)(cs:Array Value)(hx:a.eval x=.agg cs)
  (h:K (a.put o.dst (.pointer (some ⟨w.heap.size,0,none⟩))) (w.alloc (.cells cs t))):o.wp P a w K Q:=by
 have hr:(Instr.box t (.agg cs)).run P w=.ok (.pointer (some ⟨w.heap.size,0,none⟩)) (w.alloc (.cells cs t)):=by
  simp[Instr.box,go_sem]
 unfold Oper.wp execOp;simp only[ho,zbF,hx,hr,zbh];exact h
end
section
def TF (F:Nat→Prop)(G T:Nat)(b:Nat):Prop:=GF F G b∨b=T
def ApF (a:PA)(G d T:Nat)(F:Nat→Prop)(r:Nat×Ts)(w:World)(e:Ending)(w':World):Prop:=
 ∃ F',e=.returned (.int .i64 (r.1:Int))∧TrM w' a G d T F' r.2.p r.2.g r.2.root1∧Ext (TF F G T) (TF F' G T) w w'
def TrP (D:Dsk)(root1:Nat):Prop:=root1=0∨∃ h,h<399∧WF D h (.page (root1-1))∧Srt (itemsK D h (.page (root1-1)))∧(pgs D h (.page (root1-1))).Nodup∧∀ q∈pgs D h (.page (root1-1)),q<384
theorem TopM.ptr {w:World}{B:Nat}{S:Nat→Prop}{topc:Option Kd}{tv:Value}(h:TopM w B S topc tv):∃ o,tv=.pointer o:=by
 rcases h with⟨_,h⟩|⟨_,N,_,_,h,_⟩<;>exact⟨_,h⟩
variable {w w':World} {a:PA} {G d T:Nat} {F F':Nat→Prop} {g:Pg} {root1 B W PT:Nat} {mv:Value} {met:List Nat}
def ApO (a:PA)(G d T:Nat)(F:Nat→Prop)(D:Dsk)(key:Bs)(v:Option Bs)(S0:Nat→Prop)(t:Ts)(B W:Nat)(w:World)(s8:Value)(wx:World):Prop:=
 ∃ topc met2 mv2 S2,qdI D t.root1 key v=some (topc,met2)∧WkM wx B W T mv2 met2 0∧TrB wx B a G d T F t.p t.g t.root1∧Touch (fun b=>B≤b) w wx∧SOk S2 (MW W mv2) wx∧(∀ b,S2 b→S0 b∨B≤b)∧TopM wx B S2 topc s8∧
  (∀ k,topc=some k→∃ h,h≤400∧WF D h k∧∀ q∈pgs D h k,q<65536)∧(∀ q∈met2,q<384)∧met2.length≤1000
theorem qfv {S0:Nat→Prop}{t:Ts}{A:Option Addr}{key:Bs}{n c:Nat}{val:Value}{v:Option Bs}(ht:TrM w a G d T F t.p t.g t.root1)(hoff:t.p.off=false)(hwt:t.p.waits.length≤549755813888)(hp:TrP (qah (t.p.seen d) t.g.pages t.g.use) t.root1)
  (hS:∀ b,S0 b→b<w.heap.size∧¬GF F G b∧b≠T∧b≠1)(hkb:ByS w S0 A key)(hkl:key.length=n)(hkc:n≤c)(hvm:VaM w S0 val v)(hk:klen key)(hv:∀ x,v=some x→x.length≤160)(hne:t.root1=0→v≠none)
  (hnw:∀ k m,qdI (qah (t.p.seen d) t.g.pages t.g.use) t.root1 key v=some (some k,m)→news (single 400 k)≤1000) :
  Calls Tryz.prog 37 #[.pointer (some ⟨T,0,none⟩),.slice A n c,val] w (ApF a G d T F (qa5 d t key v) w):=by
 have HF:=zH (qfe ht.pg);obtain⟨fc,hfc⟩:∃ q,qal t.g.pages t.g.use t.g.was=q:=⟨_,rfl⟩;rw[hfc]at HF;have HZ:=zH hfc;have HT:=zH ht;have hK:=ht.c0;have hM:=ht.c1;have hN:=ht.lt;have HP:=zH hp;have HS:=zH hS;have hw:=zH hkb;have hJ:=zH hvm;have HV:=zH hv;have HE:=zH hne;have H8:=zH hnw;have hY:∃ X nn cc,val=.slice X nn cc:=by
  cases v with
  | none=>exact⟨_,_,_,hvm⟩
  | some l=>obtain⟨ad,c2,e,_⟩:=hvm;exact⟨_,_,_,e⟩
 obtain⟨VX,vn,vc,rfl⟩:=hY;obtain⟨D,hD⟩:∃ D,qah (t.p.seen d) t.g.pages t.g.use=D:=⟨_,rfl⟩;rw[hD]at HP H8;have HD:=zH hD;clear hfc ht hp hS hkb hvm hv hne hnw hD;go_enter Tryz.func37,Tryz.ntmps37
 by_cases hf:fc<16
 ·have hP:(fc:Int)<16:=by omega
  go_wp2_with (go_at_call 27;refine HF.o.mono ?_;rintro e w2 ⟨rfl,rfl⟩)
  go_ret;have e:qa5 d t key v=(3,t):=by unfold qa5;rw[zaw (by rw[HZ.o];exact hf)]
  rw[e];exact⟨F,rfl,HT.o,Ext.refl _ _⟩
 ·have hP:¬((fc:Int)<16):=by omega
  go_upto_region 3 with(go_at_call 27;refine HF.o.mono ?_;rintro e w2 ⟨rfl,rfl⟩)
  go_upto_if 24 with fail
  have Ho:Below w.heap.size w (w.alloc (.cells #[.pointer (some ⟨T,0,none⟩),.slice none 0 0,.int .i64 0] 91)):=zB _ _;have Hl:=zH Ho;have Hn:=zH (show WkM (w.alloc (.cells #[.pointer (some ⟨T,0,none⟩),.slice none 0 0,.int .i64 0] 91)) w.heap.size w.heap.size T (.slice none 0 0) [] 0 from⟨zaf w _,zac _,Own.nil _ _ _ _,by simp[Value.ownBlock]⟩);have Hr:=zH (show TrB (w.alloc (.cells #[.pointer (some ⟨T,0,none⟩),.slice none 0 0,.int .i64 0] 91)) w.heap.size a G d T F t.p t.g t.root1 from⟨HT.o.below Ho,HT.o.pg.pl.hF,HT.o.pg.lt,HT.o.lt,cell_lt (HT.o.pg.nib 0 (by omega))⟩);have hd:=zH (show SOk S0 (MW w.heap.size (.slice none 0 0)) (w.alloc (.cells #[.pointer (some ⟨T,0,none⟩),.slice none 0 0,.int .i64 0] 91))from⟨fun b hb=>zam (HS.o b hb).1 Ho.size,fun b hb hm=>by
   have:=(HS.o b hb).1;rcases hm with hm|hm
   ·omega
   ·cases hm⟩)
  have H3:=zH (hw.o.same (Same.of_below Ho));have he:=zH (show VaM (w.alloc (.cells #[.pointer (some ⟨T,0,none⟩),.slice none 0 0,.int .i64 0] 91)) S0 (.slice VX vn vc) v by
   have h:=hJ.o;cases v with
   | none=>exact h
   | some l=>
    obtain⟨ad,c2,e1,e2,e3⟩:=h;exact⟨ad,c2,e1,e2,e3.same (Same.of_below Ho)⟩)
  obtain⟨W,hW⟩:∃ q,w.heap.size=q:=⟨_,rfl⟩;rw[hW]at Hn Hr hd⊢;have HH:=zH hW;have h7:=Hr.o.tr.c1;clear Ho hW hK hM hN;generalize w.alloc (.cells #[.pointer (some ⟨T,0,none⟩),.slice none 0 0,.int .i64 0] 91)=w1 at *;go_cut [8,9,10] (fun s8 _ _ wx=>ApO a G d T F D key v S0 t W W w s8 wx)
  case first=>
   by_cases hr:t.root1=0
   ·have hU:(t.root1:Int)-1<0:=by omega
    have Hy:Below w1.heap.size w1 (w1.alloc (.cells #[.bool true,.slice none 0 0,.slice none 0 0,.slice none 0 0] 106)):=zB _ _;have Hj:=zaf w1 (.cells #[.bool true,.slice none 0 0,.slice none 0 0,.slice none 0 0] 106);have HA:NM (w1.alloc (.cells #[.bool true,.slice none 0 0,.slice none 0 0,.slice none 0 0] 106)) (fun b=>S0 b∨b=w1.heap.size) (.leaf []) w1.heap.size []:=by
     unfold NM;refine⟨rfl,.inr rfl,none,0,none,0,none,0,[],[],⟨?_,?_,?_,?_,zac _,zac _,zac _⟩,SrcS.mk' rfl (fun h=>by simp at h),rfl,SrcS.mk' rfl (fun h=>by simp at h),rfl⟩<;>(rw[zan _ _ _ _ _ _ Hj];rfl)
    have H5:=zH (qhq HA ((H3.o.same (Same.of_below Hy)).mono fun _ h=>.inl h) hkl hkc (v:=v) (val:=.slice VX vn vc) (by
     have h:=he.o;cases v with
     | none=>exact h
     | some l=>
      obtain⟨ad,c2,e1,e2,e3⟩:=h;exact⟨ad,c2,e1,e2,(e3.same (Same.of_below Hy)).mono fun _ h=>.inl h⟩) List.Pairwise.nil (za7 _))
    unfold NdF at H5;have HR:=zH Hy;clear Hy Hj HA;go_wp2_with (go_at_call 56;refine H5.o.mono ?_;rintro e w3 ⟨N2,rfl,hn2,hb3⟩;have hA:=zH hn2;have HU:=zH hb3;clear hn2 hb3)
    go_meet
    case rel=>
     obtain⟨x,rfl⟩:∃ x,v=some x:=by
      cases v with
      | none=>exact absurd rfl (HE.o hr)
      | some x=>exact⟨x,rfl⟩
     have hZ:=HV.o x rfl;have h4:=Hl.o.size;have h6:=HR.o.size;have Ka:=HU.o.size;have hO:=HH.o;have HJ:Below w1.heap.size w1 w3:=HR.o.trans (HU.o.mono h6);refine⟨some (.leaf (chgR key (some x) [])),[],.slice none 0 0,_,by unfold qdI;rw[zaw hr],Hn.o.below HJ,Hr.o.ev Hn.o (Ev.below HJ),(Touch.of_below Hl.o).trans (Touch.of_below HJ),⟨fun b hb=>?_,fun b hb hm=>?_⟩,fun b hb=>?_,.inr ⟨_,N2,[],rfl,rfl,hA.o,zch,by simp⟩,fun k hk=>?_,by simp,za7 _⟩
     ·rcases hb with(hb|hb)|hb
      ·have:=(HS.o b hb).1;omega
      ·rw[hb];have:(w1.alloc (.cells #[.bool true,.slice none 0 0,.slice none 0 0,.slice none 0 0] 106)).heap.size=w1.heap.size+1:=by simp
       omega
      ·exact hb.2
     ·have h8:=Hn.o.lt;rcases hm with hm|hm
      ·rcases hb with(hb|hb)|hb
       ·have:=(HS.o b hb).1;omega
       ·omega
       ·have:=hb.1;omega
      ·cases hm
     ·rcases hb with(hb|hb)|hb
      ·exact .inl hb
      ·exact .inr (by omega)
      ·exact .inr (by have:=hb.1;omega)
     ·cases hk;refine⟨0,by omega,⟨_,rfl,⟨_,rfl,by simp[chgR,putR],fun p hp=>?_⟩,?_⟩,by simp[pgs,pageOf]⟩
      ·obtain rfl:p=(key,x):=by simpa [chgR,putR] using hp
       exact⟨hk,hZ⟩
      ·have:=hk.2;simp[chgR,putR,nsize,qaL];omega
   ·obtain⟨r,hrr⟩:∃ r,t.root1-1=r:=⟨_,rfl⟩;have hU:¬((t.root1:Int)-1<0):=by omega
    have hV:(t.root1:Int)-1=(r:Int):=by omega
    rcases HP.o with h0|⟨h,hh,hwf,hsr,Hj,hpg⟩
    ·exact absurd h0 hr
    rw[hrr]at hwf hsr Hj hpg;obtain⟨got,bet,m,e1,e2,e3,e4⟩:=qcD h 400 [] (.page r) key v (by omega) hwf hsr Hj (by simp) hk HV.o;have hs:(pgs D h (.page r)).length≤400:=by
     have h1:=qfY (l2:=List.range 384) Hj (fun x hx=>zbb.2 (hpg x hx));rw[zci]at h1;omega
    have HY:=zH (qeF (W:=W) (B:=W) hoff hkl hkc hk HV.o h 400 (by omega) Hr.o Hn.o (Nat.le_of_lt Hn.o.lt) hd.o H3.o he.o (by rw[HD.o];exact hwf) (by rw[HD.o];exact hsr) (by rw[HD.o];exact Hj) (by simp) (by rw[HD.o];simp;omega) (by rw[HD.o];exact e1));unfold ChF at HY;have E1:=zH e1;have E2:=zH e2;have E4:=zH e4;have ha:=zH hpg;have hH:=zH hrr;have hB:=zH hs;clear hwf hsr Hj hpg e1 e2 e3 e4 hrr hs;go_upto_region 10 with(go_at_call 57;refine HY.o.mono ?_;rintro e w2 ⟨mv2,gv,bv,Lg,S2,rfl,hgot,hwk,hev,hso,hgr,hslo⟩;have HB:=zH hgot;have Hf:=zH hwk;have Hk:=zH hev;have Hi:=zH hso;have HC:=zH hgr;have Ha:=zH hslo;have h9:=hwk.c2;clear hgot hwk hev hso hgr hslo)
    have h5:w1.heap.size≤w2.heap.size:=Hk.o.touch.size;have hO:=HH.o;have Hs:=zH (Hr.o.touch Hk.o.touch (fun b hb=>hb.elim (fun e=>by rw[e];exact zac _) (fun e=>by cases e)));have Hh:=zH (show Touch (fun b=>W≤b) w w2 from(Touch.of_below Hl.o).trans (Hk.o.touch.mono fun b _ hb=>hb.elim (fun e=>by rw[e];exact zac _) (fun e=>by cases e)));have Hx:=zH (show ∀ b,S2 b→S0 b∨W≤b from fun b hb=>(HC.o b hb).imp id (fun h=>by have:=h.1;have:=Hl.o.size;omega));have Ht:=zH (show qdI D t.root1 key v=some (topK got bet,[]++m) by unfold qdI;rw[zaB hr,hH.o,E1.o];rfl);have Hm:=zH (show(∀ q∈[]++m,q<384)∧([]++m).length≤1000 by
     refine⟨fun q hq=>ha.o q (E4.o.mem_iff.1 (zaX _ hq)),?_⟩;have h1:=E4.o.length_eq;rw[zad]at h1;have:=hB.o;simp only[zaA];omega)
    have H2:=zH (show ∀ x∈got,∀ q∈pgs D h x,q<65536 from fun x hx q hq=>by
     have:=ha.o q (E4.o.mem_iff.1 (zay _ (zaS.2 ⟨x,hx,hq⟩)));omega)
    obtain⟨GA,gc,BA,bc,Ns,vb,rfl,rfl,hgc,hbc,hNs,hsg,hns,hsb,hrb,-⟩:=HB.o.ex;have HM:=E2.o.len;have H7:=zH hns;have hI:=zH hsb;have hE:=zH hrb;have hc:=zH hsg;clear hns hsb hrb hsg;rcases HM with⟨rfl,rfl⟩|⟨x,rfl,rfl⟩|⟨x,y,kk,rfl,rfl⟩
    ·go_wp2;go_meet
     case rel=>exact⟨none,[]++m,mv2,S2,Ht.o,Hf.o,Hs.o,Hh.o,Hi.o,Hx.o,.inl ⟨rfl,rfl⟩,(fun k hk=>by cases hk),Hm.o.1,Hm.o.2⟩
    ·obtain⟨N,r2,L1,L2,rfl,hLg,hnx,hr2⟩:=H7.o;obtain⟨rfl,rfl⟩:=hr2;obtain⟨gb,go_,rfl,-,hgat⟩:=hc.o.at_ (by simp);have g0:w2.cell? ⟨gb,go_,none⟩=some (.pointer (some ⟨N,0,none⟩)):=hgat 0 _ rfl;have Hw:=zH hnx;have Hv:=zH hLg;clear hgat hnx hLg;go_wp2;go_meet
     case rel=>
      have hL:L1=Lg:=by have h:=Hv.o;rw[zaG]at h;exact h.symm
      subst hL;refine⟨some x,[]++m,mv2,S2,Ht.o,Hf.o,Hs.o,Hh.o,Hi.o,Hx.o,.inr ⟨x,N,L1,rfl,rfl,Hw.o,Ha.o.nd zch,fun y hy=>?_⟩,fun k hk=>?_,Hm.o.1,Hm.o.2⟩
      ·rcases Ha.o.mem y hy with h|h
       ·cases h
       ·have:=Hl.o.size;omega
      ·cases hk;exact⟨h,by omega,(E2.o.kids x (by simp)).2,H2.o x (by simp)⟩
    ·obtain⟨N,r2,L1,L2,rfl,hLg,hnx,hr2⟩:=H7.o;obtain⟨N2,r3,L3,L4,rfl,hL2,hny,hr3⟩:=hr2;obtain⟨rfl,rfl⟩:=hr3;obtain⟨gb,go_,rfl,-,hgat⟩:=hc.o.at_ (by simp);have g0:w2.cell? ⟨gb,go_,none⟩=some (.pointer (some ⟨N,0,none⟩)):=hgat 0 _ rfl;have g1:w2.cell? ⟨gb,go_+1,none⟩=some (.pointer (some ⟨N2,0,none⟩)):=hgat 1 _ rfl;have Hw:=zH hnx;have H9:=zH hny;have Hv:=zH hLg;have H4:=zH hL2;clear hgat hnx hLg hny hL2;go_upto_region 14 with fail
     obtain⟨k0,hk0,kz0,kz1,kz2⟩:=zaT qcF;have hl:Below w2.heap.size w2 w2.drew:=(zai _ _).drew;have Hc:=zH (show w2.drew.cell? ⟨gb,go_,none⟩=some (.pointer (some ⟨N,0,none⟩))∧w2.drew.cell? ⟨gb,go_+1,none⟩=some (.pointer (some ⟨N2,0,none⟩))from⟨g0,g1⟩);have Hp:=zH hl;have Hz:=cell_lt g0;clear hl;refine qac (S:=fun W'=>W'.cell? ⟨gb,go_,none⟩=some (.pointer (some ⟨N,0,none⟩))∧W'.cell? ⟨gb,go_+1,none⟩=some (.pointer (some ⟨N2,0,none⟩))) [] (by kernel_rfl) Hc.o (fun _=>?_);generalize w2.drew=W0 at Hc Hp⊢;refine zP 0 60 (.slice BA 1 bc) Hc.o ?_;try simp only[zS]
     refine zP 1 61 (.slice (some ⟨gb,go_,none⟩) 2 gc) Hc.o ?_;try simp only[zS]
     refine zP 2 62 (.pointer (some ⟨gb,go_,none⟩)) Hc.o ?_;try simp only[zS]
     refine zL 3 63 (.pointer (some ⟨N,0,none⟩)) rfl (Or.inl ⟨by rfl,fun W' hS=>by obtain⟨hS1,hS2⟩:=hS;go_simp⟩) (qaa Hc.o) ?_;try simp only[zS]
     refine zP 4 64 (.agg #[.int .i64 0,.pointer (some ⟨N,0,none⟩)]) Hc.o ?_;try simp only[zS]
     refine zP 5 65 (.slice (some ⟨gb,go_,none⟩) 2 gc) Hc.o ?_;try simp only[zS]
     refine zP 6 66 (.pointer (some ⟨gb,go_+1,none⟩)) Hc.o ?_;try simp only[zS]
     refine zL 7 67 (.pointer (some ⟨N2,0,none⟩)) rfl (Or.inl ⟨by rfl,fun W' hS=>by obtain⟨hS1,hS2⟩:=hS;go_simp⟩) (qaa Hc.o) ?_;try simp only[zS]
     refine zP 8 68 (.agg #[.int .i64 0,.pointer (some ⟨N2,0,none⟩)]) Hc.o ?_;try simp only[zS]
     refine zE 9 69 rfl (fun Kr hKr=>?_);refine Eq.mpr (zaw (by rfl)) ?_;refine qfl 104 (.tmp 64) (.tmp 68) rfl Tryz.underlying104 hk0 kz0 kz1 (by decide) (by decide) (.agg #[.int .i64 0,.pointer (some ⟨N,0,none⟩)]) (.agg #[.int .i64 0,.pointer (some ⟨N2,0,none⟩)]) rfl rfl [.int .i64 0,.pointer (some ⟨N,0,none⟩)] [.int .i64 0,.pointer (some ⟨N2,0,none⟩)] rfl rfl rfl rfl ?_;have Hu:=zH (Hp.o.alloc Hp.o.size (.cells ([Value.int .i64 0,Value.pointer (some ⟨N,0,none⟩)]++[Value.int .i64 0,Value.pointer (some ⟨N2,0,none⟩)]).toArray 102));have HW:=zH (zaf W0 (.cells ([Value.int .i64 0,Value.pointer (some ⟨N,0,none⟩)]++[Value.int .i64 0,Value.pointer (some ⟨N2,0,none⟩)]).toArray 102));have HL:W0.heap.size<(W0.alloc (.cells ([Value.int .i64 0,Value.pointer (some ⟨N,0,none⟩)]++[Value.int .i64 0,Value.pointer (some ⟨N2,0,none⟩)]).toArray 102)).heap.size:=by simp
     have hQ:=Hp.o.size;have H0:=zH (show(W0.alloc (.cells ([Value.int .i64 0,Value.pointer (some ⟨N,0,none⟩)]++[Value.int .i64 0,Value.pointer (some ⟨N2,0,none⟩)]).toArray 102)).cell? ⟨gb,go_,none⟩=some (.pointer (some ⟨N,0,none⟩))∧(W0.alloc (.cells ([Value.int .i64 0,Value.pointer (some ⟨N,0,none⟩)]++[Value.int .i64 0,Value.pointer (some ⟨N2,0,none⟩)]).toArray 102)).cell? ⟨gb,go_+1,none⟩=some (.pointer (some ⟨N2,0,none⟩))from⟨(Hu.o.cell (p:=⟨gb,go_,none⟩) Hz).trans g0,(Hu.o.cell (p:=⟨gb,go_+1,none⟩) Hz).trans g1⟩);have HI:w2.heap.size≤W0.heap.size:=Hp.o.size;obtain⟨C,hC⟩:∃ C,W0.heap.size=C:=⟨_,rfl⟩;rw[hC]at HW HL HI⊢;have hu:=zH (And.intro HL HI);clear hC hQ HL HI;generalize W0.alloc (.cells ([Value.int .i64 0,Value.pointer (some ⟨N,0,none⟩)]++[Value.int .i64 0,Value.pointer (some ⟨N2,0,none⟩)]).toArray 102)=W4 at *;refine hKr.out (.slice (some ⟨C,0,none⟩) 2 2) _ (qaa H0.o) (fun _=>?_);clear hKr Kr;try simp only[zS]
     refine zP 10 70 (.agg #[.bool false,.slice BA 1 bc,.slice none 0 0,.slice (some ⟨C,0,none⟩) 2 2]) H0.o ?_;try simp only[zS]
     refine zE 11 71 rfl (fun Kr hKr=>?_);refine Eq.mpr (zaw (by rfl)) ?_;refine qmH 106 (.tmp 70) rfl #[.bool false,.slice BA 1 bc,.slice none 0 0,.slice (some ⟨C,0,none⟩) 2 2] rfl ?_;have Hg:=zH (Hu.o.alloc Hu.o.size (.cells #[.bool false,.slice BA 1 bc,.slice none 0 0,.slice (some ⟨C,0,none⟩) 2 2] 106));have HX:=zH (qap (.cells #[.bool false,.slice BA 1 bc,.slice none 0 0,.slice (some ⟨C,0,none⟩) 2 2] 106) HW.o);have H6:=zH (zaf W4 (.cells #[.bool false,.slice BA 1 bc,.slice none 0 0,.slice (some ⟨C,0,none⟩) 2 2] 106));have HO:W4.heap.size<(W4.alloc (.cells #[.bool false,.slice BA 1 bc,.slice none 0 0,.slice (some ⟨C,0,none⟩) 2 2] 106)).heap.size:=by simp
     have H1:=zH (show(W4.alloc (.cells #[.bool false,.slice BA 1 bc,.slice none 0 0,.slice (some ⟨C,0,none⟩) 2 2] 106)).cell? ⟨gb,go_,none⟩=some (.pointer (some ⟨N,0,none⟩))∧(W4.alloc (.cells #[.bool false,.slice BA 1 bc,.slice none 0 0,.slice (some ⟨C,0,none⟩) 2 2] 106)).cell? ⟨gb,go_+1,none⟩=some (.pointer (some ⟨N2,0,none⟩))from⟨(Hg.o.cell (p:=⟨gb,go_,none⟩) Hz).trans g0,(Hg.o.cell (p:=⟨gb,go_+1,none⟩) Hz).trans g1⟩);obtain⟨N5,hN5⟩:∃ C,W4.heap.size=C:=⟨_,rfl⟩;have HK:=hu.o;rw[hN5]at H6 HO HK⊢;have HE:=zH (And.intro HO HK);clear hN5 HO HK;generalize W4.alloc (.cells #[.bool false,.slice BA 1 bc,.slice none 0 0,.slice (some ⟨C,0,none⟩) 2 2] 106)=W5 at *;refine hKr.out (.pointer (some ⟨N5,0,none⟩)) _ (qaa H1.o) (fun _=>?_);clear hKr Kr;try simp only[zS]
     refine zP 12 8 (.pointer (some ⟨N5,0,none⟩)) H1.o ?_;try simp only[zS]
     refine qad (by kernel_rfl) ?_ _;go_wp2;go_meet
     case rel=>
      obtain⟨hz5,hz4,hzC⟩:=HE.o;have HN:=H6.o;have ho:∀ b,MW W mv2 b→b<w2.heap.size:=fun b h=>h.elim (fun e=>by rw[e];exact Hf.o.lt) (fun e=>(Hf.o.own.blk b e).2);have h4:=Hl.o.size;have Hb:∀ b,S2 b→S2 b∨b=C∨b=N5:=fun b h=>.inl h;have hX:∀ y∈Lg,w1.heap.size≤y.1:=fun y hy=>(Ha.o.mem y hy).elim (fun h=>by cases h) id;have HA:NM W5 (fun b=>S2 b∨b=C∨b=N5) (.inner [kk] [x,y]) N5 (slotsAt (some ⟨C,0,none⟩) 2++Lg):=by
       unfold NM;refine⟨.inr (.inr rfl),BA,bc,none,0,some ⟨C,0,none⟩,2,vb,[(0,some N),(0,some N2)],Lg,⟨?_,?_,?_,?_,hbc,zac _,zac _⟩,(hI.o.below Hg.o).mono Hb,(hE.o.mono Hb).same (Same.of_below Hg.o),⟨qaE HX.o rfl,fun _=>⟨C,0,rfl,.inr (.inl rfl)⟩,fun _ b o e=>by cases e;exact⟨by omega,fun i=>zaQ _ _ _ _ _ HX.o⟩⟩,?_,rfl⟩
       iterate 4 (rw[zan _ _ _ _ _ _ HN];rfl)
       refine km_cons.2 ⟨(0,some N),[(0,some N2)],L1,L2,rfl,Hv.o,km_cons.2 ⟨(0,some N2),[],L3,[],rfl,H4.o,?_,.inr ⟨N2,rfl,NM.mono Hb _ _ _ (NM.below H9.o Hg.o)⟩⟩,.inr ⟨N,rfl,NM.mono Hb _ _ _ (NM.below Hw.o Hg.o)⟩⟩;exact⟨rfl,rfl⟩
      refine⟨some (.inner [kk] [x,y]),[]++m,mv2,_,Ht.o,Hf.o.below Hg.o,Hs.o.touch (Touch.of_below (F:=fun _=>False) Hg.o) (fun _ h=>h.elim),Hh.o.trans (Touch.of_below Hg.o),⟨fun b hb=>?_,fun b hb hm=>?_⟩,fun b hb=>?_,.inr ⟨_,N5,_,rfl,rfl,HA,zaD.2 ⟨qbU _ _,Ha.o.nd zch,fun y hy z hz e=>?_⟩,fun y hy=>?_⟩,fun k hk=>?_,Hm.o.1,Hm.o.2⟩
      ·rcases hb with hb|hb|hb
       ·exact zam (Hi.o.lt b hb) Hg.o.size
       ·omega
       ·omega
      ·rcases hb with hb|hb|hb
       ·exact Hi.o.ap b hb hm
       ·have:=ho b hm;omega
       ·have:=ho b hm;omega
      ·rcases hb with hb|hb|hb
       ·exact Hx.o b hb
       ·exact .inr (by omega)
       ·exact .inr (by omega)
      ·subst e;obtain⟨q,_,rfl⟩:=zbg.1 hy;have h1:C<w2.heap.size:=by
        have h2:=zar.1 (Hv.o▸hz);rcases h2 with h2|h2
        ·exact NM.lts _ _ _ Hw.o _ h2
        ·rw[H4.o]at h2;rcases zar.1 h2 with h3|h3
         ·exact NM.lts _ _ _ H9.o _ h3
         ·cases h3
       omega
      ·rcases zar.1 hy with h|h
       ·obtain⟨q,_,rfl⟩:=zbg.1 h;show W≤C;omega
       ·have:=hX y h;omega
      ·cases hk;have hR:=E2.o.keys kk (by simp);refine⟨h+1,by omega,⟨_,rfl,⟨[kk],[x,y],rfl,rfl,E2.o.keys,E2.o.sep,fun z hz=>(E2.o.kids z hz).2⟩,?_⟩,fun q hq=>?_⟩
       ·have:=hR.2;simp[nsize,ksize];omega
       ·simp only[pgs,nd,pageOf,zaA]at hq;obtain⟨z,hz,hq⟩:=zaS.1 hq;exact H2.o z hz q hq
  case rest=>
   rename World=>wx;obtain⟨topc,met2,mv2,S2,q1,q2,q3,q4,q5,q6,q7,q8,q9,q10⟩:=hcut;have Ht:=zH q1;have Hx:=zH q6;have Hh:=zH q4;have HQ:=q7.ptr;obtain⟨tp,rfl⟩:=HQ;have Hq:=zH (qkR (D:=D) q3 q2 (Nat.le_of_lt q2.lt) hoff q5 (fun b hb=>by
    rcases q6 b hb with h|h
    ·exact(HS.o b h).2
    ·refine⟨fun hg=>?_,fun e=>?_,fun e=>?_⟩
     ·rcases hg with hg|hg
      ·have:=q3.hF b hg;omega
      ·have:=q3.hG;omega
     ·have:=q3.hT;omega
     ·have:=q3.h1;omega) q7 q8 (fun k hk=>by subst hk;exact H8.o k met2 q1) q9 q10 hwt)
   unfold SwF at Hq;clear q1 q2 q3 q4 q5 q6 q7 q8 q9 q10;go_wp2_with (go_at_call 58;refine Hq.o.mono ?_;rintro e wz ⟨F2,rfl,ht2,hto2,hsu2⟩;have Hs:=zH ht2;have He:=zH hto2;have HG:=zH hsu2;clear ht2 hto2 hsu2)
   go_ret;have e:qa5 d t key v=qeq d t met2 topc:=by
    unfold qa5;rw[zaB (by rw[HZ.o];exact hf),HD.o,Ht.o]
   rw[e];have hW:=HH.o;refine⟨F2,rfl,Hs.o,⟨⟨He.o.os.trans Hh.o.os,He.o.tape.trans Hh.o.tape,He.o.output.trans Hh.o.output,zah Hh.o.size He.o.size,fun i hi hn=>?_⟩,fun b hb=>?_⟩⟩
   ·refine(He.o.block i (zam hi Hh.o.size) (fun h=>?_)).trans (Hh.o.block i hi (by omega));rcases h with h|h|h
    ·exact hn (.inl h)
    ·exact hn (.inr h)
    ·omega
   ·rcases hb with hb|hb
    ·rcases HG.o b hb with h|h
     ·exact .inl (.inl h)
     ·exact .inr (by omega)
    ·exact .inl (.inr hb)
end
end Go.Proofs.YtpmebcgmgfcmiaaGreatDoor
