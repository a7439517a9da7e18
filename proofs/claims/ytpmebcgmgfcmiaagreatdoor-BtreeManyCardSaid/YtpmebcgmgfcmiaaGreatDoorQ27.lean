/- Texts LiB HeldI LiC. -/
import Derived.Test.YtpmebcgmgfcmiaaGreatDoorQ26
import Derived.Shelf.RegionOpen
set_option linter.all false
set_option maxRecDepth 100000
set_option maxHeartbeats 16000000
namespace Go.Proofs.YtpmebcgmgfcmiaaGreatDoor
open Go.RowKit BT Go.Lib
section
theorem qfT {D:Dsk}{h:Nat}{ks:List Bs}{xs:List Kd}(lo:Bs)(hb:Body D (h+1) (.inner ks xs))(hs:Srt (xs.flatMap (itemsK D h))) :
  (xs.flatMap (itemsK D h)).filter (geB lo)=((xs.drop (down ks lo)).flatMap (itemsK D h)).filter (geB lo):=by
 obtain⟨ks',xs',e,l1,k1,s1,x1⟩:=hb;obtain⟨rfl,rfl⟩:=Kd.inner.inj e;have Ha:∀ y∈xs,itemsK D h y≠[]:=fun y hy=>WF.ne (x1 y hy);obtain⟨hL,-⟩:=qfD (key:=lo) l1 s1 Ha hs
 conv=>lhs;rw[←zav (down ks lo) xs]
 rw[zat,zbu];have:((xs.take (down ks lo)).flatMap (itemsK D h)).filter (geB lo)=[]:=zcH.2 (fun q hq=>by simp[geB,hL q hq]);rw[this,zaA]
structure LiR (D:Dsk) (h:Nat) (rest:List Kd) (met:List Nat):Prop where
 wf:∀ x∈rest,WF D h x
 srt:Srt (rest.flatMap (itemsK D h))
 nodup:(rest.flatMap (pgs D h)).Nodup
 out:∀ q∈rest.flatMap (pgs D h),q∉met
 len:met.length+(rest.flatMap (pgs D h)).length≤450
theorem LiR.head {D:Dsk}{h:Nat}{x:Kd}{rest:List Kd}{met:List Nat}(r:LiR D h (x::rest) met):WF D h x∧Srt (itemsK D h x)∧(pgs D h x).Nodup∧(∀ q∈pgs D h x,q∉met)∧met.length+(pgs D h x).length≤450:=by
 have h2:=r.srt;have h3:=r.nodup;have h4:=r.out;have h5:=r.len;simp only[zaq]at h2 h3 h4 h5;rw[zad]at h5;refine⟨r.wf x (by simp),?_,(zaD.1 h3).1,fun q hq=>h4 q (zaX _ hq),by omega⟩;exact(zbv.1 h2).1
theorem LiR.tail {D:Dsk}{h:Nat}{x:Kd}{rest:List Kd}{met m:List Nat}(r:LiR D h (x::rest) met)(hm:∀ q∈m,q∈pgs D h x)(hl:m.length≤(pgs D h x).length):LiR D h rest (met++m):=by
 have h2:=r.srt;have h3:=r.nodup;have h4:=r.out;have h5:=r.len;simp only[zaq]at h2 h3 h4 h5;rw[zad]at h5;have hn:=zaD.1 h3;refine⟨fun y hy=>r.wf y (by simp[hy]),?_,hn.2.1,fun q hq hin=>?_,by rw[zad];omega⟩
 ·exact(zbv.1 h2).2.1
 ·rcases zar.1 hin with h6|h6
  ·exact h4 q (zay _ hq) h6
  ·exact hn.2.2 q (hm q h6) q hq rfl
theorem LiR.start {D:Dsk}{h:Nat}{ks:List Bs}{xs:List Kd}{met:List Nat}(i:Nat)(hb:Body D (h+1) (.inner ks xs))(hs:Srt (xs.flatMap (itemsK D h)))(hn:(xs.flatMap (pgs D h)).Nodup)(ho:∀ q∈xs.flatMap (pgs D h),q∉met)(hl:met.length+(xs.flatMap (pgs D h)).length≤450):LiR D h (xs.drop i) met:=by
 obtain⟨ks',xs',e,l1,k1,s1,x1⟩:=hb;obtain⟨rfl,rfl⟩:=Kd.inner.inj e;rw[←zav i xs,zat]at hs hn ho hl;rw[zad]at hl;exact⟨fun x hx=>x1 x (zaU hx),(zbv.1 hs).2.1,(zaD.1 hn).2.1,fun q hq=>ho q (zay _ hq),by omega⟩
section
variable {J Jx:(Nat→Prop)→List Pr→World→Prop} {a:PA} {G d T:Nat} {F:Nat→Prop} {p:Pl} {g:Pg} {root1 B W:Nat} {A:Option Addr} {n c:Nat} {lo:Bs} {l b1 b2 b3 b4:Nat}
theorem qlk {C:Nat→Prop}{pre N:List Pr}{met:List Nat}{mv:Value}{w:World}{D:Dsk}{h q:Nat}{ks:List Bs}{xs:List Kd}(hD:qah (p.seen d) g.pages g.use=D)(hoff:p.off=false)(hJ:qhU B J)(hln:lo.length=n)(hS:LiS J a G d T F p g root1 B W A n c lo l b1 b2 b3 b4 C pre met mv w)
  (hq:D q=some (.inner ks xs))(hb:Body D (h+1) (.inner ks xs))(hz:nsize (.inner ks xs)≤500)(hs:Srt (xs.flatMap (itemsK D h)))(hn:(xs.flatMap (pgs D h)).Nodup)(ho:∀ r∈xs.flatMap (pgs D h),r∉met++[q])(hm:q∉met)(hl:met.length+(xs.flatMap (pgs D h)).length≤449)(hN:pre++(xs.flatMap (itemsK D h)).filter (geB lo) <+: N)
  (IH:∀ (q:Nat) (C:Nat→Prop) (pre:List Pr) (met:List Nat) (mv:Value) (w:World),WF D h (.page q)→Srt (itemsK D h (.page q))→(pgs D h (.page q)).Nodup→(∀ r∈pgs D h (.page q),r∉met)→met.length+(pgs D h (.page q)).length≤450→pre++(itemsK D h (.page q)).filter (geB lo) <+: N→LiS J a G d T F p g root1 B W A n c lo l b1 b2 b3 b4 C pre met mv w→
   Calls Tryz.prog 54 #[.agg #[.int .i64 (q:Nat),.pointer none],.pointer (some ⟨b1,0,none⟩),.pointer (some ⟨b2,0,none⟩),.pointer (some ⟨b3,0,none⟩),.pointer (some ⟨b4,0,none⟩)] w (LiF J Jx a G d T F p g root1 B W A n c lo l b1 b2 b3 b4 C pre met mv ((itemsK D h (.page q)).filter (geB lo)) (pgs D h (.page q)) w)) :
  Calls Tryz.prog 54 #[.agg #[.int .i64 (q:Nat),.pointer none],.pointer (some ⟨b1,0,none⟩),.pointer (some ⟨b2,0,none⟩),.pointer (some ⟨b3,0,none⟩),.pointer (some ⟨b4,0,none⟩)] w
   (LiF J Jx a G d T F p g root1 B W A n c lo l b1 b2 b3 b4 C pre met mv ((xs.flatMap (itemsK D h)).filter (geB lo)) (q::xs.flatMap (pgs D h)) w):=by
 have Hs:Below w.heap.size w (w.alloc (.cells #[.int .i64 (q:Int),.pointer none] 102)):=zB _ _;have He:=zH (hS.below hJ Hs);have g1:w.cell? ⟨b1,0,none⟩=some (.pointer (some ⟨W,0,none⟩)):=zC hS.e1;have l1:=hS.lt b1 (.inl rfl);have HS:=zH hS;have HY:=zH IH;have HB:=zH hb;have Hj:=zH hs;have H1:=zH hn;have HO:=zH ho;have H2:=zH hN;have HZ:=zH hz;have Hm:=zH (qb0 He.o.tr He.o.wk He.o.sz hoff (by rw[hD];exact hq) hm (by omega));unfold LdF at Hm;have HA:=zH Hs;clear hS IH hb hs hn ho hN hz Hs;go_enter Tryz.func54,Tryz.ntmps54
 go_upto_if 17 with(go_at_call 38;refine Hm.o.mono ?_;rintro e w2 ⟨N2,L2,mv2,rfl,hwk,hev,hnm,-⟩)
 have Ht:=hev;simp only[NM]at hnm;obtain⟨hSN,K,ck,V,cv,X,cx,vk,vs,L',hnc,hsk,hrk,hsx,hkm,-⟩:=hnm;have Ho:=zH (He.o.ev hJ hwk hev);have H7:Below w.heap.size w w:=zai _ _;have HN:EvM (LM W C mv) (LM W C mv2) w w2:=(EvM.below HA.o).trans (qmw C hev);have Hq:SOk (FrN W mv2 (w.alloc (.cells #[.int .i64 (q:Int),.pointer none] 102)) w2) (LM W C mv2) w2:=⟨fun b hb=>hb.2.1,fun b hb hm=>by
  rcases hm with hm|hm|hm
  ·have h1:=(He.o.ap b hm).1;have h2:=hb.1;omega
  ·exact hb.2.2.1 hm
  ·exact hb.2.2.2 hm⟩
 generalize FrN W mv2 (w.alloc (.cells #[.int .i64 (q:Int),.pointer none] 102)) w2=S2 at hSN hsk hrk hsx hkm Hq;have HL:=zH Hq;have HD:=zH HN;have H0:=zH hkm;obtain⟨i,hi⟩:∃ i,down ks lo=i:=⟨_,rfl⟩;obtain⟨nk,hnk⟩:∃ i,ks.length=i:=⟨_,rfl⟩;obtain⟨nx,hnx⟩:∃ i,xs.length=i:=⟨_,rfl⟩;obtain⟨hpw,hlx,hflat⟩:ks.Pairwise (fun a b=>blt a b=true)∧xs.length=ks.length+1∧∀ x∈xs,∃ r,x=.page r:=by
  obtain⟨ks',xs',e,l1,k1,s1,x1⟩:=HB.o;obtain⟨rfl,rfl⟩:=Kd.inner.inj e;have he:∀ y∈xs,itemsK D h y≠[]:=fun y hy=>WF.ne (x1 y hy);refine⟨(qdE l1 s1 he Hj.o).2,l1,fun x hx=>?_⟩;rw[←hD]at hq;obtain⟨r,e,_⟩:=qdQ hq x hx;exact⟨r,e⟩
 have HV:=HZ.o;have Hi:=qaN ks;have Hh:=(qbZ ks lo).1;rw[hi,hnk]at Hh;rw[hnk]at hnc hsk Hi hlx;rw[hnx]at hnc hsx hlx;have hg:nk≤500:=by simp only[nsize]at HV;omega
 have HP:i<nx:=by omega
 obtain⟨xb,xo,rfl,hSb,hxat⟩:=hsx.at_ (by omega);have g2:w2.cell? ⟨b2,0,none⟩=some (.slice A n c):=zC Ho.o.e2;have c0:=hnc.c0;have c3:=hnc.c3;have Hl:=zH (qeL hnc c hsk hrk hnk hpw Ho.o.by_ hln (by omega));unfold DnF at Hl;rw[hi]at Hl;obtain⟨ik,hik,-,hiz,-⟩:=zaT qcF;obtain⟨XA,hXA,SL⟩:=qcx (P:=Tryz.prog) (size:=2) Tryz.underlying104 hik hiz xb xo nx cx i (by omega) hnc.hx;have Hr:=hXA HP;subst Hr;have Hf:=zH hxat;have HJ:=zH hnc;have H6:=cell_lt c0;have hd:min (i:Int) (nx:Int)=(i:Int):=by omega
 have H8:(i:Int)≤(nx:Int):=by omega
 have hh:nx≤501:=by omega
 clear hlx Hh;clear hpw Hi HV hsk hrk hsx hkm hnc hxat hXA Hq HN Hm hev Ht hwk H7 hq hnk HA;go_upto_region 7 with(go_at_call 39;refine Hl.o.mono ?_;rintro e w3 ⟨rfl,rfl⟩)
 go_region
 have HK:=zH (LiR.start (met:=met++[q]) i HB.o Hj.o H1.o HO.o (by rw[zad,zcr];omega));obtain⟨ys,hys⟩:∃ ys,xs.drop i=ys:=⟨_,rfl⟩;rw[hys]at HK;obtain⟨ny,hny⟩:∃ k,nx-i=k:=⟨_,rfl⟩;obtain⟨xi,hxi⟩:∃ k,xo+i*2=k:=⟨_,rfl⟩;have hp:ny≤501:=by omega
 have HW:ys.length=ny:=by rw[←hys,zap,hnx,hny]
 have Hg:=zH hys;have Hp:=zH HW;have ht:=zH hnx;have HI:=zH hi;have hu:=zH hny;have H5:=zH hxi;go_wp2_with fail
 rw[hny,hxi];clear hys HW hnx hny hxi hi hd H8 HP SL H6;go_loopw [39] (fun s39 wr=>∃ (j:Nat) (C2:Nat→Prop) (m:List Nat) (mv3:Value),s39=.int .i64 j∧j≤ny∧EvM (LM W C mv2) (LM W C2 mv3) w2 wr∧LiS J a G d T F p g root1 B W A n c lo l b1 b2 b3 b4 C2 (pre++((ys.take j).flatMap (itemsK D h)).filter (geB lo)) (met++[q]++m) mv3 wr∧LiR D h (ys.drop j) (met++[q]++m)∧(∀ r∈m,r∈xs.flatMap (pgs D h))∧m.length≤((ys.take j).flatMap (pgs D h)).length) (fun s39 _=>ny-(RowKit.intOf s39).toNat)
 case atStart=>
  refine⟨0,C,[],mv2,rfl,za7 _,(EvM.refl _ _).trans (EvM.below ((zai _ _).drew)),?_,?_,fun r hr=>(by cases hr),zac _⟩
  ·simp only[zb8,zbU,zc2,zaG];exact Ho.o.below hJ ((zai _ _).drew)
  ·simp only[zaG,List.drop_zero];exact HK.o
 case round=>
  rename World=>wr;obtain⟨j,C2,m,mv3,rfl,hj,hem,hst,hli,hmm,hml⟩:=hrel;have Ha:=zH hem;have Hk:=zH hst;have Hn:=zH hli;have HH:=zH hmm;have HG:=zH hml;clear hem hst hli hmm hml;by_cases hjn:j<ny
  ·have Hx:j<ys.length:=by rw[Hp.o];exact hjn
   have Hb:ys.drop j=ys[j]::ys.drop (j+1):=(za4 ..).symm;obtain⟨q2,hq2⟩:=hflat ys[j] (by
    have:ys[j]∈xs.drop i:=by rw[Hg.o];exact zbj ..
    exact zaU this)
   have Hz:xs[i+j]?=some (.page q2):=by
    rw[←hq2,←zaK,Hg.o];exact zaa Hx
   obtain⟨v0,L0,hv0,hk0,-⟩:=qiN H0.o Hz;obtain rfl:v0=((q2:Int),none):=by
    rcases hk0 with⟨p',hp',e,_⟩|⟨N',_,hN'⟩
    ·cases hp';exact e
    ·simp only[NM]at hN'
   obtain⟨oj,hoj⟩:∃ o,xi+j*2=o:=⟨_,rfl⟩;have Hc:xo+(i+j)*2=oj:=by have:=H5.o;omega
   have gk:∀ k v,w2.cell? ⟨xb,k,none⟩=some v→wr.cell? ⟨xb,k,none⟩=some v:=fun k v hc=>(qag Ha.o.touch (cell_lt hc) (HL.o.ap _ hSb)).trans hc;have x0:wr.cell? ⟨xb,oj,none⟩=some (.int .i64 (q2:Int)):=gk _ _ (by rw[←Hc];exact Hf.o _ _ (qbm hv0));have x1:wr.cell? ⟨xb,oj+1,none⟩=some (.pointer none):=gk _ _ (by rw[←Hc,zbV];exact Hf.o _ _ (qbn hv0));have g3:wr.cell? ⟨b3,0,none⟩=some (.func (.func 54) #[] #[.pointer (some ⟨b1,0,none⟩),.pointer (some ⟨b2,0,none⟩),.pointer (some ⟨b3,0,none⟩),.pointer (some ⟨b4,0,none⟩)]):=zC Hk.o.e3;have l3:=Hk.o.lt b3 (.inr (.inr (.inl rfl)));have hB:=cell_lt x0;have hA:(j:Int)<(ny:Int):=by omega
   have hw:(0:Int)≤(j:Int):=by omega
   clear hv0 hk0 gk;have Hy:Below wr.heap.size wr (wr.alloc (.cells #[.int .i64 (q2:Int),.pointer none] 102)):=zB _ _;rw[Hb,hq2]at Hn;obtain⟨y1,y2,y3,y4,y5⟩:=Hn.o.head;have Hu:((ys.take (j+1)).flatMap (itemsK D h)).filter (geB lo)=((ys.take j).flatMap (itemsK D h)).filter (geB lo)++(itemsK D h (.page q2)).filter (geB lo):=by
    rw[zbK,zaa Hx,hq2];simp only[zbZ,zat,zbu,zaq,zbU,zaG]
   have Hv:((ys.take (j+1)).flatMap (itemsK D h)).filter (geB lo) <+: (xs.flatMap (itemsK D h)).filter (geB lo):=by
    rw[qfT lo HB.o Hj.o,HI.o,Hg.o]
    conv=>rhs;rw[←zav (j+1) ys]
    rw[zat,zbu];exact⟨_,rfl⟩
   have HR:(pre++((ys.take j).flatMap (itemsK D h)).filter (geB lo))++(itemsK D h (.page q2)).filter (geB lo) <+: N:=by
    rw[zaj,←Hu];exact((zcJ pre).2 Hv).trans H2.o
   have HT:((ys.take (j+1)).flatMap (pgs D h)).length=((ys.take j).flatMap (pgs D h)).length+(pgs D h (.page q2)).length:=by
    rw[zbK,zaa Hx,hq2];simp only[zbZ,zat,zad,zaq,zbU,zaG]
   have HU:∀ r∈pgs D h (.page q2),r∈xs.flatMap (pgs D h):=fun r hr=>zaS.2 ⟨_,zak (show xs[i+j]?=some (.page q2)from Hz),hr⟩;have HC:=zH (HY.o q2 C2 _ _ mv3 _ y1 y2 y3 y4 y5 HR (Hk.o.below hJ Hy));unfold LiF at HC;have HE:=zH Hu;have HX:=zH Hv;have H3:=zH HT;have H4:=zH HU;have HM:=zH Hy;clear Hz y1 y2 y3 y4 y5 Hu Hv HR HT HU Hy Hb hq2 Hc;go_wp2_with (go_at_call 54;refine HC.o.mono ?_;rintro e w5 ⟨C3,mv4,hem3,(⟨rfl,m4,hst4,hm4,hml4⟩|⟨rfl,⟨qq,hqq,hjx⟩,hwx⟩)⟩)
   ·have ha:=HH.o;refine⟨⟨j+1,C3,m++m4,mv4,by go_num,by omega,(Ha.o.trans (EvM.below HM.o)).trans hem3,?_,?_,fun r hr=>?_,?_⟩,by simp[RowKit.intOf];omega⟩
    ·rw[HE.o,←zaj,←zaj];exact hst4
    ·rw[←zaj];exact Hn.o.tail hm4 hml4
    ·rcases zar.1 hr with h6|h6
     ·exact ha r h6
     ·exact H4.o r (hm4 r h6)
    ·have:=HG.o;have:=H3.o;rw[zad];omega
   ·go_ret;have h5:=HX.o;rw[HE.o]at h5;refine⟨C3,mv4,((HD.o.trans Ha.o).trans (EvM.below HM.o)).trans hem3,.inr ⟨rfl,⟨_,List.IsPrefix.trans ((zcJ _).2 hqq) h5,?_⟩,hwx⟩⟩;rw[←zaj];exact hjx
  ·have Hw:¬((j:Int)<(ny:Int)):=by omega
   have H9:decide ((j:Int)<(ny:Int))=false:=zal Hw;have g5:wr.cell? ⟨N2,2,none⟩=some (.slice V 0 cv):=(qag Ha.o.touch (cell_lt HJ.o.c2) (HL.o.ap _ hSN)).trans HJ.o.c2;have HQ:j=ny:=by omega
   have HF:=zH HQ;clear HQ;go_wp2;go_loopw [53] (fun s wx=>s=.int .i64 0∧wx=wr) (fun _ _=>0)
   case atStart=>exact⟨rfl,rfl⟩
   case round=>
    obtain⟨rfl,rfl⟩:=hrel;go_wp2;go_ret;refine⟨C2,mv3,HD.o.trans Ha.o,.inl ⟨rfl,[q]++m,?_,fun r hr=>?_,?_⟩⟩
    ·rw[←zaj,qfT lo HB.o Hj.o,HI.o,Hg.o];have h5:=Hk.o;rw[HF.o,←Hp.o,zby]at h5;exact h5
    ·rcases zar.1 hr with h6|h6
     ·rw[za3.1 h6];simp
     ·exact za6 _ (HH.o r h6)
    ·have h5:=HG.o;have h6:((ys.take j).flatMap (pgs D h)).length≤(xs.flatMap (pgs D h)).length:=by
      rw[HF.o,←Hp.o,zby,←Hg.o]
      conv=>rhs;rw[←zav i xs]
      rw[zat,zad];omega
     rw[zad,zcr,zao];omega
end
end
end Go.Proofs.YtpmebcgmgfcmiaaGreatDoor
namespace Go.Proofs.YtpmebcgmgfcmiaaGreatDoor
section
section
variable {n:Nat} {P:Program} {ops:Array Oper} {Q:Exit→Act→World→Prop} {md:Region.Mode} {S:World→Prop}
theorem qgl {i:Nat}{o:Oper}{v:Value}{a:Act}(hi:ops[i]?=some o)(hy:YieldsIf P ops S o v a)
  {K:Act→World→Prop}{w:World}(hS:S w)(h:K (a.put o.dst v) w):wpOpIn Fence.wide n P ops Q i K a w:=by
 unfold Go.wpOpIn;simp only[hi];rcases hy with⟨hw,hv⟩|⟨hw,rfl⟩
 ·simp only[hw,zcn,Oper.wpIn,show Fence.wide.round=none from rfl,Oper.semAt_none,hv w hS,Oper.uponIn];exact⟨fun _ _=>trivial,h⟩
 ·simp only[hw,zbM,zc8];exact⟨fun _ _=>trivial,h⟩
theorem qhO {j:Nat}{oi oj:Oper}{v:Value}(hj:ops[j]?=some oj)(hap:oi.apart ops oj=true)
  (hsi:∀ cs b,oi.op≠.select cs b)(hsj:∀ cs b,oj.op≠.select cs b)
  (hQ:∀ c a w,Q (.panic c) (a.put oi.dst v) w→Q (.panic c) a w){K:Act→World→Prop}{a:Act}{w:World}
  (hy:YieldsIf P ops S oi v a)(h:wpOpIn Fence.wide n P ops Q j K (a.put oi.dst v) w) :
  wpOpIn Fence.wide n P ops Q j (fun a' w'=>YieldsIf P ops S oi v a'∧K (a'.put oi.dst v) w') a w:=by
 obtain⟨h1,h2,h3⟩:=Oper.apart_spec hap;have keep:∀ (a:Act),YieldsIf P ops S oi v a→∀ u,YieldsIf P ops S oi v (a.put oj.dst u):=fun a hy u=>
  hy.of_same (execOp_put oi hsi a oj.dst u h3) (wanted_put oi a oj.dst u h3)
 have Ha:∀ d,YieldsIf P ops S oi v { a with defers:=d::a.defers }:=fun d=>hy.of_same rfl rfl;unfold Go.wpOpIn at *;simp only[hj]at *;rw[wanted_put oj a oi.dst v h1]at h;split
 ·rename_i hw;simp only[hw,zcn]at h;unfold Oper.wpIn at *;refine⟨fun _ _=>trivial,?_⟩;have h:=h.2;rw[show Fence.wide.round=none from rfl,Oper.semAt_none,execOp_put oj hsj a oi.dst v h1]at h;rw[show Fence.wide.round=none from rfl,Oper.semAt_none];generalize (execOp a.eval oj).run P w=r at *;cases r with
  | ok x w'=>
   cases x<;>simp only[Oper.uponIn]at h⊢
   case value u=>exact⟨keep a hy u,by rw[←zc0 a v u h2];exact h⟩
   case skip=>exact⟨keep a hy _,by rw[←zc0 a v undef h2];exact h⟩
   case defer d=>
    refine⟨keep _ (Ha d) _,?_⟩;rw[←zc0 _ v undef h2,←Act.put_defers];exact h
   case enter f args=>
    refine⟨h.1,CallsIn.mono h.2 fun e w'' he=>?_⟩;cases e with
    | returned u=>exact⟨keep a hy u,by rw[←zc0 a v u h2];exact he⟩
    | panicked c=>exact hQ _ _ _ he
    | outgrown=>exact he
   case row row args=>exact⟨h.1,RowsIn.mono h.2 fun u w'' he=>⟨keep a hy u,by rw[←zc0 a v u h2];exact he⟩⟩
   case round l f tmps assign body=>
    refine⟨h.1,RoundIn.mono h.2 fun e w'' he=>?_⟩;cases e with
    | returned u=>exact⟨keep a hy u,by rw[←zc0 a v u h2];exact he⟩
    | panicked c=>exact hQ _ _ _ he
    | outgrown=>exact he
  | halt x w'=>
   cases x<;>simp only[Oper.uponIn]at h⊢
   case panic u=>exact hQ _ _ _ h
 ·rename_i hw;simp only[hw]at h;exact⟨fun _ _=>trivial,keep a hy _,by rw[←zc0 a v undef h2];exact h.2⟩
def qbC (n:Nat)(P:Program)(md:Region.Mode)(ops:Array Oper)(Q:Exit→Act→World→Prop)(S:World→Prop)(st:List Nat):Nat→Array Bool→Act→World→Prop
 | 0,l,a,w=>Region.ready md ops l=[]∧Q .normal a w
 | f+1,l,a,w=>(Region.ready md ops l=[]→Q .normal a w)∧∀ i∈Region.ready md ops l,wpOpIn Fence.wide n P ops Q i (fun a' w'=>Gate st (l.setIfInBounds i true) S w'∧qbC n P md ops Q S st f (l.setIfInBounds i true) a' w') a w
theorem qcU (st:List Nat):∀ (f:Nat) (l:Array Bool) (a:Act) (w:World),qbC n P md ops Q S st f l a w→wpAnyIn Fence.wide n P md ops Q f l a w
 | 0,_,_,_,h=>h
 | f+1,_,_,_,h=>⟨h.1,fun i hi=>wpOpIn_mono (fun a' w' h'=>qcU st f _ a' w' h'.2) (h.2 i hi)⟩
theorem qeR {st:List Nat}{S':World→Prop}{Good:Array Bool→Prop}{i:Nat}{oi:Oper}{v:Value}(hi:ops[i]?=some oi)(hns:Region.noSelect ops=true)(hist:i∉st)
  (hQ:∀ c a w,Q (.panic c) (a.put oi.dst v) w→Q (.panic c) a w)
  (hup:∀ l w,Good l→Gate st l S w→S' w)(hgood:∀ l j,Good l→i∈Region.ready md ops l→j∈Region.ready md ops l→j≠i→Good (l.setIfInBounds j true)) :
  ∀ (f:Nat) (l:Array Bool) (a:Act) (w:World),Region.free md ops l i=true→i∈Region.ready md ops l→Good l→YieldsIf P ops S' oi v a→Gate st l S w→qbC n P md ops Q S st f (l.setIfInBounds i true) (a.put oi.dst v) w→qbC n P md ops Q S st (f+1) l a w:=by
 have Hb:=Region.noSelect_spec hns;have Ha:∀ {l:Array Bool} {w:World},Gate st l S w→Gate st (l.setIfInBounds i true) S w:=fun {l w} h h0=>h fun s hs=>by
  have:=h0 s hs
  rwa [zdd true (fun e=>hist (by rw[e];exact hs))]at this
 intro f
 induction f with
 | zero=>
  intro l a w hf hr hg hy hS H;refine⟨fun h=>(by rw[h]at hr;cases hr),fun j hj=>?_⟩;by_cases e:j=i
  ·subst e;exact qgl hi hy (hup _ _ hg hS) ⟨Ha hS,H⟩
  ·have h2:=ready_mono hj e;rw[H.1]at h2;cases h2
 | succ f ih=>
  intro l a w hf hr hg hy hS H;refine⟨fun h=>(by rw[h]at hr;cases hr),fun j hj=>?_⟩;by_cases e:j=i
  ·subst e;exact qgl hi hy (hup _ _ hg hS) ⟨Ha hS,H⟩
  ·obtain⟨hju,oj,hoj,hall⟩:=zdf.1 hj;have Hf:∀ x∈oj.after,Region.binds md x=true→x.on≠i:=fun x hx hb he=>by
    have h1:=hall x hx hb;have h0:=(zdf.1 hr).1;rw[he]at h1;rcases zbL i l.size with h3|h3
    ·simp[h3]at h0 h1;rw[h0]at h1;cases h1
    ·simp[zbz h3]at h1
   have h1:=H.2 j (ready_mono hj e);have h2:=qhO hoj (Region.free_spec hi hf j oj hoj e hju Hf) (fun cs b=>Hb i oi cs b hi) (fun cs b=>Hb j oj cs b hoj) hQ hy h1;refine wpOpIn_mono (fun a' w' h3=>?_) h2;rw[Array.setIfInBounds_comm _ _ (fun h=>e h.symm)]at h3;have hG:Gate st (l.setIfInBounds j true) S w':=qfM hist h3.2.1;refine⟨hG,ih _ a' w' ?_ (ready_mono hr (Ne.symm e)) (hgood l j hg hr hj e) h3.1 hG h3.2.2⟩;have Hc:∀ k,k<ops.size→(k==i||(l.setIfInBounds j true).getD k true||match ops[k]? with
     | some ok=>ok.after.any (fun e=>Region.binds md e&&e.on==i)||oi.apart ops ok
     | none=>true)=true:=fun k hk=>by
    have h4:=hf;simp only[Region.free,hi,zb0,zbb]at h4;have h5:=h4 k hk;by_cases ek:j=k
    ·subst ek;have He:j<l.size:=by
      rcases zbL j l.size with h6|h6
      ·exact h6
      ·simp[zbz h6]at hju
     simp[zcI,He]
    ·rw[zdd true ek];exact h5
   simp only[Region.free,hi,zb0,zbb];exact Hc
theorem qce {st:List Nat}{i:Nat}{oi:Oper}(dd:Option Nat){v:Value}{f:Nat}{l:Array Bool}{a:Act}{w:World}(hi:ops[i]?=some oi)(hd:oi.dst=dd)
  (hs:Region.noSelect ops=true)(hf:Region.free md ops l i=true)(hr:(Region.ready md ops l).contains i=true)(hg:qg9 md ops l st i=true)
  (hQ:∀ c a w,Q (.panic c) (a.put dd v) w→Q (.panic c) a w)(hy:YieldsIf P ops S oi v a)(hS:Gate st l S w)
  (h:qbC n P md ops Q S st f (l.setIfInBounds i true) (a.put dd v) w):qbC n P md ops Q S st (f+1) l a w:=by
 subst hd;simp only[qg9,zb0,zba,bne_iff_ne,zc9]at hg;refine qeR (S':=S) (Good:=fun l=>∀ s∈st,l.getD s true=false) hi hs (fun h0=>(hg i h0).1.1 rfl) hQ (fun l w h0 h1=>h1 h0) (fun l j h0 hri hrj hji s hs2=>?_) f l a w hf (by simpa using hr) (fun s hs2=>(hg s hs2).1.2) hy hS h;by_cases e:j=s
 ·subst e;exfalso;have h3:=(hg j hs2).2;obtain⟨_,oj,hoj,hall⟩:=zdf.1 hrj;rw[hoj]at h3;simp only[List.any_eq_true,zba,zcz]at h3;obtain⟨x,hx,hb,hxi⟩:=h3;have h1:=hall x (Array.mem_toList_iff.1 hx) hb;have h2:=(zdf.1 hri).1;rw[hxi]at h1;rcases zbL i l.size with h4|h4
  ·simp[h4]at h1 h2;rw[h2]at h1;cases h1
  ·simp[zbz h4]at h1
 ·rw[zdd true e];exact h0 s hs2
theorem qaD {st:List Nat}{i:Nat}{oi:Oper}(dd:Option Nat){v:Value}{f:Nat}{l:Array Bool}{a:Act}{w:World}(hi:ops[i]?=some oi)(hd:oi.dst=dd)
  (hs:Region.noSelect ops=true)(hf:Region.free md ops l i=true)(hr:(Region.ready md ops l).contains i=true)(hg:st.contains i=false)
  (hQ:∀ c a w,Q (.panic c) (a.put dd v) w→Q (.panic c) a w)(hy:YieldsIf P ops (fun _=>True) oi v a)(hS:Gate st l S w)
  (h:qbC n P md ops Q S st f (l.setIfInBounds i true) (a.put dd v) w):qbC n P md ops Q S st (f+1) l a w:=by
 subst hd;exact qeR (S':=fun _=>True) (Good:=fun _=>True) hi hs (by simpa using hg) hQ (fun _ _ _ _=>trivial) (fun _ _ _ _ _ _=>trivial) f l a w hf (by simpa using hr) trivial hy hS h
def AllReadyGI (n:Nat)(P:Program)(md:Region.Mode)(ops:Array Oper)(Q:Exit→Act→World→Prop)(S:World→Prop)(st:List Nat)(f:Nat)(l:Array Bool)(a:Act)(w:World)(rs:List Nat):Prop:=
 ∀ i∈rs,wpOpIn Fence.wide n P ops Q i (fun a' w'=>Gate st (l.setIfInBounds i true) S w'∧qbC n P md ops Q S st f (l.setIfInBounds i true) a' w') a w
theorem AllReadyGI.nil {st:List Nat}{f:Nat}{l:Array Bool}{a:Act}{w:World}:AllReadyGI n P md ops Q S st f l a w []:=fun _ h=>by cases h
theorem AllReadyGI.cons {st:List Nat}{f:Nat}{l:Array Bool}{a:Act}{w:World}{i:Nat}{o:Oper}{rs:List Nat}(ho:ops[i]?=some o)
  (h:∀ K':Act→World→Prop,Shut (∀ a w,Gate st (l.setIfInBounds i true) S w→(Gate st (l.setIfInBounds i true) S w→qbC n P md ops Q S st f (l.setIfInBounds i true) a w)→K' a w)→if Region.wanted o (yielded ops a.tmps)=true then Oper.wpIn Fence.wide n P o a w K' Q else(∀ f,o.about P w a.eval=some f→Fence.wide.fn f)∧K' (a.put o.dst undef) w)
  (hs:AllReadyGI n P md ops Q S st f l a w rs):AllReadyGI n P md ops Q S st f l a w (i::rs):=fun j hj=>by
 rcases za0.1 hj with rfl|hj
 ·exact wpOpIn_step ho (fun K' hK=>h K' (fun a w hS hW=>hK a w ⟨hS,hW hS⟩))
 ·exact hs j hj
theorem qdK {st:List Nat}{rs:List Nat}{f:Nat}{l:Array Bool}{a:Act}{w:World}(hr:Region.ready md ops l=rs)(hne:rs≠[])(h:AllReadyGI n P md ops Q S st f l a w rs):qbC n P md ops Q S st (f+1) l a w:=
 ⟨fun h0=>absurd (hr▸h0) hne,hr▸h⟩
theorem qhN {st:List Nat}{l:Array Bool}{a:Act}{w:World}(hr:Region.ready md ops l=[])(h:Q .normal a w):∀ f,qbC n P md ops Q S st f l a w
 | 0=>⟨hr,h⟩
 | _+1=>⟨fun _=>h,by rw[hr];simp⟩
theorem qer (st:List Nat){id:Nat}{a:Act}{w:World}(hm:P.follows .mixedOrders=true)(hS:S w.drew)
  (h:Gate st (Array.replicate ops.size false) S w.drew→qbC n P .any ops Q S st ops.size (Array.replicate ops.size false) a w.drew):(Code.region id ops true).wpIn Fence.wide n P Q a w:=
 wpIn_region_any hm (qcU st _ _ _ _ (h fun _=>hS))
theorem AllReadyGI.ev {st:List Nat}{f:Nat}{l:Array Bool}{a:Act}{w:World}{i:Nat}{o:Oper}{rs:List Nat}(dd:Option Nat)(ho:ops[i]?=some o)(hd:o.dst=dd)
  (h:∀ K':Act→World→Prop,Shut (∀ v w,Gate st (l.setIfInBounds i true) S w→(Gate st (l.setIfInBounds i true) S w→qbC n P md ops Q S st f (l.setIfInBounds i true) (a.put dd v) w)→K' (a.put o.dst v) w)→if Region.wanted o (yielded ops a.tmps)=true then Oper.wpIn Fence.wide n P o a w K' Q else(∀ f,o.about P w a.eval=some f→Fence.wide.fn f)∧K' (a.put o.dst undef) w)
  (hs:AllReadyGI n P md ops Q S st f l a w rs):AllReadyGI n P md ops Q S st f l a w (i::rs):=by
 subst hd;exact AllReadyGI.cons ho (fun K hK=>h K fun v w hG hW=>hK.out _ _ hG hW) hs
end
end
end Go.Proofs.YtpmebcgmgfcmiaaGreatDoor
namespace Go.Proofs.YtpmebcgmgfcmiaaGreatDoor
open Go.RowKit BT Go.Lib
section
attribute [local go_sem] Oper.semAt_some
theorem qge {P:Program}{t e:TypeId}{i:TypeInfo}(ht:P.underlying t=some (.slice e))(hi:P.info? e=some i)(X:Option Addr)(cx:Nat) :
  ∃ XA c2,∀ W,(Instr.slice t (.slice X 0 cx) (some (.int .i64 0)) none none).run P W=.ok (.slice XA 0 c2) W:=by
 cases X with
 | none=>refine⟨none,cx,fun W=>?_⟩;simp[Instr.slice,Instr.sliceBounds,Instr.sliceBound,asIntOf,zaM ht,sizeOf,typeInfo,hi,go_sem]
 | some a=>refine⟨some a,cx,fun W=>?_⟩;simp[Instr.slice,Instr.sliceBounds,Instr.sliceBound,asIntOf,zaM ht,sizeOf,typeInfo,hi,go_sem]
section
variable {J Jx:(Nat→Prop)→List Pr→World→Prop} {a:PA} {G d T:Nat} {F:Nat→Prop} {p:Pl} {g:Pg} {root1 B W:Nat} {A:Option Addr} {n c:Nat} {lo:Bs} {l b1 b2 b3 b4:Nat}
theorem ql7 {C:Nat→Prop}{pre N:List Pr}{met:List Nat}{mv:Value}{w:World}{q:Nat}{ps:List Pr}(hoff:p.off=false)(hJ:qhU B J)(hY:LiY J Jx l N)(hln:lo.length=n)(hS:LiS J a G d T F p g root1 B W A n c lo l b1 b2 b3 b4 C pre met mv w)
  (hq:qah (p.seen d) g.pages g.use q=some (.leaf ps))(hp5:ps.length≤500)(hm:q∉met)(hl:met.length≤449)(hN:pre++ps.filter (geB lo) <+: N) :
  Calls Tryz.prog 54 #[.agg #[.int .i64 (q:Nat),.pointer none],.pointer (some ⟨b1,0,none⟩),.pointer (some ⟨b2,0,none⟩),.pointer (some ⟨b3,0,none⟩),.pointer (some ⟨b4,0,none⟩)] w
   (LiF J Jx a G d T F p g root1 B W A n c lo l b1 b2 b3 b4 C pre met mv (ps.filter (geB lo)) [q] w):=by
 have Hw:Below w.heap.size w (w.alloc (.cells #[.int .i64 (q:Int),.pointer none] 102)):=zB _ _;have Hg:=zH (hS.below hJ Hw);have g1:w.cell? ⟨b1,0,none⟩=some (.pointer (some ⟨W,0,none⟩)):=zC hS.e1;have l1:=hS.lt b1 (.inl rfl);have HS:=zH hS;have Hr:=zH (qb0 Hg.o.tr Hg.o.wk Hg.o.sz hoff hq hm (by omega));unfold LdF at Hr;have HA:=zH Hw;clear hS Hw;go_enter Tryz.func54,Tryz.ntmps54
 go_upto_if 17 with(go_at_call 38;refine Hr.o.mono ?_;rintro e w2 ⟨N2,L2,mv2,rfl,hwk,hev,hnm,-⟩)
 have Hx:=hev;simp only[NM]at hnm;obtain⟨-,hSN,K,ck,V,cv,X,cx,vk,vv,hnc,hsk,hrk,hsv,hrv⟩:=hnm;have HD:=zH (Hg.o.ev hJ hwk hev);have HF:EvM (LM W C mv) (LM W C mv2) w w2:=(EvM.below HA.o).trans (qmw C hev);have Hv:SOk (FrN W mv2 (w.alloc (.cells #[.int .i64 (q:Int),.pointer none] 102)) w2) (LM W C mv2) w2:=⟨fun b hb=>hb.2.1,fun b hb hm=>by
  rcases hm with hm|hm|hm
  ·have h1:=(Hg.o.ap b hm).1;have h2:=hb.1;omega
  ·exact hb.2.2.1 hm
  ·exact hb.2.2.2 hm⟩
 generalize FrN W mv2 (w.alloc (.cells #[.int .i64 (q:Int),.pointer none] 102)) w2=S2 at hSN hsk hrk hsv hrv Hv;have Ht:=zH Hv;have HB:=zH HF;obtain⟨np,hnp⟩:∃ i,ps.length=i:=⟨_,rfl⟩;rw[hnp]at hnc hsk hsv hp5;have g2:w2.cell? ⟨b2,0,none⟩=some (.slice A n c):=zC HD.o.e2;have c0:=hnc.c0;have c3:=hnc.c3;obtain⟨ik,hik,-,hiz,-⟩:=zaT qcF;obtain⟨XA,c2,SL⟩:=qge (P:=Tryz.prog) Tryz.underlying104 hik X cx;have Hs:=zH hnc;have HR:=zH hsk;have HT:=zH hsv;have HP:=zH hrk;have HQ:=zH hrv;have H3:=cell_lt c0;clear hsk hrk hsv hrv hnc Hv HF Hr hev Hx hwk hq HA;go_upto_region 7 with fail
 go_region
 go_wp2_with fail
 clear SL;go_loopw [39] (fun s wx=>s=.int .i64 0∧wx=w2.drew) (fun _ _=>0)
 case atStart=>exact⟨rfl,rfl⟩
 case round=>
  rename World=>wx;obtain⟨rfl,rfl⟩:=hrel;have HW:Below w2.heap.size w2 w2.drew:=(zai _ _).drew;have gv:w2.drew.cell? ⟨N2,2,none⟩=some (.slice V np cv):=Hs.o.c2;clear HW;go_wp2;go_loopw [53] (fun s53 wr=>∃ (j:Nat) (C2:Nat→Prop),s53=.int .i64 j∧j≤np∧EvM (LM W C mv2) (LM W C2 mv2) w2 wr∧LiS J a G d T F p g root1 B W A n c lo l b1 b2 b3 b4 C2 (pre++(ps.take j).filter (geB lo)) (met++[q]) mv2 wr) (fun s53 _=>np-(RowKit.intOf s53).toNat)
  case atStart=>
   refine⟨0,C,rfl,za7 _,EvM.below ((zai _ _).drew),?_⟩;simp only[zb8,zc2,zaG];exact HD.o.below hJ ((zai _ _).drew)
  case round=>
   rename World=>wr;obtain⟨j,C2,rfl,hj,hem,hst⟩:=hrel;have Hb:=zH hem;have Hh:=zH hst;clear hem hst;by_cases hjn:j<np
   ·have H1:j<ps.length:=by rw[hnp];exact hjn
    have Hk:ps[j]?=some ps[j]:=zaa H1;obtain⟨x,hx⟩:∃ x,ps[j]=x:=⟨_,rfl⟩;rw[hx]at Hk;have HJ:(ps.take (j+1)).filter (geB lo)=(ps.take j).filter (geB lo)++if blt x.1 lo then[]else[x]:=by
     rw[zbK,Hk,zbu];cases hb:blt x.1 lo<;>simp[geB,hb]
    have HI:(ps.take (j+1)).filter (geB lo) <+: ps.filter (geB lo):=by
     conv=>rhs;rw[←zav (j+1) ps]
     rw[zbu];exact⟨_,rfl⟩
    obtain⟨KA,kc,hk1,hk2,hk3⟩:=HP.o.get (show(ps.map Prod.fst)[j]?=some x.1 by rw[zbc,Hk];rfl);obtain⟨VA,vc,hv1,hv2,hv3⟩:=HQ.o.get (show(ps.map Prod.snd)[j]?=some x.2 by rw[zbc,Hk];rfl);have Hl:∀ b,S2 b→¬LM W C mv2 b:=Ht.o.ap;obtain⟨kb,ko,rfl,hSkb,hkat⟩:=(HR.o.touch Hb.o.touch Hl).at_ (by omega);obtain⟨vb,vo,rfl,-,hvat⟩:=(HT.o.touch Hb.o.touch Hl).at_ (by omega);obtain⟨ok,hok⟩:∃ o,ko+j=o:=⟨_,rfl⟩;obtain⟨ov,hov⟩:∃ o,vo+j=o:=⟨_,rfl⟩;have Hu:=hkat _ _ hk1;have HV:=hvat _ _ hv1;rw[hok]at Hu;rw[hov]at HV;have HE:wr.cell? ⟨N2,1,none⟩=some (.slice (some ⟨kb,ko,none⟩) np ck):=(qag Hb.o.touch (cell_lt Hs.o.c1) (Ht.o.ap _ hSN)).trans Hs.o.c1;have g4:wr.cell? ⟨b2,0,none⟩=some (.slice A n c):=zC Hh.o.e2;have g5:wr.cell? ⟨b4,0,none⟩=some (.func (.yield l) #[] #[]):=zC Hh.o.e4;have HH:ByS wr S2 KA x.1:=hk3.same (Same.of_touch Hb.o.touch Hl);have H2:ByS wr S2 VA x.2:=hv3.same (Same.of_touch Hb.o.touch Hl);have Hc:=Hh.o.below hJ ((zai wr.heap.size wr).drew);have Ho:=zH (qdq (w:=wr.drew) kc c (HH.by_.below ((zai _ _).drew)) Hc.by_ rfl hln);have H5:(j:Int)<(np:Int):=by omega
    have H4:(0:Int)≤(j:Int):=by omega
    have Hn:=zH (show Below wr.heap.size wr wr.drew from(zai _ _).drew);obtain⟨cv1,hcv⟩:∃ v,cmpB x.1 lo=v:=⟨_,rfl⟩;rw[hcv]at Ho;have Hi:=zH HJ;have HC:=zH HI;clear Hk HJ HI hk1 hv1 hkat hvat Hl hx;by_cases hge:blt x.1 lo=true
    ·have Hm:=cmpB_lt.2 hge;rw[hcv]at Hm;have HX:decide (cv1≥0)=false:=zal (by omega);have HY:¬(0≤cv1):=by omega
     have HZ:decide (0≤cv1)=false:=zal HY;have HM:=zH hge;clear hge hcv;go_upto_region 16 with fail
     have Ha:=zH (show wr.drew.cell? ⟨N2,1,none⟩=some (.slice (some ⟨kb,ko,none⟩) np ck)∧wr.drew.cell? ⟨kb,ok,none⟩=some (.slice KA x.1.length kc)∧wr.drew.cell? ⟨b2,0,none⟩=some (.slice A n c)∧wr.drew.cell? ⟨b4,0,none⟩=some (.func (.yield l) #[] #[])from⟨HE,Hu,g4,g5⟩);refine qac (S:=fun W'=>W'.cell? ⟨N2,1,none⟩=some (.slice (some ⟨kb,ko,none⟩) np ck)∧W'.cell? ⟨kb,ok,none⟩=some (.slice KA x.1.length kc)∧W'.cell? ⟨b2,0,none⟩=some (.slice A n c)∧W'.cell? ⟨b4,0,none⟩=some (.func (.yield l) #[] #[])) [] (by kernel_rfl) Ha.o (fun _=>?_);generalize wr.drew=W0 at *;refine zP 0 58 (.pointer (some ⟨N2,0,none⟩)) Ha.o ?_;try simp only[zS]
     refine zP 1 59 (.pointer (some ⟨N2,0,none⟩)) Ha.o ?_;try simp only[zS]
     refine zP 2 60 (.pointer (some ⟨N2,1,none⟩)) Ha.o ?_;try simp only[zS]
     refine zL 3 61 (.slice (some ⟨kb,ko,none⟩) np ck) rfl (Or.inl ⟨by rfl,fun W' hS=>by obtain⟨hS1,He,hS3,hS4⟩:=hS;go_simp⟩) (qaa Ha.o) ?_;try simp only[zS]
     refine zP 4 62 (.int .i64 (j:Int)) Ha.o ?_;try simp only[zS]
     refine zP 5 63 (.pointer (some ⟨kb,ok,none⟩)) Ha.o ?_;try simp only[zS]
     refine zL 6 64 (.slice KA x.1.length kc) rfl (Or.inl ⟨by rfl,fun W' hS=>by obtain⟨hS1,He,hS3,hS4⟩:=hS;go_simp⟩) (qaa Ha.o) ?_;try simp only[zS]
     refine zL 7 65 (.slice A n c) rfl (Or.inl ⟨by rfl,fun W' hS=>by obtain⟨hS1,He,hS3,hS4⟩:=hS;go_simp⟩) (qaa Ha.o) ?_;try simp only[zS]
     refine zE 8 66 rfl (fun Kr hKr=>?_);go_simp;go_at_call 35;refine Ho.o.mono ?_
     rintro e W1 ⟨rfl,rfl⟩;refine hKr.out (.int .i64 cv1) _ (qaa Ha.o) (fun _=>?_);clear hKr Kr;try simp only[zS]
     refine zP 9 67 (.bool false) Ha.o ?_;try simp only[zS]
     refine zP 10 68 (.bool false) Ha.o ?_;try simp only[zS]
     refine zN 11 69 (qaa Ha.o) ?_;try simp only[zS]
     refine zN 12 70 (qaa Ha.o) ?_;try simp only[zS]
     refine zN 13 71 (qaa Ha.o) ?_;try simp only[zS]
     refine zN 14 72 (qaa Ha.o) ?_;try simp only[zS]
     refine zN 15 73 (qaa Ha.o) ?_;try simp only[zS]
     refine zN 16 74 (qaa Ha.o) ?_;try simp only[zS]
     refine zN 17 75 (qaa Ha.o) ?_;try simp only[zS]
     refine zN 18 76 (qaa Ha.o) ?_;try simp only[zS]
     refine zN 19 77 (qaa Ha.o) ?_;try simp only[zS]
     refine zN 20 78 (qaa Ha.o) ?_;try simp only[zS]
     refine zN 21 79 (qaa Ha.o) ?_;try simp only[zS]
     refine zP 22 80 (.bool false) Ha.o ?_;try simp only[zS]
     refine qad (by kernel_rfl) ?_ _
     all_goals go_wp2
     all_goals
      refine⟨⟨j+1,C2,by go_num,by omega,Hb.o.trans (EvM.below Hn.o),?_⟩,by simp[RowKit.intOf];omega⟩;rw[Hi.o,zaw HM.o,zaG];exact Hh.o.below hJ Hn.o
    ·have Hy:blt x.1 lo=false:=by simpa using hge
     have Hm:=cmpB_ge.2 Hy;rw[hcv]at Hm;have HX:decide (cv1≥0)=true:=zas (by omega);have HZ:decide (0≤cv1)=true:=zas Hm;rw[Hy,zaB (by simp)]at Hi;have Hj:(pre++(ps.take j).filter (geB lo))++[x] <+: N:=by
      rw[zaj,←Hi.o];exact((zcJ pre).2 HC.o).trans hN
     have HU:=hY 99 C2 _ x KA VA kc vc wr.drew Hc.j Hj (HH.by_.below ((zai _ _).drew)) (H2.by_.below ((zai _ _).drew)) hk2 hv2;obtain⟨fn,tmps,asg,bod,hy,hR⟩:=HU;clear hge Hy hcv Hj;go_upto_region 16 with fail
     have Ha:=zH (show wr.drew.cell? ⟨N2,1,none⟩=some (.slice (some ⟨kb,ko,none⟩) np ck)∧wr.drew.cell? ⟨kb,ok,none⟩=some (.slice KA x.1.length kc)∧wr.drew.cell? ⟨b2,0,none⟩=some (.slice A n c)∧wr.drew.cell? ⟨b4,0,none⟩=some (.func (.yield l) #[] #[])from⟨HE,Hu,g4,g5⟩);have HN:=zH (show ∀ (w6:World) (C3:Nat→Prop),EvM C2 C3 wr.drew w6→w6.cell? ⟨N2,1,none⟩=some (.slice (some ⟨kb,ko,none⟩) np ck)∧w6.cell? ⟨kb,ok,none⟩=some (.slice KA x.1.length kc)∧w6.cell? ⟨b2,0,none⟩=some (.slice A n c)∧w6.cell? ⟨b4,0,none⟩=some (.func (.yield l) #[] #[])from fun w6 C3 he=>by
      have He:=(Ht.o.ev Hb.o);have hE:∀ b,E4 b1 b2 b3 b4 b→¬C2 b:=fun b hb hc=>(Hc.ap b hc).2.2 hb;exact⟨(qag he.touch (cell_lt Ha.o.1) (fun hc=>He.ap _ hSN (.inl hc))).trans Ha.o.1,(qag he.touch (cell_lt Ha.o.2.1) (fun hc=>He.ap _ hSkb (.inl hc))).trans Ha.o.2.1,(qag he.touch (cell_lt Ha.o.2.2.1) (hE _ (.inr (.inl rfl)))).trans Ha.o.2.2.1,(qag he.touch (cell_lt Ha.o.2.2.2) (hE _ (.inr (.inr (.inr rfl))))).trans Ha.o.2.2.2⟩)
     refine(wpIn_wide (n:=100)).1 ?_;refine qer (n:=100) (S:=fun W'=>W'.cell? ⟨N2,1,none⟩=some (.slice (some ⟨kb,ko,none⟩) np ck)∧W'.cell? ⟨kb,ok,none⟩=some (.slice KA x.1.length kc)∧W'.cell? ⟨b2,0,none⟩=some (.slice A n c)∧W'.cell? ⟨b4,0,none⟩=some (.func (.yield l) #[] #[])) [] (by kernel_rfl) Ha.o (fun _=>?_);generalize wr.drew=W0 at *;refine qaD (i:=0) (some 58) (v:=.pointer (some ⟨N2,0,none⟩)) rfl rfl (by kernel_rfl) (by kernel_rfl) (by kernel_rfl) (by kernel_rfl) (fun _ _ _ h=>h) (Or.inl ⟨by rfl,fun W hS=>by clear hS;go_simp⟩) (qaa Ha.o) ?_;try simp only[zS]
     refine qaD (i:=1) (some 59) (v:=.pointer (some ⟨N2,0,none⟩)) rfl rfl (by kernel_rfl) (by kernel_rfl) (by kernel_rfl) (by kernel_rfl) (fun _ _ _ h=>h) (Or.inl ⟨by rfl,fun W hS=>by clear hS;go_simp⟩) (qaa Ha.o) ?_;try simp only[zS]
     refine qaD (i:=2) (some 60) (v:=.pointer (some ⟨N2,1,none⟩)) rfl rfl (by kernel_rfl) (by kernel_rfl) (by kernel_rfl) (by kernel_rfl) (fun _ _ _ h=>h) (Or.inl ⟨by rfl,fun W hS=>by clear hS;go_simp⟩) (qaa Ha.o) ?_;try simp only[zS]
     refine qce (i:=3) (some 61) (v:=.slice (some ⟨kb,ko,none⟩) np ck) rfl rfl (by kernel_rfl) (by kernel_rfl) (by kernel_rfl) (by kernel_rfl) (fun _ _ _ h=>h) (Or.inl ⟨by rfl,fun W' hS=>by obtain⟨hS1,He,hS3,hS4⟩:=hS;go_simp⟩) (qaa Ha.o) ?_;try simp only[zS]
     refine qaD (i:=4) (some 62) (v:=.int .i64 (j:Int)) rfl rfl (by kernel_rfl) (by kernel_rfl) (by kernel_rfl) (by kernel_rfl) (fun _ _ _ h=>h) (Or.inl ⟨by rfl,fun W hS=>by clear hS;go_simp⟩) (qaa Ha.o) ?_;try simp only[zS]
     refine qaD (i:=5) (some 63) (v:=.pointer (some ⟨kb,ok,none⟩)) rfl rfl (by kernel_rfl) (by kernel_rfl) (by kernel_rfl) (by kernel_rfl) (fun _ _ _ h=>h) (Or.inl ⟨by rfl,fun W hS=>by clear hS;go_simp⟩) (qaa Ha.o) ?_;try simp only[zS]
     refine qce (i:=6) (some 64) (v:=.slice KA x.1.length kc) rfl rfl (by kernel_rfl) (by kernel_rfl) (by kernel_rfl) (by kernel_rfl) (fun _ _ _ h=>h) (Or.inl ⟨by rfl,fun W' hS=>by obtain⟨hS1,He,hS3,hS4⟩:=hS;go_simp⟩) (qaa Ha.o) ?_;try simp only[zS]
     refine qce (i:=7) (some 65) (v:=.slice A n c) rfl rfl (by kernel_rfl) (by kernel_rfl) (by kernel_rfl) (by kernel_rfl) (fun _ _ _ h=>h) (Or.inl ⟨by rfl,fun W' hS=>by obtain⟨hS1,He,hS3,hS4⟩:=hS;go_simp⟩) (qaa Ha.o) ?_;try simp only[zS]
     refine qdK (rs:=[8]) (by kernel_rfl) (by simp) ?_;refine AllReadyGI.ev (some 66) rfl rfl (fun Kr hKr=>?_) AllReadyGI.nil;go_simp;refine⟨trivial,(callsIn_wide.2 Ho.o).mono ?_⟩;rintro e W1 ⟨rfl,rfl⟩;refine hKr.out (.int .i64 cv1) _ (qaa Ha.o) (fun _=>?_);clear hKr Kr;try simp only[zS]
     refine qaD (i:=9) (some 67) (v:=.bool true) rfl rfl (by kernel_rfl) (by kernel_rfl) (by kernel_rfl) (by kernel_rfl) (fun _ _ _ h=>h) (Or.inl ⟨by rfl,fun W hS=>by clear hS;go_simp⟩) (qaa Ha.o) ?_;try simp only[zS]
     refine qaD (i:=10) (some 68) (v:=.bool true) rfl rfl (by kernel_rfl) (by kernel_rfl) (by kernel_rfl) (by kernel_rfl) (fun _ _ _ h=>h) (Or.inl ⟨by rfl,fun W hS=>by clear hS;go_simp⟩) (qaa Ha.o) ?_;try simp only[zS]
     refine qce (i:=11) (some 69) (v:=.func (.yield l) #[] #[]) rfl rfl (by kernel_rfl) (by kernel_rfl) (by kernel_rfl) (by kernel_rfl) (fun _ _ _ h=>h) (Or.inl ⟨by rfl,fun W' hS=>by obtain⟨hS1,He,hS3,hS4⟩:=hS;go_simp⟩) (qaa Ha.o) ?_;try simp only[zS]
     refine qaD (i:=12) (some 70) (v:=.pointer (some ⟨N2,0,none⟩)) rfl rfl (by kernel_rfl) (by kernel_rfl) (by kernel_rfl) (by kernel_rfl) (fun _ _ _ h=>h) (Or.inl ⟨by rfl,fun W hS=>by clear hS;go_simp⟩) (qaa Ha.o) ?_;try simp only[zS]
     refine qaD (i:=13) (some 71) (v:=.pointer (some ⟨N2,0,none⟩)) rfl rfl (by kernel_rfl) (by kernel_rfl) (by kernel_rfl) (by kernel_rfl) (fun _ _ _ h=>h) (Or.inl ⟨by rfl,fun W hS=>by clear hS;go_simp⟩) (qaa Ha.o) ?_;try simp only[zS]
     refine qaD (i:=14) (some 72) (v:=.pointer (some ⟨N2,1,none⟩)) rfl rfl (by kernel_rfl) (by kernel_rfl) (by kernel_rfl) (by kernel_rfl) (fun _ _ _ h=>h) (Or.inl ⟨by rfl,fun W hS=>by clear hS;go_simp⟩) (qaa Ha.o) ?_;try simp only[zS]
     refine qce (i:=15) (some 73) (v:=.slice (some ⟨kb,ko,none⟩) np ck) rfl rfl (by kernel_rfl) (by kernel_rfl) (by kernel_rfl) (by kernel_rfl) (fun _ _ _ h=>h) (Or.inl ⟨by rfl,fun W' hS=>by obtain⟨hS1,He,hS3,hS4⟩:=hS;go_simp⟩) (qaa Ha.o) ?_;try simp only[zS]
     refine qaD (i:=16) (some 74) (v:=.int .i64 (j:Int)) rfl rfl (by kernel_rfl) (by kernel_rfl) (by kernel_rfl) (by kernel_rfl) (fun _ _ _ h=>h) (Or.inl ⟨by rfl,fun W hS=>by clear hS;go_simp⟩) (qaa Ha.o) ?_;try simp only[zS]
     refine qaD (i:=17) (some 75) (v:=.pointer (some ⟨kb,ok,none⟩)) rfl rfl (by kernel_rfl) (by kernel_rfl) (by kernel_rfl) (by kernel_rfl) (fun _ _ _ h=>h) (Or.inl ⟨by rfl,fun W hS=>by clear hS;go_simp⟩) (qaa Ha.o) ?_;try simp only[zS]
     refine qce (i:=18) (some 76) (v:=.slice KA x.1.length kc) rfl rfl (by kernel_rfl) (by kernel_rfl) (by kernel_rfl) (by kernel_rfl) (fun _ _ _ h=>h) (Or.inl ⟨by rfl,fun W' hS=>by obtain⟨hS1,He,hS3,hS4⟩:=hS;go_simp⟩) (qaa Ha.o) ?_;try simp only[zS]
     refine qaD (i:=19) (some 77) (v:=.slice VA x.2.length vc) rfl rfl (by kernel_rfl) (by kernel_rfl) (by kernel_rfl) (by kernel_rfl) (fun _ _ _ h=>h) (Or.inl ⟨by rfl,fun W hS=>by clear hS;go_simp⟩) (qaa Ha.o) ?_;try simp only[zS]
     refine qdK (rs:=[20]) (by kernel_rfl) (by simp) ?_;refine AllReadyGI.ev (some 78) rfl rfl (fun Kr hKr=>?_) AllReadyGI.nil;go_simp;refine hR.mono ?_;rintro e w6 ⟨C3,b,rfl,hem6,hbt,hbf⟩;have Hq:=zH (HN.o w6 C3 hem6);refine hKr.out (.bool b) _ (qaa Hq.o) (fun _=>?_);clear hKr Kr;try simp only[zS]
     refine qaD (i:=21) (some 79) (v:=.bool (!b)) rfl rfl (by kernel_rfl) (by kernel_rfl) (by kernel_rfl) (by kernel_rfl) (fun _ _ _ h=>h) (Or.inl ⟨by rfl,fun W hS=>by clear hS;go_simp⟩) (qaa Hq.o) ?_;try simp only[zS]
     refine qaD (i:=22) (some 80) (v:=.bool (!b)) rfl rfl (by kernel_rfl) (by kernel_rfl) (by kernel_rfl) (by kernel_rfl) (fun _ _ _ h=>h) (Or.inl ⟨by rfl,fun W hS=>by clear hS;go_simp⟩) (qaa Hq.o) ?_;try simp only[zS]
     refine qhN (by kernel_rfl) ?_ _;have Hf:=zH (Hb.o.trans ((EvM.below Hn.o).trans (qmN mv2 hem6)));have HL:=zH hbt;have HK:=zH hbf;have Hp:=zH hem6;clear hem6 hbt hbf;cases b with
     | true=>
      go_wp2;refine⟨⟨j+1,C3,by go_num,by omega,Hf.o,?_⟩,by simp[RowKit.intOf];omega⟩;have h5:=HL.o (by trivial);rw[zaj,←Hi.o]at h5;exact Hc.ca Hp.o h5
     | false=>
      go_wp2;go_ret;refine⟨C3,mv2,HB.o.trans Hf.o,.inr ⟨rfl,⟨_,HC.o,?_⟩,_,Hc.wk.touch Hp.o.touch (fun b hb=>(Hc.ap b hb).2.1),fun b hb hm=>?_⟩⟩
      ·have h5:=HK.o (by trivial);rw[zaj,←Hi.o]at h5;exact h5
      ·rcases Hp.o.own b hb with h1|h1
       ·exact(Hc.ap b h1).2.1 hm
       ·rcases hm with hm|hm
        ·have:=Hc.wk.lt;omega
        ·have:=(Hc.wk.own.blk b hm).2;omega
   ·have Hz:¬((j:Int)<(np:Int)):=by omega
    have H0:decide ((j:Int)<(np:Int))=false:=zal Hz;have HG:j=np:=by omega
    have HO:=zH HG;clear HG;go_wp2;go_ret;refine⟨C2,mv2,HB.o.trans Hb.o,.inl ⟨rfl,[q],?_,fun r hr=>hr,zac _⟩⟩;have h5:=Hh.o;rw[HO.o,←hnp,zby]at h5;exact h5
end
end
end Go.Proofs.YtpmebcgmgfcmiaaGreatDoor
