/- Texts LiA LiB HeldI. -/
import Derived.Test.YtfcknhbmeofniaaGreatDoorR20
import Derived.RangeFuncNested
import Derived.RangeFuncBound
import Derived.OwnWalkIn
import Derived.TacticsInMore
set_option linter.all false
set_option maxRecDepth 100000
set_option maxHeartbeats 16000000
namespace Go.Proofs.YtfcknhbmeofniaaGreatDoor
open Go.RowKit BT Go.Lib
section
def LM (W:Nat)(C:Nat→Prop)(mv:Value):Nat→Prop:=fun b=>C b∨MW W mv b
def E4 (b1 b2 b3 b4:Nat):Nat→Prop:=fun b=>b=b1∨b=b2∨b=b3∨b=b4
theorem SOk.ev {S M M':Nat→Prop}{w w':World}(h:SOk S M w)(he:EvM M M' w w'):SOk S M' w':=
 ⟨fun b hb=>zag (h.lt b hb) he.touch.size,fun b hb hm=>by
  rcases he.own b hm with h1|h1
  ·exact h.ap b hb h1
  ·have:=h.lt b hb;omega⟩
theorem WkM.touch {w w':World}{B W T:Nat}{mv:Value}{met:List Nat}{e:Int}{M:Nat→Prop}(h:WkM w B W T mv met e)(ht:Touch M w w')(hd:∀ b,M b→¬MW W mv b):WkM w' B W T mv met e:=
 ⟨(ht.block W h.lt (fun hm=>hd _ hm (.inl rfl))).trans h.nd,h.lo,h.own.touch ht (fun b hb hm=>hd _ hm (.inr hb)),h.mW⟩
theorem By.touchL {w w':World}{F:Nat→Prop}{A:Option Addr}{l:Bs}(h:By w A l)(ht:Touch F w w')(hA:∀ ad,A=some ad→0<l.length→¬F ad.block):By w' A l:=
 ⟨fun h0=>(h.touch ht (fun ad e=>hA ad e h0)).at_ h0⟩
structure LiS (J:(Nat→Prop)→List Pr→World→Prop) (a:PA) (G d T:Nat) (F:Nat→Prop) (p:Pl) (g:Pg) (root1 B W:Nat) (A:Option Addr) (n c:Nat) (lo:Bs) (l b1 b2 b3 b4:Nat) (C:Nat→Prop) (pre:List Pr) (met:List Nat) (mv:Value) (w:World):Prop where
 tr:TrB w B a G d T F p g root1
 wk:WkM w B W T mv met 0
 by_:By w A lo
 bB:∀ ad,A=some ad→0<lo.length→ad.block<B
 e1:w.heap[b1]?=some (.cells #[.pointer (some ⟨W,0,none⟩)] 168 (0,0))
 e2:w.heap[b2]?=some (.cells #[.slice A n c] 40 (0,0))
 e3:w.heap[b3]?=some (.cells #[.func (.func 132) #[] #[.pointer (some ⟨b1,0,none⟩),.pointer (some ⟨b2,0,none⟩),.pointer (some ⟨b3,0,none⟩),.pointer (some ⟨b4,0,none⟩)]] 231 (0,0))
 e4:w.heap[b4]?=some (.cells #[.func (.yield l) #[] #[]] 72 (0,0))
 CB:∀ b,C b→B≤b
 ap:∀ b,C b→b<w.heap.size∧¬MW W mv b∧¬E4 b1 b2 b3 b4 b
 eM:∀ b,E4 b1 b2 b3 b4 b→¬MW W mv b
 sz:B≤w.heap.size
 j:J C pre w
def qhE (B:Nat)(J:(Nat→Prop)→List Pr→World→Prop):Prop:=∀ C pre w w',J C pre w→Touch (fun b=>B≤b∧¬C b) w w'→J C pre w'
section
variable {J:(Nat→Prop)→List Pr→World→Prop} {a:PA} {G d T:Nat} {F:Nat→Prop} {p:Pl} {g:Pg} {root1 B W:Nat} {A:Option Addr} {n c:Nat} {lo:Bs} {l b1 b2 b3 b4:Nat} {C C':Nat→Prop} {pre pre':List Pr} {met met':List Nat} {mv mv':Value} {w w':World}
theorem LiS.lt (h:LiS J a G d T F p g root1 B W A n c lo l b1 b2 b3 b4 C pre met mv w):∀ b,E4 b1 b2 b3 b4 b→b<w.heap.size:=fun b hb=>by
 rcases hb with rfl|rfl|rfl|rfl
 ·exact(zaa.1 h.e1).1
 ·exact(zaa.1 h.e2).1
 ·exact(zaa.1 h.e3).1
 ·exact(zaa.1 h.e4).1
theorem LiS.ev (h:LiS J a G d T F p g root1 B W A n c lo l b1 b2 b3 b4 C pre met mv w)(hJ:qhE B J)(hw:WkM w' B W T mv' met' 0)(he:Ev W mv mv' w w'):LiS J a G d T F p g root1 B W A n c lo l b1 b2 b3 b4 C pre met' mv' w':=by
 have hm:=he.evm;have hk:∀ b,E4 b1 b2 b3 b4 b→w'.heap[b]?=w.heap[b]?:=fun b hb=>he.touch.block b (h.lt b hb) (h.eM b hb);refine⟨h.tr.ev h.wk he,hw,h.by_.touchL he.touch (fun ad e h0 hm=>?_),h.bB,(hk _ (.inl rfl)).trans h.e1,(hk _ (.inr (.inl rfl))).trans h.e2,(hk _ (.inr (.inr (.inl rfl)))).trans h.e3,(hk _ (.inr (.inr (.inr rfl)))).trans h.e4,h.CB,fun b hb=>?_,fun b hb hx=>?_,zam h.sz he.touch.size,hJ _ _ _ _ h.j (he.touch.mono (fun b _ hb=>⟨hb.elim (fun e=>by rw[e];exact h.wk.lo) (fun e=>(h.wk.own.blk b e).1),fun hc=>(h.ap b hc).2.1 hb⟩))⟩
 ·have:=h.bB ad e h0;rcases hm with hm|hm
  ·have:=h.wk.lo;omega
  ·have:=(h.wk.own.blk _ hm).1;omega
 ·obtain⟨q1,q2,q3⟩:=h.ap b hb;refine⟨zag q1 he.touch.size,fun hx=>?_,q3⟩;rcases hm.own b hx with h1|h1
  ·exact q2 h1
  ·omega
 ·rcases hm.own b hx with h1|h1
  ·exact h.eM b hb h1
  ·have:=h.lt b hb;omega
theorem LiS.below (h:LiS J a G d T F p g root1 B W A n c lo l b1 b2 b3 b4 C pre met mv w)(hJ:qhE B J)(hb:Below w.heap.size w w'):LiS J a G d T F p g root1 B W A n c lo l b1 b2 b3 b4 C pre met mv w':=
 h.ev hJ (h.wk.below hb) (Ev.below hb)
theorem LiS.ca (h:LiS J a G d T F p g root1 B W A n c lo l b1 b2 b3 b4 C pre met mv w)(he:EvM C C' w w')(hj:J C' pre' w'):LiS J a G d T F p g root1 B W A n c lo l b1 b2 b3 b4 C' pre' met mv w':=by
 have hk:∀ b,E4 b1 b2 b3 b4 b→w'.heap[b]?=w.heap[b]?:=fun b hb=>he.touch.block b (h.lt b hb) (fun hc=>(h.ap b hc).2.2 hb);refine⟨h.tr.touch he.touch h.CB,h.wk.touch he.touch (fun b hb=>(h.ap b hb).2.1),h.by_.touchL he.touch (fun ad e h0 hc=>?_),h.bB,(hk _ (.inl rfl)).trans h.e1,(hk _ (.inr (.inl rfl))).trans h.e2,(hk _ (.inr (.inr (.inl rfl)))).trans h.e3,(hk _ (.inr (.inr (.inr rfl)))).trans h.e4,fun b hb=>?_,fun b hb=>?_,h.eM,zam h.sz he.touch.size,hj⟩
 ·have:=h.bB ad e h0;have:=h.CB _ hc;omega
 ·rcases he.own b hb with h1|h1
  ·exact h.CB b h1
  ·exact zam h.sz h1.1
 ·rcases he.own b hb with h1|h1
  ·obtain⟨q1,q2,q3⟩:=h.ap b h1;exact⟨zag q1 he.touch.size,q2,q3⟩
  ·refine⟨h1.2,fun hm=>?_,fun hm=>?_⟩
   ·rcases hm with hm|hm
    ·have:=h.wk.lt;omega
    ·have:=(h.wk.own.blk _ hm).2;omega
   ·have:=h.lt b hm;omega
theorem qmN (C:Nat→Prop)(he:Ev W mv mv' w w'):EvM (LM W C mv) (LM W C mv') w w':=
 ⟨he.touch.mono (fun _ _ h=>.inr h),fun b hb=>by
  rcases hb with hb|hb
  ·exact .inl (.inl hb)
  ·rcases he.evm.own b hb with h1|h1
   ·exact .inl (.inr h1)
   ·exact .inr h1⟩
theorem qmZ (mv:Value)(he:EvM C C' w w'):EvM (LM W C mv) (LM W C' mv) w w':=
 ⟨he.touch.mono (fun _ _ h=>.inl h),fun b hb=>by
  rcases hb with hb|hb
  ·rcases he.own b hb with h1|h1
   ·exact .inl (.inl h1)
   ·exact .inr h1
  ·exact .inl (.inr hb)⟩
def LiF (J Jx:(Nat→Prop)→List Pr→World→Prop)(a:PA)(G d T:Nat)(F:Nat→Prop)(p:Pl)(g:Pg)(root1 B W:Nat)(A:Option Addr)(n c:Nat)(lo:Bs)(l b1 b2 b3 b4:Nat)(C:Nat→Prop)(pre:List Pr)(met:List Nat)(mv:Value)(its:List Pr)(pgl:List Nat)(w:World)(e:Ending)(w':World):Prop:=
 ∃ C' mv',EvM (LM W C mv) (LM W C' mv') w w'∧((e=.returned (.bool true)∧∃ m,LiS J a G d T F p g root1 B W A n c lo l b1 b2 b3 b4 C' (pre++its) (met++m) mv' w'∧(∀ q∈m,q∈pgl)∧m.length≤pgl.length)∨
  (e=.returned (.bool false)∧(∃ q,q <+: its∧Jx C' (pre++q) w')∧∃ met',WkM w' B W T mv' met' 0∧∀ b,C' b→¬MW W mv' b))
def LiY (J Jx:(Nat→Prop)→List Pr→World→Prop)(l:Nat)(N:List Pr):Prop:=
 ∀ (m:Nat) C pre (x:Pr) (KA VA:Option Addr) (kc vc:Nat) w,J C pre w→pre++[x] <+: N→By w KA x.1→By w VA x.2→x.1.length≤kc→x.2.length≤vc→
  YieldAt Fence.wide m Tryz.prog l #[.slice KA x.1.length kc,.slice VA x.2.length vc] w fun e w'=>
   ∃ C' b,e=.returned (.bool b)∧EvM C C' w w'∧(b=true→J C' (pre++[x]) w')∧(b=false→Jx C' (pre++[x]) w')
end
end
section
theorem qfK {D:Dsk}{h:Nat}{ks:List Bs}{xs:List Kd}(lo:Bs)(hb:Body D (h+1) (.inner ks xs))(hs:Srt (xs.flatMap (itemsK D h))) :
  (xs.flatMap (itemsK D h)).filter (geB lo)=((xs.drop (down ks lo)).flatMap (itemsK D h)).filter (geB lo):=by
 obtain⟨ks',xs',e,l1,k1,s1,x1⟩:=hb;obtain⟨rfl,rfl⟩:=Kd.inner.inj e;have Ha:∀ y∈xs,itemsK D h y≠[]:=fun y hy=>WF.ne (x1 y hy);obtain⟨hL,-⟩:=qiY (key:=lo) l1 s1 Ha hs
 conv=>lhs;rw[←zay (down ks lo) xs]
 rw[zaK,zbv];have:((xs.take (down ks lo)).flatMap (itemsK D h)).filter (geB lo)=[]:=zcG.2 (fun q hq=>by simp[geB,hL q hq]);rw[this,zaI]
structure LiR (D:Dsk) (h:Nat) (rest:List Kd) (met:List Nat):Prop where
 wf:∀ x∈rest,WF D h x
 srt:Srt (rest.flatMap (itemsK D h))
 nodup:(rest.flatMap (pgs D h)).Nodup
 out:∀ q∈rest.flatMap (pgs D h),q∉met
 len:met.length+(rest.flatMap (pgs D h)).length≤450
theorem LiR.head {D:Dsk}{h:Nat}{x:Kd}{rest:List Kd}{met:List Nat}(r:LiR D h (x::rest) met):WF D h x∧Srt (itemsK D h x)∧(pgs D h x).Nodup∧(∀ q∈pgs D h x,q∉met)∧met.length+(pgs D h x).length≤450:=by
 have h2:=r.srt;have h3:=r.nodup;have h4:=r.out;have h5:=r.len;simp only[zat]at h2 h3 h4 h5;rw[zaf]at h5;refine⟨r.wf x (by simp),?_,(za2.1 h3).1,fun q hq=>h4 q (za6 _ hq),by omega⟩;exact(zbn.1 h2).1
theorem LiR.tail {D:Dsk}{h:Nat}{x:Kd}{rest:List Kd}{met m:List Nat}(r:LiR D h (x::rest) met)(hm:∀ q∈m,q∈pgs D h x)(hl:m.length≤(pgs D h x).length):LiR D h rest (met++m):=by
 have h2:=r.srt;have h3:=r.nodup;have h4:=r.out;have h5:=r.len;simp only[zat]at h2 h3 h4 h5;rw[zaf]at h5;have hn:=za2.1 h3;refine⟨fun y hy=>r.wf y (by simp[hy]),?_,hn.2.1,fun q hq hin=>?_,by rw[zaf];omega⟩
 ·exact(zbn.1 h2).2.1
 ·rcases zar.1 hin with h6|h6
  ·exact h4 q (zaS _ hq) h6
  ·exact hn.2.2 q (hm q h6) q hq rfl
theorem LiR.start {D:Dsk}{h:Nat}{ks:List Bs}{xs:List Kd}{met:List Nat}(i:Nat)(hb:Body D (h+1) (.inner ks xs))(hs:Srt (xs.flatMap (itemsK D h)))(hn:(xs.flatMap (pgs D h)).Nodup)(ho:∀ q∈xs.flatMap (pgs D h),q∉met)(hl:met.length+(xs.flatMap (pgs D h)).length≤450):LiR D h (xs.drop i) met:=by
 obtain⟨ks',xs',e,l1,k1,s1,x1⟩:=hb;obtain⟨rfl,rfl⟩:=Kd.inner.inj e;rw[←zay i xs,zaK]at hs hn ho hl;rw[zaf]at hl;exact⟨fun x hx=>x1 x (zbm hx),(zbn.1 hs).2.1,(za2.1 hn).2.1,fun q hq=>ho q (zaS _ hq),by omega⟩
section
variable {J Jx:(Nat→Prop)→List Pr→World→Prop} {a:PA} {G d T:Nat} {F:Nat→Prop} {p:Pl} {g:Pg} {root1 B W:Nat} {A:Option Addr} {n c:Nat} {lo:Bs} {l b1 b2 b3 b4:Nat}
theorem qlo {C:Nat→Prop}{pre N:List Pr}{met:List Nat}{mv:Value}{w:World}{D:Dsk}{h q:Nat}{ks:List Bs}{xs:List Kd}(hD:qax (p.seen d) g.pages g.use=D)(hoff:p.off=false)(hJ:qhE B J)(hln:lo.length=n)(hS:LiS J a G d T F p g root1 B W A n c lo l b1 b2 b3 b4 C pre met mv w)
  (hq:D q=some (.inner ks xs))(hb:Body D (h+1) (.inner ks xs))(hz:qaz (.inner ks xs)≤500)(hs:Srt (xs.flatMap (itemsK D h)))(hn:(xs.flatMap (pgs D h)).Nodup)(ho:∀ r∈xs.flatMap (pgs D h),r∉met++[q])(hm:q∉met)(hl:met.length+(xs.flatMap (pgs D h)).length≤449)(hN:pre++(xs.flatMap (itemsK D h)).filter (geB lo) <+: N)
  (IH:∀ (q:Nat) (C:Nat→Prop) (pre:List Pr) (met:List Nat) (mv:Value) (w:World),WF D h (.page q)→Srt (itemsK D h (.page q))→(pgs D h (.page q)).Nodup→(∀ r∈pgs D h (.page q),r∉met)→met.length+(pgs D h (.page q)).length≤450→pre++(itemsK D h (.page q)).filter (geB lo) <+: N→LiS J a G d T F p g root1 B W A n c lo l b1 b2 b3 b4 C pre met mv w→
   Calls Tryz.prog 132 #[.agg #[.int .i64 (q:Nat),.pointer none],.pointer (some ⟨b1,0,none⟩),.pointer (some ⟨b2,0,none⟩),.pointer (some ⟨b3,0,none⟩),.pointer (some ⟨b4,0,none⟩)] w (LiF J Jx a G d T F p g root1 B W A n c lo l b1 b2 b3 b4 C pre met mv ((itemsK D h (.page q)).filter (geB lo)) (pgs D h (.page q)) w)) :
  Calls Tryz.prog 132 #[.agg #[.int .i64 (q:Nat),.pointer none],.pointer (some ⟨b1,0,none⟩),.pointer (some ⟨b2,0,none⟩),.pointer (some ⟨b3,0,none⟩),.pointer (some ⟨b4,0,none⟩)] w
   (LiF J Jx a G d T F p g root1 B W A n c lo l b1 b2 b3 b4 C pre met mv ((xs.flatMap (itemsK D h)).filter (geB lo)) (q::xs.flatMap (pgs D h)) w):=by
 have Hs:Below w.heap.size w (w.alloc (.cells #[.int .i64 (q:Int),.pointer none] 222)):=zB _ _;have He:=zH (hS.below hJ Hs);have g1:w.cell? ⟨b1,0,none⟩=some (.pointer (some ⟨W,0,none⟩)):=zC hS.e1;have l1:=hS.lt b1 (.inl rfl);have HS:=zH hS;have HY:=zH IH;have HB:=zH hb;have Hj:=zH hs;have H1:=zH hn;have HO:=zH ho;have H2:=zH hN;have HZ:=zH hz;have Hm:=zH (qg5 He.o.tr He.o.wk He.o.sz hoff (by rw[hD];exact hq) hm (by omega));unfold LdF at Hm;have HA:=zH Hs;clear hS IH hb hs hn ho hN hz Hs;go_enter Tryz.func132,Tryz.ntmps132
 go_upto_if 17 with(go_at_call 126;refine Hm.o.mono ?_;rintro e w2 ⟨N2,L2,mv2,rfl,hwk,hev,hnm,-⟩)
 have Ht:=hev;simp only[NM]at hnm;obtain⟨hSN,K,ck,V,cv,X,cx,vk,vs,L',hnc,hsk,hrk,hsx,hkm,-⟩:=hnm;have Ho:=zH (He.o.ev hJ hwk hev);have H7:Below w.heap.size w w:=zai _ _;have HN:EvM (LM W C mv) (LM W C mv2) w w2:=(EvM.below HA.o).trans (qmN C hev);have Hq:SOk (FrN W mv2 (w.alloc (.cells #[.int .i64 (q:Int),.pointer none] 222)) w2) (LM W C mv2) w2:=⟨fun b hb=>hb.2.1,fun b hb hm=>by
  rcases hm with hm|hm|hm
  ·have h1:=(He.o.ap b hm).1;have h2:=hb.1;omega
  ·exact hb.2.2.1 hm
  ·exact hb.2.2.2 hm⟩
 generalize FrN W mv2 (w.alloc (.cells #[.int .i64 (q:Int),.pointer none] 222)) w2=S2 at hSN hsk hrk hsx hkm Hq;have HL:=zH Hq;have HD:=zH HN;have H0:=zH hkm;obtain⟨i,hi⟩:∃ i,down ks lo=i:=⟨_,rfl⟩;obtain⟨nk,hnk⟩:∃ i,ks.length=i:=⟨_,rfl⟩;obtain⟨nx,hnx⟩:∃ i,xs.length=i:=⟨_,rfl⟩;obtain⟨hpw,hlx,hflat⟩:ks.Pairwise (fun a b=>blt a b=true)∧xs.length=ks.length+1∧∀ x∈xs,∃ r,x=.page r:=by
  obtain⟨ks',xs',e,l1,k1,s1,x1⟩:=HB.o;obtain⟨rfl,rfl⟩:=Kd.inner.inj e;have he:∀ y∈xs,itemsK D h y≠[]:=fun y hy=>WF.ne (x1 y hy);refine⟨(qgw l1 s1 he Hj.o).2,l1,fun x hx=>?_⟩;rw[←hD]at hq;obtain⟨r,e,_⟩:=qfx hq x hx;exact⟨r,e⟩
 have HV:=HZ.o;have Hi:=qj5 ks;have Hh:=(qcy ks lo).1;rw[hi,hnk]at Hh;rw[hnk]at hnc hsk Hi hlx;rw[hnx]at hnc hsx hlx;have hf:nk≤500:=by simp only[qaz]at HV;omega
 have HP:i<nx:=by omega
 obtain⟨xb,xo,rfl,hSb,hxat⟩:=hsx.at_ (by omega);have g2:w2.cell? ⟨b2,0,none⟩=some (.slice A n c):=zC Ho.o.e2;have c0:=hnc.c0;have c3:=hnc.c3;have Hl:=zH (qjT hnc c hsk hrk hnk hpw Ho.o.by_ hln (by omega));unfold DnF at Hl;rw[hi]at Hl;obtain⟨ik,hik,-,hiz,-⟩:=zaY qhU;obtain⟨XA,hXA,SL⟩:=qdA (P:=Tryz.prog) (size:=2) Tryz.underlying223 hik hiz xb xo nx cx i (by omega) hnc.hx;have Hr:=hXA HP;subst Hr;have Hf:=zH hxat;have HJ:=zH hnc;have H6:=qaq c0;have hd:min (i:Int) (nx:Int)=(i:Int):=by omega
 have H8:(i:Int)≤(nx:Int):=by omega
 have hg:nx≤501:=by omega
 clear hlx Hh;clear hpw Hi HV hsk hrk hsx hkm hnc hxat hXA Hq HN Hm hev Ht hwk H7 hq hnk HA;go_upto_region 7 with(go_at_call 127;refine Hl.o.mono ?_;rintro e w3 ⟨rfl,rfl⟩)
 go_region
 have HK:=zH (LiR.start (met:=met++[q]) i HB.o Hj.o H1.o HO.o (by rw[zaf,zb7];omega));obtain⟨ys,hys⟩:∃ ys,xs.drop i=ys:=⟨_,rfl⟩;rw[hys]at HK;obtain⟨ny,hny⟩:∃ k,nx-i=k:=⟨_,rfl⟩;obtain⟨xi,hxi⟩:∃ k,xo+i*2=k:=⟨_,rfl⟩;have hh:ny≤501:=by omega
 have HW:ys.length=ny:=by rw[←hys,zap,hnx,hny]
 have Hg:=zH hys;have Hp:=zH HW;have hp:=zH hnx;have HI:=zH hi;have ht:=zH hny;have H5:=zH hxi;go_wp2_with fail
 rw[hny,hxi];clear hys HW hnx hny hxi hi hd H8 HP SL H6;go_loopw [39] (fun s39 wr=>∃ (j:Nat) (C2:Nat→Prop) (m:List Nat) (mv3:Value),s39=.int .i64 j∧j≤ny∧EvM (LM W C mv2) (LM W C2 mv3) w2 wr∧LiS J a G d T F p g root1 B W A n c lo l b1 b2 b3 b4 C2 (pre++((ys.take j).flatMap (itemsK D h)).filter (geB lo)) (met++[q]++m) mv3 wr∧LiR D h (ys.drop j) (met++[q]++m)∧(∀ r∈m,r∈xs.flatMap (pgs D h))∧m.length≤((ys.take j).flatMap (pgs D h)).length) (fun s39 _=>ny-(RowKit.intOf s39).toNat)
 case atStart=>
  refine⟨0,C,[],mv2,rfl,zbO _,(EvM.refl _ _).trans (EvM.below ((zai _ _).drew)),?_,?_,fun r hr=>(by cases hr),zad _⟩
  ·simp only[zbT,zbQ,zcC,zaP];exact Ho.o.below hJ ((zai _ _).drew)
  ·simp only[zaP,zbS];exact HK.o
 case round=>
  rename World=>wr;obtain⟨j,C2,m,mv3,rfl,hj,hem,hst,hli,hmm,hml⟩:=hrel;have Ha:=zH hem;have Hk:=zH hst;have Hn:=zH hli;have HH:=zH hmm;have HG:=zH hml;clear hem hst hli hmm hml;by_cases hjn:j<ny
  ·have Hx:j<ys.length:=by rw[Hp.o];exact hjn
   have Hb:ys.drop j=ys[j]::ys.drop (j+1):=(za8 ..).symm;obtain⟨q2,hq2⟩:=hflat ys[j] (by
    have:ys[j]∈xs.drop i:=by rw[Hg.o];exact zbi ..
    exact zbm this)
   have Hz:xs[i+j]?=some (.page q2):=by
    rw[←hq2,←zaJ,Hg.o];exact zab Hx
   obtain⟨v0,L0,hv0,hk0,-⟩:=qlT H0.o Hz;obtain rfl:v0=((q2:Int),none):=by
    rcases hk0 with⟨p',hp',e,_⟩|⟨N',_,hN'⟩
    ·cases hp';exact e
    ·simp only[NM]at hN'
   obtain⟨oj,hoj⟩:∃ o,xi+j*2=o:=⟨_,rfl⟩;have Hc:xo+(i+j)*2=oj:=by have:=H5.o;omega
   have gk:∀ k v,w2.cell? ⟨xb,k,none⟩=some v→wr.cell? ⟨xb,k,none⟩=some v:=fun k v hc=>(qaj Ha.o.touch (qaq hc) (HL.o.ap _ hSb)).trans hc;have x0:wr.cell? ⟨xb,oj,none⟩=some (.int .i64 (q2:Int)):=gk _ _ (by rw[←Hc];exact Hf.o _ _ (qjb hv0));have x1:wr.cell? ⟨xb,oj+1,none⟩=some (.pointer none):=gk _ _ (by rw[←Hc,zcD];exact Hf.o _ _ (qjc hv0));have g3:wr.cell? ⟨b3,0,none⟩=some (.func (.func 132) #[] #[.pointer (some ⟨b1,0,none⟩),.pointer (some ⟨b2,0,none⟩),.pointer (some ⟨b3,0,none⟩),.pointer (some ⟨b4,0,none⟩)]):=zC Hk.o.e3;have l3:=Hk.o.lt b3 (.inr (.inr (.inl rfl)));have hA:=qaq x0;have hw:(j:Int)<(ny:Int):=by omega
   have hu:(0:Int)≤(j:Int):=by omega
   clear hv0 hk0 gk;have Hy:Below wr.heap.size wr (wr.alloc (.cells #[.int .i64 (q2:Int),.pointer none] 222)):=zB _ _;rw[Hb,hq2]at Hn;obtain⟨y1,y2,y3,y4,y5⟩:=Hn.o.head;have Hu:((ys.take (j+1)).flatMap (itemsK D h)).filter (geB lo)=((ys.take j).flatMap (itemsK D h)).filter (geB lo)++(itemsK D h (.page q2)).filter (geB lo):=by
    rw[List.take_add_one,zab Hx,hq2];simp only[Option.toList_some,zaK,zbv,zat,zbQ,zaP]
   have Hv:((ys.take (j+1)).flatMap (itemsK D h)).filter (geB lo) <+: (xs.flatMap (itemsK D h)).filter (geB lo):=by
    rw[qfK lo HB.o Hj.o,HI.o,Hg.o]
    conv=>rhs;rw[←zay (j+1) ys]
    rw[zaK,zbv];exact⟨_,rfl⟩
   have HR:(pre++((ys.take j).flatMap (itemsK D h)).filter (geB lo))++(itemsK D h (.page q2)).filter (geB lo) <+: N:=by
    rw[zah,←Hu];exact((zcl pre).2 Hv).trans H2.o
   have HT:((ys.take (j+1)).flatMap (pgs D h)).length=((ys.take j).flatMap (pgs D h)).length+(pgs D h (.page q2)).length:=by
    rw[List.take_add_one,zab Hx,hq2];simp only[Option.toList_some,zaK,zaf,zat,zbQ,zaP]
   have HU:∀ r∈pgs D h (.page q2),r∈xs.flatMap (pgs D h):=fun r hr=>za4.2 ⟨_,zak (show xs[i+j]?=some (.page q2)from Hz),hr⟩;have HC:=zH (HY.o q2 C2 _ _ mv3 _ y1 y2 y3 y4 y5 HR (Hk.o.below hJ Hy));unfold LiF at HC;have HE:=zH Hu;have HX:=zH Hv;have H3:=zH HT;have H4:=zH HU;have HM:=zH Hy;clear Hz y1 y2 y3 y4 y5 Hu Hv HR HT HU Hy Hb hq2 Hc;go_wp2_with (go_at_call 132;refine HC.o.mono ?_;rintro e w5 ⟨C3,mv4,hem3,(⟨rfl,m4,hst4,hm4,hml4⟩|⟨rfl,⟨qq,hqq,hjx⟩,hwx⟩)⟩)
   ·have ha:=HH.o;refine⟨⟨j+1,C3,m++m4,mv4,by go_num,by omega,(Ha.o.trans (EvM.below HM.o)).trans hem3,?_,?_,fun r hr=>?_,?_⟩,by simp[RowKit.intOf];omega⟩
    ·rw[HE.o,←zah,←zah];exact hst4
    ·rw[←zah];exact Hn.o.tail hm4 hml4
    ·rcases zar.1 hr with h6|h6
     ·exact ha r h6
     ·exact H4.o r (hm4 r h6)
    ·have:=HG.o;have:=H3.o;rw[zaf];omega
   ·go_ret;have h5:=HX.o;rw[HE.o]at h5;refine⟨C3,mv4,((HD.o.trans Ha.o).trans (EvM.below HM.o)).trans hem3,.inr ⟨rfl,⟨_,List.IsPrefix.trans ((zcl _).2 hqq) h5,?_⟩,hwx⟩⟩;rw[←zah];exact hjx
  ·have Hw:¬((j:Int)<(ny:Int)):=by omega
   have H9:decide ((j:Int)<(ny:Int))=false:=zan Hw;have g5:wr.cell? ⟨N2,2,none⟩=some (.slice V 0 cv):=(qaj Ha.o.touch (qaq HJ.o.c2) (HL.o.ap _ hSN)).trans HJ.o.c2;have HQ:j=ny:=by omega
   have HF:=zH HQ;clear HQ;go_wp2;go_loopw [53] (fun s wx=>s=.int .i64 0∧wx=wr) (fun _ _=>0)
   case atStart=>exact⟨rfl,rfl⟩
   case round=>
    obtain⟨rfl,rfl⟩:=hrel;go_wp2;go_ret;refine⟨C2,mv3,HD.o.trans Ha.o,.inl ⟨rfl,[q]++m,?_,fun r hr=>?_,?_⟩⟩
    ·rw[←zah,qfK lo HB.o Hj.o,HI.o,Hg.o];have h5:=Hk.o;rw[HF.o,←Hp.o,zbA]at h5;exact h5
    ·rcases zar.1 hr with h6|h6
     ·rw[za1.1 h6];simp
     ·exact zba _ (HH.o r h6)
    ·have h5:=HG.o;have h6:((ys.take j).flatMap (pgs D h)).length≤(xs.flatMap (pgs D h)).length:=by
      rw[HF.o,←Hp.o,zbA,←Hg.o]
      conv=>rhs;rw[←zay i xs]
      rw[zaK,zaf];omega
     rw[zaf,zb7,zal];omega
end
end
end Go.Proofs.YtfcknhbmeofniaaGreatDoor
namespace Go.Proofs.YtfcknhbmeofniaaGreatDoor
section
section
variable {n:Nat} {P:Program} {ops:Array Oper} {Q:Exit→Act→World→Prop} {md:Region.Mode} {S:World→Prop}
theorem qf1 {i:Nat}{o:Oper}{v:Value}{a:Act}(hi:ops[i]?=some o)(hy:YieldsIf P ops S o v a)
  {K:Act→World→Prop}{w:World}(hS:S w)(h:K (a.put o.dst v) w):wpOpIn Fence.wide n P ops Q i K a w:=by
 unfold Go.wpOpIn;simp only[hi];rcases hy with⟨hw,hv⟩|⟨hw,rfl⟩
 ·simp only[hw,zb5,Oper.wpIn,show Fence.wide.round=none from rfl,Oper.semAt_none,hv w hS,Oper.uponIn];exact⟨fun _ _=>trivial,h⟩
 ·simp only[hw,zbY,zcP];exact⟨fun _ _=>trivial,h⟩
theorem qhB {j:Nat}{oi oj:Oper}{v:Value}(hj:ops[j]?=some oj)(hap:oi.apart ops oj=true)
  (hsi:∀ cs b,oi.op≠.select cs b)(hsj:∀ cs b,oj.op≠.select cs b)
  (hQ:∀ c a w,Q (.panic c) (a.put oi.dst v) w→Q (.panic c) a w){K:Act→World→Prop}{a:Act}{w:World}
  (hy:YieldsIf P ops S oi v a)(h:wpOpIn Fence.wide n P ops Q j K (a.put oi.dst v) w) :
  wpOpIn Fence.wide n P ops Q j (fun a' w'=>YieldsIf P ops S oi v a'∧K (a'.put oi.dst v) w') a w:=by
 obtain⟨h1,h2,h3⟩:=Oper.apart_spec hap;have keep:∀ (a:Act),YieldsIf P ops S oi v a→∀ u,YieldsIf P ops S oi v (a.put oj.dst u):=fun a hy u=>
  hy.of_same (execOp_put oi hsi a oj.dst u h3) (wanted_put oi a oj.dst u h3)
 have Ha:∀ d,YieldsIf P ops S oi v { a with defers:=d::a.defers }:=fun d=>hy.of_same rfl rfl;unfold Go.wpOpIn at *;simp only[hj]at *;rw[wanted_put oj a oi.dst v h1]at h;split
 ·rename_i hw;simp only[hw,zb5]at h;unfold Oper.wpIn at *;refine⟨fun _ _=>trivial,?_⟩;have h:=h.2;rw[show Fence.wide.round=none from rfl,Oper.semAt_none,execOp_put oj hsj a oi.dst v h1]at h;rw[show Fence.wide.round=none from rfl,Oper.semAt_none];generalize (execOp a.eval oj).run P w=r at *;cases r with
  | ok x w'=>
   cases x<;>simp only[Oper.uponIn]at h⊢
   case value u=>exact⟨keep a hy u,by rw[←zcB a v u h2];exact h⟩
   case skip=>exact⟨keep a hy _,by rw[←zcB a v undef h2];exact h⟩
   case defer d=>
    refine⟨keep _ (Ha d) _,?_⟩;rw[←zcB _ v undef h2,←Act.put_defers];exact h
   case enter f args=>
    refine⟨h.1,CallsIn.mono h.2 fun e w'' he=>?_⟩;cases e with
    | returned u=>exact⟨keep a hy u,by rw[←zcB a v u h2];exact he⟩
    | panicked c=>exact hQ _ _ _ he
    | outgrown=>exact he
   case row row args=>exact⟨h.1,RowsIn.mono h.2 fun u w'' he=>⟨keep a hy u,by rw[←zcB a v u h2];exact he⟩⟩
   case round l f tmps assign body=>
    refine⟨h.1,RoundIn.mono h.2 fun e w'' he=>?_⟩;cases e with
    | returned u=>exact⟨keep a hy u,by rw[←zcB a v u h2];exact he⟩
    | panicked c=>exact hQ _ _ _ he
    | outgrown=>exact he
  | halt x w'=>
   cases x<;>simp only[Oper.uponIn]at h⊢
   case panic u=>exact hQ _ _ _ h
 ·rename_i hw;simp only[hw]at h;exact⟨fun _ _=>trivial,keep a hy _,by rw[←zcB a v undef h2];exact h.2⟩
def qbz (n:Nat)(P:Program)(md:Region.Mode)(ops:Array Oper)(Q:Exit→Act→World→Prop)(S:World→Prop)(st:List Nat):Nat→Array Bool→Act→World→Prop
 | 0,l,a,w=>Region.ready md ops l=[]∧Q .normal a w
 | f+1,l,a,w=>(Region.ready md ops l=[]→Q .normal a w)∧∀ i∈Region.ready md ops l,wpOpIn Fence.wide n P ops Q i (fun a' w'=>Gate st (l.setIfInBounds i true) S w'∧qbz n P md ops Q S st f (l.setIfInBounds i true) a' w') a w
theorem qcL (st:List Nat):∀ (f:Nat) (l:Array Bool) (a:Act) (w:World),qbz n P md ops Q S st f l a w→wpAnyIn Fence.wide n P md ops Q f l a w
 | 0,_,_,_,h=>h
 | f+1,_,_,_,h=>⟨h.1,fun i hi=>wpOpIn_mono (fun a' w' h'=>qcL st f _ a' w' h'.2) (h.2 i hi)⟩
theorem qeU {st:List Nat}{S':World→Prop}{Good:Array Bool→Prop}{i:Nat}{oi:Oper}{v:Value}(hi:ops[i]?=some oi)(hns:Region.noSelect ops=true)(hist:i∉st)
  (hQ:∀ c a w,Q (.panic c) (a.put oi.dst v) w→Q (.panic c) a w)
  (hup:∀ l w,Good l→Gate st l S w→S' w)(hgood:∀ l j,Good l→i∈Region.ready md ops l→j∈Region.ready md ops l→j≠i→Good (l.setIfInBounds j true)) :
  ∀ (f:Nat) (l:Array Bool) (a:Act) (w:World),Region.free md ops l i=true→i∈Region.ready md ops l→Good l→YieldsIf P ops S' oi v a→Gate st l S w→qbz n P md ops Q S st f (l.setIfInBounds i true) (a.put oi.dst v) w→qbz n P md ops Q S st (f+1) l a w:=by
 have Hb:=Region.noSelect_spec hns;have Ha:∀ {l:Array Bool} {w:World},Gate st l S w→Gate st (l.setIfInBounds i true) S w:=fun {l w} h h0=>h fun s hs=>by
  have:=h0 s hs
  rwa [zcg true (fun e=>hist (by rw[e];exact hs))]at this
 intro f
 induction f with
 | zero=>
  intro l a w hf hr hg hy hS H;refine⟨fun h=>(by rw[h]at hr;cases hr),fun j hj=>?_⟩;by_cases e:j=i
  ·subst e;exact qf1 hi hy (hup _ _ hg hS) ⟨Ha hS,H⟩
  ·have h2:=ready_mono hj e;rw[H.1]at h2;cases h2
 | succ f ih=>
  intro l a w hf hr hg hy hS H;refine⟨fun h=>(by rw[h]at hr;cases hr),fun j hj=>?_⟩;by_cases e:j=i
  ·subst e;exact qf1 hi hy (hup _ _ hg hS) ⟨Ha hS,H⟩
  ·obtain⟨hju,oj,hoj,hall⟩:=zcv.1 hj;have Hf:∀ x∈oj.after,Region.binds md x=true→x.on≠i:=fun x hx hb he=>by
    have h1:=hall x hx hb;have h0:=(zcv.1 hr).1;rw[he]at h1;rcases zcc i l.size with h3|h3
    ·simp[h3]at h0 h1;rw[h0]at h1;cases h1
    ·simp[zaZ h3]at h1
   have h1:=H.2 j (ready_mono hj e);have h2:=qhB hoj (Region.free_spec hi hf j oj hoj e hju Hf) (fun cs b=>Hb i oi cs b hi) (fun cs b=>Hb j oj cs b hoj) hQ hy h1;refine wpOpIn_mono (fun a' w' h3=>?_) h2;rw[Array.setIfInBounds_comm _ _ (fun h=>e h.symm)]at h3;have hG:Gate st (l.setIfInBounds j true) S w':=qfD hist h3.2.1;refine⟨hG,ih _ a' w' ?_ (ready_mono hr (Ne.symm e)) (hgood l j hg hr hj e) h3.1 hG h3.2.2⟩;have Hc:∀ k,k<ops.size→(k==i||(l.setIfInBounds j true).getD k true||match ops[k]? with
     | some ok=>ok.after.any (fun e=>Region.binds md e&&e.on==i)||oi.apart ops ok
     | none=>true)=true:=fun k hk=>by
    have h4:=hf;simp only[Region.free,hi,zbq,za9]at h4;have h5:=h4 k hk;by_cases ek:j=k
    ·subst ek;have He:j<l.size:=by
      rcases zcc j l.size with h6|h6
      ·exact h6
      ·simp[zaZ h6]at hju
     simp[zck,He]
    ·rw[zcg true ek];exact h5
   simp only[Region.free,hi,zbq,za9];exact Hc
theorem qcc {st:List Nat}{i:Nat}{oi:Oper}(dd:Option Nat){v:Value}{f:Nat}{l:Array Bool}{a:Act}{w:World}(hi:ops[i]?=some oi)(hd:oi.dst=dd)
  (hs:Region.noSelect ops=true)(hf:Region.free md ops l i=true)(hr:(Region.ready md ops l).contains i=true)(hg:qgQ md ops l st i=true)
  (hQ:∀ c a w,Q (.panic c) (a.put dd v) w→Q (.panic c) a w)(hy:YieldsIf P ops S oi v a)(hS:Gate st l S w)
  (h:qbz n P md ops Q S st f (l.setIfInBounds i true) (a.put dd v) w):qbz n P md ops Q S st (f+1) l a w:=by
 subst hd;simp only[qgQ,zbq,zaQ,bne_iff_ne,zb3]at hg;refine qeU (S':=S) (Good:=fun l=>∀ s∈st,l.getD s true=false) hi hs (fun h0=>(hg i h0).1.1 rfl) hQ (fun l w h0 h1=>h1 h0) (fun l j h0 hri hrj hji s hs2=>?_) f l a w hf (by simpa using hr) (fun s hs2=>(hg s hs2).1.2) hy hS h;by_cases e:j=s
 ·subst e;exfalso;have h3:=(hg j hs2).2;obtain⟨_,oj,hoj,hall⟩:=zcv.1 hrj;rw[hoj]at h3;simp only[List.any_eq_true,zaQ,zbZ]at h3;obtain⟨x,hx,hb,hxi⟩:=h3;have h1:=hall x (Array.mem_toList_iff.1 hx) hb;have h2:=(zcv.1 hri).1;rw[hxi]at h1;rcases zcc i l.size with h4|h4
  ·simp[h4]at h1 h2;rw[h2]at h1;cases h1
  ·simp[zaZ h4]at h1
 ·rw[zcg true e];exact h0 s hs2
theorem qav {st:List Nat}{i:Nat}{oi:Oper}(dd:Option Nat){v:Value}{f:Nat}{l:Array Bool}{a:Act}{w:World}(hi:ops[i]?=some oi)(hd:oi.dst=dd)
  (hs:Region.noSelect ops=true)(hf:Region.free md ops l i=true)(hr:(Region.ready md ops l).contains i=true)(hg:st.contains i=false)
  (hQ:∀ c a w,Q (.panic c) (a.put dd v) w→Q (.panic c) a w)(hy:YieldsIf P ops (fun _=>True) oi v a)(hS:Gate st l S w)
  (h:qbz n P md ops Q S st f (l.setIfInBounds i true) (a.put dd v) w):qbz n P md ops Q S st (f+1) l a w:=by
 subst hd;exact qeU (S':=fun _=>True) (Good:=fun _=>True) hi hs (by simpa using hg) hQ (fun _ _ _ _=>trivial) (fun _ _ _ _ _ _=>trivial) f l a w hf (by simpa using hr) trivial hy hS h
def AllReadyGI (n:Nat)(P:Program)(md:Region.Mode)(ops:Array Oper)(Q:Exit→Act→World→Prop)(S:World→Prop)(st:List Nat)(f:Nat)(l:Array Bool)(a:Act)(w:World)(rs:List Nat):Prop:=
 ∀ i∈rs,wpOpIn Fence.wide n P ops Q i (fun a' w'=>Gate st (l.setIfInBounds i true) S w'∧qbz n P md ops Q S st f (l.setIfInBounds i true) a' w') a w
theorem AllReadyGI.nil {st:List Nat}{f:Nat}{l:Array Bool}{a:Act}{w:World}:AllReadyGI n P md ops Q S st f l a w []:=fun _ h=>by cases h
theorem AllReadyGI.cons {st:List Nat}{f:Nat}{l:Array Bool}{a:Act}{w:World}{i:Nat}{o:Oper}{rs:List Nat}(ho:ops[i]?=some o)
  (h:∀ K':Act→World→Prop,Shut (∀ a w,Gate st (l.setIfInBounds i true) S w→(Gate st (l.setIfInBounds i true) S w→qbz n P md ops Q S st f (l.setIfInBounds i true) a w)→K' a w)→if Region.wanted o (yielded ops a.tmps)=true then Oper.wpIn Fence.wide n P o a w K' Q else(∀ f,o.about P w a.eval=some f→Fence.wide.fn f)∧K' (a.put o.dst undef) w)
  (hs:AllReadyGI n P md ops Q S st f l a w rs):AllReadyGI n P md ops Q S st f l a w (i::rs):=fun j hj=>by
 rcases zaB.1 hj with rfl|hj
 ·exact wpOpIn_step ho (fun K' hK=>h K' (fun a w hS hW=>hK a w ⟨hS,hW hS⟩))
 ·exact hs j hj
theorem qdH {st:List Nat}{rs:List Nat}{f:Nat}{l:Array Bool}{a:Act}{w:World}(hr:Region.ready md ops l=rs)(hne:rs≠[])(h:AllReadyGI n P md ops Q S st f l a w rs):qbz n P md ops Q S st (f+1) l a w:=
 ⟨fun h0=>absurd (hr▸h0) hne,hr▸h⟩
theorem qhy {st:List Nat}{l:Array Bool}{a:Act}{w:World}(hr:Region.ready md ops l=[])(h:Q .normal a w):∀ f,qbz n P md ops Q S st f l a w
 | 0=>⟨hr,h⟩
 | _+1=>⟨fun _=>h,by rw[hr];simp⟩
theorem qey (st:List Nat){id:Nat}{a:Act}{w:World}(hm:P.follows .mixedOrders=true)(hS:S w.drew)
  (h:Gate st (Array.replicate ops.size false) S w.drew→qbz n P .any ops Q S st ops.size (Array.replicate ops.size false) a w.drew):(Code.region id ops true).wpIn Fence.wide n P Q a w:=
 wpIn_region_any hm (qcL st _ _ _ _ (h fun _=>hS))
theorem AllReadyGI.ev {st:List Nat}{f:Nat}{l:Array Bool}{a:Act}{w:World}{i:Nat}{o:Oper}{rs:List Nat}(dd:Option Nat)(ho:ops[i]?=some o)(hd:o.dst=dd)
  (h:∀ K':Act→World→Prop,Shut (∀ v w,Gate st (l.setIfInBounds i true) S w→(Gate st (l.setIfInBounds i true) S w→qbz n P md ops Q S st f (l.setIfInBounds i true) (a.put dd v) w)→K' (a.put o.dst v) w)→if Region.wanted o (yielded ops a.tmps)=true then Oper.wpIn Fence.wide n P o a w K' Q else(∀ f,o.about P w a.eval=some f→Fence.wide.fn f)∧K' (a.put o.dst undef) w)
  (hs:AllReadyGI n P md ops Q S st f l a w rs):AllReadyGI n P md ops Q S st f l a w (i::rs):=by
 subst hd;exact AllReadyGI.cons ho (fun K hK=>h K fun v w hG hW=>hK.out _ _ hG hW) hs
end
end
end Go.Proofs.YtfcknhbmeofniaaGreatDoor
