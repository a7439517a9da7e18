/- Texts GeA PuA LiA. -/
import Derived.Test.YtpmebcgmgfcmiaaGreatDoorQ25
import Derived.RangeFuncNested
import Derived.RangeFuncBound
import Derived.OwnWalkIn
import Derived.TacticsInMore
set_option linter.all false
set_option maxRecDepth 100000
set_option maxHeartbeats 16000000
namespace Go.Proofs.YtpmebcgmgfcmiaaGreatDoor
open Go.RowKit BT Go.Lib
variable {h:Nat}{key:Bs}{r:Option Bs}{w:World}
theorem qla {D:Dsk}{ks:List Bs}{xs:List Kd}(key:Bs)(hb:Body D (h+1) (.inner ks xs))(hs:Srt (xs.flatMap (itemsK D h)))(hn:(xs.flatMap (pgs D h)).Nodup) :
  ks.Pairwise (fun a b=>blt a b=true)∧∃ x,xs[down ks key]?=some x∧WF D h x∧Srt (itemsK D h x)∧(pgs D h x).Nodup∧(∀ q∈pgs D h x,q∈xs.flatMap (pgs D h))∧(pgs D h x).length≤(xs.flatMap (pgs D h)).length∧getR key (xs.flatMap (itemsK D h))=getR key (itemsK D h x):=by
 obtain⟨ks',xs',e,l1,k1,s1,x1⟩:=hb;obtain⟨rfl,rfl⟩:=Kd.inner.inj e;have Ha:∀ y∈xs,itemsK D h y≠[]:=fun y hy=>WF.ne (x1 y hy);obtain⟨hL,hR⟩:=qfD (key:=key) l1 s1 Ha hs;refine⟨(qdE l1 s1 Ha hs).2,?_⟩;have Hc:down ks key<xs.length:=by have:=(qbZ ks key).1;omega
 have hx:xs[down ks key]?=some xs[down ks key]:=zaa Hc;have ex:xs=xs.take (down ks key)++xs[down ks key]::xs.drop (down ks key+1):=by rw[za4,zav]
 have Hb:xs[down ks key]∈xs:=zbj ..;generalize xs[down ks key]=x at *;refine⟨x,hx,x1 x Hb,?_,?_,fun p hp=>zaS.2 ⟨x,Hb,hp⟩,?_,?_⟩
 ·rw[ex]at hs;simp only[zat,zaq]at hs;rw[←zaj]at hs;exact hs.sub
 ·rw[ex]at hn;simp only[zat,zaq]at hn;exact(zaD.1 (zaD.1 hn).2.1).1
 ·conv=>rhs;rw[ex]
  simp only[zat,zaq,zad];omega
 ·conv=>lhs;rw[ex]
  simp only[zat,zaq];rw[←zaj,qk9 key _ _ _ hL hR]
structure GtN (D:Dsk) (key:Bs) (r:Option Bs) (h:Nat) (n:Kd) (met:List Nat):Prop where
 body:Body D h n
 sz:nsize n≤500
 flat:∀ ks xs,n=.inner ks xs→∀ x∈xs,∃ q,x=.page q
 srt:Srt (itemsK D h n)
 nodup:(pgs D h n).Nodup
 out:∀ q∈pgs D h n,q∉met
 len:met.length+(pgs D h n).length≤450
 get:getR key (itemsK D h n)=r
theorem GtN.load {s:Nat→Bs}{pages:Nat}{use:Bs}{q:Nat}{met:List Nat}(hw:WF (qah s pages use) h (.page q))(hs:Srt (itemsK (qah s pages use) h (.page q)))(hn:(pgs (qah s pages use) h (.page q)).Nodup)(hm:∀ p∈pgs (qah s pages use) h (.page q),p∉met)(hl:met.length+(pgs (qah s pages use) h (.page q)).length≤450)(hr:getR key (itemsK (qah s pages use) h (.page q))=r) :
  ∃ n,qah s pages use q=some n∧q∉met∧GtN (qah s pages use) key r h n (met++[q]):=by
 obtain⟨n,h1,h2,h3⟩:=hw;have ep:=qaY h1 h2;have ei:=qaG h1 h2;rw[ep]at hn hm hl;rw[ei]at hs hr;simp only[pageOf]at hn hm hl;have Ha:=zaD.1 hn;refine⟨n,h1,hm q (by simp),h2,h3,fun ks xs e x hx=>?_,hs,Ha.2.1,fun p hp hin=>?_,?_,hr⟩
 ·subst e;obtain⟨p,e,_⟩:=qdQ (show qah s pages use q=_ from h1) x hx;exact⟨p,e⟩
 ·rcases zar.1 hin with h5|h5
  ·exact hm p (zay _ hp) h5
  ·exact Ha.2.2 q (by simp) p hp (za3.1 h5).symm
 ·simp only[zad,zao,zaZ]at hl⊢;omega
def GeF (r:Option Bs)(w:World)(e:Ending)(w':World):Prop:=
 Below w.heap.size w w'∧match r with
  | none=>e=.returned (.tuple #[.slice none 0 0,.bool false,.int .i64 0])
  | some v=>∃ A c n,e=.returned (.tuple #[.slice A n c,.bool true,.int .i64 0])∧v.length=n∧Own w' w.heap.size 5 1 (.slice A n c) n (bv v)
def GtI (w:World)(a:PA)(G d T:Nat)(F:Nat→Prop)(p:Pl)(g:Pg)(root1 B W:Nat)(key:Bs)(r:Option Bs)(gk:Nat)(s8:Value)(wr:World):Prop:=
 ∃ n N L h met mv S,s8=.pointer (some ⟨N,0,none⟩)∧h<gk∧GtN (qah (p.seen d) g.pages g.use) key r h n met∧NM wr S n N L∧SOk S (MW W mv) wr∧WkM wr B W T mv met 0∧TrB wr B a G d T F p g root1∧Touch (fun b=>B≤b) w wr
theorem qbH {w':World}{B:Nat}(h:Touch (fun b=>B≤b) w w')(hB:B≤w.heap.size):Below B w w':=
 ⟨h.os,h.tape,h.output,h.size,fun k hk=>h.block k (by omega) (by omega)⟩
theorem qgy {a:PA}{G d T:Nat}{F:Nat→Prop}{p:Pl}{g:Pg}{root1:Nat}{A:Option Addr}{n c:Nat}(ht:TrM w a G d T F p g root1)(hoff:p.off=false)(hp:TrP (qah (p.seen d) g.pages g.use) root1)(hkb:By w A key)(hkl:key.length=n)
  (hn:root1=0∨¬klen key→r=none)(hr:∀ h,klen key→WF (qah (p.seen d) g.pages g.use) h (.page (root1-1))→root1≠0→getR key (itemsK (qah (p.seen d) g.pages g.use) h (.page (root1-1)))=r) :
  Calls Tryz.prog 16 #[.pointer (some ⟨T,0,none⟩),.slice A n c] w (GeF r w):=by
 have hl:=ht.c1;have ho:=ht.lt;have HT:=zH ht;have HP:=zH hp;have HK:=zH hkb;have HN:=zH hn;have HR:=zH hr;clear ht hp hkb hn hr;go_enter Tryz.func16,Tryz.ntmps16
 by_cases h0:n=0
 ·subst h0;go_wp2;go_returns;have e:=HN.o (.inr (fun h=>by have:=h.1;omega));subst e;exact⟨zai _ _,rfl⟩
 by_cases h24:24<n
 ·have h1:¬((n:Int)=0):=by omega
  have h2:(24:Int)<(n:Int):=by omega
  go_wp2;go_returns;have e:=HN.o (.inr (fun h=>by have:=h.2;omega));subst e;exact⟨zai _ _,rfl⟩
 have h1:¬((n:Int)=0):=by omega
 have h2:¬((24:Int)<(n:Int)):=by omega
 have hk:klen key:=⟨by omega,by omega⟩;have b1:((n:Int)==0)=false:=by simp;omega
 have b2:decide ((24:Int)<(n:Int))=false:=zal h2;by_cases hr0:root1=0
 ·have h3:(root1:Int)-1<0:=by omega
  go_wp2;go_returns;have e:=HN.o (.inl hr0);subst e;exact⟨zai _ _,rfl⟩
 obtain⟨q0,hq0⟩:∃ q,root1-1=q:=⟨_,rfl⟩;have h3:¬((root1:Int)-1<0):=by omega
 have h4:(root1:Int)-1=(q0:Int):=by omega
 have b3:decide ((q0:Int)<0)=false:=zal (by omega);have b4:¬((q0:Int)<0):=by omega
 rcases HP.o with h5|⟨h,hh,hwf,hsr,He,hpg⟩
 ·exact absurd h5 hr0
 have Hg:=HR.o h hk hwf hr0;rw[hq0]at hwf hsr He hpg Hg;have Hh:=qfY (l2:=List.range 384) He (fun x hx=>zbb.2 (hpg x hx));rw[zci]at Hh;obtain⟨n1,d1,d2,d3⟩:=GtN.load (met:=[]) hwf hsr He (by simp) (by simp;omega) Hg;have Hp:Below w.heap.size w (w.alloc (.cells #[.pointer (some ⟨T,0,none⟩),.slice none 0 0,.int .i64 0] 91)):=zB _ _;have HF:=zH Hp;have HE:WkM (w.alloc (.cells #[.pointer (some ⟨T,0,none⟩),.slice none 0 0,.int .i64 0] 91)) w.heap.size w.heap.size T (.slice none 0 0) [] 0:=⟨zaf w _,zac _,Own.nil _ _ _ _,by simp[Value.ownBlock]⟩;have HD:TrB (w.alloc (.cells #[.pointer (some ⟨T,0,none⟩),.slice none 0 0,.int .i64 0] 91)) w.heap.size a G d T F p g root1:=⟨HT.o.below Hp,HT.o.pg.pl.hF,HT.o.pg.lt,HT.o.lt,cell_lt (HT.o.pg.nib 0 (by omega))⟩;have Hi:=zH (qb0 HD HE Hp.size hoff d1 (by simp) (by simp));unfold LdF at Hi;have HO:=zH HE;have HL:=zH HD;have D3:=zH d3;clear Hp hwf hsr He hpg Hg Hh d1 d2 d3 HE HD;go_upto_block 0 with(go_at_call 38;refine Hi.o.mono ?_;rintro e w1 ⟨N1,L1,mv1,rfl,hwk,hev,hnm,hsl⟩;have Hf:=zH hwk;have Hn:=zH hev;have Ho:=zH hnm;clear hwk hev hnm hsl)
 have HJ:=zH (show GtI w a G d T F p g root1 w.heap.size w.heap.size key r 401 (.pointer (some ⟨N1,0,none⟩)) w1 by
  have E1:EvM (MW w.heap.size (.slice none 0 0)) (MW w.heap.size mv1) (w.alloc (.cells #[.pointer (some ⟨T,0,none⟩),.slice none 0 0,.int .i64 0] 91)) w1:=Hn.o.evm;exact⟨n1,N1,L1,h,[]++[q0],mv1,_,rfl,by omega,D3.o,Ho.o,⟨fun b hb=>hb.2.1,fun b hb hm=>hm.elim hb.2.2.1 hb.2.2.2⟩,Hf.o,HL.o.ev HO.o Hn.o,(Touch.of_below HF.o).trans (Hn.o.touch.mono fun b _ hb=>hb.elim (fun e=>by omega) (fun e=>by cases e))⟩)
 obtain⟨W,hW⟩:∃ q,w.heap.size=q:=⟨_,rfl⟩;rw[hW]at HJ⊢;have Hv:=zH hW;clear Hf Hn Ho HO HL D3 hW HF Hi;go_cut [8] (fun s8 wx=>∃ N ps L S met mv,s8=.pointer (some ⟨N,0,none⟩)∧NM wx S (.leaf ps) N L∧Srt ps∧ps.length≤500∧getR key ps=r∧(∀ q∈ps,plen q)∧Below w.heap.size w wx)
 case first=>
  go_wp2_with fail
  go_loopg [8] 401 (fun gk s8 wr=>GtI w a G d T F p g root1 W W key r gk s8 wr)
  case atStart=>exact HJ.o
  case round=>
   rename World=>wr;obtain⟨nn,N,L,h,met,mv,S,rfl,hgk,hgt,hnm,hso,hwk,htr,hto⟩:=hrel;have Hb:=zH hgt;have Ho:=zH hnm;have Hs:=zH hso;have Hf:=zH hwk;have HM:=zH htr;have Ht:=zH hto;clear hgt hso hwk htr hto;cases nn with
   | page q=>simp only[NM]at hnm
   | leaf ps=>
    simp only[NM]at hnm;obtain⟨-,-,K,ck,V,cv,X,cx,vk,vv,hnc,-⟩:=hnm;have c0:=hnc.c0;have hd:=zH hnc;clear hnc;go_wp2;go_meet
    case rel=>
     have hb:=Hb.o.body;obtain⟨ei,Hh⟩:itemsK (qah (p.seen d) g.pages g.use) h (.leaf ps)=ps∧∀ q∈ps,plen q:=by
      cases h with
      | zero=>obtain⟨qs,e,_,h2⟩:=hb;cases e;exact⟨rfl,h2⟩
      | succ h=>obtain⟨ks,xs,e,_⟩:=hb;cases e
     have hs:=Hb.o.srt;have hg:=Hb.o.get;have hz:=Hb.o.sz;rw[ei]at hs hg;have h3:=qcL Hh;simp only[nsize]at hz;exact⟨N,ps,L,S,met,mv,rfl,Ho.o,hs,by omega,hg,Hh,qbH (by rw[Hv.o];exact Ht.o) (zac _)⟩
   | inner ks xs=>
    simp only[NM]at hnm;obtain⟨hSN,K,ck,V,cv,X,cx,vk,vs,L',hnc,hsk,hrk,hsx,hkm,-⟩:=hnm;obtain⟨h2,rfl⟩:∃ q,h=q+1:=by
     have hb:=Hb.o.body;cases h with
     | zero=>obtain⟨qs,e,_⟩:=hb;cases e
     | succ h=>exact⟨h,rfl⟩
    have ei:itemsK (qah (p.seen d) g.pages g.use) (h2+1) (.inner ks xs)=xs.flatMap (itemsK (qah (p.seen d) g.pages g.use) h2):=rfl;have ep:pgs (qah (p.seen d) g.pages g.use) (h2+1) (.inner ks xs)=xs.flatMap (pgs (qah (p.seen d) g.pages g.use) h2):=by simp only[pgs,nd,pageOf,zaA]
    have hs:=Hb.o.srt;have hg:=Hb.o.get;have He:=Hb.o.nodup;have HB:=Hb.o.out;have HS:=Hb.o.len;rw[ei]at hs hg;rw[ep]at He HB HS;obtain⟨hpw,x,hx,x1,x2,x3,x4,x5,x6⟩:=qla key Hb.o.body hs He;obtain⟨q,rfl⟩:=Hb.o.flat ks xs rfl x (zak hx);obtain⟨n2,d1,d2,d3⟩:=GtN.load (key:=key) (r:=r) x1 x2 x3 (fun p hp=>HB p (x4 p hp)) (by omega) (by rw[←x6];exact hg);have Hy:Below w.heap.size w wr:=qbH (by rw[Hv.o];exact Ht.o) (zac _);have Hx:W≤wr.heap.size:=by have:=Hv.o;have:=Hy.size;omega
    have HQ:=HK.o.below Hy;obtain⟨i,hi⟩:∃ i,down ks key=i:=⟨_,rfl⟩;obtain⟨nk,hnk⟩:∃ i,ks.length=i:=⟨_,rfl⟩;obtain⟨nx,hnx⟩:∃ i,xs.length=i:=⟨_,rfl⟩;have HU:=Hb.o.sz;have Hk:=qaN ks;rw[hnk]at hnc hsk Hk;rw[hnx]at hnc hsx;rw[hi]at hx;have hq:i<nx:=by rw[←hnx];exact(zae.1 hx).1
    have ha:nk≤500:=by simp only[nsize]at HU;omega
    have H6:=hnc.c0;obtain⟨v0,L0,hv0,hk0,-⟩:=qiN hkm hx;obtain rfl:v0=((q:Int),none):=by
     rcases hk0 with⟨p',hp',e,_⟩|⟨N',_,hN'⟩
     ·cases hp';exact e
     ·simp only[NM]at hN'
    obtain⟨xb,xo,rfl,hSb,hxat⟩:=hsx.at_ (by omega);obtain⟨oi,hoi⟩:∃ o,xo+i*2=o:=⟨_,rfl⟩;have hc:xo+2*i=oi:=by omega
    have hu:(i:Int)<(nx:Int):=by omega
    have H8:¬((nx:Int)≤(i:Int)):=by omega
    have Hc:Below wr.heap.size wr wr.drew:=(zai _ _).drew;have Hq:=zH (qeL (w:=wr.drew) (hnc.same (S:=fun b=>b<wr.heap.size) (Same.of_below Hc) (cell_lt H6)) c (hsk.below Hc) (hrk.same (Same.of_below Hc)) hnk hpw (HQ.below Hc) hkl (by omega));unfold DnF at Hq;rw[hi]at Hq;have Hi:=zH (qb0 (HM.o.ev Hf.o (Ev.below Hc)) (Hf.o.below Hc) Hx hoff d1 d2 (by omega));unfold LdF at Hi;have Ha:=zH (show wr.drew.cell? ⟨N,3,none⟩=some (.slice (some ⟨xb,xo,none⟩) nx cx)∧wr.drew.cell? ⟨xb,oi,none⟩=some (.int .i64 (q:Int))∧wr.drew.cell? ⟨xb,oi+1,none⟩=some (.pointer none)from⟨hnc.c3,by rw[←hoi];exact hxat _ _ (qbm hv0),by rw[←hoi,zbV];exact hxat _ _ (qbn hv0)⟩);have D3:=zH d3;have H7:h2+1<gk:=by omega
    have H3:=zH (HM.o.ev Hf.o (Ev.below Hc));have Hu:=zH (Hf.o.below Hc);have H4:=zH (show Touch (fun b=>W≤b) w wr.drew from Ht.o.drew);have he:=zH Hx;clear hs hg He HB HS hpw hx x1 x2 x3 x4 x5 x6 d1 d2 d3 Hy HQ hi hnk hnx HU Hk hnc hsk hrk hsx hkm hv0 hk0 hxat Hc ei ep Hx;go_upto_region 6 with fail
    refine qac (S:=fun W'=>W'.cell? ⟨N,3,none⟩=some (.slice (some ⟨xb,xo,none⟩) nx cx)∧W'.cell? ⟨xb,oi,none⟩=some (.int .i64 (q:Int))∧W'.cell? ⟨xb,oi+1,none⟩=some (.pointer none)) [] (by kernel_rfl) Ha.o (fun _=>?_);generalize wr.drew=W0 at *;refine zP 0 45 (.pointer (some ⟨W,0,none⟩)) Ha.o ?_;try simp only[zS]
    refine zP 1 46 (.pointer (some ⟨N,0,none⟩)) Ha.o ?_;try simp only[zS]
    refine zP 2 47 (.pointer (some ⟨N,0,none⟩)) Ha.o ?_;try simp only[zS]
    refine zP 3 48 (.pointer (some ⟨N,3,none⟩)) Ha.o ?_;try simp only[zS]
    refine zL 4 49 (.slice (some ⟨xb,xo,none⟩) nx cx) rfl (Or.inl ⟨by rfl,fun W' hS=>by obtain⟨hS1,hS2,hS3⟩:=hS;go_simp⟩) (qaa Ha.o) ?_;try simp only[zS]
    refine zP 5 50 (.pointer (some ⟨N,0,none⟩)) Ha.o ?_;try simp only[zS]
    refine zP 6 51 (.slice A n c) Ha.o ?_;try simp only[zS]
    refine zE 7 52 rfl (fun Kr hKr=>?_);go_simp;go_at_call 39
    refine Hq.o.mono ?_;rintro e W1 ⟨rfl,rfl⟩;refine hKr.out (.int .i64 (i:Int)) _ (qaa Ha.o) (fun _=>?_);clear hKr Kr;try simp only[zS]
    refine zP 8 53 (.pointer (some ⟨xb,oi,none⟩)) Ha.o ?_;try simp only[zS]
    refine zL 9 54 (.agg #[.int .i64 (q:Int),.pointer none]) rfl (Or.inl ⟨by rfl,fun W' hS=>qbK 102 (.tmp 53) rfl xb oi rfl (qgF (v:=((q:Int),none)) hS.2.1 hS.2.2)⟩) (qaa Ha.o) ?_;try simp only[zS]
    refine zE 10 55 rfl (fun Kr hKr=>?_);go_simp;go_at_call 38
    refine Hi.o.mono ?_;rintro e W2 ⟨N2,L2,mv2,rfl,hwk2,hev2,hnm2,-⟩;have Hw:=zH hwk2;have Hj:=zH hev2;have Hr:=zH hnm2;have HH:=zH (show W2.cell? ⟨N,3,none⟩=some (.slice (some ⟨xb,xo,none⟩) nx cx)∧W2.cell? ⟨xb,oi,none⟩=some (.int .i64 (q:Int))∧W2.cell? ⟨xb,oi+1,none⟩=some (.pointer none)from⟨(qag hev2.touch (cell_lt Ha.o.1) (Hs.o.ap _ hSN)).trans Ha.o.1,(qag hev2.touch (cell_lt Ha.o.2.1) (Hs.o.ap _ hSb)).trans Ha.o.2.1,(qag hev2.touch (cell_lt Ha.o.2.2) (Hs.o.ap _ hSb)).trans Ha.o.2.2⟩);clear hwk2 hev2 hnm2;refine hKr.out (.pointer (some ⟨N2,0,none⟩)) _ (qaa HH.o) (fun _=>?_);clear hKr Kr;try simp only[zS]
    refine zP 11 8 (.pointer (some ⟨N2,0,none⟩)) HH.o ?_;try simp only[zS]
    refine qad (by kernel_rfl) ?_ _;go_wp2
    go_roundg (h2+1)
    case measure=>exact H7
    case rel=>
     exact⟨n2,N2,L2,h2,met++[q],mv2,_,rfl,by omega,D3.o,Hr.o,⟨fun b hb=>hb.2.1,fun b hb hm=>hm.elim hb.2.2.1 hb.2.2.2⟩,Hw.o,H3.o.ev Hu.o Hj.o,H4.o.trans (Hj.o.touch.mono fun b _ hb=>hb.elim (fun e=>by rw[e];exact Hu.o.lo) (fun e=>(Hu.o.own.blk b e).1))⟩
 case rest=>
  rename World=>wx;obtain⟨N,ps,L,S,met,mv,rfl,hnm,hs,Hh,hg,hpl2,hb⟩:=hcut;have HZ:=zH hpl2;simp only[NM]at hnm;obtain⟨-,-,K,ck,V,cv,X,cx,vk,vv,hnc,hsk,hrk,hsv,hrv⟩:=hnm;obtain⟨np,hnp⟩:∃ q,ps.length=q:=⟨_,rfl⟩;rw[hnp]at hnc hsk hsv Hh;have c1:=hnc.c1;have c2:=hnc.c2;have Hm:=zH (qhX ck c hsk hrk (by rw[zaE,hnp]) (List.pairwise_map.2 hs) (HK.o.below hb) hkl (by omega));unfold BsF at Hm;have Hz:=qiG (key:=key) hs;obtain⟨i,hi⟩:∃ i,lowB (ps.map Prod.fst) key=i:=⟨_,rfl⟩;obtain⟨th,hth⟩:∃ th,qbi (ps.map Prod.fst) key=th:=⟨_,rfl⟩;rw[hi,hth]at Hm Hz;have HI:=zH (hg.symm.trans Hz);have Hl:=zH hb;have HA:th=true→i<np:=fun e=>by
   rw[e]at hth;unfold qbi at hth;rw[hi]at hth;have h2:(ps.map Prod.fst)[i]?=some key:=by simpa using hth
   have:=(zae.1 h2).1;rw[zaE,hnp]at this;exact this
  have HW:=zH HA;have H1:=zH hrv;have H2:=zH hsv;have HX:=zH hnp;clear hs hg Hz hi hth HA hrv hsv hnp hb hnc hsk hrk;cases th with
  | false=>
   go_wp2_with (go_at_call 40;refine Hm.o.mono ?_;rintro e w2 ⟨rfl,rfl⟩)
   go_returns;have e:r=none:=HI.o.trans (zaB (by simp));subst e;exact⟨Hl.o,rfl⟩
  | true=>
   have HA:=HW.o (by trivial);obtain⟨pr,hpr⟩:∃ p,ps[i]?=some p:=⟨_,zaa (by have:=HX.o;omega)⟩;have HC:=HI.o.trans (zaw (by trivial));rw[hpr]at HC;obtain⟨VB,vc,hvv,hvc,hvy⟩:=H1.o.get (j:=i) (k:=pr.2) (by rw[zbc,hpr];rfl);obtain⟨vb,vo,rfl,-,hvat⟩:=H2.o.at_ (by omega);have g1:=hvat i _ hvv;obtain⟨oj,hoj⟩:∃ o,vo+i=o:=⟨_,rfl⟩;rw[hoj]at g1;obtain⟨vl,hvl⟩:∃ q,pr.2.length=q:=⟨_,rfl⟩;have HG:=zH (qbd VB vc pr.2 wx hvy.by_ (by have:=(HZ.o pr (zak hpr)).2;omega));rw[hvl]at HG g1;have hw:(i:Int)<(np:Int):=by omega
   have H9:¬((np:Int)≤(i:Int)):=by omega
   have H0:=zH HC;have H5:=zH hvl;clear hpr HC hvv hvy hvat hvl;go_wp2_with (first|(go_at_call 40;refine Hm.o.mono ?_;rintro e w2 ⟨rfl,rfl⟩)|(go_at_call 36;refine HG.o.mono ?_;rintro e w2 ⟨A5,c5,rfl,ho5,hb5⟩;have HY:=zH ho5;have HV:=zH hb5;clear ho5 hb5))
   go_returns;have e:r=some pr.2:=H0.o;subst e;exact⟨Hl.o.trans (HV.o.mono Hl.o.size),A5,c5,vl,rfl,H5.o,HY.o.base Hl.o.size⟩
section
section
variable {P:Program}
theorem qft (w:World){t e:TypeId}{i:TypeInfo}{z:Value}{size bytes:Nat}(ty:TypeId)(ht:P.underlying t=some (.slice e))(hi:P.info? e=some i)(hz:i.zero=some z)
  (hsize:i.size=size)(hby:i.bytes=bytes)(hzs:z.cells.size=size)(hsz:0<size)
  (a0:Addr){A:Option Addr}{m:Nat}(c:Nat){us:List Value}(hs:Src w size A m us)(h1:∀ u∈us,u.oneCell'=true)
  (h63:m≤maxLen)(hb:m*bytes≤140737488355328) :
  ∃ ad c' w',(Builtin.append_ #[t,t] ty #[.slice (some a0) 0 0,.slice A m c]).run P w=.ok (.slice (some ad) m c') w'∧Row w' w.heap.size e size (.slice (some ad) m c') m us∧Below w.heap.size w w':=by
 by_cases h0:0<m
 ·obtain⟨v',w',h2,h3,h4⟩:=qhD (P:=P) w ty ht hi hz hsize hby hzs hsz (some a0) c hs h1 h63 hb;obtain⟨A',c',rfl,_,h5⟩:=h3.form;obtain⟨g,rfl,_⟩:=h5 h0;exact⟨_,c',w',h2,h3,h4⟩
 ·obtain rfl:m=0:=by omega
  rw[hs.empty];refine⟨a0,0,w,?_,.inr ⟨some a0,rfl,rfl,rfl⟩,zai _ _⟩;cases A<;>simp[Builtin.append_,zaM ht,sizeOf,typeInfo,hi,Builtin.lenOf,Builtin.firstCells,storeCells]<;>rfl
theorem qd5 {w:World}{ops:Array Oper}{rest:List Oper}{o:Oper}{a:Act}{Q:Exit→Act→World→Prop}(hgd:o.guard=none)(s x:Operand)(t:TypeId)
  (ho:o.op=.call { callee:=.builtin .append,args:=#[s,x],argTypes:=#[t,t] })
  (e:TypeId)(i:TypeInfo)(z:Value)(size bytes:Nat)(ht:P.underlying t=some (.slice e))(hi:P.info? e=some i)(hz:i.zero=some z)
  (hsize:i.size=size)(hby:i.bytes=bytes)(hzs:z.cells.size=size)(hsz:0<size)
  (a0:Addr)(hv:a.eval s=.slice (some a0) 0 0)
  (A:Option Addr)(m c:Nat)(us:List Value)(hx:a.eval x=.slice A m c)(hs:Src w size A m us)(h1:∀ u∈us,u.oneCell'=true)
  (h63:m≤maxLen)(hb:m*bytes≤140737488355328)
  (h:∀ ad cap w',Row w' w.heap.size e size (.slice (some ad) m cap) m us→Below w.heap.size w w'→wpList P ops Q rest (a.put o.dst (.slice (some ad) m cap)) w'):wpList P ops Q (o::rest) a w:=
 zcs hgd fun _ hK=>by
  obtain⟨ad,cap,w',hr,a2,a3⟩:=qft (P:=P) w o.type ht hi hz hsize hby hzs hsz a0 c hs h1 h63 hb;unfold Oper.wp execOp;simp only[ho,resolve,invoke,builtin,zbF,zb2,zbh,zco,zbp,zbA,hv,hx,hr];exact hK _ _ (h ad cap w' a2 a3)
end
def putT (d:Nat)(t:Ts)(key value:Bs):Nat×Ts:=
 if 1≤key.length∧key.length≤24∧value.length≤160 then qa5 d t key (some value)else(120,t)
theorem qkx {w w1 w6:World}{a:PA}{G d T:Nat}{F:Nat→Prop}{t:Ts}{key value:Bs}{n c5 m c6 B6:Nat}{A5:Option Addr}{ad:Addr}(ht:TrM w a G d T F t.p t.g t.root1)(hoff:t.p.off=false)(hwt:t.p.waits.length≤549755813888)(hp:TrP (qah (t.p.seen d) t.g.pages t.g.use) t.root1)
  (hnw:klen key→value.length≤160→∀ k q,qdI (qah (t.p.seen d) t.g.pages t.g.use) t.root1 key (some value)=some (some k,q)→news (single 400 k)≤1000)(hkl:key.length=n)(hvl:value.length=m)(hk:klen key)(hv:value.length≤160)
  (ho:Own w1 w.heap.size 5 1 (.slice A5 n c5) n (bv key))(hr:Row w6 B6 5 1 (.slice (some ad) m c6) m (bv value))(hb:Below w.heap.size w w6)(hz:w1.heap.size≤w6.heap.size)(hz6:w.heap.size≤B6)(h16:∀ k,k<w1.heap.size→w6.heap[k]?=w1.heap[k]?) :
  Calls Tryz.prog 37 #[.pointer (some ⟨T,0,none⟩),.slice A5 n c5,.slice (some ad) m c6] w6 (fun e w'=>ApF a G d T F (qa5 d t key (some value)) w e w'):=by
 have Hb:Own w6 w.heap.size 5 1 (.slice A5 n c5) n (bv key):=ho.keep hz (fun b _ h=>h16 b h);obtain⟨_,c',e,hcc⟩:=Hb.slice;cases e;have Ha:=hr.form;obtain⟨_,c',e,_,hf⟩:=Ha;cases e;have Hc:m≤c6:=by
  rcases hr with h|⟨A0,e,e2,_⟩
  ·rcases h.2 with⟨e,_⟩|⟨g,cap,cur,e,_⟩
   ·cases e
   ·cases e;exact(own_cells h).1
  ·omega
 refine(qfv (S0:=fun b=>w.heap.size≤b∧b<w6.heap.size) (v:=some value) (ht.below hb) hoff hwt hp (fun b hb=>⟨hb.2,fun hg=>?_,fun e=>?_,fun e=>?_⟩) ⟨Hb.byN hkl,fun a2 e _=>by subst e;exact Hb.blk _ rfl⟩ hkl hcc ⟨ad,c6,by rw[hvl],by omega,By.of_own hr hvl,fun a2 e h0=>?_⟩ hk (fun x e=>by cases e;exact hv) (fun _ e=>by cases e) (hnw hk hv)).mono ?_
 ·rcases hg with hg|hg
  ·have:=ht.pg.pl.hF b hg;omega
  ·have:=ht.pg.lt;omega
 ·have:=ht.lt;omega
 ·have:=cell_lt (ht.pg.nib 0 (by omega));omega
 ·cases e;obtain⟨g,e,h1,h2,_⟩:=hf (by omega);cases e;exact⟨by show w.heap.size≤g;omega,h2⟩
 ·rintro e w7 ⟨F',rfl,h1,h2⟩;refine⟨F',rfl,h1,(Touch.of_below hb).trans h2.touch,fun b hb7=>?_⟩;rcases h2.sub b hb7 with h|h
  ·exact .inl h
  ·exact .inr (zah hb.size h)
theorem qgP {w:World}{a:PA}{G d T:Nat}{F:Nat→Prop}{t:Ts}{A V:Option Addr}{key value:Bs}{n c m cv:Nat}(ht:TrM w a G d T F t.p t.g t.root1)(hoff:t.p.off=false)(hwt:t.p.waits.length≤549755813888)(hp:TrP (qah (t.p.seen d) t.g.pages t.g.use) t.root1)
  (hkb:By w A key)(hkl:key.length=n)(hvb:By w V value)(hvl:value.length=m)(hnw:klen key→value.length≤160→∀ k q,qdI (qah (t.p.seen d) t.g.pages t.g.use) t.root1 key (some value)=some (some k,q)→news (single 400 k)≤1000) :
  Calls Tryz.prog 15 #[.pointer (some ⟨T,0,none⟩),.slice A n c,.slice V m cv] w (ApF a G d T F (putT d t key value) w):=by
 have HT:=zH ht;have HP:=zH hp;have Hj:=zH hkb;have Ho:=zH hvb;have Hk:=zH hnw;have Hb:=zH hkl;have Hc:=zH hvl;clear ht hp hkb hvb hnw hkl hvl;obtain⟨r,hr⟩:∃ r,putT d t key value=r:=⟨_,rfl⟩;have HR:=zH hr;rw[hr];clear hr;go_enter Tryz.func15,Tryz.ntmps15
 by_cases hok:1≤n∧n≤24∧m≤160
 ·obtain⟨h1,h2,h3⟩:=hok;have b1:((n:Int)==0)=false:=by simp;omega
  have b2:decide ((24:Int)<(n:Int))=false:=zal (by omega);have b3:decide ((160:Int)<(m:Int))=false:=zal (by omega);have d1:¬((n:Int)=0):=by omega
  have d2:¬((24:Int)<(n:Int)):=by omega
  have d3:¬((160:Int)<(m:Int)):=by omega
  obtain⟨j0,hj0,jz0,jz1,jz2⟩:=zaT qdW;have Hg:=zH (qbd A c key w Hj.o (by have:=Hb.o;omega));rw[Hb.o]at Hg;go_upto_region 3 with fail
  go_wp2_with (first|(go_at_call 36;refine Hg.o.mono ?_;rintro e w1 ⟨A5,c5,rfl,ho5,hb5⟩;have Hl:=zH ho5;have Hs:=zH hb5;have He:Hd (Below w.heap.size w (w1.alloc (.cells #[] 5))):=zH (hb5.alloc hb5.size _);clear ho5 hb5)|(at_builtin;refine qd5 rfl (.tmp 23) (.tmp 24) 34 rfl 5 j0 _ 1 1 Tryz.underlying34 hj0 jz0 jz1 jz2 rfl (by decide) ⟨w1.heap.size,0,none⟩ rfl V m cv (bv value) rfl (by have h:=(Ho.o.below He.o).src;rw[Hc.o]at h;exact h) (qaw _) (by unfold maxLen;omega) (by omega) ?_;intro ad c6 w6 hrow hgr;have Hm:=zH hrow;have Hi:Hd (Below w.heap.size w w6):=zH (He.o.trans (hgr.mono He.o.size));have Hq:Hd (w1.heap.size≤w6.heap.size):=zH (zah (by simp) hgr.size);have Hf:Hd (∀ k,k<w1.heap.size→w6.heap[k]?=w1.heap[k]?):=zH (fun k hk=>(hgr.block k (by simp;omega)).trans (((zai w1.heap.size w1).alloc (zac _) (.cells #[] 5)).block k hk));have Hr:Hd (w.heap.size≤(w1.alloc (.cells #[] 5)).heap.size):=zH He.o.size;clear hrow hgr)|(go_at_call 37;refine(qkx HT.o hoff hwt HP.o Hk.o Hb.o Hc.o ⟨by have:=Hb.o;omega,by have:=Hb.o;omega⟩ (by have:=Hc.o;omega) Hl.o Hm.o Hi.o Hq.o Hr.o Hf.o).mono ?_;rintro e w7 ⟨F7,rfl,ht7,hx7⟩;have Hn:=zH ht7;have Hp:=zH hx7;clear ht7 hx7))
  go_ret;have e:r=qa5 d t key (some value):=by
   rw[←HR.o];unfold putT;rw[zaw (by rw[Hb.o,Hc.o];exact⟨h1,h2,h3⟩)]
  rw[e];exact⟨F7,rfl,Hn.o,Hp.o⟩
 ·have e:r=(120,t):=by
   rw[←HR.o];unfold putT;rw[zaB (by rw[Hb.o,Hc.o];exact hok)]
  have Hh:ApF a G d T F r w (.returned (.int .i64 120)) w:=by
   rw[e];exact⟨F,rfl,HT.o,Ext.refl _ _⟩
  have Ha:=zH Hh;clear Hh e;by_cases h0:n=0
  ·subst h0;go_wp2;go_ret;exact Ha.o
  ·have b1:((n:Int)==0)=false:=by simp;omega
   have d1:¬((n:Int)=0):=by omega
   by_cases h24:24<n
   ·have b2:decide ((24:Int)<(n:Int))=true:=zas (by omega);have d2:(24:Int)<(n:Int):=by omega
    go_wp2;go_ret;exact Ha.o
   ·have b2:decide ((24:Int)<(n:Int))=false:=zal (by omega);have b3:decide ((160:Int)<(m:Int))=true:=zas (by omega);have d2:¬((24:Int)<(n:Int)):=by omega
    have d3:(160:Int)<(m:Int):=by omega
    go_wp2;go_ret;exact Ha.o
def delT (d:Nat)(t:Ts)(key:Bs)(r:Option Bs):Nat×Ts:=if r=none then(0,t)else qa5 d t key none
def DeF (a:PA)(G d T:Nat)(F:Nat→Prop)(t:Ts)(key:Bs)(r:Option Bs)(w:World)(e:Ending)(w':World):Prop:=
 ∃ F',e=.returned (.tuple #[.bool (r.isSome&&decide ((delT d t key r).1=0)),.int .i64 ((delT d t key r).1:Int)])∧TrM w' a G d T F' (delT d t key r).2.p (delT d t key r).2.g (delT d t key r).2.root1∧Ext (TF F G T) (TF F' G T) w w'
theorem qeK {w:World}{a:PA}{G d T:Nat}{F:Nat→Prop}{t:Ts}{A:Option Addr}{key:Bs}{n c:Nat}{r:Option Bs}(ht:TrM w a G d T F t.p t.g t.root1)(hoff:t.p.off=false)(hwt:t.p.waits.length≤549755813888)(hp:TrP (qah (t.p.seen d) t.g.pages t.g.use) t.root1)
  (hkb:ByS w (fun b=>b<w.heap.size∧¬GF F G b∧b≠T∧b≠1) A key)(hkl:key.length=n)(hkc:n≤c)(hn:t.root1=0∨¬klen key→r=none)(hr:∀ h,klen key→WF (qah (t.p.seen d) t.g.pages t.g.use) h (.page (t.root1-1))→t.root1≠0→getR key (itemsK (qah (t.p.seen d) t.g.pages t.g.use) h (.page (t.root1-1)))=r)
  (hnw:klen key→∀ k q,qdI (qah (t.p.seen d) t.g.pages t.g.use) t.root1 key none=some (some k,q)→news (single 400 k)≤1000) :
  Calls Tryz.prog 17 #[.pointer (some ⟨T,0,none⟩),.slice A n c] w (DeF a G d T F t key r w):=by
 have He:=zH (qgy (c:=c) ht hoff hp hkb.by_ hkl hn hr);unfold GeF at He;have HT:=zH ht;have HN:=zH hn;cases r with
 | none=>
  clear ht hp hkb hn hr hnw;go_enter Tryz.func17,Tryz.ntmps17
  go_wp2_with (go_at_call 16;refine He.o.mono ?_;rintro e w1 ⟨hb1,rfl⟩;have Ha:=zH hb1;clear hb1)
  go_returns;exact⟨F,rfl,HT.o.below Ha.o,Ext.of (Touch.of_below Ha.o)⟩
 | some v=>
  have hk:klen key:=Classical.byContradiction fun h=>by have:=HN.o (.inr h);cases this
  have Hh:t.root1≠0:=fun h=>by have:=HN.o (.inl h);cases this
  have Hb:Hd (∀ w1,Below w.heap.size w w1→Calls Tryz.prog 37 #[.pointer (some ⟨T,0,none⟩),.slice A n c,.slice none 0 0] w1 (ApF a G d T F (qa5 d t key none) w1)):=zH fun w1 hb=>
   qfv (S0:=fun b=>b<w.heap.size∧¬GF F G b∧b≠T∧b≠1) (v:=none) (ht.below hb) hoff hwt hp (fun b hb2=>⟨zam hb2.1 hb.size,hb2.2⟩) (hkb.same (Same.of_below hb)) hkl hkc rfl hk (fun x e=>by cases e) (fun e=>absurd e Hh) (hnw hk)
  obtain⟨rr,hrr⟩:∃ q,qa5 d t key none=q:=⟨_,rfl⟩;have Hg:delT d t key (some v)=rr:=by unfold delT;rw[zaB (by simp),hrr]
  rw[hrr]at Hb;unfold ApF at Hb;unfold DeF;rw[Hg];clear ht hp hkb hn hr hnw hrr Hg;obtain⟨re,hre⟩:∃ q,rr.1=q:=⟨_,rfl⟩;rw[hre]at Hb⊢;clear hre;go_enter Tryz.func17,Tryz.ntmps17
  by_cases h0:re=0
  ·subst h0;go_wp2_with (first|(go_at_call 16;refine He.o.mono ?_;rintro e w1 ⟨hb1,A5,c5,n5,rfl,-,-⟩;have Ha:=zH hb1;clear hb1)|(go_at_call 37;refine(Hb.o _ Ha.o).mono ?_;rintro e w2 ⟨F2,rfl,ht2,hx2⟩;have Hf:=zH ht2;have Hc:=zH hx2;clear ht2 hx2))
   go_returns;exact⟨rfl,F2,Hf.o,⟨(Touch.of_below Ha.o).trans Hc.o.touch,fun b hb=>(Hc.o.sub b hb).imp id (fun h=>zah Ha.o.size h)⟩⟩
  ·have Hi:¬((re:Int)=0):=by omega
   go_wp2_with (first|(go_at_call 16;refine He.o.mono ?_;rintro e w1 ⟨hb1,A5,c5,n5,rfl,-,-⟩;have Ha:=zH hb1;clear hb1)|(go_at_call 37;refine(Hb.o _ Ha.o).mono ?_;rintro e w2 ⟨F2,rfl,ht2,hx2⟩;have Hf:=zH ht2;have Hc:=zH hx2;clear ht2 hx2))
   go_returns;exact⟨F2,by simp[h0],Hf.o,⟨(Touch.of_below Ha.o).trans Hc.o.touch,fun b hb=>(Hc.o.sub b hb).imp id (fun h=>zah Ha.o.size h)⟩⟩
end
section
def LM (W:Nat)(C:Nat→Prop)(mv:Value):Nat→Prop:=fun b=>C b∨MW W mv b
def E4 (b1 b2 b3 b4:Nat):Nat→Prop:=fun b=>b=b1∨b=b2∨b=b3∨b=b4
theorem SOk.ev {S M M':Nat→Prop}{w w':World}(h:SOk S M w)(he:EvM M M' w w'):SOk S M' w':=
 ⟨fun b hb=>zam (h.lt b hb) he.touch.size,fun b hb hm=>by
  rcases he.own b hm with h1|h1
  ·exact h.ap b hb h1
  ·have:=h.lt b hb;omega⟩
theorem WkM.touch {w w':World}{B W T:Nat}{mv:Value}{met:List Nat}{e:Int}{M:Nat→Prop}(h:WkM w B W T mv met e)(ht:Touch M w w')(hd:∀ b,M b→¬MW W mv b):WkM w' B W T mv met e:=
 ⟨(ht.block W h.lt (fun hm=>hd _ hm (.inl rfl))).trans h.nd,h.lo,h.own.touch ht (fun b hb hm=>hd _ hm (.inr hb)),h.mW⟩
theorem By.touchL {w w':World}{F:Nat→Prop}{A:Option Addr}{l:Bs}(h:By w A l)(ht:Touch F w w')(hA:∀ ad,A=some ad→0<l.length→¬F ad.block):By w' A l:=
 ⟨fun h0=>(h.touch ht (fun ad e=>hA ad e h0)).at_ h0⟩
structure LiS (J:(Nat→Prop)→List Pr→World→Prop) (a:PA) (G d T:Nat) (F:Nat→Prop) (p:Pl) (g:Pg) (root1 B W:Nat) (A:Option Addr) (n c:Nat) (lo:Bs) (l b1 b2 b3 b4:Nat) (C:Nat→Prop) (pre:List Pr) (met:List Nat) (mv:Value) (w:World):Prop where
 tr:TrB w B a G d T F p g root1
 wk:WkM w B W T mv met 0
 by_:By w A lo
 bB:∀ ad,A=some ad→0<lo.length→ad.block<B
 e1:w.heap[b1]?=some (.cells #[.pointer (some ⟨W,0,none⟩)] 89 (0,0))
 e2:w.heap[b2]?=some (.cells #[.slice A n c] 34 (0,0))
 e3:w.heap[b3]?=some (.cells #[.func (.func 54) #[] #[.pointer (some ⟨b1,0,none⟩),.pointer (some ⟨b2,0,none⟩),.pointer (some ⟨b3,0,none⟩),.pointer (some ⟨b4,0,none⟩)]] 127 (0,0))
 e4:w.heap[b4]?=some (.cells #[.func (.yield l) #[] #[]] 126 (0,0))
 CB:∀ b,C b→B≤b
 ap:∀ b,C b→b<w.heap.size∧¬MW W mv b∧¬E4 b1 b2 b3 b4 b
 eM:∀ b,E4 b1 b2 b3 b4 b→¬MW W mv b
 sz:B≤w.heap.size
 j:J C pre w
def qhU (B:Nat)(J:(Nat→Prop)→List Pr→World→Prop):Prop:=∀ C pre w w',J C pre w→Touch (fun b=>B≤b∧¬C b) w w'→J C pre w'
section
variable {J:(Nat→Prop)→List Pr→World→Prop} {a:PA} {G d T:Nat} {F:Nat→Prop} {p:Pl} {g:Pg} {root1 B W:Nat} {A:Option Addr} {n c:Nat} {lo:Bs} {l b1 b2 b3 b4:Nat} {C C':Nat→Prop} {pre pre':List Pr} {met met':List Nat} {mv mv':Value} {w w':World}
theorem LiS.lt (h:LiS J a G d T F p g root1 B W A n c lo l b1 b2 b3 b4 C pre met mv w):∀ b,E4 b1 b2 b3 b4 b→b<w.heap.size:=fun b hb=>by
 rcases hb with rfl|rfl|rfl|rfl
 ·exact(zab.1 h.e1).1
 ·exact(zab.1 h.e2).1
 ·exact(zab.1 h.e3).1
 ·exact(zab.1 h.e4).1
theorem LiS.ev (h:LiS J a G d T F p g root1 B W A n c lo l b1 b2 b3 b4 C pre met mv w)(hJ:qhU B J)(hw:WkM w' B W T mv' met' 0)(he:Ev W mv mv' w w'):LiS J a G d T F p g root1 B W A n c lo l b1 b2 b3 b4 C pre met' mv' w':=by
 have hm:=he.evm;have hk:∀ b,E4 b1 b2 b3 b4 b→w'.heap[b]?=w.heap[b]?:=fun b hb=>he.touch.block b (h.lt b hb) (h.eM b hb);refine⟨h.tr.ev h.wk he,hw,h.by_.touchL he.touch (fun ad e h0 hm=>?_),h.bB,(hk _ (.inl rfl)).trans h.e1,(hk _ (.inr (.inl rfl))).trans h.e2,(hk _ (.inr (.inr (.inl rfl)))).trans h.e3,(hk _ (.inr (.inr (.inr rfl)))).trans h.e4,h.CB,fun b hb=>?_,fun b hb hx=>?_,zah h.sz he.touch.size,hJ _ _ _ _ h.j (he.touch.mono (fun b _ hb=>⟨hb.elim (fun e=>by rw[e];exact h.wk.lo) (fun e=>(h.wk.own.blk b e).1),fun hc=>(h.ap b hc).2.1 hb⟩))⟩
 ·have:=h.bB ad e h0;rcases hm with hm|hm
  ·have:=h.wk.lo;omega
  ·have:=(h.wk.own.blk _ hm).1;omega
 ·obtain⟨q1,q2,q3⟩:=h.ap b hb;refine⟨zam q1 he.touch.size,fun hx=>?_,q3⟩;rcases hm.own b hx with h1|h1
  ·exact q2 h1
  ·omega
 ·rcases hm.own b hx with h1|h1
  ·exact h.eM b hb h1
  ·have:=h.lt b hb;omega
theorem LiS.below (h:LiS J a G d T F p g root1 B W A n c lo l b1 b2 b3 b4 C pre met mv w)(hJ:qhU B J)(hb:Below w.heap.size w w'):LiS J a G d T F p g root1 B W A n c lo l b1 b2 b3 b4 C pre met mv w':=
 h.ev hJ (h.wk.below hb) (Ev.below hb)
theorem LiS.ca (h:LiS J a G d T F p g root1 B W A n c lo l b1 b2 b3 b4 C pre met mv w)(he:EvM C C' w w')(hj:J C' pre' w'):LiS J a G d T F p g root1 B W A n c lo l b1 b2 b3 b4 C' pre' met mv w':=by
 have hk:∀ b,E4 b1 b2 b3 b4 b→w'.heap[b]?=w.heap[b]?:=fun b hb=>he.touch.block b (h.lt b hb) (fun hc=>(h.ap b hc).2.2 hb);refine⟨h.tr.touch he.touch h.CB,h.wk.touch he.touch (fun b hb=>(h.ap b hb).2.1),h.by_.touchL he.touch (fun ad e h0 hc=>?_),h.bB,(hk _ (.inl rfl)).trans h.e1,(hk _ (.inr (.inl rfl))).trans h.e2,(hk _ (.inr (.inr (.inl rfl)))).trans h.e3,(hk _ (.inr (.inr (.inr rfl)))).trans h.e4,fun b hb=>?_,fun b hb=>?_,h.eM,zah h.sz he.touch.size,hj⟩
 ·have:=h.bB ad e h0;have:=h.CB _ hc;omega
 ·rcases he.own b hb with h1|h1
  ·exact h.CB b h1
  ·exact zah h.sz h1.1
 ·rcases he.own b hb with h1|h1
  ·obtain⟨q1,q2,q3⟩:=h.ap b h1;exact⟨zam q1 he.touch.size,q2,q3⟩
  ·refine⟨h1.2,fun hm=>?_,fun hm=>?_⟩
   ·rcases hm with hm|hm
    ·have:=h.wk.lt;omega
    ·have:=(h.wk.own.blk _ hm).2;omega
   ·have:=h.lt b hm;omega
theorem qmw (C:Nat→Prop)(he:Ev W mv mv' w w'):EvM (LM W C mv) (LM W C mv') w w':=
 ⟨he.touch.mono (fun _ _ h=>.inr h),fun b hb=>by
  rcases hb with hb|hb
  ·exact .inl (.inl hb)
  ·rcases he.evm.own b hb with h1|h1
   ·exact .inl (.inr h1)
   ·exact .inr h1⟩
theorem qmN (mv:Value)(he:EvM C C' w w'):EvM (LM W C mv) (LM W C' mv) w w':=
 ⟨he.touch.mono (fun _ _ h=>.inl h),fun b hb=>by
  rcases hb with hb|hb
  ·rcases he.own b hb with h1|h1
   ·exact .inl (.inl h1)
   ·exact .inr h1
  ·exact .inl (.inr hb)⟩
def LiF (J Jx:(Nat→Prop)→List Pr→World→Prop)(a:PA)(G d T:Nat)(F:Nat→Prop)(p:Pl)(g:Pg)(root1 B W:Nat)(A:Option Addr)(n c:Nat)(lo:Bs)(l b1 b2 b3 b4:Nat)(C:Nat→Prop)(pre:List Pr)(met:List Nat)(mv:Value)(its:List Pr)(pgl:List Nat)(w:World)(e:Ending)(w':World):Prop:=
 ∃ C' mv',EvM (LM W C mv) (LM W C' mv') w w'∧((e=.returned (.bool true)∧∃ m,LiS J a G d T F p g root1 B W A n c lo l b1 b2 b3 b4 C' (pre++its) (met++m) mv' w'∧(∀ q∈m,q∈pgl)∧m.length≤pgl.length)∨
  (e=.returned (.bool false)∧(∃ q,q <+: its∧Jx C' (pre++q) w')∧∃ met',WkM w' B W T mv' met' 0∧∀ b,C' b→¬MW W mv' b))
def LiY (J Jx:(Nat→Prop)→List Pr→World→Prop)(l:Nat)(N:List Pr):Prop:=
 ∀ (m:Nat) C pre (x:Pr) (KA VA:Option Addr) (kc vc:Nat) w,J C pre w→pre++[x] <+: N→By w KA x.1→By w VA x.2→x.1.length≤kc→x.2.length≤vc→
  YieldAt Fence.wide m Tryz.prog l #[.slice KA x.1.length kc,.slice VA x.2.length vc] w fun e w'=>
   ∃ C' b,e=.returned (.bool b)∧EvM C C' w w'∧(b=true→J C' (pre++[x]) w')∧(b=false→Jx C' (pre++[x]) w')
end
end
end Go.Proofs.YtpmebcgmgfcmiaaGreatDoor
