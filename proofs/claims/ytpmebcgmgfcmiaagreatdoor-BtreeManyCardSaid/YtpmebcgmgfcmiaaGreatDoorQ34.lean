/- Texts LwD LwE LwF LwG LwH. -/
import Derived.Test.YtpmebcgmgfcmiaaGreatDoorQ33
set_option linter.all false
set_option maxRecDepth 100000
set_option maxHeartbeats 16000000
namespace Go.Proofs.YtpmebcgmgfcmiaaGreatDoor
open Go.RowKit BT Go.Lib
variable {w w':World}{D:Nat}{MA:Option Addr}{a:PA}{F:Nat→Prop}{p:Pl}
theorem qlW (x:Bs):blt x []=false:=by cases x<;>rfl
theorem qaB (l:List Pr):l.filter (geB [])=l∧l.takeWhile (ltB [])=l:=by
 refine⟨List.filter_eq_self.2 (fun p _=>by simp[geB,qlW]),?_⟩;have:=qbV (q:=ltB []) (a:=l) [] (zb0.2 (fun p _=>by simp[ltB]));simpa using this
def MayM (w:World)(D:Nat)(MS:Nat→Prop)(MA:Option Addr)(rs:List (Nat×List Pr)):Prop:=
 ∃ mb mo,MA=some ⟨mb,mo,none⟩∧mb≠D∧∀ k r,rs[k]?=some r→w.cell? ⟨mb,mo+k,none⟩=some (.pointer (some ⟨r.1,0,none⟩))∧r.1≠D∧r.2.length≤1000∧∃ A c,RowM w r.1 MS A c r.2
theorem MayM.below {MS:Nat→Prop}{rs:List (Nat×List Pr)}(h:MayM w D MS MA rs)(hb:Below w.heap.size w w'):MayM w' D MS MA rs:=by
 obtain⟨mb,mo,e,hn,hr⟩:=h;refine⟨mb,mo,e,hn,fun k r hk=>?_⟩;obtain⟨q1,q2,q3,A,c,q4⟩:=hr k r hk;exact⟨(zaR (hb.block mb (cell_lt q1))).trans q1,q2,q3,A,c,q4.below hb⟩
theorem TrM.touch {G d T:Nat}{H:Nat→Prop}{g:Pg}{root1:Nat}(h:TrM w a G d T F p g root1)(ht:Touch H w w')(hd:∀ b,TF F G T b→¬H b)(h1:¬H 1):TrM w' a G d T F p g root1:=
 ⟨h.pg.touch ht (fun b hb=>hd b (.inl hb)) h1,(ht.block T h.lt (hd T (.inr rfl))).trans h.t,h.nT⟩
theorem RowM.touch {M:Nat→Prop}{R:Nat}{S:Nat→Prop}{A:Option Addr}{c:Nat}{l:List Pr}(h:RowM w R S A c l)(ht:Touch M w w')(hR:¬M R)(hS:∀ b,S b→¬M b):RowM w' R S A c l:=
 ⟨(ht.block R (zab.1 h.box).1 hR).trans h.box,h.pr.same (Same.of_touch ht hS),h.cap⟩
def OnF (X:Nat→Prop)(w:World)(D:Nat)(a:PA)(F:Nat→Prop)(p:Pl)(pages:Nat)(c:Cm)(old:List Pr)(MS:Nat→Prop)(pg dims:Int)(e:Ending)(w':World):Prop:=
 e=.returned (.bool true)∧Touch X w w'∧∃ G T Rn Ro S1 S2 A1 c1 A2 c2,
  w'.heap[D]?=some (.cells #[.pointer (some ⟨a.P,0,none⟩),.pointer (some ⟨G,0,none⟩),.pointer (some ⟨T,0,none⟩),.pointer (some ⟨Rn,0,none⟩),.pointer (some ⟨Ro,0,none⟩),.int .i64 pg,.int .i64 dims] 32 (0,0))∧
  TrM w' a G 0 T F p ⟨pages,c.gen,c.root1,c.ub,c.ub⟩ c.root1∧RowM w' Rn S1 A1 c1 old∧RowM w' Ro S2 A2 c2 old∧w.heap.size≤G∧G<T∧T<Ro∧Ro<Rn∧
  (∀ b,S1 b→(MS b∨T<b)∧b≠Ro∧b<Rn)∧∀ b,S2 b→(MS b∨T<b)∧b<Ro
theorem qe5 {m pages L:Nat}{KA:Option Addr}{kn kc mn mc:Nat}{v1 v2 v3 v4:Value}{dims pg:Int}{rs:List (Nat×List Pr)}{c:Cm}{old:List Pr}{MS:Nat→Prop}
  (hbox:w.heap[D]?=some (.cells #[.pointer (some ⟨a.P,0,none⟩),v1,v2,v3,v4,.int .i64 pg,.int .i64 dims] 32 (0,0)))(hpl:PlM w a F p)(hnib:Nib w)(hF1:¬F 1)(hoff:p.off=false)(hm:p.most[0]?=some m)(hmp:min ((m-2) / 8) 384=pages)(ho:OldIs p 0 pages L c old)(hol:old.length≤1000)
  (hD:¬F D∧D≠1)(hMS:∀ b,MS b→b<w.heap.size∧b≠D)(hmay:MayM w D MS MA rs)(hmn:rs.length=mn)(hmc:mn≤100)(hin:∃ r∈rs,r.2=old) :
  Calls Tryz.prog 11 #[.pointer (some ⟨D,0,none⟩),.slice KA kn kc,.slice MA mn mc] w (OnF (fun b=>b=D) w D a F p pages c old MS pg dims):=by
 have hA:0<pages:=by
  obtain⟨m2,h1,h2,h3⟩:=ho.com.m;omega
 obtain⟨oc1,oc2⟩:=ho.com.open_;have Hs:=qe2 hpl hnib hF1 (d:=0) (m:=m) hm (by omega) hoff;unfold OpF at Hs;rw[hmp,oc1,oc2]at Hs;have H6:=zH Hs;have HO:=zH ho;have Hz:=zH hmay;have H5:=zH hin;have HM:=zH hD;have Hi:=zH hMS;have hu:=zH (show ∀ b,F b→b<w.heap.size from hpl.hF);have Hy:=zH hbox;have g0:w.cell? ⟨D,0,none⟩=some (.pointer (some ⟨a.P,0,none⟩)):=zC hbox;clear Hs oc1 oc2 hpl hnib ho hmay hbox hin hD hMS;go_enter Tryz.func11,Tryz.ntmps11
 go_wp2_with fail
 go_loopw [7] (fun s7 wr=>s7=.int .i64 0∧wr=w) (fun _ _=>0)
 case atStart=>exact⟨rfl,rfl⟩
 case round=>
  rename World=>wr;obtain⟨rfl,rfl⟩:=hrel;go_upto_if 35 with(go_at_call 19;refine H6.o.mono ?_;rintro e w3 ⟨hb3,(⟨-,G,rfl,hG,hpg3⟩|⟨h,-⟩)⟩)
  ·have H7:=zH (qe4 hpg3);have Hq:=zH hb3;have HG:=zH hG;have H4:=zH (show G<w3.heap.size from hpg3.lt);clear hpg3 hb3 hG;go_upto_if 58 with(go_at_call 20;refine H7.o.mono ?_;rintro e w4 ⟨T,rfl,htr,hb4,hT⟩)
   have HJ:pages≤384:=by omega
   have HI:=HO.o.seen;have He:=qcH (A:=none) (HA:=none) (lo:=[]) (hi:=[]) (n:=0) (c:=0) (hn:=0) (hc:=0) htr hoff (TreeIs.lii HI HJ []) (By.nil _ _) (By.nil _ _) rfl rfl (by rw[(qaB old).1];omega) (fun x hx=>by
    rw[(qaB old).1]at hx;have:=(TreeIs.srt HI).2 x hx;have h1:=this.1.2;have h2:=this.2;omega)
   rw[(qaB old).1,(qaB old).2]at He;have HL:=zH He;unfold LsF at HL;have HV:=zH htr;have HK:=zH hb4;have HT:=zH hT;clear He HI htr hb4 hT;go_upto_if 65 with(go_at_call 13;refine HL.o.mono ?_;rintro e w5 ⟨hb5,LA,lc,cs,rfl,hown,hrow⟩)
   have H8:=zH (LsF.prs hown hrow);have Hp:Below wr.heap.size wr w5:=Hq.o.trans ((HK.o.mono Hq.o.size).trans (hb5.mono (zah Hq.o.size HK.o.size)));have Hh:=zH Hp;have Hb:=zH hb5;clear hown hrow hb5 Hp;obtain⟨no,hno⟩:∃ x,old.length=x:=⟨_,rfl⟩;rw[hno];go_wp2_with fail
   go_loopw [13] (fun s13 wx=>∃ k:Nat,s13=.int .i64 k∧k≤mn∧Below w5.heap.size w5 wx∧∀ j r,j<k→rs[j]?=some r→r.2≠old) (fun s13 _=>mn-(RowKit.intOf s13).toNat)
   case atStart=>exact⟨0,rfl,za7 _,zai _ _,fun j r h=>absurd h (by omega)⟩
   case round=>
    rename World=>wx;obtain⟨k,rfl,hk,hbx,hne⟩:=hrel;have HN:=zH hne;clear hne;by_cases hkn:k<mn
    ·have hs:k<rs.length:=by rw[hmn];exact hkn
     obtain⟨r,hr⟩:∃ r,rs[k]?=some r:=⟨_,zaa hs⟩;obtain⟨mb,mo,rfl,hmD,hrs⟩:=Hz.o.below (Hh.o.trans (hbx.mono Hh.o.size));obtain⟨q1,q2,q3,A,cc,q4⟩:=hrs k r hr;have c0:=q4.c0;obtain⟨nr,hnr⟩:∃ x,r.2.length=x:=⟨_,rfl⟩;have Hm:=zH (qcO (ca:=lc) (cb:=cc) (H8.o.below hbx) q4.pr hno hnr (by omega));rw[hnr]at c0;obtain⟨ok,hok⟩:∃ x,mo+k=x:=⟨_,rfl⟩;rw[hok]at q1;have h1:(k:Int)<(mn:Int):=by omega
     have h0:(0:Int)≤(k:Int):=by omega
     have H9:=zH q4;have HQ:=zH (show r.1≠D∧¬MS D from⟨q2,fun h=>(Hi.o D h).2 rfl⟩);have HR:=zH hr;have Hf:=zH hbx;obtain⟨R1,l1⟩:=r;simp only at q1 c0 Hm hnr q3⊢;clear hrs q4 q2 hr hbx;by_cases he:old=l1
     ·rw[zas he]at Hm;have HE:=zH he;clear he;go_upto_if 80 with(go_at_call 14;refine Hm.o.mono ?_;rintro e w6 ⟨rfl,hb6⟩)
      have Hc:Below wr.heap.size wr w6:=Hh.o.trans ((Hf.o.mono Hh.o.size).trans (hb6.mono (zah Hh.o.size Hf.o.size)));have Hg:=(Hc.block D (cell_lt g0)).trans Hy.o;have s1:w6.cell? ⟨D,1,none⟩=some v1:=zC Hg;have s2:w6.cell? ⟨D,2,none⟩=some v2:=zC Hg;have t1:w6.frozen? ⟨D,1,none⟩=false:=zaQ _ _ _ _ _ Hg;have t2:w6.frozen? ⟨D,2,none⟩=false:=zaQ _ _ _ _ _ Hg;have hg:=zH Hg;have H1:=zH Hc;have Hx:=zH hb6;have ha:=zH (H9.o.below hb6);have HY:w6.cell? ⟨mb,ok,none⟩=some (.pointer (some ⟨R1,0,none⟩)):=(zaR (hb6.block mb (cell_lt q1))).trans q1;clear Hg Hc hb6;go_upto_region 22 with fail
      have Hn:Touch (fun b=>b=D) w6 ((w6.setCell ⟨D,1,none⟩ (.pointer (some ⟨G,0,none⟩))).setCell ⟨D,2,none⟩ (.pointer (some ⟨T,0,none⟩))):=Touch.setCell (F:=fun b=>b=D) (Touch.setCell (F:=fun b=>b=D) (Touch.refl _ _) (p:=⟨D,1,none⟩) rfl _) (p:=⟨D,2,none⟩) rfl _;have Ht:((w6.setCell ⟨D,1,none⟩ (.pointer (some ⟨G,0,none⟩))).setCell ⟨D,2,none⟩ (.pointer (some ⟨T,0,none⟩))).heap[D]?=some (.cells #[.pointer (some ⟨a.P,0,none⟩),.pointer (some ⟨G,0,none⟩),.pointer (some ⟨T,0,none⟩),v3,v4,.int .i64 pg,.int .i64 dims] 32 (0,0)):=qab (qab hg.o _) _;generalize (w6.setCell ⟨D,1,none⟩ (.pointer (some ⟨G,0,none⟩))).setCell ⟨D,2,none⟩ (.pointer (some ⟨T,0,none⟩))=w7 at Hn Ht⊢;have HZ:w7.cell? ⟨mb,ok,none⟩=some (.pointer (some ⟨R1,0,none⟩)):=(qag Hn (cell_lt HY) hmD).trans HY;have HP:=zH (ha.o.touch Hn HQ.o.1 (fun b hb e=>HQ.o.2 (by rw[←e];exact hb)));have H2:=zH (qdk HP.o (by omega));have hh:=zH Ht;have HS:=zH Hn;have HX:D<w7.heap.size:=(zab.1 Ht).1;clear Ht Hn s1 s2 t1 t2;go_upto_region 23 with(go_at_call 26;refine H2.o.mono ?_;rintro e w8 ⟨hb8,R8,A8,c8,rfl,hR8,hrm8⟩;have Hu:=(hb8.block D HX).trans hh.o;have s4:w8.cell? ⟨D,4,none⟩=some v4:=(zC Hu);have t4:w8.frozen? ⟨D,4,none⟩=false:=(by exact zaQ _ _ _ _ _ Hu);have hl:=zH Hu;have HC:=zH hrm8;have Hk:=zH (show R8<w8.heap.size from cell_lt hrm8.c0);have HB:=zH hR8;have Hr:=zH hb8;clear Hu hb8 hrm8)
      have Ho:Touch (fun b=>b=D) w8 (w8.setCell ⟨D,4,none⟩ (.pointer (some ⟨R8,0,none⟩))):=Touch.setCell (F:=fun b=>b=D) (Touch.refl _ _) (p:=⟨D,4,none⟩) rfl _;have Hv:(w8.setCell ⟨D,4,none⟩ (.pointer (some ⟨R8,0,none⟩))).heap[D]?=some (.cells #[.pointer (some ⟨a.P,0,none⟩),.pointer (some ⟨G,0,none⟩),.pointer (some ⟨T,0,none⟩),v3,.pointer (some ⟨R8,0,none⟩),.int .i64 pg,.int .i64 dims] 32 (0,0)):=qab hl.o _;generalize w8.setCell ⟨D,4,none⟩ (.pointer (some ⟨R8,0,none⟩))=w9 at Ho Hv⊢;have H0:w8.cell? ⟨mb,ok,none⟩=some (.pointer (some ⟨R1,0,none⟩)):=(zaR (Hr.o.block mb (cell_lt HZ))).trans HZ;have hB:w9.cell? ⟨mb,ok,none⟩=some (.pointer (some ⟨R1,0,none⟩)):=(qag Ho (cell_lt H0) hmD).trans H0;have hd:=zH ((HP.o.below Hr.o).touch Ho HQ.o.1 (fun b hb e=>HQ.o.2 (by rw[←e];exact hb)));have H3:=zH (qdk hd.o (by omega));have hp:=zH Hv;have HU:=zH Ho;have HF:D<w9.heap.size:=(zab.1 Hv).1;clear Hv Ho s4 t4;go_wp2_with (go_at_call 26;refine H3.o.mono ?_;rintro e w10 ⟨hb10,R10,A10,c10,rfl,hR10,hrm10⟩;have Ha:=(hb10.block D HF).trans hp.o;have s5:w10.cell? ⟨D,3,none⟩=some v3:=(zC Ha);have t5:w10.frozen? ⟨D,3,none⟩=false:=(by exact zaQ _ _ _ _ _ Ha);have HD:=zH Ha;have Hl:=zH hrm10;have Hj:=zH hR10;have Hw:=zH hb10;clear Ha hb10 hrm10)
      go_ret;have tE:Touch (fun b=>b=D) w10 (w10.setCell ⟨D,3,none⟩ (.pointer (some ⟨R10,0,none⟩))):=Touch.setCell (F:=fun b=>b=D) (Touch.refl _ _) (p:=⟨D,3,none⟩) rfl _;have t8:Touch (fun b=>b=D) w8 w10:=HU.o.trans (Touch.of_below Hw.o);have t6:Touch (fun b=>b=D) w6 w10:=(HS.o.trans (Touch.of_below Hr.o)).trans t8;have HW:Below w4.heap.size w4 w6:=Hb.o.trans ((Hf.o.mono Hb.o.size).trans (Hx.o.mono (zah Hb.o.size Hf.o.size)));have t4:Touch (fun b=>b=D) w4 w10:=(Touch.of_below HW).trans t6;have t0:Touch (fun b=>b=D) wr w10:=(Touch.of_below H1.o).trans t6;have z1:=Hq.o.size;have z2:=HW.size;have z3:=HS.o.size;have z4:=Hr.o.size;have z5:=HU.o.size;have hG:=HG.o;have hT:=HT.o;have hw:=HB.o;have hq:=Hj.o;have hy:=H4.o;have hz:=HV.o.lt;have HX:D<wr.heap.size:=cell_lt g0;obtain rfl:old=l1:=HE.o;refine⟨rfl,t0.trans tE,G,T,R10,R8,_,_,_,_,_,_,qab HD.o _,HV.o.touch (t4.trans tE) ?_ (fun e=>HM.o.2 e.symm),Hl.o.touch tE ?_ ?_,HC.o.touch (t8.trans tE) ?_ ?_,hG,?_,?_,?_,?_,?_⟩
      ·rintro b ((h|h)|h) e
       ·exact HM.o.1 (e▸h)
       ·omega
       ·omega
      ·omega
      ·rintro b (h|h) e
       ·exact(Hi.o b h).2 e
       ·omega
      ·omega
      ·rintro b (h|h) e
       ·exact(Hi.o b h).2 e
       ·omega
      ·omega
      ·omega
      ·have:=Hk.o;omega
      ·rintro b (h|h)
       ·have:=(Hi.o b h).1;exact⟨.inl h,by omega,by omega⟩
       ·have:=Hk.o;exact⟨.inr (by omega),by omega,h.2⟩
      ·rintro b (h|h)
       ·have:=(Hi.o b h).1;exact⟨.inl h,by omega⟩
       ·exact⟨.inr (by omega),h.2⟩
     ·rw[zal he]at Hm;go_wp2_with (go_at_call 14;refine Hm.o.mono ?_;rintro e w6 ⟨rfl,hb6⟩)
      refine⟨⟨k+1,by go_num,by omega,Hf.o.trans (hb6.mono Hf.o.size),fun j r hj hr=>?_⟩,by simp[RowKit.intOf];omega⟩;rcases zbL j k with h|h
      ·exact HN.o j r h hr
      ·obtain rfl:j=k:=by omega
       rw[HR.o]at hr;cases hr;exact fun e=>he e.symm
    ·have HH:¬((k:Int)<(mn:Int)):=by omega
     have ht:decide ((k:Int)<(mn:Int))=false:=zal HH;go_wp2;go_ret;exfalso;obtain⟨r,hr,e⟩:=H5.o;obtain⟨j,hj,hje⟩:=List.getElem_of_mem hr;exact HN.o j r (by omega) (by rw[zaa hj,hje]) e
end Go.Proofs.YtpmebcgmgfcmiaaGreatDoor
namespace Go.Proofs.YtpmebcgmgfcmiaaGreatDoor.BT
variable {m k e1 e2 d L N:Nat}{p:Pl}{t:Ts}{now old:List Pr}{key:Bs}{v:Option Bs}
def Fits (L N:Nat):Prop:=∀ D n l,KeyL L l→l.length≤N→Fit D L n l
theorem qdt:Fits 24 13:=fun _ n l h1 h2=>qiE (c:=2) (N:=13) (by omega) n l h1 h2 (fun M h _=>by omega)
theorem qdR:Fits 2 200:=fun _ n l h1 h2=>qiE (c:=3) (N:=200) (by omega) n l h1 h2 (fun M h _=>by omega)
theorem qjk (l:List Wt)(p:Pl):(qax p l).2.waits.length≤p.waits.length+l.length:=by
 obtain⟨k,h1,h2,_⟩:=(qbW l p).waits;rw[h2,zad,zag];omega
theorem qdU:∀ (l:List Wt) (p:Pl),Sure p→(qax p l).1=true∧Sure (qax p l).2
 | [],p,h=>⟨rfl,h⟩
 | x::l,p,h=>by
  rw[qc0,qhc h];exact qdU l _ h
structure More (n:Nat) (p:Pl) (e:Nat) (q:Pl) (e':Nat):Prop where
 waits:q.waits.length≤p.waits.length+8*n
 most:q.most=p.most
 tp:q.tp=p.tp
 sure:Sure p→e≠2→Sure q∧e'≠2
theorem More.refl (n:Nat)(p:Pl)(e:Nat):More n p e p e:=⟨by omega,rfl,rfl,fun h k=>⟨h,k⟩⟩
theorem More.trans {n:Nat}{q r:Pl}{e3:Nat}(h:More m p e1 q e2)(g:More n q e2 r e3)(hk:m+n≤k):More k p e1 r e3:=
 ⟨by have:=h.waits;have:=g.waits;omega,g.most.trans h.most,g.tp.trans h.tp,fun a b=>(h.sure a b).elim fun c d=>g.sure c d⟩
theorem More.mono {q:Pl}(h:More m p e1 q e2)(hk:m≤k):More k p e1 q e2:=h.trans (More.refl 0 _ _) (by omega)
theorem qhx (d pages:Nat)(was b:Bs)(s:Ws):More 1 s.p s.e (putW d pages was b s).2.p (putW d pages was b s).2.e:=by
 unfold putW;split
 ·exact More.refl _ _ _
 ·split
  ·exact⟨by simp,rfl,rfl,fun h _=>⟨h,by simp⟩⟩
  ·rename_i n hn;have hw:=qjk (qaj d n b) s.p;rw[qcu]at hw;have g:=qbW (qaj d n b) s.p;split
   ·exact⟨by simpa using hw,g.most,g.tp,fun h k=>⟨(qdU _ _ h).2,k⟩⟩
   ·rename_i hf;exact⟨by simpa using hw,g.most,g.tp,fun h _=>absurd (qdU (qaj d n b) _ h).1 hf⟩
mutual
theorem qi3 (d pages:Nat)(was:Bs):∀ (k:Kd) (s:Ws),More (news k) s.p s.e (wrP d pages was k s).2.p (wrP d pages was k s).2.e
 | .page p,s=>by simp only[wrP];exact More.refl _ _ _
 | .leaf ps,s=>by simp only[wrP,news];exact qhx _ _ _ _ _
 | .inner ks xs,s=>by
  simp only[wrP,news];exact(qhR d pages was xs s).trans (qhx _ _ _ _ _) (by omega)
theorem qhR (d pages:Nat)(was:Bs):∀ (xs:List Kd) (s:Ws),More (qaq xs) s.p s.e (wrPs d pages was xs s).2.p (wrPs d pages was xs s).2.e
 | [],s=>by simp only[wrPs];exact More.refl _ _ _
 | x::xs,s=>by
  simp only[wrPs,qaq];exact(qi3 d pages was x s).trans (qhR d pages was xs _) (by omega)
end
theorem qjL (d:Nat)(t:Ts)(met:List Nat)(o:Option Kd)(n:Nat)(h:∀ k,o=some k→news (single 400 k)≤n):More n t.p 0 (qeq d t met o).2.p (qeq d t met o).1:=by
 cases o with
 | none=>exact More.refl _ _ _
 | some k=>
  have hm:=(qi3 d t.g.pages t.g.was (single 400 k) ⟨0,t.p,t.g.use,[]⟩).mono (h k rfl);unfold qeq;simp only;split
  ·rename_i he;rw[he]at hm;exact hm
  ·exact hm
theorem qdc (d:Nat)(t:Ts)(key:Bs)(v:Option Bs)(n:Nat)(h:∀ k m,qdI (qah (t.p.seen d) t.g.pages t.g.use) t.root1 key v=some (some k,m)→news (single 400 k)≤n):More n t.p 0 (qa5 d t key v).2.p (qa5 d t key v).1:=by
 unfold qa5;split
 ·exact⟨by simp,rfl,rfl,fun h _=>⟨h,by simp⟩⟩
 ·split
  ·exact⟨by simp,rfl,rfl,fun h _=>⟨h,by simp⟩⟩
  ·rename_i x hx;refine qjL d t x.2 x.1 n fun k hk=>h k x.2 ?_;rw[hx,←hk]
theorem Std.news (hs:Std d L t now old)(hk:klen key)(hkL:key.length≤L)(hv:∀ x,v=some x→x.length≤160)(hf:Fits L N)(hN:(chgR key v now).length≤N) :
  ∀ k m,qdI (qah (t.p.seen d) t.g.pages t.g.use) t.root1 key v=some (some k,m)→Go.Proofs.YtpmebcgmgfcmiaaGreatDoor.BT.news (single 400 k)≤8:=by
 intro k m he;unfold qdI at he;by_cases h0:t.root1=0
 ·rw[zaw h0]at he;cases he;rw[qaO];simp[Go.Proofs.YtpmebcgmgfcmiaaGreatDoor.BT.news]
 ·rw[zaB h0]at he;obtain⟨h,t1,t2,t3,t4⟩:=hs.now.some h0;obtain⟨got,bet,m2,c1,c2⟩:=t1.change (f:=400) t3 (by omega) (qdP _ _ _) rfl (key:=key) (v:=v) (fun ks xs hnd=>hf _ _ _ (t1.keys.chg hkL) (by rw[t2];exact hN)) hk hkL hv;rw[c1]at he;simp only[zcb,zax,zaN]at he;rcases c2 with⟨rfl,_,_⟩|⟨h',k',e0,_,_,_,e4⟩
  ·cases he.1
  ·rw[e0]at he;cases he.1;exact e4
theorem Std.step (hs:Std d L t now old)(hk:klen key)(hkL:key.length≤L)(hv:∀ x,v=some x→x.length≤160)(hne:t.root1=0→v≠none)(hf:Fits L N)(hN:(chgR key v now).length≤N) :
  (((qa5 d t key v).1=3∧qal t.g.pages t.g.use t.g.was<16∧(qa5 d t key v).2=t)∨Came d L t (qa5 d t key v) (chgR key v now) old)∧More 8 t.p 0 (qa5 d t key v).2.p (qa5 d t key v).1:=by
 refine⟨hs.apply hk hkL hv hne fun ks xs hd _=>hf _ _ _ ?_ hN,qdc d t key v 8 (hs.news hk hkL hv hf hN)⟩;by_cases h0:t.root1=0
 ·rw[(hs.now.none h0).1];exact KeyL.chg (fun p hp=>by cases hp) hkL
 ·obtain⟨h,t1,t2,_,_⟩:=hs.now.some h0;rw[←t2];exact t1.keys.chg hkL
theorem qfJ:(p.flush d).2.waits.length≤p.waits.length∧(p.flush d).2.most=p.most∧(p.flush d).2.tp=p.tp∧(Sure p→(p.flush d).1=true∧Sure (p.flush d).2):=by
 obtain⟨h1,h2,h3,h4,h5,h6⟩:=qcS p;refine⟨?_,?_,?_,fun h=>by rw[qfK h];exact⟨rfl,h⟩⟩ <;>
 ·unfold Pl.flush;split
  ·first|rfl|exact zac _
  ·split
   ·first|exact h1|exact h2|exact zbJ ..
   ·first|exact h1|exact h2|(simp only[h4];exact zac _)
theorem qmo {x:Wt}:(wf p x).2.waits.length≤p.waits.length+1∧(wf p x).2.most=p.most∧(wf p x).2.tp=p.tp∧(Sure p→(wf p x).1=true∧Sure (wf p x).2):=by
 have g:=qbv p x;obtain⟨k,k1,k2,_⟩:=g.waits;have hl:(p.give x).2.waits.length≤p.waits.length+1:=by rw[k2,zad,zag];simp only[zao,zaZ];omega
 obtain⟨f1,f2,f3,_⟩:=qfJ (p:=(p.give x).2) (d:=x.dev);refine⟨?_,?_,?_,fun h=>⟨(qd4 h x).1,(qd4 h x).2.sure⟩⟩ <;>
 ·unfold wf;split
  ·first|exact f2.trans g.most|exact f3.trans g.tp|exact zah f1 hl
  ·first|exact g.most|exact g.tp|exact hl
theorem qd8 (d:Nat)(t:Ts):More 1 t.p 0 (qaW d t).2.p (qaW d t).1:=by
 have h:(commitP t.p d t.g.gen t.root1 t.g.use).2.waits.length≤t.p.waits.length+1∧(commitP t.p d t.g.gen t.root1 t.g.use).2.most=t.p.most∧(commitP t.p d t.g.gen t.root1 t.g.use).2.tp=t.p.tp∧(Sure t.p→(commitP t.p d t.g.gen t.root1 t.g.use).1=true∧Sure (commitP t.p d t.g.gen t.root1 t.g.use).2):=by
  obtain⟨f1,f2,f3,f4⟩:=qfJ (p:=t.p) (d:=d);obtain⟨g1,g2,g3,g4⟩:=qmo (p:=(t.p.flush d).2) (x:=⟨d,slot (t.g.gen+1),superB (t.g.gen+1) t.root1 t.g.use⟩);unfold commitP;split
  ·exact⟨by omega,g2.trans f2,g3.trans f3,fun h=>g4 (f4 h).2⟩
  ·rename_i hf;exact⟨by simp only;omega,f2,f3,fun h=>absurd (f4 h).1 hf⟩
 obtain⟨h1,h2,h3,h4⟩:=h;unfold qaW;split
 ·exact⟨by simp only;omega,h2,h3,fun h _=>⟨(h4 h).2,by simp⟩⟩
 ·rename_i hf;exact⟨by simp only;omega,h2,h3,fun h _=>absurd (h4 h).1 hf⟩
theorem TreeIs.uses {s:Nat→Bs}{pages:Nat}{use:Bs}{root1:Nat}{l:List Pr}(h:TreeIs s pages use L root1 l)(hL:L≤24):∃ U:List Nat,U.length≤l.length∧∀ i,i<384→hasB use i=true→i∈U:=by
 by_cases h0:root1=0
 ·obtain⟨e,hn⟩:=h.none h0;exact⟨[],by simp,fun i hi hb=>by rw[hn i hi]at hb;cases hb⟩
 ·obtain⟨hh,t1,t2,_,t4⟩:=h.some h0;have hc:=t1.count hL;rw[t2]at hc;exact⟨_,hc,fun i hi hb=>(t4 i hi).1 hb⟩
theorem Std.room2 (h:Std d L t now old)(hL:L≤24):t.g.pages≤qal t.g.pages t.g.use t.g.was+now.length+old.length:=by
 have hp:=h.pages;obtain⟨U,u1,u2⟩:=TreeIs.uses h.now hL;obtain⟨V,v1,v2⟩:=TreeIs.uses h.old.tree hL;have hs:∀ i∈List.range t.g.pages,i∈(List.range t.g.pages).filter (qbJ t.g.use t.g.was)++(U++V):=by
  intro i hi;have Ha:=zbb.1 hi;cases hb:hasB t.g.use i with
  | true=>exact zay _ (zaX _ (u2 i (by omega) hb))
  | false=>
   cases hw:hasB t.g.was i with
   | true=>exact zay _ (zay _ (v2 i (by omega) hw))
   | false=>exact zaX _ (zbH.2 ⟨hi,by simp[qbJ,hb,hw]⟩)
 have:=qfY List.nodup_range hs;rw[zci,zad,zad]at this;have e:((List.range t.g.pages).filter (qbJ t.g.use t.g.was)).length=qal t.g.pages t.g.use t.g.was:=rfl;omega
theorem Std.root_in (h:Std d L t now old):t.root1=0∨inUseB t.g ((t.root1:Int)-1)=true:=by
 by_cases h0:t.root1=0
 ·exact .inl h0
 ·right;have hp:=h.pages;obtain⟨hh,t1,t2,_,t4⟩:=h.now.some h0;have hm:t.root1-1∈pgs (qah (t.p.seen d) t.g.pages t.g.use) hh (.page (t.root1-1)):=by
   obtain⟨m,m1,m2,_⟩:=t1.wf;cases hh with
   | zero=>simp[pgs,pageOf]
   | succ hh=>rw[qaY m1 m2];simp[pageOf]
  have hi:=qks _ _ t1.wf _ hm;have hu:=(t4 _ (by omega)).2 hm;have e:((t.root1:Int)-1).toNat=t.root1-1:=by omega
  unfold inUseB;rw[e,hu,zas (by omega:(0:Int)≤(t.root1:Int)-1),zas (by omega:((t.root1:Int)-1)<(t.g.pages:Int))];rfl
theorem qgO (k v:Bs):∀ l:List Pr,(putR k v l).length≤l.length+1:=by
 intro l
 induction l with
 | nil=>simp[putR]
 | cons p r ih=>
  unfold putR;split
  ·simp only[zao];omega
  ·split<;>simp only[zao]<;>omega
theorem qgs (k:Bs):∀ l:List Pr,(delR k l).length≤l.length:=by
 intro l
 induction l with
 | nil=>simp[delR]
 | cons p r ih=>
  unfold delR;split
  ·simp only[zao];omega
  ·split<;>simp only[zao]<;>omega
end Go.Proofs.YtpmebcgmgfcmiaaGreatDoor.BT
namespace Go.Proofs.YtpmebcgmgfcmiaaGreatDoor
open Go.RowKit BT Go.Lib
section
def SU (F:Nat→Prop)(G T D Rn Ro:Nat)(b:Nat):Prop:=TF F G T b∨b=D∨b=Rn∨b=Ro
structure StM (V:Nat→Prop) (w:World) (B D:Nat) (t:Ts) (now old:List Pr) (pages:Nat) (dims:Int) (a:PA) (G T:Nat) (F:Nat→Prop) (Rn Ro:Nat):Prop where
 sd:SdM w D a G T F t Rn Ro pages dims
 rn:∃ A c,RowM w Rn V A c now
 ro:∃ A c,RowM w Ro V A c old
 vs:∀ b,V b→b<w.heap.size∧¬SU F G T D Rn Ro b
 lo:∀ b,SU F G T D Rn Ro b→B≤b
 nD:¬TF F G T D
 nRn:¬TF F G T Rn
 nRo:¬TF F G T Ro
 ne:D≠Rn∧D≠Ro∧Rn≠Ro
 b1:1<B
theorem RowM.mono {w:World}{R:Nat}{S S':Nat→Prop}{A:Option Addr}{c:Nat}{l:List Pr}(h:RowM w R S A c l)(hS:∀ b,S b→S' b):RowM w R S' A c l:=⟨h.box,h.pr.mono hS,h.cap⟩
theorem RowM.lt {w:World}{R:Nat}{S:Nat→Prop}{A:Option Addr}{c:Nat}{l:List Pr}(h:RowM w R S A c l):R<w.heap.size:=(zab.1 h.box).1
theorem TrM.live {w:World}{a:PA}{G d T:Nat}{F:Nat→Prop}{p:Pl}{g:Pg}{root1:Nat}(h:TrM w a G d T F p g root1):∀ b,TF F G T b→b<w.heap.size:=by
 rintro b ((hb|rfl)|rfl)
 ·exact h.pg.pl.hF b hb
 ·exact h.pg.lt
 ·exact h.lt
section
variable {V:Nat→Prop} {w w':World} {B D:Nat} {t t':Ts} {now old l:List Pr} {pages:Nat} {dims dims':Int} {a:PA} {G T:Nat} {F F':Nat→Prop} {Rn Ro:Nat}
theorem StM.live (h:StM V w B D t now old pages dims a G T F Rn Ro):∀ b,SU F G T D Rn Ro b→b<w.heap.size:=by
 rintro b (hb|rfl|rfl|rfl)
 ·exact h.sd.tr.live b hb
 ·exact(zab.1 h.sd.box).1
 ·obtain⟨_,_,hr⟩:=h.rn;exact hr.lt
 ·obtain⟨_,_,hr⟩:=h.ro;exact hr.lt
theorem StM.max (h:StM V w B D t now old pages dims a G T F Rn Ro):StM (fun b=>b<w.heap.size∧¬SU F G T D Rn Ro b) w B D t now old pages dims a G T F Rn Ro:=by
 obtain⟨A,c,h1⟩:=h.rn;obtain⟨A2,c2,h2⟩:=h.ro;exact⟨h.sd,⟨A,c,h1.mono h.vs⟩,⟨A2,c2,h2.mono h.vs⟩,fun b hb=>hb,h.lo,h.nD,h.nRn,h.nRo,h.ne,h.b1⟩
theorem StM.n1 (h:StM V w B D t now old pages dims a G T F Rn Ro):¬SU F G T D Rn Ro 1:=fun hu=>by
 have:=h.lo 1 hu;have:=h.b1;omega
theorem StM.touch {X:Nat→Prop}(h:StM V w B D t now old pages dims a G T F Rn Ro)(ht:Touch X w w')(hX:∀ b,X b→¬SU F G T D Rn Ro b∧¬V b∧b≠1):StM V w' B D t now old pages dims a G T F Rn Ro:=by
 obtain⟨A,c,h1⟩:=h.rn;obtain⟨A2,c2,h2⟩:=h.ro;have hl:=ht.size;have hx:∀ b,SU F G T D Rn Ro b→¬X b:=fun b hu hx=>(hX b hx).1 hu;exact⟨⟨(ht.block D (h.live D (.inr (.inl rfl))) (hx _ (.inr (.inl rfl)))).trans h.sd.box,h.sd.tr.touch ht (fun b hb=>hx b (.inl hb)) (fun h=>(hX 1 h).2.2 rfl)⟩,⟨A,c,h1.touch ht (hx _ (.inr (.inr (.inl rfl)))) fun b hb hb2=>(hX b hb2).2.1 hb⟩,⟨A2,c2,h2.touch ht (hx _ (.inr (.inr (.inr rfl)))) fun b hb hb2=>(hX b hb2).2.1 hb⟩,
  fun b hb=>⟨by have:=(h.vs b hb).1;omega,(h.vs b hb).2⟩,h.lo,h.nD,h.nRn,h.nRo,h.ne,h.b1⟩
theorem StM.below (h:StM V w B D t now old pages dims a G T F Rn Ro)(hb:Below w.heap.size w w'):StM V w' B D t now old pages dims a G T F Rn Ro:=
 h.touch (X:=fun _=>False) (Touch.of_below hb) fun _ h=>h.elim
theorem StM.tree (h:StM V w B D t now old pages dims a G T F Rn Ro)(ht:TrM w' a G 0 T F' t'.p t'.g t'.root1)(hx:Ext (TF F G T) (TF F' G T) w w') :
  StM V w' B D t' now old pages dims a G T F' Rn Ro∧Ext (SU F G T D Rn Ro) (SU F' G T D Rn Ro) w w':=by
 obtain⟨A,c,h1⟩:=h.rn;obtain⟨A2,c2,h2⟩:=h.ro;have hl:=hx.touch.size;have Ha:∀ b,b<w.heap.size→TF F' G T b→TF F G T b:=fun b hb hf=>by
  rcases hx.sub b hf with h|h
  ·exact h
  ·omega
 have Hb:=h.live D (.inr (.inl rfl));have Hc:=h.live Rn (.inr (.inr (.inl rfl)));have He:=h.live Ro (.inr (.inr (.inr rfl)));refine⟨⟨⟨(hx.touch.block D Hb h.nD).trans h.sd.box,ht⟩,⟨A,c,h1.touch hx.touch h.nRn fun b hb hf=>(h.vs b hb).2 (.inl hf)⟩,⟨A2,c2,h2.touch hx.touch h.nRo fun b hb hf=>(h.vs b hb).2 (.inl hf)⟩,fun b hb=>⟨by have:=(h.vs b hb).1;omega,?_⟩,?_,fun hf=>h.nD (Ha _ Hb hf),fun hf=>h.nRn (Ha _ Hc hf),fun hf=>h.nRo (Ha _ He hf),h.ne,h.b1⟩,hx.touch.mono fun b _ hf=>.inl hf,?_⟩
 ·rintro(hf|hf)
  ·exact(h.vs b hb).2 (.inl (Ha b (h.vs b hb).1 hf))
  ·exact(h.vs b hb).2 (.inr hf)
 ·rintro b (hf|hf)
  ·rcases hx.sub b hf with hf|hf
   ·exact h.lo b (.inl hf)
   ·have:=h.lo D (.inr (.inl rfl));omega
  ·exact h.lo b (.inr hf)
 ·rintro b (hf|hf)
  ·rcases hx.sub b hf with hf|hf
   ·exact .inl (.inl hf)
   ·exact .inr hf
  ·exact .inl (.inr hf)
theorem StM.row {v:Value}{e:Ending}(h:StM V w B D t now old pages dims a G T F Rn Ro)(hr:RzF Rn V l v w e w') :
  StM (fun b=>V b∨(w.heap.size≤b∧b<w'.heap.size)) w' B D t l old pages dims a G T F Rn Ro∧Touch (fun b=>b=Rn) w w':=by
 obtain⟨_,ht,A,c,h1⟩:=hr;obtain⟨A2,c2,h2⟩:=h.ro;have hl:=ht.size;refine⟨⟨⟨(ht.block D (h.live D (.inr (.inl rfl))) h.ne.1).trans h.sd.box,h.sd.tr.touch ht (fun b hb e=>h.nRn (e▸hb)) (fun e=>?_)⟩,⟨A,c,h1⟩,⟨A2,c2,(h2.touch ht (fun e=>h.ne.2.2 e.symm) fun b hb e=>(h.vs b hb).2 (.inr (.inr (.inl e)))).mono fun b hb=>.inl hb⟩,fun b hb=>?_,h.lo,h.nD,h.nRn,h.nRo,h.ne,h.b1⟩,ht⟩
 ·have e:(1:Nat)=Rn:=e;have:=h.lo Rn (.inr (.inr (.inl rfl)));have:=h.b1;omega
 ·rcases hb with hb|hb
  ·have:=h.vs b hb;exact⟨by omega,this.2⟩
  ·exact⟨hb.2,fun hu=>by have:=h.live b hu;omega⟩
theorem StM.anew {X:Nat→Prop}{p:Pl}{c:Cm}{e:Ending}(h:StM V w B D t now old pages dims a G T F Rn Ro)(hX:∀ b,X b→SU F G T D Rn Ro b)
  (ho:OnF X w D a F p pages c l V (pages:Int) dims' e w') :
  e=.returned (.bool true)∧∃ G' T' Rn' Ro',StM (fun b=>b<w'.heap.size∧¬SU F G' T' D Rn' Ro' b) w' B D ⟨p,⟨pages,c.gen,c.root1,c.ub,c.ub⟩,c.root1⟩ l l pages dims' a G' T' F Rn' Ro'∧Ext (SU F G T D Rn Ro) (SU F G' T' D Rn' Ro') w w':=by
 obtain⟨he,ht,G',T',Rn',Ro',S1,S2,A1,c1,A2,c2,hbox,htr,hr1,hr2,g1,g2,g3,g4,hS1,hS2⟩:=ho;have Hj:=h.live D (.inr (.inl rfl));have Hf:∀ b,F b→b<w.heap.size:=fun b hb=>h.live b (.inl (.inl (.inl hb)));have He:¬F D:=fun hf=>h.nD (.inl (.inl hf));have Hb:=h.lo D (.inr (.inl rfl));have Hh:=hr1.lt;have Hi:=hr2.lt;have hB:∀ b,SU F G' T' D Rn' Ro' b→(F b∨b=D)∨w.heap.size≤b:=by
  rintro b (((hf|rfl)|rfl)|rfl|rfl|rfl)
  ·exact .inl (.inl hf)
  ·exact .inr g1
  ·exact .inr (by omega)
  ·exact .inl (.inr rfl)
  ·exact .inr (by omega)
  ·exact .inr (by omega)
 have Hg:∀ b,w.heap.size≤b→¬F b:=fun b hb hf=>by have:=Hf b hf;omega
 have Ha:∀ R,T'<R→¬TF F G' T' R:=by
  rintro R hR ((hf|rfl)|rfl)
  ·exact Hg R (by omega) hf
  ·omega
  ·omega
 have Hc:∀ b,V b→¬SU F G' T' D Rn' Ro' b:=fun b hb hu=>by
  rcases hB b hu with(hf|hf)|hf
  ·exact(h.vs b hb).2 (.inl (.inl (.inl hf)))
  ·exact(h.vs b hb).2 (.inr (.inl hf))
  ·have:=(h.vs b hb).1;omega
 refine⟨he,G',T',Rn',Ro',⟨⟨hbox,htr⟩,⟨A1,c1,hr1.mono fun b hb=>?_⟩,⟨A2,c2,hr2.mono fun b hb=>?_⟩,fun b hb=>hb,?_,?_,Ha _ (by omega),Ha _ g3,⟨by omega,by omega,by omega⟩,h.b1⟩,ht.mono fun b _ hx=>hX b hx,?_⟩
 ·obtain⟨k1,k2,k3⟩:=hS1 b hb;refine⟨by omega,?_⟩;rcases k1 with k1|k1
  ·exact Hc b k1
  ·rintro(hu|rfl|rfl|rfl)
   ·exact Ha b k1 hu
   ·omega
   ·omega
   ·exact k2 rfl
 ·obtain⟨k1,k3⟩:=hS2 b hb;refine⟨by omega,?_⟩;rcases k1 with k1|k1
  ·exact Hc b k1
  ·rintro(hu|rfl|rfl|rfl)
   ·exact Ha b k1 hu
   ·omega
   ·omega
   ·omega
 ·intro b hu;rcases hB b hu with(hf|hf)|hf
  ·exact h.lo b (.inl (.inl (.inl hf)))
  ·rw[hf];exact Hb
  ·omega
 ·rintro((hf|rfl)|rfl)
  ·exact He hf
  ·omega
  ·omega
 ·intro b hu;rcases hB b hu with(hf|hf)|hf
  ·exact .inl (.inl (.inl (.inl hf)))
  ·exact .inl (.inr (.inl hf))
  ·exact .inr hf
end
end
variable {w:World}{D:Nat}{MA:Option Addr}
theorem MayM.touch {w':World}{MS X:Nat→Prop}{rs:List (Nat×List Pr)}(h:MayM w D MS MA rs)(ht:Touch X w w')(hB:∀ ad,MA=some ad→¬X ad.block)(hR:∀ r∈rs,¬X r.1)(hS:∀ b,MS b→¬X b):MayM w' D MS MA rs:=by
 obtain⟨mb,mo,e,hn,hr⟩:=h;refine⟨mb,mo,e,hn,fun k r hk=>?_⟩;obtain⟨q1,q2,q3,A,c,q4⟩:=hr k r hk;exact⟨(qag ht (cell_lt q1) (hB _ e)).trans q1,q2,q3,A,c,q4.touch ht (hR r (zak hk)) hS⟩
theorem qjW {pages L:Nat}{a:PA}{F:Nat→Prop}{p:Pl}{KA:Option Addr}{kc mn mc:Nat}{v1 v2 v3 v4:Value}{dims pg:Int}{rs:List (Nat×List Pr)}{c:Cm}{old:List Pr}{MS:Nat→Prop}{keep:List Int}
  (hbox:w.heap[D]?=some (.cells #[.pointer (some ⟨a.P,0,none⟩),v1,v2,v3,v4,.int .i64 pg,.int .i64 dims] 32 (0,0)))(hpl:PlM w a F p)(hnib:Nib w)(hF1:¬F 1)(hoff:p.off=true)(htp:p.tp=[])(hm:p.most=[2+8*pages])(hpg:pages≤384)(ho:OldIs (p.boot keep) 0 pages L c old)(hol:old.length≤1000)
  (hD:¬F D∧D≠1)(hk:Ints w KA keep)(hrng:∀ x∈keep,-9223372036854775808≤x∧x≤9223372036854775807)(hKA:∀ ad,KA=some ad→¬F ad.block)
  (hMS:∀ b,MS b→b<w.heap.size∧b≠D∧¬F b)(hMB:∀ ad,MA=some ad→¬F ad.block)(hMR:∀ r∈rs,¬F r.1)(hmay:MayM w D MS MA rs)(hmn:rs.length=mn)(hmc:mn≤100)(hin:∃ r∈rs,r.2=old)(hd:0≤dims∧dims≤1000000) :
  Calls Tryz.prog 25 #[.pointer (some ⟨D,0,none⟩),.slice KA keep.length kc,.slice MA mn mc] w (OnF (fun b=>F b∨b=D) w D a F (p.boot keep) pages c old MS pg (dims+1)):=by
 have Hj:=qma hpl;rw[hoff]at Hj;have Hv:=zH Hj;have Hl:=zH (qjT (c:=kc) hpl (by rw[htp];intro t h;cases h) hk hrng hKA);have Hp:=zH hbox;have Hh:=zH ho;have Ht:=zH hnib;have Hc:=zH hD;have He:=zH hMS;have Hr:=zH hMB;have Hs:=zH hMR;have Hg:=zH hmay;have Hq:=zH hin;have HM:=zH hm;have HA:=zH hrng;have g0:w.cell? ⟨D,0,none⟩=some (.pointer (some ⟨a.P,0,none⟩)):=zC hbox;obtain⟨kn,hkn⟩:∃ x,keep.length=x:=⟨_,rfl⟩;rw[hkn]at Hl⊢;clear Hj hoff htp hm hbox ho hnib hD hMS hMB hMR hmay hin hrng hk hKA hpl hkn;go_enter Tryz.func25,Tryz.ntmps25
 go_upto_if 11 with(go_at_call 29;refine Hv.o.mono ?_;rintro e w1 ⟨rfl,rfl⟩)
 go_upto_region 5 with(go_at_call 10;refine Hl.o.mono ?_;rintro e w2 ⟨rfl,hpl2,hx2⟩;have Ha:=(hx2.touch.block D (cell_lt g0) Hc.o.1).trans Hp.o;have s6:w2.cell? ⟨D,6,none⟩=some (.int .i64 dims):=(zC Ha);have t6:w2.frozen? ⟨D,6,none⟩=false:=(by exact zaQ _ _ _ _ _ Ha);have Hz:=zH hx2;have Hi:=zH hpl2;have Hf:=zH Ha;clear hx2 hpl2 Ha)
 have tE:Touch (fun b=>b=D) w2 (w2.setCell ⟨D,6,none⟩ (.int .i64 (dims+1))):=Touch.setCell (F:=fun b=>b=D) (Touch.refl _ _) (p:=⟨D,6,none⟩) rfl _;have Hk:(w2.setCell ⟨D,6,none⟩ (.int .i64 (dims+1))).heap[D]?=some (.cells #[.pointer (some ⟨a.P,0,none⟩),v1,v2,v3,v4,.int .i64 pg,.int .i64 (dims+1)] 32 (0,0)):=qab Hf.o _;generalize w2.setCell ⟨D,6,none⟩ (.int .i64 (dims+1))=w3 at tE Hk⊢;have tX:Touch (fun b=>F b∨b=D) w w3:=(Hz.o.touch.mono fun b _ h=>.inl h).trans (tE.mono fun b _ h=>.inr h);have hz:=tX.size;have Hb:=Hi.o.touch tE (fun b hb e=>Hc.o.1 (e▸hb));have Ho:=Ht.o.touch tX (fun h=>h.elim hF1 fun e=>Hc.o.2 e.symm);have Hn:MayM w3 D MS MA rs:=Hg.o.touch tX (fun ad e h=>h.elim (Hr.o ad e) fun e2=>by
  obtain⟨mb,mo,e3,hn,_⟩:=Hg.o;rw[e3]at e;cases e;exact hn e2) (fun r hr h=>h.elim (Hs.o r hr) fun e2=>by
  obtain⟨mb,mo,e3,hn,hh⟩:=Hg.o;obtain⟨k,hk,hke⟩:=List.getElem_of_mem hr;exact(hh k r (by rw[zaa hk,hke])).2.1 e2) (fun b hb h=>h.elim (He.o b hb).2.2 (He.o b hb).2.1)
 have Hm:(p.boot keep).most[0]?=some (2+8*pages):=by
  show p.most[0]?=_;rw[HM.o];rfl
 have Hu:=zH (qe5 (KA:=KA) (kn:=kn) (kc:=kc) (mc:=mc) Hk Hb Ho hF1 rfl Hm (by omega) Hh.o hol Hc.o (fun b hb=>⟨by have:=(He.o b hb).1;omega,(He.o b hb).2.1⟩) Hn hmn hmc Hq.o);have Hy:=zH tX;clear tE Hk Hb Ho Hn Hm tX s6 t6;go_wp2_with (go_at_call 11;go_loud (refine Hu.o.mono ?_;rintro e w4 ⟨rfl,ht4,hrest⟩;have Hx:=zH ht4;have Hw:=zH hrest;clear ht4 hrest))
 go_ret;obtain⟨G,T,Rn,Ro,S1,S2,A1,c1,A2,c2,q1,q2,q3,q4,q5,q6,q7,q8,q9,q10⟩:=Hw.o;exact⟨rfl,Hy.o.trans (Hx.o.mono fun b _ h=>.inr h),G,T,Rn,Ro,S1,S2,A1,c1,A2,c2,q1,q2,q3,q4,by omega,q6,q7,q8,q9,q10⟩
end Go.Proofs.YtpmebcgmgfcmiaaGreatDoor
namespace Go.Proofs.YtpmebcgmgfcmiaaGreatDoor.BT
variable {L n m m' N:Nat}{t:Ts}{now old l:List Pr}{key value:Bs}
structure Gd (L pages n m:Nat) (t:Ts) (now old:List Pr):Prop where
 std:Std 0 L t now old
 pg:t.g.pages=pages
 wt:t.p.waits.length≤64*n
 gen:t.g.gen≤n+1
 most:t.p.most=[2+8*pages]
 tp:t.p.tp=[]
 now:now.length≤m
 old:old.length≤m
theorem Gd.mono {pages n':Nat}(h:Gd L pages n m t now old)(hn:n≤n')(hm:m≤m'):Gd L pages n' m' t now old:=
 ⟨h.std,h.pg,by have:=h.wt;omega,by have:=h.gen;omega,h.most,h.tp,by have:=h.now;omega,by have:=h.old;omega⟩
theorem Gd.le {pages:Nat}(h:Gd L pages n m t now old):pages≤384:=by rw[←h.pg];exact h.std.pages
theorem Gd.srt {pages:Nat}(h:Gd L pages n m t now old):Srt now∧∀ p∈now,plen p:=TreeIs.srt h.std.now
structure Dk (L pages:Nat) (p:Pl) (c:Cm) (old:List Pr):Prop where
 off:p.off=true
 most:p.most=[2+8*pages]
 tp:p.tp=[]
 old:OldIs p 0 pages L c old
theorem Gd.opened {pages:Nat}{p:Pl}{c:Cm}(ho:OldIs p 0 pages L c l)(hoff:p.off=false)(hw:p.waits.length≤64*n)(hg:c.gen≤n+1)(hm:p.most=[2+8*pages])(ht:p.tp=[])(hl:l.length≤m) :
  Gd L pages n m ⟨p,⟨pages,c.gen,c.root1,c.ub,c.ub⟩,c.root1⟩ l l:=⟨ho.stand hoff,rfl,hw,hg,hm,ht,hl,hl⟩
def ChO (L pages n m:Nat)(t:Ts)(old l:List Pr)(put may is there:Bool)(e:Nat)(t':Ts):Prop:=
 (e=120∧put=true∧may=false∧t'=t)∨
 (e=3∧may=true∧qal t.g.pages t.g.use t.g.was<16∧(put=true∨is=false)∧t'=t)∨
 (e=2∧may=true∧Dk L pages t'.p ⟨t.g.gen,t.g.root1,t.g.was⟩ old)∨
 (e=0∧may=true∧is=there∧Gd L pages (n+1) m t' l old)
theorem came_out {pages:Nat}{r:Nat×Ts}(h:Gd L pages n m t now old)(hl:l.length≤m')(hm:m≤m')(hc:Came 0 L t r l old)(hr:More 8 t.p 0 r.2.p r.1) :
  (r.1=2∧Dk L pages r.2.p ⟨t.g.gen,t.g.root1,t.g.was⟩ old)∨(r.1=0∧Gd L pages (n+1) m' r.2 l old):=by
 rcases hc with⟨h1,h2,h3,h4,h5,h6,_⟩|⟨h1,h2,h3⟩
 ·right;refine⟨h1,h2,h6.trans h.pg,?_,?_,hr.most.trans h.most,hr.tp.trans h.tp,hl,?_⟩
  ·have:=hr.waits;have:=h.wt;omega
  ·rw[h3];have:=h.gen;omega
  ·have:=h.old;omega
 ·left;exact⟨h1,h2,hr.most.trans h.most,hr.tp.trans h.tp,by rw[←h.pg];exact h3⟩
theorem qky {pages:Nat}{there:Bool}(h:Gd L pages n m t now old)(hf:Fits L N)(hN:m+1≤N)(hkL:klen key→key.length≤L) :
  ChO L pages n (m+1) t old (putR key value now) true (decide (1≤key.length∧key.length≤24)&&decide (value.length≤160)) there there (putT 0 t key value).1 (putT 0 t key value).2:=by
 unfold putT;have Ha:=qgO key value now;have Hb:=h.now;by_cases hk:1≤key.length∧key.length≤24
 ·by_cases hv:value.length≤160
  ·have hc:1≤key.length∧key.length≤24∧value.length≤160:=⟨hk.1,hk.2,hv⟩;rw[zaw hc,zas hk,zas hv];obtain⟨c1,c2⟩:=h.std.step (key:=key) (v:=some value) hk (hkL hk) (fun x e=>by cases e;exact hv) (fun _=>by simp) hf (show(putR key value now).length≤N by omega);rcases c1 with⟨a1,a2,a3⟩|c1
   ·exact .inr (.inl ⟨a1,rfl,a2,.inl rfl,a3⟩)
   ·rcases came_out (m':=m+1) h (show(putR key value now).length≤m+1 by omega) (by omega) c1 c2 with⟨a1,a2⟩|⟨a1,a2⟩
    ·exact .inr (.inr (.inl ⟨a1,rfl,a2⟩))
    ·exact .inr (.inr (.inr ⟨a1,rfl,rfl,a2⟩))
  ·rw[zaB (fun hc=>hv hc.2.2),zal hv,Bool.and_false];exact .inl ⟨rfl,rfl,rfl,rfl⟩
 ·rw[zaB (fun hc=>hk ⟨hc.1,hc.2.1⟩),zal hk,Bool.false_and];exact .inl ⟨rfl,rfl,rfl,rfl⟩
theorem qeT {k:Bs}:∀ {l:List Pr},getR k l=none→delR k l=l
 | [],_=>rfl
 | p::r,h=>by
  unfold getR at h;unfold delR;split at h
  ·rename_i hb;rw[zaw hb,qeT h]
  ·rename_i hb;rw[zaB hb];split at h
   ·cases h
   ·rename_i he;rw[zaB he]
theorem qex {k v:Bs}:∀ {l:List Pr},getR k l=some v→(k,v)∈l
 | [],h=>by cases h
 | p::r,h=>by
  unfold getR at h;split at h
  ·exact za6 _ (qex h)
  ·split at h
   ·rename_i he;cases h;rw[←he];exact zbI
   ·cases h
theorem qj2 {pages:Nat}(h:Gd L pages n m t now old)(hf:Fits L N)(hN:m≤N)(hkL:klen key→key.length≤L) :
  ChO L pages n m t old (delR key now) false true ((getR key now).isSome&&decide ((delT 0 t key (getR key now)).1=0)) (getR key now).isSome (delT 0 t key (getR key now)).1 (delT 0 t key (getR key now)).2:=by
 have Ha:=qgs key now;have Hb:=h.now;unfold delT;cases hr:getR key now with
 | none=>
  rw[zaw rfl,qeT hr];exact .inr (.inr (.inr ⟨rfl,rfl,rfl,h.mono (by omega) (zac _)⟩))
 | some v=>
  rw[zaB (by simp)];have hk:klen key:=(h.srt.2 _ (qex hr)).1;obtain⟨c1,c2⟩:=h.std.step (key:=key) (v:=none) hk (hkL hk) (fun x e=>by cases e) (fun h0=>by
   rw[(h.std.now.none h0).1]at hr;cases hr) hf (show(delR key now).length≤N by omega)
  rcases c1 with⟨a1,a2,a3⟩|c1
  ·exact .inr (.inl ⟨a1,rfl,a2,.inr (by rw[a1];rfl),a3⟩)
  ·rcases came_out (m':=m) h (show(delR key now).length≤m by omega) (zac _) c1 c2 with⟨a1,a2⟩|⟨a1,a2⟩
   ·exact .inr (.inr (.inl ⟨a1,rfl,a2⟩))
   ·exact .inr (.inr (.inr ⟨a1,rfl,by rw[a1];rfl,a2⟩))
theorem Gd.news {L pages N n m:Nat}{t:Ts}{now old:List Pr}{key:Bs}{v:Option Bs}(h:Gd L pages n m t now old)(hf:Fits L N)(hN:(m+if v=none then 0 else 1)≤N)(hkL:klen key→key.length≤L)(hk:klen key)(hv:∀ x,v=some x→x.length≤160) :
  ∀ k q,qdI (qah (t.p.seen 0) t.g.pages t.g.use) t.root1 key v=some (some k,q)→Go.Proofs.YtpmebcgmgfcmiaaGreatDoor.BT.news (single 400 k)≤1000:=fun k q e=>by
 have:=h.std.news (key:=key) (v:=v) hk (hkL hk) hv hf (by
  have h1:=h.now;cases v with
  | none=>have:=qgs key now;rw[zaw rfl]at hN;show(delR key now).length≤N;omega
  | some x=>have:=qgO key x now;rw[zaB (by simp)]at hN;show(putR key x now).length≤N;omega) k q e
 omega
theorem commit_out {pages:Nat}(h:Gd L pages n m t now old)(hn:n≤1000000) :
  ((qaW 0 t).1=2∧(qaW 0 t).2.p.off=true∧(qaW 0 t).2.p.most=[2+8*pages]∧(qaW 0 t).2.p.tp=[]∧∀ keep:List Int,∃ c l,(l=old∨l=now)∧c.gen≤n+2∧OldIs ((qaW 0 t).2.p.boot keep) 0 pages L c l)∨
  ((qaW 0 t).1=0∧Gd L pages (n+1) m (qaW 0 t).2 now now∧(qaW 0 t).2.g.was=(qaW 0 t).2.g.use):=by
 have hg:=h.gen;have Ha:=qd8 0 t;have hc:=h.std.commit (by omega);have Hb:=h.pg;unfold qaW at Ha⊢;rcases hc with⟨c1,c2,c3⟩|⟨c1,c2,c3⟩
 ·right;rw[zaw c1]at Ha⊢;refine⟨rfl,⟨c2,Hb,?_,?_,Ha.most.trans h.most,Ha.tp.trans h.tp,h.now,h.now⟩,rfl⟩
  ·have:=h.wt;show(commitP t.p 0 t.g.gen t.root1 t.g.use).2.waits.length≤_;omega
  ·show t.g.gen+1≤_;omega
 ·left;rw[zaB (by rw[c1];decide)]at Ha⊢;refine⟨rfl,c2,Ha.most.trans h.most,Ha.tp.trans h.tp,fun keep=>?_⟩;rw[←Hb];rcases c3 keep with c3|c3
  ·exact⟨_,old,.inl rfl,by simp only;omega,c3⟩
  ·exact⟨_,now,.inr rfl,by simp only;omega,c3⟩
theorem qlw {pages:Nat}(h:Gd L pages n m t now old)(hs:Sure t.p)(hL:L≤24)(hr:16+2*m≤pages)(hf:Fits L N)(hN:m+1≤N)(hkL:key.length≤L)(hk:klen key)(hv:value.length≤160) :
  (putT 0 t key value).1=0∧Gd L pages (n+1) (m+1) (putT 0 t key value).2 (putR key value now) old∧Sure (putT 0 t key value).2.p:=by
 have Hb:=hk;unfold klen at Hb;have hc:1≤key.length∧key.length≤24∧value.length≤160:=⟨Hb.1,Hb.2,hv⟩;have e:putT 0 t key value=qa5 0 t key (some value):=by unfold putT;rw[zaw hc]
 rw[e];have hm:=qdc 0 t key (some value) 8 (h.std.news hk hkL (fun x e=>by cases e;exact hv) hf (by have:=qgO key value now;have:=h.now;show(putR key value now).length≤N;omega));obtain⟨s1,s2⟩:=hm.sure hs (by decide);have ho:=qky (value:=value) (there:=true) h hf hN (fun _=>hkL);rw[e,zas Hb,zas hv]at ho;have Ha:=h.std.room2 hL;rw[h.pg]at Ha;rcases ho with⟨_,_,h3,_⟩|⟨_,_,h3,_⟩|⟨h1,_⟩|⟨h1,_,_,h4⟩
 ·cases h3
 ·rw[h.pg]at h3;have:=h.now;have:=h.old;omega
 ·exact absurd h1 s2
 ·exact⟨h1,h4,s1⟩
theorem qk3 {pages:Nat}{v:Bs}(h:Gd L pages n m t now old)(hs:Sure t.p)(hL:L≤24)(hr:16+2*m≤pages)(hf:Fits L N)(hN:m≤N)(hkL:key.length≤L)(hg:getR key now=some v) :
  (delT 0 t key (getR key now)).1=0∧Gd L pages (n+1) m (delT 0 t key (getR key now)).2 (delR key now) old∧Sure (delT 0 t key (getR key now)).2.p:=by
 have hk:klen key:=(h.srt.2 _ (qex hg)).1;have e:delT 0 t key (getR key now)=qa5 0 t key none:=by unfold delT;rw[zaB (by rw[hg];simp)]
 have hm:=qdc 0 t key none 8 (h.std.news hk hkL (fun x e=>by cases e) hf (by have:=qgs key now;have:=h.now;show(delR key now).length≤N;omega));obtain⟨s1,s2⟩:=hm.sure hs (by decide);have ho:=qj2 (key:=key) h hf hN (fun _=>hkL);have Ha:=h.std.room2 hL;rw[h.pg]at Ha;rcases ho with⟨_,h2,_⟩|⟨_,_,h3,_⟩|⟨h1,_⟩|⟨h1,_,_,h4⟩
 ·cases h2
 ·rw[h.pg]at h3;have:=h.now;have:=h.old;omega
 ·rw[e]at h1;exact absurd h1 s2
 ·rw[e]at h1 h4⊢;exact⟨h1,h4,s1⟩
theorem qhZ {pages:Nat}(h:Gd L pages n m t now old)(hn:n≤1000000)(hs:Sure t.p) :
  (qaW 0 t).1=0∧Gd L pages (n+1) m (qaW 0 t).2 now now∧Sure (qaW 0 t).2.p:=by
 obtain⟨s1,s2⟩:=(qd8 0 t).sure hs (by decide);rcases commit_out h hn with⟨h1,_⟩|⟨h1,h2,_⟩
 ·exact absurd h1 s2
 ·exact⟨h1,h2,s1⟩
theorem WF.uniq {D:Dsk}:∀ (h h':Nat) (k:Kd),WF D h k→WF D h' k→h=h'
 | 0,0,_,_,_=>rfl
 | 0,h'+1,k,⟨m,a1,⟨ps,e,_⟩,_⟩,⟨m',b1,⟨ks,xs,e',_⟩,_⟩=>by
  rw[a1]at b1;cases b1;rw[e]at e';cases e'
 | h+1,0,k,⟨m,a1,⟨ks,xs,e,_⟩,_⟩,⟨m',b1,⟨ps,e',_⟩,_⟩=>by
  rw[a1]at b1;cases b1;rw[e]at e';cases e'
 | h+1,h'+1,k,⟨m,a1,⟨ks,xs,e,el,_,_,ex⟩,_⟩,⟨m',b1,⟨ks',xs',e',_,_,_,ex'⟩,_⟩=>by
  rw[a1]at b1;cases b1;rw[e]at e';cases e';cases xs with
  | nil=>simp at el
  | cons x xs=>rw[WF.uniq h h' x (ex x (by simp)) (ex' x (by simp))]
theorem Gd.get_none {pages:Nat}(h:Gd L pages n m t now old)(key:Bs)(hk:t.root1=0∨¬klen key):getR key now=none:=by
 cases hr:getR key now with
 | none=>rfl
 | some v=>
  exfalso;have hm:=qex hr;rcases hk with h0|hk
  ·rw[(h.std.now.none h0).1]at hm;cases hm
  ·exact hk (h.srt.2 _ hm).1
theorem Gd.get_at {pages:Nat}(h:Gd L pages n m t now old)(key:Bs):∀ hh,klen key→WF (qah (t.p.seen 0) t.g.pages t.g.use) hh (.page (t.root1-1))→t.root1≠0→getR key (itemsK (qah (t.p.seen 0) t.g.pages t.g.use) hh (.page (t.root1-1)))=getR key now:=by
 intro hh _ hw h0;obtain⟨h',t1,t2,_,_⟩:=h.std.now.some h0;rw[WF.uniq _ _ _ hw t1.wf,t2]
theorem qlm (k v:Bs):∀ l:List Pr,(k,v)∈putR k v l:=by
 intro l
 induction l with
 | nil=>simp[putR]
 | cons p r ih=>
  unfold putR;split
  ·exact za6 _ ih
  ·split<;>exact zbI
end Go.Proofs.YtpmebcgmgfcmiaaGreatDoor.BT
