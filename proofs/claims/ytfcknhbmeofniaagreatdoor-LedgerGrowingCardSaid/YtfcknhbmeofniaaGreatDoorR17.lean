/- Texts WlI PgI PgJ PgK PgL CtA CtB CtC. -/
import Derived.Test.YtfcknhbmeofniaaGreatDoorR16
set_option linter.all false
set_option maxRecDepth 100000
set_option maxHeartbeats 16000000
set_option linter.all false
namespace Go.Proofs.YtfcknhbmeofniaaGreatDoor
open Go.RowKit BT
theorem qkx {w:World}{a:PA}{F:Nat→Prop}{p:Pl}(h:PlM w a F p){V d m gen ep at' seq:Nat}(hv:WaM w V a d m gen ep at' seq)(hd:p.most[d]?=some m)(hk:at'<m)(hoff:p.off=false)(hz:p.seen d at'=zeros 64)(he:ep≠0) :
  Calls Tryz.prog 81 #[.pointer (some ⟨V,0,none⟩)] w fun e w'=>e=.returned (.tuple #[.slice none 0 0,.int .i64 0,.int .i64 0])∧Below w.heap.size w w':=by
 obtain⟨c0,c1,c2,c3,c4,c5,c6⟩:=hv.cells;have HC:=zH (qku h hv hd hk hoff hz he);clear h hv hd hk hoff hz he;go_enter Tryz.func81,Tryz.ntmps81
 go_wp2_with (first
  | (go_at_call 112;(with_reducible refine HC.o.mono ?_);go_loud (rintro e w2 ⟨rfl,hb2⟩;have Ha:=zH hb2;clear hb2))
  | ((with_reducible show wpList _ _ _ (⟨none,.store 203 _ _,_,_,_,_⟩::_) _ _);go_loud (refine qag rfl 203 (.tmp 5) (.tmp 21) rfl _ 203 (w1:=w2) rfl rfl noCells rfl (by kernel_rfl) (by kernel_rfl) (by decide) ?_)))
 go_ret3
 exact⟨rfl,Ha.o.alloc Ha.o.size _⟩
def WoF (a:PA)(F:Nat→Prop)(p:Pl)(d m g x:Nat)(w:World)(e:Ending)(w':World):Prop:=
 ∃ V,e=.returned (.tuple #[.pointer (some ⟨V,0,none⟩),.slice none 0 0,.int .i64 0])∧w.heap.size≤V∧WaM w' V a d m (g+1) x 2 1∧∃ F',PlM w' a F' (layH p d (g+1) x).2∧Ext F F' w w'∧¬F' V
theorem qjC {w:World}{a:PA}{F:Nat→Prop}{p:Pl}(h:PlM w a F p)(hs:Sure p)(hn:Nib w){d m g x t:Nat}(hd:p.most[d]?=some m)(h8:8≤m)(hw:p.waits.length≤1000000)
  (hnew:newH (p.seen d 0) (p.seen d 1)=(g,x,t))(hg0:g≠0)(hg1:g<4294967294)(hx:x≠0)(hx1:x<4294967296)(hz:p.seen d 2=zeros 64) :
  Calls Tryz.prog 45 #[.pointer (some ⟨a.P,0,none⟩),.int .i64 d] w (WoF a F p d m g x w):=by
 have Hv:=zH (qgL h hd h8);have Hh:=zH (fun(W:World) (hb:Below w.heap.size w W)=>qe0 (h.below hb) (hn.below hb) hd (by omega) hs.1);unfold NewF at Hh;rw[hnew]at Hh;have Hp:=zH (fun(W:World) (hb:Below w.heap.size w W) (V:Nat) (hv:WaM W V a d m (g+1) x 2 1)=>qkx (h.below hb) hv hd (by omega) hs.1 hz hx);have He:=fun(W:World) (hb:Below w.heap.size w W)=>qiy (h.below hb) (hn.below hb) (gen:=g+1) (ep:=x) hd (by omega) hs.1 (by omega) (by omega) (by omega);unfold LayF at He;rw[zax (show(layH p d (g+1) x).1=true from(qcq hs _).1)]at He;have Ho:=zH He;have Hy:=zH h.hF;have e0:((g:Int)==0)=false:=by rw[zaN];omega
 have e2:decide ((4294967294:Int)≤(g:Int))=false:=zan (by omega);obtain⟨g1,hg1'⟩:∃ y,g+1=y:=⟨_,rfl⟩;have e3:(g:Int)+1=(g1:Int):=by omega
 have eW:IntKind.u64.wrap ((g:Int)+1)=(g1:Int):=by rw[zbL _ (by omega)];exact e3
 rw[hg1']at Hp Ho;unfold WoF;rw[hg1'];have HG:=zH hg1';clear h hs hn hd hw hnew hz He hg0 hg1 hg1' hx1 e3;go_enter Tryz.func45,Tryz.ntmps45
 go_upto_region 7 with(first
  | (go_at_call 71;refine Hv.o.mono ?_;rintro e w1 ⟨rfl,hb1⟩;have Hg:=zH hb1;clear hb1)
  | (go_at_call 72;go_loud (refine(Hh.o _ Hg.o).mono ?_;rintro e w2 ⟨rfl,hb2⟩;have Hc:=zH (Hg.o.trans (hb2.mono Hg.o.size));clear hb2)))
 go_upto_region 9 with fail
 go_upto_region 10 with fail
 have Ht:WaM (w2.alloc (.cells #[.pointer (some ⟨a.P,0,none⟩),.int .i64 (d:Int),.int .i64 (m:Int),.int .u64 (g1:Int),.int .u64 (x:Int),.int .i64 2,.int .u64 1] 152)) w2.heap.size a d m g1 x 2 1:=⟨zae w2 _⟩;have Hs:Below w.heap.size w (w2.alloc (.cells #[.pointer (some ⟨a.P,0,none⟩),.int .i64 (d:Int),.int .i64 (m:Int),.int .u64 (g1:Int),.int .u64 (x:Int),.int .i64 2,.int .u64 1] 152)):=Hc.o.alloc Hc.o.size _;have Hr:w.heap.size≤w2.heap.size:=Hc.o.size;generalize w2.alloc (.cells #[.pointer (some ⟨a.P,0,none⟩),.int .i64 (d:Int),.int .i64 (m:Int),.int .u64 (g1:Int),.int .u64 (x:Int),.int .i64 2,.int .u64 1] 152)=W3 at *;generalize w2.heap.size=V at *;have HC:=zH Ht;have Hu:=zH Hs;have Hq:=zH Hr;clear Ht Hs Hr Hc;go_wp2;go_loopw [13] (fun v Y=>v=.slice none 0 0∧WaM Y V a d m g1 x 2 1∧Below w.heap.size w Y) (fun _ _=>0)
 case atStart=>exact⟨rfl,HC.o,Hu.o⟩
 case round=>
  rename World=>Y;obtain⟨rfl,hv,hbY⟩:=hrel;have HB:=zH (Hp.o Y hbY V hv);have HF:=zH hv;have Hm:=zH hbY;clear hv hbY;go_upto_region 18 with(go_at_call 81;(with_reducible refine HB.o.mono ?_);go_loud (rintro e w4 ⟨rfl,hb4⟩;have HD:=zH (HF.o.below hb4);have Hk:=zH (Hm.o.trans (hb4.mono Hm.o.size));clear hb4))
  have Hi:Below w4.heap.size w4 w4.drew:=(zai _ _).drew;have Hl:=zH (Hk.o.trans (Hi.mono Hk.o.size));have Hb:=zH (HD.o.below Hi);have Hz:=zH (Ho.o _ Hl.o);have Ha:=zH (show w4.drew.cell? ⟨V,3,none⟩=some (.int .u64 (g1:Int))∧w4.drew.cell? ⟨V,4,none⟩=some (.int .u64 (x:Int))from⟨Hb.o.cells.2.2.2.1,Hb.o.cells.2.2.2.2.1⟩);clear Hi;refine qad (S:=fun W'=>W'.cell? ⟨V,3,none⟩=some (.int .u64 (g1:Int))∧W'.cell? ⟨V,4,none⟩=some (.int .u64 (x:Int))) [] (by kernel_rfl) Ha.o (fun _=>?_);generalize w4.drew=W5 at *;refine zP 0 82 (.pointer (some ⟨a.P,0,none⟩)) Ha.o ?_;try simp only[zS]
  refine zP 1 83 (.int .i64 (d:Int)) Ha.o ?_;try simp only[zS]
  refine zP 2 84 (.pointer (some ⟨V,0,none⟩)) Ha.o ?_;try simp only[zS]
  refine zP 3 85 (.pointer (some ⟨V,0,none⟩)) Ha.o ?_;try simp only[zS]
  refine zP 4 86 (.pointer (some ⟨V,3,none⟩)) Ha.o ?_;try simp only[zS]
  refine zL 5 87 (.int .u64 (g1:Int)) rfl (Or.inl ⟨by rfl,fun W' hS=>by obtain⟨hS1,hS2⟩:=hS;go_simp⟩) (qab Ha.o) ?_;try simp only[zS]
  refine zP 6 88 (.pointer (some ⟨V,0,none⟩)) Ha.o ?_;try simp only[zS]
  refine zP 7 89 (.pointer (some ⟨V,0,none⟩)) Ha.o ?_;try simp only[zS]
  refine zP 8 90 (.pointer (some ⟨V,4,none⟩)) Ha.o ?_;try simp only[zS]
  refine zL 9 91 (.int .u64 (x:Int)) rfl (Or.inl ⟨by rfl,fun W' hS=>by obtain⟨hS1,hS2⟩:=hS;go_simp⟩) (qab Ha.o) ?_;try simp only[zS]
  refine zE 10 92 rfl (fun Kr hKr=>?_);go_simp;go_at_call 75
  refine Hz.o.mono ?_;rintro e W6 ⟨rfl,F6,hp6,he6⟩;have Hj:¬F V:=fun hf=>by have:=Hy.o _ hf;have:=Hq.o;omega
  have Hf:WaM W6 V a d m g1 x 2 1:=⟨(he6.touch.block V Hb.o.lt Hj).trans Hb.o.box⟩;have HE:=zH Hf;have HA:=zH hp6;have Hw:=zH ((Ext.of (Touch.of_below Hl.o)).trans he6);have Hx:=zH (show ¬F6 V from fun hf=>by rcases he6.sub _ hf with h1|h1;exact Hj h1;have:=Hb.o.lt;omega);have Hn:=zH (show W6.cell? ⟨V,3,none⟩=some (.int .u64 (g1:Int))∧W6.cell? ⟨V,4,none⟩=some (.int .u64 (x:Int))from⟨Hf.cells.2.2.2.1,Hf.cells.2.2.2.2.1⟩);clear hp6 he6 Hj Hf;refine hKr.out (.int .i64 0) _ (qab Hn.o) (fun _=>?_);clear hKr Kr;try simp only[zS]
  refine zP 11 17 (.int .i64 0) Hn.o ?_;try simp only[zS]
  refine qaf (by kernel_rfl) ?_ _;go_wp2
  go_ret3
  exact⟨V,rfl,Hq.o,HE.o,F6,HA.o,Hw.o,Hx.o⟩
end Go.Proofs.YtfcknhbmeofniaaGreatDoor
namespace Go.Proofs.YtfcknhbmeofniaaGreatDoor
open Go.RowKit BT
variable {a:PA}{d pg g0 r0 G m:Nat}{w0 w:World}{F:Nat→Prop}{p:Pl}
theorem qdQ {g:Pg}(hu:g.use.length=48)(hw:g.was.length=48):(gcells a d g).length=101:=by
 simp[gcells,bv_len,hu,hw]
theorem qlS:(Tryz.prog.info? 40).map (fun i=>(i.zero,i.size,i.bytes))=some (some (.slice none 0 0),1,24):=by kernel_rfl
structure OpM (w0 w:World) (a:PA) (d pages G:Nat) (c:Nat×Nat×Bs):Prop where
 gb:w.heap[G]?=some (.cells (gcells a d ⟨pages,c.1,c.2.1,c.2.2,zeros 48⟩).toArray 156 (0,0))
 lo:w0.heap.size≤G
 bl:Below w0.heap.size w0 w
 len:c.2.2.length=48
 root:c.2.1<65536
 gen:c.1<9223372036854775808
theorem qhO {g1 r1:Nat}{u0 ub:Bs}(hl:(bv ub).length=48)(h0:u0.length=48) :
  (((((gcells a d ⟨pg,g0,r0,u0,zeros 48⟩).toArray.setIfInBounds 3 (.int .u64 (g1:Int))).setIfInBounds 4 (.int .i64 ((r1:Int)-1))).toList.take 5++bv ub++(((gcells a d ⟨pg,g0,r0,u0,zeros 48⟩).toArray.setIfInBounds 3 (.int .u64 (g1:Int))).setIfInBounds 4 (.int .i64 ((r1:Int)-1))).toList.drop (5+(bv ub).length)).toArray) =
   (gcells a d ⟨pg,g1,r1,ub,zeros 48⟩).toArray:=by
 have l0:(bv u0).length=48:=by rw[bv_len,h0]
 unfold gcells;simp only;generalize bv u0=U at *;generalize bv (zeros 48)=W at *;generalize bv ub=V at *;simp only[za3,zaI,zaM,List.set_cons_succ,List.set_cons_zero];rw[hl,show 5+48=48+1+1+1+1+1 from rfl,show(5:Nat)=0+1+1+1+1+1 from rfl];simp only[zbt,zbI,zbT,za3,zaI];rw[zbG l0]
theorem qeV {u:Bs}(hl:(bv u).length=48) :
  ((gcells a d ⟨pg,g0,r0,u,zeros 48⟩).toArray.toList.take 53++bv u++(gcells a d ⟨pg,g0,r0,u,zeros 48⟩).toArray.toList.drop (53+(bv u).length)).toArray=(gcells a d ⟨pg,g0,r0,u,u⟩).toArray:=by
 have lz:(bv (zeros 48)).length=48:=by rw[bv_len,zeros_len]
 unfold gcells;simp only;generalize bv (zeros 48)=W at *;generalize bv u=V at *;simp only[za3,zaI];rw[hl,show 53=48+1+1+1+1+1 from rfl,show 48+1+1+1+1+1+48=96+1+1+1+1+1 from rfl];simp only[zbt,zbI,za3];rw[zbo hl,za0 (by rw[zaf];omega),zaP]
def OpF (a:PA)(F:Nat→Prop)(p:Pl)(d pages:Nat)(w:World)(e:Ending)(w':World):Prop:=
 Below w.heap.size w w'∧
 ((qek pages (qev (p.seen d 0) (p.seen d 1))=true∧∃ G,e=.returned (.tuple #[.pointer (some ⟨G,0,none⟩),.int .i64 0])∧w.heap.size≤G∧
   PgM w' a G d F p ⟨pages,(qev (p.seen d 0) (p.seen d 1)).1,(qev (p.seen d 0) (p.seen d 1)).2.1,(qev (p.seen d 0) (p.seen d 1)).2.2,(qev (p.seen d 0) (p.seen d 1)).2.2⟩)∨
  (qek pages (qev (p.seen d 0) (p.seen d 1))=false∧e=.returned (.tuple #[.pointer none,.int .i64 4])))
def qiC (s0 s1:Bs):Nat→Nat×Nat×Bs
 | 0=>(0,1,zeros 48)
 | 1=>pick (readS s0) (0,1,zeros 48)
 | _=>qev s0 s1
theorem qiF (s:Bs)(h:s.length=64):(readS s).ub.length=48∧(readS s).root1<65536:=by
 refine⟨by simp[readS,h],?_⟩;have:=qfJ ((s.drop 8).take 2);have e:((s.drop 8).take 2).length=2:=by simp[h]
 rw[e]at this;exact this
theorem qhi (s:Bs)(h:(readS s).ok=true):(readS s).gen<9223372036854775808:=by
 unfold readS at h⊢;simp only[zaQ,zbf]at h;exact h.1.2
theorem qmD (a:PA)(d pg:Nat):((Tryz.zeroCells156.setIfInBounds 0 (Value.pointer (some ⟨a.P,0,none⟩))).setIfInBounds 1 (Value.int .i64 (d:Int))).setIfInBounds 2 (Value.int .i64 (pg:Int))=(gcells a d ⟨pg,0,1,zeros 48,zeros 48⟩).toArray:=by kernel_rfl
theorem OpM.cells {pages:Nat}{c:Nat×Nat×Bs}(h:OpM w0 w a d pages G c):w.cell? ⟨G,2,none⟩=some (.int .i64 (pages:Int))∧w.cell? ⟨G,3,none⟩=some (.int .u64 (c.1:Int))∧w.cell? ⟨G,4,none⟩=some (.int .i64 ((c.2.1:Int)-1))∧w.rangeAt G 5 (bv c.2.2):=by
 refine⟨?_,?_,?_,fun j v hv=>?_⟩
 ·rw[zao w G _ _ _ _ h.gb];simp[gcells]
 ·rw[zao w G _ _ _ _ h.gb];simp[gcells]
 ·rw[zao w G _ _ _ _ h.gb];simp[gcells]
 ·rw[zao w G (5+j) _ _ _ h.gb,zbg];exact qfE a d ⟨pages,c.1,c.2.1,c.2.2,zeros 48⟩ j v hv
theorem OpM.below {w':World}{pages:Nat}{c:Nat×Nat×Bs}(h:OpM w0 w a d pages G c)(hb:Below w.heap.size w w'):OpM w0 w' a d pages G c:=
 ⟨(hb.block _ (zaa.1 h.gb).1).trans h.gb,h.lo,h.bl.trans (hb.mono h.bl.size),h.len,h.root,h.gen⟩
theorem qko (h:PlM w a F p)(hn:Nib w)(hF1:¬F 2)(hd:p.most[d]?=some m)(hp:0<min ((m-2) / 8) 384)(hoff:p.off=false) :
  Calls Tryz.prog 46 #[.pointer (some ⟨a.P,0,none⟩),.int .i64 d] w (OpF a F p d (min ((m-2) / 8) 384) w):=by
 have H6:=(zac.1 hd).1;have HI:=zH (qel h d H6);have H5:qe2 p.most d=min ((m-2) / 8) 384:=by
  unfold qe2;rw[zaC (by omega)];simp[hd]
 rw[H5]at HI;obtain⟨pg,hpg⟩:∃ n,min ((m-2) / 8) 384=n:=⟨_,rfl⟩;rw[hpg]at HI hp⊢;have hu:pg≤384:=by omega
 have HM:=zH (show ∃ m,p.most[d]?=some m∧pg=min ((m-2) / 8) 384∧0<pg from⟨m,hd,hpg.symm,hp⟩);have ho:=zH (fun(k:Nat) (hk:k<2) (W:World) (hb:Below w.heap.size w W)=>qfU (h.below hb) (hn.below hb) hd (k:=k) (by omega) hoff (Pl.Ok.seen h.ok d k));have HL:=zH (fun k=>Pl.Ok.seen h.ok d k);have Hv:=zH h;have Hu:=zH hn;have HZ:=zH hF1;have t0:((pg:Int)==0)=false:=by rw[zaN];omega
 clear h hn hF1 hd hoff hpg H5 H6;go_enter Tryz.func46,Tryz.ntmps46
 go_upto_region 2 with(go_at_call 76;refine HI.o.mono ?_;rintro e w1 ⟨rfl,hb1⟩;have HE:=zH hb1;clear hb1)
 rw[qmD a d pg];obtain⟨W,hW⟩:∃ W,w1.alloc (.cells (gcells a d ⟨pg,0,1,zeros 48,zeros 48⟩).toArray 156)=W:=⟨_,rfl⟩;obtain⟨G,hG⟩:∃ G,w1.heap.size=G:=⟨_,rfl⟩;have Hj:OpM w W a d pg G (0,1,zeros 48):=by
  subst hW hG;exact⟨zae w1 _,HE.o.size,HE.o.trans ((zai _ _).alloc HE.o.size _),zeros_len 48,by decide,by decide⟩
 rw[hW,hG];clear hW hG;obtain⟨V0,hV0⟩:∃ V,Value.agg (gcells a d ⟨pg,0,1,zeros 48,zeros 48⟩).toArray=V:=⟨_,rfl⟩;rw[hV0];clear hV0;have c2:=Hj.cells.1;have hh:=zH Hj;clear Hj;go_wp2;go_loopw [7,8,9,10,11,12,26] (fun _ _ _ _ _ _ i wr=>∃ k:Nat,i=.int .i64 k∧k≤2∧OpM w wr a d pg G (qiC (p.seen d 0) (p.seen d 1) k)) (fun _ _ _ _ _ _ i _=>2-(intOf i).toNat)
 case atStart=>exact⟨0,rfl,by omega,hh.o⟩
 case round=>
  rename World=>wr;obtain⟨k,rfl,hk,Hj⟩:=hrel;by_cases hlt:k<2
  ·have Hq:=ho.o k hlt wr Hj.bl;have HT:=HL.o k;have H8:qiC (p.seen d 0) (p.seen d 1) (k+1)=pick (readS (p.seen d k)) (qiC (p.seen d 0) (p.seen d 1) k):=by
    have:k=0∨k=1:=by omega
    rcases this with rfl|rfl<;>rfl
   have Hp:=zH H8;obtain⟨c,hc⟩:∃ c,qiC (p.seen d 0) (p.seen d 1) k=c:=⟨_,rfl⟩;rw[hc]at Hj Hp;obtain⟨s,hs⟩:∃ s,p.seen d k=s:=⟨_,rfl⟩;rw[hs]at Hq HT Hp;clear hs hc H8;have Hs:=qiF s HT;have HA:=qhi s;obtain⟨g1,r1,ub,ok,hrs⟩:∃ g r u o,readS s=⟨g,r,u,o⟩:=⟨_,_,_,_,rfl⟩;unfold SbF at Hq;rw[hrs]at Hq Hs HA Hp;simp only at Hq Hs HA;have HJ:=zH Hq;have HY:=zH Hs;have H9:=zH HA;have He:=zH Hj;have Hg:(bv ub).length=48:=by rw[bv_len];exact Hs.1
   clear Hq HT Hs HA hrs Hj;cases ok with
   | false=>
    go_wp2_with (go_at_call 77;refine HJ.o.mono ?_;rintro e w2 ⟨rfl,hb2⟩;have Hh:=zH hb2;clear hb2)
    rw[qbp (P:=Tryz.prog) w2 _ 145 (bv ub) ?hn (qak _)]
    case hn=>rw[Hg];kernel_rfl
    go_upto_region 10 with fail
    obtain⟨W3,hW3⟩:∃ W,w2.alloc (.cells (bv ub).toArray 145)=W:=⟨_,rfl⟩;obtain⟨U,hU⟩:∃ U,w2.heap.size=U:=⟨_,rfl⟩;have Hm:Below wr.heap.size wr W3:=by
     subst hW3;exact Hh.o.trans ((zai _ _).alloc Hh.o.size _)
    have Hx:=zH (show W3.heap[U]?=some (.cells (bv ub).toArray 145 (0,0))by subst hW3 hU;exact zae w2 _);have Hy:=zH (show G≠U by
     have h1:=(zaa.1 He.o.gb).1;have h2:=Hh.o.size;omega)
    have Hc:=zH (He.o.below Hm);have c3:=Hc.o.cells.2.1;rw[hW3,hU];clear hW3 hU Hm;go_wp2;refine⟨⟨k+1,by go_num,by omega,?_⟩,by simp[intOf];omega⟩;rw[Hp.o];exact Hc.o
   | true=>
    by_cases hgt:c.1<g1
    ·have tg:decide ((c.1:Int)<(g1:Int))=true:=zaT (by omega);have HG:=zH hgt;clear hgt;go_wp2_with (go_at_call 77;refine HJ.o.mono ?_;rintro e w2 ⟨rfl,hb2⟩;have Hh:=zH hb2;clear hb2)
     rw[qbp (P:=Tryz.prog) w2 _ 145 (bv ub) ?hn (qak _)]
     case hn=>rw[Hg];kernel_rfl
     go_upto_region 10 with fail
     obtain⟨W3,hW3⟩:∃ W,w2.alloc (.cells (bv ub).toArray 145)=W:=⟨_,rfl⟩;obtain⟨U,hU⟩:∃ U,w2.heap.size=U:=⟨_,rfl⟩;have Hm:Below wr.heap.size wr W3:=by
      subst hW3;exact Hh.o.trans ((zai _ _).alloc Hh.o.size _)
     have Hx:=zH (show W3.heap[U]?=some (.cells (bv ub).toArray 145 (0,0))by subst hW3 hU;exact zae w2 _);have Hy:=zH (show G≠U by
      have h1:=(zaa.1 He.o.gb).1;have h2:=Hh.o.size;omega)
     have Hc:=zH (He.o.below Hm);have c3:=Hc.o.cells.2.1;rw[hW3,hU];clear hW3 hU Hm;go_upto_region 11 with fail
     have Hw:=zH (show ∀ V:World,V.heap[U]?=some (.cells (bv ub).toArray 145 (0,0))→V.rangeAt U 0 (bv ub)from fun V hV j v hv=>by
      rw[zaF,zao V U j _ _ _ hV,zbg];exact hv)
     have hr:=zH (fun(V:World) (hV:V.rangeAt U 0 (bv ub))=>run_loadVar_mid (P:=Tryz.prog) V U 0 145 (bv ub) _ hV Tryz.underlying145 rfl (by rw[Hg];kernel_rfl));have HD:=Hw.o W3.drew Hx.o;have HP:W3.drew.heap[G]?=some (.cells (gcells a d ⟨pg,c.1,c.2.1,c.2.2,zeros 48⟩).toArray 156 (0,0)):=Hc.o.gb;have Hk:=zH (show(gcells a d ⟨pg,c.1,c.2.1,c.2.2,zeros 48⟩).length=101 from qdQ (g:=⟨pg,c.1,c.2.1,c.2.2,zeros 48⟩) Hc.o.len (zeros_len 48));have HU:W3.drew.heap[U]?=some (.cells (bv ub).toArray 145 (0,0)):=Hx.o;have Hz:=zH (show ∀ (V:World) (o:Nat) (v:Value),V.heap[U]?=some (.cells (bv ub).toArray 145 (0,0))→(V.setCell ⟨G,o,none⟩ v).heap[U]?=some (.cells (bv ub).toArray 145 (0,0))from fun V o v hV=>(zaV V ⟨G,o,none⟩ v U (fun e=>Hy.o e.symm)).trans hV);refine wp_region_held_drew (S:=fun V=>V.rangeAt U 0 (bv ub)) (by kernel_rfl) HD (fun hHeld=>?_);refine zV 0 51 (.pointer (some ⟨G,0,none⟩)) ?_;try simp only[zS]
     refine zV 1 52 (.pointer (some ⟨G,0,none⟩)) ?_;try simp only[zS]
     refine zV 2 53 (.pointer (some ⟨G,0,none⟩)) ?_;try simp only[zS]
     refine zV 3 54 (.int .u64 (g1:Int)) ?_;try simp only[zS]
     refine zV 4 55 (.int .i64 ((r1:Int)-1)) ?_;try simp only[zS]
     refine zT 5 56 (.agg (bv ub).toArray) rfl (Or.inl ⟨by rfl,fun W hS=>qds 145 (.tmp 10) rfl U 0 rfl (hr.o W hS)⟩) ?_;try simp only[zS]
     refine zV 6 57 (.pointer (some ⟨G,0,none⟩)) ?_;try simp only[zS]
     refine zV 7 58 (.pointer (some ⟨G,3,none⟩)) ?_;try simp only[zS]
     refine wpAnyH_ready (rs:=[8]) (by kernel_rfl) (by simp) ?_;refine AllReadyH.cons rfl (fun K hK=>?_) AllReadyH.nil;refine Eq.mpr (zax (by rfl)) ?_;refine qcr 119 (.tmp 58) (.tmp 54) rfl G 3 (.int .u64 (g1:Int)) rfl rfl (there_of_block HP 3 (by(repeat rw[zbJ]);rw[zas,Hk.o];decide)) (by kernel_rfl) rfl ?_;refine hK.out _ _ (Hw.o _ (Hz.o _ _ _ HU)) (fun hHeld2=>?_);clear hK K;try simp only[zS]
     have HV:=Hz.o _ 3 (.int .u64 (g1:Int)) HU;have HR:=qac (i:=3) HP (.int .u64 (g1:Int));refine zV 9 59 (.pointer (some ⟨G,0,none⟩)) ?_;try simp only[zS]
     refine zV 10 60 (.pointer (some ⟨G,4,none⟩)) ?_;try simp only[zS]
     refine wpAnyH_ready (rs:=[11]) (by kernel_rfl) (by simp) ?_;refine AllReadyH.cons rfl (fun K hK=>?_) AllReadyH.nil;refine Eq.mpr (zax (by rfl)) ?_;refine qcr 3 (.tmp 60) (.tmp 55) rfl G 4 (.int .i64 ((r1:Int)-1)) rfl rfl (there_of_block HR 4 (by(repeat rw[zbJ]);rw[zas,Hk.o];decide)) (by kernel_rfl) rfl ?_;refine hK.out _ _ (Hw.o _ (Hz.o _ _ _ HV)) (fun hHeld3=>?_);clear hK K;try simp only[zS]
     have HW:=Hz.o _ 4 (.int .i64 ((r1:Int)-1)) HV;have HS:=qac (i:=4) HR (.int .i64 ((r1:Int)-1));refine zV 12 61 (.pointer (some ⟨G,0,none⟩)) ?_;try simp only[zS]
     refine zV 13 62 (.pointer (some ⟨G,5,none⟩)) ?_;try simp only[zS]
     refine wpAnyH_ready (rs:=[14]) (by kernel_rfl) (by simp) ?_;refine AllReadyH.cons rfl (fun K hK=>?_) AllReadyH.nil;refine Eq.mpr (zax (by rfl)) ?_;refine wp_store_mid 145 (.tmp 62) (.tmp 56) rfl G 5 (bv ub).toArray rfl rfl (there_of_block HS 5 (by rw[zbJ,zbJ,zas,zas,Hk.o,Hg];decide)) (by rw[zas,Hg];kernel_rfl) (all_oneCell_toArray (qak _)) ?_;have H0:=zH (heap_setCells (bv ub) 5 _ _ HS (by rw[zbJ,zbJ,zas,Hk.o,Hg];decide));have H4:=zH ((World.heap_setCells_other ((W3.drew.setCell ⟨G,3,none⟩ (.int .u64 (g1:Int))).setCell ⟨G,4,none⟩ (.int .i64 ((r1:Int)-1))) G 5 (bv ub) (zaa.1 HW).1 (fun e=>Hy.o e.symm)).trans HW);have HX:=zH (show Below w.heap.size w (((W3.drew.setCell ⟨G,3,none⟩ (.int .u64 (g1:Int))).setCell ⟨G,4,none⟩ (.int .i64 ((r1:Int)-1))).setCells G 5 (bv ub))from below_setCells (((Hc.o.bl.drew).setCell (p:=⟨G,3,none⟩) Hc.o.lo _).setCell (p:=⟨G,4,none⟩) Hc.o.lo _) Hc.o.lo 5 _);generalize (((W3.drew.setCell ⟨G,3,none⟩ (.int .u64 (g1:Int))).setCell ⟨G,4,none⟩ (.int .i64 ((r1:Int)-1))).setCells G 5 (bv ub))=V3 at H0 H4 HX⊢;refine hK.out _ _ (Hw.o _ H4.o) (fun hHeld4=>?_);clear hK K;try simp only[zS]
     refine wpAnyH_done (by kernel_rfl) ?_ _;clear hHeld hHeld2 hHeld3 hHeld4 HD HU HV HW HP HR HS;go_wp2;refine⟨⟨k+1,by go_num,by omega,?_⟩,by simp[intOf];omega⟩;rw[Hp.o];unfold pick;rw[zax (by simp[HG.o])];refine⟨?_,Hc.o.lo,HX.o,HY.o.1,HY.o.2,H9.o trivial⟩;rw[H0.o,qhO Hg Hc.o.len]
    ·have tg:decide ((c.1:Int)<(g1:Int))=false:=zan (by omega);have HG:=zH hgt;clear hgt;go_wp2_with (go_at_call 77;refine HJ.o.mono ?_;rintro e w2 ⟨rfl,hb2⟩;have Hh:=zH hb2;clear hb2)
     rw[qbp (P:=Tryz.prog) w2 _ 145 (bv ub) ?hn (qak _)]
     case hn=>rw[Hg];kernel_rfl
     go_upto_region 10 with fail
     obtain⟨W3,hW3⟩:∃ W,w2.alloc (.cells (bv ub).toArray 145)=W:=⟨_,rfl⟩;obtain⟨U,hU⟩:∃ U,w2.heap.size=U:=⟨_,rfl⟩;have Hm:Below wr.heap.size wr W3:=by
      subst hW3;exact Hh.o.trans ((zai _ _).alloc Hh.o.size _)
     have Hx:=zH (show W3.heap[U]?=some (.cells (bv ub).toArray 145 (0,0))by subst hW3 hU;exact zae w2 _);have Hy:=zH (show G≠U by
      have h1:=(zaa.1 He.o.gb).1;have h2:=Hh.o.size;omega)
     have Hc:=zH (He.o.below Hm);have c3:=Hc.o.cells.2.1;rw[hW3,hU];clear hW3 hU Hm;go_wp2;refine⟨⟨k+1,by go_num,by omega,?_⟩,by simp[intOf];omega⟩;rw[Hp.o];unfold pick;rw[zaC (by simp[HG.o])];exact Hc.o
  ·have H7:k=2:=by omega
   have tk:decide ((k:Int)<2)=false:=zan (by omega);have Hf:OpM w wr a d pg G (qev (p.seen d 0) (p.seen d 1)):=by rw[H7]at Hj;exact Hj
   obtain⟨c,hc⟩:∃ c,qev (p.seen d 0) (p.seen d 1)=c:=⟨_,rfl⟩;rw[hc]at Hf;have HC:=zH hc;have He:=zH Hf;obtain⟨c2,c3,c4,_⟩:=Hf.cells;have hw:=zH (Hf.cells.2.2.2);have hg:=zH (fun(i:Nat) (hi:i<384)=>qgb G 5 c.2.2 i wr Hf.cells.2.2.2 hi Hf.len);have ha:=zH (fun(i:Nat) (hi:i<384) (n:Nat)=>qgb G 5 c.2.2 i (wr.drewN n) Hf.cells.2.2.2 hi Hf.len);have Hl:=zH (show ∀ e,qek pg c=false→e=Ending.returned (.tuple #[.pointer none,.int .i64 4])→∀ w',Below w.heap.size w w'→OpF a F p d pg w e w' from fun e h0 he w' hb=>⟨hb,.inr ⟨by rw[HC.o];exact h0,he⟩⟩);clear Hj Hf hc hlt hk H7;go_wp2;go_loopw [13,64] (fun _ i wx=>∃ j:Nat,i=.int .i64 j∧j≤384∧(∀ x,x<j→pg≤x→hasB c.2.2 x=false)∧wr=wx) (fun _ i _=>384-(intOf i).toNat)
   case atStart=>exact⟨0,rfl,by omega,fun x hx=>by omega,rfl⟩
   case round=>
    obtain⟨j,rfl,hj,hno,rfl⟩:=hrel;have HH:=zH hno;clear hno;by_cases hlt:j<384
    ·by_cases hpj:pg≤j
     ·have t1:decide ((pg:Int)≤(j:Int))=true:=zaT (by omega);have Hb:=hg.o j hlt;cases hb:hasB c.2.2 j with
      | true=>
       rw[hb]at Hb;have Ho:=zH Hb;have HB:=zH hb;clear Hb hb;go_wp2_with (go_at_call 82;refine Ho.o.mono ?_;rintro e w' ⟨rfl,rfl⟩)
       go_ret2
       refine Hl.o _ ?_ rfl _ He.o.bl;unfold qek;have HD:qjy pg c.2.2=true:=by
        cases hs:qjy pg c.2.2 with
        | true=>rfl
        | false=>have:=stray_false.1 hs j hpj hlt;rw[HB.o]at this;cases this
       rw[HD];rfl
      | false=>
       rw[hb]at Hb;have Ho:=zH Hb;have HB:=zH hb;clear Hb hb;go_wp2_with (go_at_call 82;refine Ho.o.mono ?_;rintro e w' ⟨rfl,rfl⟩)
       refine⟨⟨j+1,by go_num,by omega,fun x hx hpx=>?_,trivial⟩,by simp[intOf];omega⟩;by_cases hxj:x=j
       ·rw[hxj];exact HB.o
       ·exact HH.o x (by omega) hpx
     ·have t1:decide ((pg:Int)≤(j:Int))=false:=zan (by omega);go_wp2;exact⟨⟨j+1,by go_num,by omega,fun x hx hpx=>HH.o x (by omega) hpx,trivial⟩,by simp[intOf];omega⟩
    ·obtain rfl:j=384:=by omega
     have HN:=zH (show qjy pg c.2.2=false from stray_false.2 fun i h1 h2=>HH.o i h2 h1);have Hr:=zH (show qek pg c=!(decide (c.1=0)||decide (pg<c.2.1)||(decide (1≤c.2.1)&&!hasB c.2.2 (c.2.1-1)))by unfold qek;rw[HN.o];rfl);clear hlt hj;by_cases h0:c.1=0
     ·have q0:((c.1:Int)==0)=true:=by rw[zbZ];omega
      have Ht:=zH h0;clear h0;go_upto_region 19 with fail
      go_quiet (fail)
      go_wp2;rename Nat=>nq
      go_ret2
      exact Hl.o _ (by rw[Hr.o,Ht.o];rfl) rfl _ (He.o.bl.trans ⟨rfl,rfl,rfl,zad _,fun _ _=>rfl⟩)
     ·have q0:((c.1:Int)==0)=false:=by rw[zaN];omega
      have Ht:=zH h0;clear h0;obtain⟨rt,hrt⟩:∃ r:Int,(c.2.1:Int)-1=r:=⟨_,rfl⟩;rw[hrt]at c4;by_cases h1:pg<c.2.1
      ·have q1:decide ((pg:Int)≤rt)=true:=zaT (by omega);have H1:=zH h1;clear h1 hrt;go_upto_region 19 with fail
       go_quiet (fail)
       go_wp2;rename Nat=>nq
       go_ret2
       exact Hl.o _ (by rw[Hr.o];simp[H1.o]) rfl _ (He.o.bl.trans ⟨rfl,rfl,rfl,zad _,fun _ _=>rfl⟩)
      ·have q1:decide ((pg:Int)≤rt)=false:=zan (by omega);have H1:=zH h1;by_cases h2:c.2.1=0
       ·have q2:decide ((0:Int)≤rt)=false:=zan (by omega);have H2:=zH h2;clear h1 h2 hrt;go_upto_region 19 with fail
        go_quiet (fail)
        rename Nat=>nq;obtain⟨W,hW⟩:∃ W,wr.drewN nq=W:=⟨_,rfl⟩;have Ha:=zH (show OpM w W a d pg G c by subst hW;exact He.o.below ⟨rfl,rfl,rfl,zad _,fun _ _=>rfl⟩);rw[hW];clear hW;have Hk:=zH (show(gcells a d ⟨pg,c.1,c.2.1,c.2.2,zeros 48⟩).length=101 from qdQ (g:=⟨pg,c.1,c.2.1,c.2.2,zeros 48⟩) Ha.o.len (zeros_len 48));have Hi:=zH (show(bv c.2.2).length=48 by rw[bv_len];exact Ha.o.len);have HK:=zH Ha.o.cells.2.2.2;have HO:=zH (show W.there G 53 (bv c.2.2).toArray.size from there_of_block Ha.o.gb 53 (by rw[zas,zas,Hk.o,Hi.o];decide));go_wp2_with (first|((with_reducible show wpList _ _ _ (⟨some 119,_,_,_,_,_⟩::_) _ _);(refine wpList_load_mid rfl 145 (.tmp 118) rfl G 5 rfl (bv c.2.2) _ HK.o Tryz.underlying145 rfl (by rw[Hi.o];kernel_rfl) ?_))|((with_reducible show wpList _ _ _ (⟨none,.store 145 _ _,_,_,_,_⟩::_) _ _);refine wpList_store_mid rfl 145 (.tmp 121) (.tmp 119) rfl G 53 (bv c.2.2).toArray rfl rfl HO.o (by rw[zas,Hi.o];kernel_rfl) (all_oneCell_toArray (qak _)) ?_))
        go_ret2
        have HF:=zH (heap_setCells (bv c.2.2) 53 _ _ Ha.o.gb (by rw[zas,Hk.o,Hi.o];decide));have Hn:=zH (show Below w.heap.size w (W.setCells G 53 (bv c.2.2))from below_setCells Ha.o.bl Ha.o.lo 53 _);have ht:2<w.heap.size:=zav w ⟨2,0,none⟩ (Hu.o 0 (by omega));refine⟨Hn.o,.inl ⟨by rw[HC.o,Hr.o];simp[Ht.o,H2.o],G,rfl,Ha.o.lo,?_⟩⟩;rw[HC.o];refine⟨Hv.o.below Hn.o,fun hf=>?_,?_,⟨HM.o,Ha.o.len,Ha.o.len,Ha.o.gen,?_,stray_false.1 HN.o⟩,Hu.o.below Hn.o,HZ.o,?_⟩
        ·have:=Hv.o.hF G hf;have:=Ha.o.lo;omega
        ·show(W.setCells G 53 (bv c.2.2)).heap[G]?=_;rw[HF.o,qeV Hi.o]
        ·show c.2.1≤384;rw[H2.o];omega
        ·have:=Ha.o.lo;omega
       ·obtain⟨q,hq⟩:∃ q,c.2.1=q+1:=⟨c.2.1-1,by omega⟩;have HQ:=zH hq;have H3:=zH (show q<pg by omega);obtain rfl:rt=(q:Int):=by omega
        have q2:decide ((0:Int)≤(q:Int))=true:=zaT (by omega);have q3:decide (pg≤q)=false:=zan (by omega);have Hb:=ha.o q (by omega);clear h1 h2 hrt hq;cases hb:hasB c.2.2 q with
        | false=>
         rw[hb]at Hb;have Ho:=zH Hb;have HB:=zH hb;clear Hb hb;go_upto_region 19 with fail
         go_quiet (exact Calls.quiet_of_same ((Ho.o _).mono fun e w' h=>⟨h.1,h.2.symm⟩))
         go_wp2;rename Nat=>nq
         go_ret2
         exact Hl.o _ (by rw[Hr.o,HQ.o,Nat.add_sub_cancel,HB.o];simp) rfl _ (He.o.bl.trans ⟨rfl,rfl,rfl,zad _,fun _ _=>rfl⟩)
        | true=>
         rw[hb]at Hb;have Ho:=zH Hb;have HB:=zH hb;clear Hb hb;go_upto_region 19 with fail
         go_quiet (exact Calls.quiet_of_same ((Ho.o _).mono fun e w' h=>⟨h.1,h.2.symm⟩))
         rename Nat=>nq;obtain⟨W,hW⟩:∃ W,wr.drewN nq=W:=⟨_,rfl⟩;have Ha:=zH (show OpM w W a d pg G c by subst hW;exact He.o.below ⟨rfl,rfl,rfl,zad _,fun _ _=>rfl⟩);rw[hW];clear hW;have Hk:=zH (show(gcells a d ⟨pg,c.1,c.2.1,c.2.2,zeros 48⟩).length=101 from qdQ (g:=⟨pg,c.1,c.2.1,c.2.2,zeros 48⟩) Ha.o.len (zeros_len 48));have Hi:=zH (show(bv c.2.2).length=48 by rw[bv_len];exact Ha.o.len);have HK:=zH Ha.o.cells.2.2.2;have HO:=zH (show W.there G 53 (bv c.2.2).toArray.size from there_of_block Ha.o.gb 53 (by rw[zas,zas,Hk.o,Hi.o];decide));go_wp2_with (first|((with_reducible show wpList _ _ _ (⟨some 119,_,_,_,_,_⟩::_) _ _);(refine wpList_load_mid rfl 145 (.tmp 118) rfl G 5 rfl (bv c.2.2) _ HK.o Tryz.underlying145 rfl (by rw[Hi.o];kernel_rfl) ?_))|((with_reducible show wpList _ _ _ (⟨none,.store 145 _ _,_,_,_,_⟩::_) _ _);refine wpList_store_mid rfl 145 (.tmp 121) (.tmp 119) rfl G 53 (bv c.2.2).toArray rfl rfl HO.o (by rw[zas,Hi.o];kernel_rfl) (all_oneCell_toArray (qak _)) ?_))
         go_ret2
         have HF:=zH (heap_setCells (bv c.2.2) 53 _ _ Ha.o.gb (by rw[zas,Hk.o,Hi.o];decide));have Hn:=zH (show Below w.heap.size w (W.setCells G 53 (bv c.2.2))from below_setCells Ha.o.bl Ha.o.lo 53 _);have ht:2<w.heap.size:=zav w ⟨2,0,none⟩ (Hu.o 0 (by omega));refine⟨Hn.o,.inl ⟨by rw[HC.o,Hr.o];simp[Ht.o,HQ.o,HB.o];have:=H3.o;omega,G,rfl,Ha.o.lo,?_⟩⟩;rw[HC.o];refine⟨Hv.o.below Hn.o,fun hf=>?_,?_,⟨HM.o,Ha.o.len,Ha.o.len,Ha.o.gen,?_,stray_false.1 HN.o⟩,Hu.o.below Hn.o,HZ.o,?_⟩
         ·have:=Hv.o.hF G hf;have:=Ha.o.lo;omega
         ·show(W.setCells G 53 (bv c.2.2)).heap[G]?=_;rw[HF.o,qeV Hi.o]
         ·show c.2.1≤384;have:=HQ.o;have:=H3.o;omega
         ·have:=Ha.o.lo;omega
def FmF (a:PA)(F:Nat→Prop)(p:Pl)(d:Nat)(w:World)(e:Ending)(w':World):Prop:=
 e=.returned (.int .i64 (if(qbe p d).1 then 0 else 2))∧∃ F',PlM w' a F' (qbe p d).2∧Ext F F' w w'
def qe1 (s0 s1:Bs):Nat→Nat
 | 0=>1
 | 1=>if(readS s0).ok then max 1 ((readS s0).gen+1)else 1
 | _=>qcf s0 s1
theorem qhN (h:PlM w a F p)(hn:Nib w)(hd:p.most[d]?=some m)(hp:0<min ((m-2) / 8) 384)(hoff:p.off=false)(hw:p.waits.length≤1099511627776)(hnx:qcf (p.seen d 0) (p.seen d 1)<4611686018427387904) :
  Calls Tryz.prog 44 #[.pointer (some ⟨a.P,0,none⟩),.int .i64 d] w (FmF a F p d w):=by
 have Hz:=(zac.1 hd).1;have Hm:=zH (qel h d Hz);have Hx:qe2 p.most d=min ((m-2) / 8) 384:=by
  unfold qe2;rw[zaC (by omega)];simp[hd]
 rw[Hx]at Hm;obtain⟨pg,hpg⟩:∃ n,min ((m-2) / 8) 384=n:=⟨_,rfl⟩;rw[hpg]at Hm hp;have HH:=zH (fun(k:Nat) (hk:k<2) (W:World) (hb:Below w.heap.size w W)=>qfU (h.below hb) (hn.below hb) hd (k:=k) (by omega) hoff (Pl.Ok.seen h.ok d k));have HL:=zH (fun k=>Pl.Ok.seen h.ok d k);have Ht:=zH h;have HF:=zH hn;have HE:=zH hd;have Hl:=zH hoff;have HM:=zH hw;have Hk:=zH hnx;have Hj:=zH (show 10≤m by omega);have t0:((pg:Int)==0)=false:=by rw[zaN];omega
 clear h hn hd hoff hpg Hx Hz hw hnx;go_enter Tryz.func44,Tryz.ntmps44
 go_upto_region 4 with(go_at_call 76;refine Hm.o.mono ?_;rintro e w1 ⟨rfl,hb1⟩;have HC:=zH hb1;clear hb1)
 go_wp2;go_loopw [5,6,7,8,9,10,11,18,31,35] (fun n5 _ _ _ _ _ _ i _ _ wr=>∃ k:Nat,i=.int .i64 k∧k≤2∧n5=.int .u64 (qe1 (p.seen d 0) (p.seen d 1) k:Nat)∧qe1 (p.seen d 0) (p.seen d 1) k<9223372036854775809∧Below w.heap.size w wr) (fun _ _ _ _ _ _ _ i _ _ _=>2-(intOf i).toNat)
 case atStart=>exact⟨0,rfl,by omega,rfl,by show 1<_;decide,HC.o⟩
 case round=>
  rename World=>wr;obtain⟨k,rfl,hk,rfl,hc9,hbr⟩:=hrel;by_cases Hi:k<2
  ·have Hc:=HH.o k Hi wr hbr;have Hq:=HL.o k;have hnx:qe1 (p.seen d 0) (p.seen d 1) (k+1)=if(readS (p.seen d k)).ok then max (qe1 (p.seen d 0) (p.seen d 1) k) ((readS (p.seen d k)).gen+1)else qe1 (p.seen d 0) (p.seen d 1) k:=by
    have:k=0∨k=1:=by omega
    rcases this with rfl|rfl<;>rfl
   have Ha:=zH hnx;obtain⟨c,hc⟩:∃ c,qe1 (p.seen d 0) (p.seen d 1) k=c:=⟨_,rfl⟩;rw[hc]at hc9 Ha⊢;obtain⟨s,hs⟩:∃ s,p.seen d k=s:=⟨_,rfl⟩;rw[hs]at Hc Hq Ha;clear hs hc hnx;have Hg:=qiF s Hq;have Hp:=qhi s;obtain⟨g1,r1,ub,ok,hrs⟩:∃ g r u o,readS s=⟨g,r,u,o⟩:=⟨_,_,_,_,rfl⟩;unfold SbF at Hc;rw[hrs]at Hc Hg Hp Ha;simp only at Hc Hg Hp Ha;have Hu:=zH Hc;have HO:=zH Hg;have Hb:=zH hbr;have Hh:(bv ub).length=48:=by rw[bv_len];exact Hg.1
   clear Hc Hq Hg hrs hbr;cases ok with
   | false=>
    go_wp2_with (go_at_call 77;refine Hu.o.mono ?_;rintro e w2 ⟨rfl,hb2⟩;have He:=zH hb2;clear hb2)
    rw[qbp (P:=Tryz.prog) w2 _ 145 (bv ub) ?hn (qak _)]
    case hn=>rw[Hh];kernel_rfl
    have Hf:=zH (show Below w.heap.size w (w2.alloc (.cells (bv ub).toArray 145))from Hb.o.trans ((He.o.mono Hb.o.size).trans ((zai _ _).alloc (zam Hb.o.size He.o.size) _)));generalize w2.alloc (.cells (bv ub).toArray 145)=W3 at Hf⊢;generalize w2.heap.size=U;go_wp2;refine⟨⟨k+1,by go_num,by omega,by rw[Ha.o];rfl,by rw[Ha.o];exact hc9,Hf.o⟩,by simp[intOf];omega⟩
   | true=>
    have HP:=Hp rfl;have e1:IntKind.u64.wrap ((g1:Int)+1)=((g1+1:Nat):Int):=by rw[zbL _ (by omega)];omega
    go_wp2_with (go_at_call 77;refine Hu.o.mono ?_;rintro e w2 ⟨rfl,hb2⟩;have He:=zH hb2;clear hb2)
    rw[qbp (P:=Tryz.prog) w2 _ 145 (bv ub) ?hn (qak _)]
    case hn=>rw[Hh];kernel_rfl
    have Hf:=zH (show Below w.heap.size w (w2.alloc (.cells (bv ub).toArray 145))from Hb.o.trans ((He.o.mono Hb.o.size).trans ((zai _ _).alloc (zam Hb.o.size He.o.size) _)));generalize w2.alloc (.cells (bv ub).toArray 145)=W3 at Hf⊢;generalize w2.heap.size=U;go_wp2;refine⟨⟨k+1,by go_num,by omega,?_,?_,Hf.o⟩,by simp[intOf];omega⟩
    ·rw[Ha.o];congr 1;simp only[zb5]
     first|omega|(split<;>omega)
    ·rw[Ha.o];simp only[zb5];omega
  ·have HA:k=2:=by omega
   have tk:decide ((k:Int)<2)=false:=zan (by omega);have Hy:qe1 (p.seen d 0) (p.seen d 1) k=qcf (p.seen d 0) (p.seen d 1):=by rw[HA];rfl
   rw[Hy]at hc9⊢;have HB:=zH hbr;obtain⟨gn,hgn⟩:∃ n,qcf (p.seen d 0) (p.seen d 1)=n:=⟨_,rfl⟩;have Hi:=Hk.o;rw[hgn]at hc9 Hi⊢;have Hs:=zH (show qbe p d=wf p ⟨d,slot gn,superB gn 0 (zeros 48)⟩by unfold qbe;rw[hgn,zaC (by omega)]);have q1:decide ((4611686018427387904:Int)≤(gn:Int))=false:=zan (by omega);have HJ:=zH (fun(V:World)=>qkK gn V (by omega));have HK:=zH (fun(V:World) (hn:Nib V)=>qjA gn 0 (zeros 48) V hn (zeros_len 48) (by omega) (by omega));have Hn:=zH (qco gn);clear hbr Hy hgn Hi hc9 HA hk;obtain⟨j0,hj0,hj1,hj2,hj3⟩:=zaY qlS;go_upto_region 22 with fail
   go_wp2_with (first|(go_at_call 79;refine(HJ.o _).mono ?_;rintro e w' ⟨rfl,rfl⟩)|(go_at_call 80;refine(HK.o _ (HF.o.below HB.o)).mono ?_;rintro e w3 ⟨b,rfl,hs1,hs2,hs3⟩;have HI:=zH hs1;have Hv:=zH hs2;have Hw:=zH hs3;clear hs1 hs2 hs3)|(refine qbA rfl 22 (.tmp 63) rfl Tryz.underlying22 hj0 hj1 hj2 (by decide) (by decide) (.slice (some ⟨b,0,none⟩) 64 64) rfl [.slice (some ⟨b,0,none⟩) 64 64] rfl rfl ?_))
   have Hr:=zH (show Below w.heap.size w (w3.alloc (.cells #[.slice (some ⟨b,0,none⟩) 64 64] 40))from(HB.o.trans (Hw.o.mono HB.o.size)).alloc (zam HB.o.size Hw.o.size) _);have Ho:b<w3.heap.size:=(zaa.1 Hv.o).1;have HN:=zH (qii (Ht.o.below Hr.o) (d:=d) (m:=m) (k:=slot gn) HE.o (by have:=Hn.o;have:=Hj.o;omega) (b:=b) (C:=w3.heap.size) (cc:=1) (l:=superB gn 0 (zeros 48))
    (By.of_block ((((zai w3.heap.size w3).alloc (zad _) _).block _ Ho).trans Hv.o) rfl) (qjz _ _ _ (zeros_len 48)) (fun hf=>by have:=Ht.o.hF _ hf;have:=HI.o;have:=HB.o.size;omega)
    (by show(World.alloc _ _).cell? _=_;rw[zao _ _ 0 _ _ _ (zae w3 _)];rfl) HM.o Hl.o)
   go_wp2_with (go_at_call 78;refine HN.o.mono ?_;rintro e w5 ⟨rfl,F5,hp5,he5⟩;have HG:=zH hp5;have HD:=zH he5;clear hp5 he5)
   go_ret;refine⟨?_,F5,by rw[Hs.o];exact HG.o,(Ext.of (Touch.of_below Hr.o)).trans HD.o⟩;rw[Hs.o];rfl
end Go.Proofs.YtfcknhbmeofniaaGreatDoor
set_option linter.all false
namespace Go.Proofs.YtfcknhbmeofniaaGreatDoor
open Go.RowKit BT
theorem qhX {w:World}{b:Nat}{A:Option Addr}{N c:Nat}{ms:List Int}{i:Nat}{k:Int}{m:Nat}(hc:w.cell? ⟨b,0,none⟩=some (.slice A N c))(hI:Ints w A ms)(hN:ms.length=N)(hi:ms[i]?=some (m:Int))(hm:k≤(m:Int))(hk:k≤1000) :
  Calls Tryz.prog 70 #[.int .i64 i,.int .i64 k,.pointer (some ⟨b,0,none⟩)] w fun e w'=>e=.returned (.bool true)∧Below w.heap.size w w':=by
 have Ha:=(zac.1 hi).1;obtain⟨g,off,rfl,hgl,hcell⟩:=hI.at_ (by omega);have f0:w.cell? ⟨g,off+i,none⟩=some (.int .i64 (m:Int)):=by
  have:=hcell i Ha;rw[this];unfold el;simp[hi]
 have k0:(0:Int)≤(i:Int):=by omega
 have k1:(i:Int)<(N:Int):=by omega
 have Hb:i<N:=by omega
 have k2:k≤(m:Int):=hm;clear hI hN hi hm Ha hcell;go_enter Tryz.func70,Tryz.ntmps70
 go_wp2;go_ret;exact⟨rfl,zai _ _⟩
structure CtP (p:Pl) (i j m n:Nat):Prop where
 ne:i≠j
 jd:p.most[i]?=some m
 td:p.most[j]?=some n
 jm:64≤m
 tm:386≤n
 jm2:m≤100000
theorem qiA {w:World}{a:PA}{F:Nat→Prop}{p:Pl}(h:PlM w a F p){i j m n:Nat}(hc:CtP p i j m n) :
  Calls Tryz.prog 42 #[.pointer (some ⟨a.P,0,none⟩),.int .i64 i,.int .i64 j] w fun e w'=>e=.returned (.bool true)∧Below w.heap.size w w':=by
 have HS:=zH (qd0 h);unfold ShapeF at HS;have HM:=zH (show ∀ (x m:Nat) (k:Int) (W:World) (b:Nat) (A:Option Addr) (c:Nat),p.most[x]?=some m→W.cell? ⟨b,0,none⟩=some (.slice A p.most.length c)→Ints W A (p.most.map fun(m:Nat)=>(m:Int))→k≤(m:Int)→k≤1000→_ from fun x m k W b A c hx hw hI hk hk2=>qhX (i:=x) hw hI (by simp) (by simp[hx]) hk hk2);obtain⟨N,hN⟩:∃ N,p.most.length=N:=⟨_,rfl⟩;rw[hN]at HS HM;have HC:=zH hc;have t1:((i:Int) != (j:Int))=true:=by rw[bne,show((i:Int)==(j:Int))=false by rw[zaN];have:=hc.ne;omega];rfl
 clear h hc hN;go_enter Tryz.func42,Tryz.ntmps42
 go_upto_region 3 with(go_at_call 69;(with_reducible refine HS.o.mono ?_);go_loud (rintro e w1 ⟨A1,c1,A2,c2,rfl,hi1,hi2,_,hb1⟩;have Hh:=zH hi1;have Ha:=zH hb1;clear hi1 hi2 hb1))
 have Hb:Below w1.heap.size w1 (w1.alloc (.cells #[.slice A1 N c1,.slice A2 p.tp.length c2] 61)):=zB _ _;have Hc:(w1.alloc (.cells #[.slice A1 N c1,.slice A2 p.tp.length c2] 61)).cell? ⟨w1.heap.size,0,none⟩=some (.slice A1 N c1):=zC (zae w1 _);have He:=zH (Ha.o.trans (Hb.mono Ha.o.size));have Hi:=zH (Hh.o.below Hb);generalize w1.alloc (.cells #[.slice A1 N c1,.slice A2 p.tp.length c2] 61)=W2 at *;generalize w1.heap.size=b at *;have Hg:=zH Hc;have Hk:=zH (HM.o i m 64 W2 b A1 c1 HC.o.jd Hc Hi.o (by have:=HC.o.jm;omega) (by decide));clear Hb Hc Ha Hh;go_wp2_with (first
  | (go_at_call 70;(with_reducible refine Hk.o.mono ?_);go_loud (rintro e w3 ⟨rfl,hb3⟩;have Hf:=zH (He.o.trans (hb3.mono He.o.size));have Hl:=zH (HM.o j n 386 w3 b A1 c1 HC.o.td ((hb3.cell (p:=⟨b,0,none⟩) (zav _ _ Hg.o)).trans Hg.o) (Hi.o.below hb3) (by have:=HC.o.tm;omega) (by decide));clear hb3))
  | (go_at_call 70;(with_reducible refine Hl.o.mono ?_);go_loud (rintro e w4 ⟨rfl,hb4⟩;have Hj:=zH (Hf.o.trans (hb4.mono Hf.o.size));clear hb4)))
 go_ret;exact⟨rfl,Hj.o⟩
end Go.Proofs.YtfcknhbmeofniaaGreatDoor
set_option linter.all false
namespace Go.Proofs.YtfcknhbmeofniaaGreatDoor
open Go.RowKit BT
theorem qdy {p:Pl}(h:p.waits=[])(d k:Nat):p.seen d k=p.disk d k:=qfe (fun x hx=>by rw[h]at hx;cases hx) k
theorem qgG {w:World}{a:PA}{F:Nat→Prop}{p:Pl}(h:PlM w a F p)(hs:Sure p)(hn:Nib w)(hnF:¬F 2)(hw:p.waits=[]){i j m n:Nat}(hc:CtP p i j m n)(hnx:qcf (p.disk j 0) (p.disk j 1)<4611686018427387904) :
  Calls Tryz.prog 20 #[.pointer (some ⟨a.P,0,none⟩),.int .i64 i,.int .i64 j] w fun e w'=>e=.returned (.int .i64 0)∧∃ F',PlM w' a F' (qbe (qa2 p i m).2 j).2∧Ext F F' w w':=by
 have HM:=zH (qiA h hc);have HF:=zH (fun(W:World) (hb:Below w.heap.size w W)=>qhv (h.below hb) hs (hn.below hb) hnF hc.jd (by have:=hc.jm;omega) hc.jm2 (by rw[hw];simp));obtain⟨q1,q2,q3,q4,q5,q6,q7⟩:=qeh hs i m (by have:=hc.jm;omega);have HG:=zH (fun(W:World) (F':Nat→Prop) (hp:PlM W a F' (qa2 p i m).2) (he:Ext F F' w W)=>(by
  have hq:(qa2 p i m).2.waits=[]:=by rw[q6,hw];rfl
  have:=qhN hp (hn.touch he.touch hnF) (d:=j) (m:=n) (by rw[q3];exact hc.td) (by have:=hc.tm;omega) q2.1 (by rw[hq];simp) (by rw[qdy hq,qdy hq,q5 j 0 hc.ne.symm,q5 j 1 hc.ne.symm];exact hnx);unfold FmF at this;rw[zax (qeS q2 (d:=j) (m:=n) (by rw[q3];exact hc.td) (by have:=hc.tm;omega)).1]at this;exact this:Calls Tryz.prog 44 #[.pointer (some ⟨a.P,0,none⟩),.int .i64 j] W fun e w'=>e=.returned (.int .i64 0)∧∃ F'',PlM w' a F'' (qbe (qa2 p i m).2 j).2∧Ext F' F'' W w'))
 clear h hs hn hnF hw hc hnx q1 q2 q3 q4 q5 q6 q7;go_enter Tryz.func20,Tryz.ntmps20
 go_wp2_with (first
  | (go_at_call 42;refine HM.o.mono ?_;rintro e w1 ⟨rfl,hb1⟩;have Ha:=zH hb1;clear hb1)
  | (go_at_call 43;go_loud (refine(HF.o _ Ha.o).mono ?_;rintro e w2 ⟨rfl,F2,hp2,he2⟩;have He:=zH hp2;have Hb:=zH ((Ext.of (Touch.of_below Ha.o)).trans he2);clear hp2 he2))
  | (go_at_call 44;go_loud (refine(HG.o _ _ He.o Hb.o).mono ?_;rintro e w3 ⟨rfl,F3,hp3,he3⟩;have Hf:=zH hp3;have Hc:=zH (Hb.o.trans he3);clear hp3 he3)))
 go_ret;exact⟨rfl,F3,Hf.o,Hc.o⟩
end Go.Proofs.YtfcknhbmeofniaaGreatDoor
set_option linter.all false
namespace Go.Proofs.YtfcknhbmeofniaaGreatDoor
open Go.RowKit BT
theorem qj6 (w:World) :
  Calls Tryz.prog 48 #[.slice none 0 0] w fun e w'=>e=.returned (.tuple #[.map (some w.heap.size),.bool true])∧w'.heap[w.heap.size]?=some (.map #[] 0)∧Below w.heap.size w w':=by
 have Ha:=@run_makeMap Tryz.prog;go_enter Tryz.func48,Tryz.ntmps48
 go_upto_region 2 with fail
 clear Ha;have hm:=zae w (.map #[] 0);have hb:Below w.heap.size w (w.alloc (.map #[] 0)):=zB _ _;generalize w.alloc (.map #[] 0)=W at *;have HM:=zH hm;have HB:=zH hb;clear hm hb;go_wp2;go_loopw [14] (fun v Y=>v=.int .i64 0∧Y=W) (fun _ _=>0)
 case atStart=>exact⟨rfl,rfl⟩
 case round=>
  rename World=>Y;obtain⟨rfl,rfl⟩:=hrel;go_wp2
  go_ret2
  exact⟨rfl,HM.o,HB.o⟩
theorem qlj (f:Value)(w:World) :
  Calls Tryz.prog 116 #[.slice none 0 0,.int .i64 0,.int .i64 0,f] w fun e w'=>e=.returned (.tuple #[])∧w'=w:=by
 go_enter Tryz.func116,Tryz.ntmps116
 go_wp2;go_loopw [8] (fun v Y=>v=.int .i64 1∧Y=w) (fun _ _=>0)
 case atStart=>exact⟨rfl,rfl⟩
 case round=>
  rename World=>Y;obtain⟨rfl,rfl⟩:=hrel;go_wp2;go_returns;exact⟨rfl,rfl⟩
theorem qlC (f:Value)(k:Int)(w:World) :
  Calls Tryz.prog 85 #[.slice none 0 0,.int .i64 0,.int .i64 0,.int .i64 k,f] w fun e w'=>e=.returned (.tuple #[])∧w'=w:=by
 go_enter Tryz.func85,Tryz.ntmps85
 go_wp2;go_loopw [1,2] (fun v u Y=>v=.int .i64 0∧u=.int .i64 0∧Y=w) (fun _ _ _=>0)
 case atStart=>exact⟨rfl,rfl,rfl⟩
 case round=>
  rename World=>Y;obtain⟨rfl,rfl,rfl⟩:=hrel;go_wp2_with (go_at_call 116;refine(qlj _ _).mono ?_;rintro e w1 ⟨rfl,rfl⟩)
  go_returns;exact⟨rfl,rfl⟩
theorem qkL (f:Value)(w:World) :
  Calls Tryz.prog 49 #[.slice none 0 0,f] w fun e w'=>e=.returned (.tuple #[])∧w'=w:=by
 have HL:=zH (show Calls Tryz.prog 86 #[.int .u64 0] w _ from len_calln 0 w (by omega));go_enter Tryz.func49,Tryz.ntmps49
 go_wp2_with (first
  | (go_at_call 86;refine HL.o.mono ?_;rintro e w1 ⟨rfl,rfl⟩)
  | (go_at_call 85;refine(qlC _ _ _).mono ?_;rintro e w1 ⟨rfl,rfl⟩))
 go_returns;exact⟨rfl,rfl⟩
end Go.Proofs.YtfcknhbmeofniaaGreatDoor
