/- Texts PgK PgL LwB LwC. -/
import Derived.Test.YtpmebcgmgfcmiaaGreatDoorQ32
set_option linter.all false
set_option maxRecDepth 100000
set_option maxHeartbeats 16000000
namespace Go.Proofs.YtpmebcgmgfcmiaaGreatDoor
open Go.RowKit BT
variable {a:PA}{d pg g0 r0 G m:Nat}{w0 w:World}{F:Nat→Prop}{p:Pl}
structure OpM (w0 w:World) (a:PA) (d pages G:Nat) (c:Nat×Nat×Bs):Prop where
 gb:w.heap[G]?=some (.cells (gcells a d ⟨pages,c.1,c.2.1,c.2.2,zeros 48⟩).toArray 115 (0,0))
 lo:w0.heap.size≤G
 bl:Below w0.heap.size w0 w
 len:c.2.2.length=48
 root:c.2.1<65536
 gen:c.1<9223372036854775808
theorem qh5 {g1 r1:Nat}{u0 ub:Bs}(hl:(bv ub).length=48)(h0:u0.length=48) :
  (((((gcells a d ⟨pg,g0,r0,u0,zeros 48⟩).toArray.setIfInBounds 3 (.int .u64 (g1:Int))).setIfInBounds 4 (.int .i64 ((r1:Int)-1))).toList.take 5++bv ub++(((gcells a d ⟨pg,g0,r0,u0,zeros 48⟩).toArray.setIfInBounds 3 (.int .u64 (g1:Int))).setIfInBounds 4 (.int .i64 ((r1:Int)-1))).toList.drop (5+(bv ub).length)).toArray) =
   (gcells a d ⟨pg,g1,r1,ub,zeros 48⟩).toArray:=by
 have l0:(bv u0).length=48:=by rw[bv_len,h0]
 unfold gcells;simp only;generalize bv u0=U at *;generalize bv (zeros 48)=W at *;generalize bv ub=V at *;simp only[zaW,zaA,zcl,List.set_cons_succ,List.set_cons_zero];rw[hl,show 5+48=48+1+1+1+1+1 from rfl,show(5:Nat)=0+1+1+1+1+1 from rfl];simp only[zbn,zbQ,zb8,zaW,zaA];rw[zbT l0]
theorem qeS {u:Bs}(hl:(bv u).length=48) :
  ((gcells a d ⟨pg,g0,r0,u,zeros 48⟩).toArray.toList.take 53++bv u++(gcells a d ⟨pg,g0,r0,u,zeros 48⟩).toArray.toList.drop (53+(bv u).length)).toArray=(gcells a d ⟨pg,g0,r0,u,u⟩).toArray:=by
 have lz:(bv (zeros 48)).length=48:=by rw[bv_len,zeros_len]
 unfold gcells;simp only;generalize bv (zeros 48)=W at *;generalize bv u=V at *;simp only[zaW,zaA];rw[hl,show 53=48+1+1+1+1+1 from rfl,show 48+1+1+1+1+1+48=96+1+1+1+1+1 from rfl];simp only[zbn,zbQ,zaW];rw[za8 hl,zbi (by rw[zad];omega),zaG]
def OpF (a:PA)(F:Nat→Prop)(p:Pl)(d pages:Nat)(w:World)(e:Ending)(w':World):Prop:=
 Below w.heap.size w w'∧
 ((qef pages (qen (p.seen d 0) (p.seen d 1))=true∧∃ G,e=.returned (.tuple #[.pointer (some ⟨G,0,none⟩),.int .i64 0])∧w.heap.size≤G∧
   PgM w' a G d F p ⟨pages,(qen (p.seen d 0) (p.seen d 1)).1,(qen (p.seen d 0) (p.seen d 1)).2.1,(qen (p.seen d 0) (p.seen d 1)).2.2,(qen (p.seen d 0) (p.seen d 1)).2.2⟩)∨
  (qef pages (qen (p.seen d 0) (p.seen d 1))=false∧e=.returned (.tuple #[.pointer none,.int .i64 4])))
def qiR (s0 s1:Bs):Nat→Nat×Nat×Bs
 | 0=>(0,1,zeros 48)
 | 1=>pick (readS s0) (0,1,zeros 48)
 | _=>qen s0 s1
theorem qiX (s:Bs)(h:s.length=64):(readS s).ub.length=48∧(readS s).root1<65536:=by
 refine⟨by simp[readS,h],?_⟩;have:=qfS ((s.drop 8).take 2);have e:((s.drop 8).take 2).length=2:=by simp[h]
 rw[e]at this;exact this
theorem qhz (s:Bs)(h:(readS s).ok=true):(readS s).gen<9223372036854775808:=by
 unfold readS at h⊢;simp only[zba,zbf]at h;exact h.1.2
theorem qmr (a:PA)(d pg:Nat):((Tryz.zeroCells115.setIfInBounds 0 (Value.pointer (some ⟨a.P,0,none⟩))).setIfInBounds 1 (Value.int .i64 (d:Int))).setIfInBounds 2 (Value.int .i64 (pg:Int))=(gcells a d ⟨pg,0,1,zeros 48,zeros 48⟩).toArray:=by kernel_rfl
theorem OpM.cells {pages:Nat}{c:Nat×Nat×Bs}(h:OpM w0 w a d pages G c):w.cell? ⟨G,2,none⟩=some (.int .i64 (pages:Int))∧w.cell? ⟨G,3,none⟩=some (.int .u64 (c.1:Int))∧w.cell? ⟨G,4,none⟩=some (.int .i64 ((c.2.1:Int)-1))∧w.rangeAt G 5 (bv c.2.2):=by
 refine⟨?_,?_,?_,fun j v hv=>?_⟩
 ·rw[zan w G _ _ _ _ h.gb];simp[gcells]
 ·rw[zan w G _ _ _ _ h.gb];simp[gcells]
 ·rw[zan w G _ _ _ _ h.gb];simp[gcells]
 ·rw[zan w G (5+j) _ _ _ h.gb,zbC];exact qfN a d ⟨pages,c.1,c.2.1,c.2.2,zeros 48⟩ j v hv
theorem OpM.below {w':World}{pages:Nat}{c:Nat×Nat×Bs}(h:OpM w0 w a d pages G c)(hb:Below w.heap.size w w'):OpM w0 w' a d pages G c:=
 ⟨(hb.block _ (zab.1 h.gb).1).trans h.gb,h.lo,h.bl.trans (hb.mono h.bl.size),h.len,h.root,h.gen⟩
theorem qe2 (h:PlM w a F p)(hn:Nib w)(hF1:¬F 1)(hd:p.most[d]?=some m)(hp:0<min ((m-2) / 8) 384)(hoff:p.off=false) :
  Calls Tryz.prog 19 #[.pointer (some ⟨a.P,0,none⟩),.int .i64 d] w (OpF a F p d (min ((m-2) / 8) 384) w):=by
 have H6:=(zae.1 hd).1;have HI:=zH (qeg h d H6);have H5:qe8 p.most d=min ((m-2) / 8) 384:=by
  unfold qe8;rw[zaB (by omega)];simp[hd]
 rw[H5]at HI;obtain⟨pg,hpg⟩:∃ n,min ((m-2) / 8) 384=n:=⟨_,rfl⟩;rw[hpg]at HI hp⊢;have hr:pg≤384:=by omega
 have HM:=zH (show ∃ m,p.most[d]?=some m∧pg=min ((m-2) / 8) 384∧0<pg from⟨m,hd,hpg.symm,hp⟩);have hl:=zH (fun(k:Nat) (hk:k<2) (W:World) (hb:Below w.heap.size w W)=>qf7 (h.below hb) (hn.below hb) hd (k:=k) (by omega) hoff (Pl.Ok.seen h.ok d k));have HL:=zH (fun k=>Pl.Ok.seen h.ok d k);have Hv:=zH h;have Hu:=zH hn;have HZ:=zH hF1;have t0:((pg:Int)==0)=false:=by rw[zaI];omega
 clear h hn hF1 hd hoff hpg H5 H6;go_enter Tryz.func19,Tryz.ntmps19
 go_upto_region 2 with(go_at_call 42;refine HI.o.mono ?_;rintro e w1 ⟨rfl,hb1⟩;have HE:=zH hb1;clear hb1)
 rw[qmr a d pg];obtain⟨W,hW⟩:∃ W,w1.alloc (.cells (gcells a d ⟨pg,0,1,zeros 48,zeros 48⟩).toArray 115)=W:=⟨_,rfl⟩;obtain⟨G,hG⟩:∃ G,w1.heap.size=G:=⟨_,rfl⟩;have Hj:OpM w W a d pg G (0,1,zeros 48):=by
  subst hW hG;exact⟨zaf w1 _,HE.o.size,HE.o.trans ((zai _ _).alloc HE.o.size _),zeros_len 48,by decide,by decide⟩
 rw[hW,hG];clear hW hG;obtain⟨V0,hV0⟩:∃ V,Value.agg (gcells a d ⟨pg,0,1,zeros 48,zeros 48⟩).toArray=V:=⟨_,rfl⟩;rw[hV0];clear hV0;have c2:=Hj.cells.1;have hh:=zH Hj;clear Hj;go_wp2;go_loopw [7,8,9,10,11,12,26] (fun _ _ _ _ _ _ i wr=>∃ k:Nat,i=.int .i64 k∧k≤2∧OpM w wr a d pg G (qiR (p.seen d 0) (p.seen d 1) k)) (fun _ _ _ _ _ _ i _=>2-(intOf i).toNat)
 case atStart=>exact⟨0,rfl,by omega,hh.o⟩
 case round=>
  rename World=>wr;obtain⟨k,rfl,hk,Hj⟩:=hrel;by_cases hlt:k<2
  ·have Hq:=hl.o k hlt wr Hj.bl;have HT:=HL.o k;have H8:qiR (p.seen d 0) (p.seen d 1) (k+1)=pick (readS (p.seen d k)) (qiR (p.seen d 0) (p.seen d 1) k):=by
    have:k=0∨k=1:=by omega
    rcases this with rfl|rfl<;>rfl
   have Hp:=zH H8;obtain⟨c,hc⟩:∃ c,qiR (p.seen d 0) (p.seen d 1) k=c:=⟨_,rfl⟩;rw[hc]at Hj Hp;obtain⟨s,hs⟩:∃ s,p.seen d k=s:=⟨_,rfl⟩;rw[hs]at Hq HT Hp;clear hs hc H8;have Hs:=qiX s HT;have HA:=qhz s;obtain⟨g1,r1,ub,ok,hrs⟩:∃ g r u o,readS s=⟨g,r,u,o⟩:=⟨_,_,_,_,rfl⟩;unfold SbF at Hq;rw[hrs]at Hq Hs HA Hp;simp only at Hq Hs HA;have HJ:=zH Hq;have HY:=zH Hs;have H9:=zH HA;have He:=zH Hj;have Hg:(bv ub).length=48:=by rw[bv_len];exact Hs.1
   clear Hq HT Hs HA hrs Hj;cases ok with
   | false=>
    go_wp2_with (go_at_call 43;refine HJ.o.mono ?_;rintro e w2 ⟨rfl,hb2⟩;have Hh:=zH hb2;clear hb2)
    rw[qbr (P:=Tryz.prog) w2 _ 113 (bv ub) ?hn (qaw _)]
    case hn=>rw[Hg];kernel_rfl
    go_upto_region 10 with fail
    obtain⟨W3,hW3⟩:∃ W,w2.alloc (.cells (bv ub).toArray 113)=W:=⟨_,rfl⟩;obtain⟨U,hU⟩:∃ U,w2.heap.size=U:=⟨_,rfl⟩;have Hm:Below wr.heap.size wr W3:=by
     subst hW3;exact Hh.o.trans ((zai _ _).alloc Hh.o.size _)
    have Hx:=zH (show W3.heap[U]?=some (.cells (bv ub).toArray 113 (0,0))by subst hW3 hU;exact zaf w2 _);have Hy:=zH (show G≠U by
     have h1:=(zab.1 He.o.gb).1;have h2:=Hh.o.size;omega)
    have Hc:=zH (He.o.below Hm);have c3:=Hc.o.cells.2.1;rw[hW3,hU];clear hW3 hU Hm;go_wp2;refine⟨⟨k+1,by go_num,by omega,?_⟩,by simp[intOf];omega⟩;rw[Hp.o];exact Hc.o
   | true=>
    by_cases hgt:c.1<g1
    ·have tg:decide ((c.1:Int)<(g1:Int))=true:=zas (by omega);have HG:=zH hgt;clear hgt;go_wp2_with (go_at_call 43;refine HJ.o.mono ?_;rintro e w2 ⟨rfl,hb2⟩;have Hh:=zH hb2;clear hb2)
     rw[qbr (P:=Tryz.prog) w2 _ 113 (bv ub) ?hn (qaw _)]
     case hn=>rw[Hg];kernel_rfl
     go_upto_region 10 with fail
     obtain⟨W3,hW3⟩:∃ W,w2.alloc (.cells (bv ub).toArray 113)=W:=⟨_,rfl⟩;obtain⟨U,hU⟩:∃ U,w2.heap.size=U:=⟨_,rfl⟩;have Hm:Below wr.heap.size wr W3:=by
      subst hW3;exact Hh.o.trans ((zai _ _).alloc Hh.o.size _)
     have Hx:=zH (show W3.heap[U]?=some (.cells (bv ub).toArray 113 (0,0))by subst hW3 hU;exact zaf w2 _);have Hy:=zH (show G≠U by
      have h1:=(zab.1 He.o.gb).1;have h2:=Hh.o.size;omega)
     have Hc:=zH (He.o.below Hm);have c3:=Hc.o.cells.2.1;rw[hW3,hU];clear hW3 hU Hm;go_upto_region 11 with fail
     have Hw:=zH (show ∀ V:World,V.heap[U]?=some (.cells (bv ub).toArray 113 (0,0))→V.rangeAt U 0 (bv ub)from fun V hV j v hv=>by
      rw[zaO,zan V U j _ _ _ hV,zbC];exact hv)
     have hm:=zH (fun(V:World) (hV:V.rangeAt U 0 (bv ub))=>run_loadVar_mid (P:=Tryz.prog) V U 0 113 (bv ub) _ hV Tryz.underlying113 rfl (by rw[Hg];kernel_rfl));have HD:=Hw.o W3.drew Hx.o;have HP:W3.drew.heap[G]?=some (.cells (gcells a d ⟨pg,c.1,c.2.1,c.2.2,zeros 48⟩).toArray 115 (0,0)):=Hc.o.gb;have Hk:=zH (show(gcells a d ⟨pg,c.1,c.2.1,c.2.2,zeros 48⟩).length=101 from qcf (g:=⟨pg,c.1,c.2.1,c.2.2,zeros 48⟩) Hc.o.len (zeros_len 48));have HU:W3.drew.heap[U]?=some (.cells (bv ub).toArray 113 (0,0)):=Hx.o;have Hz:=zH (show ∀ (V:World) (o:Nat) (v:Value),V.heap[U]?=some (.cells (bv ub).toArray 113 (0,0))→(V.setCell ⟨G,o,none⟩ v).heap[U]?=some (.cells (bv ub).toArray 113 (0,0))from fun V o v hV=>(za5 V ⟨G,o,none⟩ v U (fun e=>Hy.o e.symm)).trans hV);refine wp_region_held_drew (S:=fun V=>V.rangeAt U 0 (bv ub)) (by kernel_rfl) HD (fun hHeld=>?_);refine zV 0 51 (.pointer (some ⟨G,0,none⟩)) ?_;try simp only[zS]
     refine zV 1 52 (.pointer (some ⟨G,0,none⟩)) ?_;try simp only[zS]
     refine zV 2 53 (.pointer (some ⟨G,0,none⟩)) ?_;try simp only[zS]
     refine zV 3 54 (.int .u64 (g1:Int)) ?_;try simp only[zS]
     refine zV 4 55 (.int .i64 ((r1:Int)-1)) ?_;try simp only[zS]
     refine zT 5 56 (.agg (bv ub).toArray) rfl (Or.inl ⟨by rfl,fun W hS=>qbK 113 (.tmp 10) rfl U 0 rfl (hm.o W hS)⟩) ?_;try simp only[zS]
     refine zV 6 57 (.pointer (some ⟨G,0,none⟩)) ?_;try simp only[zS]
     refine zV 7 58 (.pointer (some ⟨G,3,none⟩)) ?_;try simp only[zS]
     refine wpAnyH_ready (rs:=[8]) (by kernel_rfl) (by simp) ?_;refine AllReadyH.cons rfl (fun K hK=>?_) AllReadyH.nil;refine Eq.mpr (zaw (by rfl)) ?_;refine qaA 111 (.tmp 58) (.tmp 54) rfl G 3 (.int .u64 (g1:Int)) rfl rfl (there_of_block HP 3 (by(repeat rw[zbt]);rw[zaz,Hk.o];decide)) (by kernel_rfl) rfl ?_;refine hK.out _ _ (Hw.o _ (Hz.o _ _ _ HU)) (fun hHeld2=>?_);clear hK K;try simp only[zS]
     have HV:=Hz.o _ 3 (.int .u64 (g1:Int)) HU;have HR:=qab (i:=3) HP (.int .u64 (g1:Int));refine zV 9 59 (.pointer (some ⟨G,0,none⟩)) ?_;try simp only[zS]
     refine zV 10 60 (.pointer (some ⟨G,4,none⟩)) ?_;try simp only[zS]
     refine wpAnyH_ready (rs:=[11]) (by kernel_rfl) (by simp) ?_;refine AllReadyH.cons rfl (fun K hK=>?_) AllReadyH.nil;refine Eq.mpr (zaw (by rfl)) ?_;refine qaA 3 (.tmp 60) (.tmp 55) rfl G 4 (.int .i64 ((r1:Int)-1)) rfl rfl (there_of_block HR 4 (by(repeat rw[zbt]);rw[zaz,Hk.o];decide)) (by kernel_rfl) rfl ?_;refine hK.out _ _ (Hw.o _ (Hz.o _ _ _ HV)) (fun hHeld3=>?_);clear hK K;try simp only[zS]
     have HW:=Hz.o _ 4 (.int .i64 ((r1:Int)-1)) HV;have HS:=qab (i:=4) HR (.int .i64 ((r1:Int)-1));refine zV 12 61 (.pointer (some ⟨G,0,none⟩)) ?_;try simp only[zS]
     refine zV 13 62 (.pointer (some ⟨G,5,none⟩)) ?_;try simp only[zS]
     refine wpAnyH_ready (rs:=[14]) (by kernel_rfl) (by simp) ?_;refine AllReadyH.cons rfl (fun K hK=>?_) AllReadyH.nil;refine Eq.mpr (zaw (by rfl)) ?_;refine wp_store_mid 113 (.tmp 62) (.tmp 56) rfl G 5 (bv ub).toArray rfl rfl (there_of_block HS 5 (by rw[zbt,zbt,zaz,zaz,Hk.o,Hg];decide)) (by rw[zaz,Hg];kernel_rfl) (all_oneCell_toArray (qaw _)) ?_;have H0:=zH (heap_setCells (bv ub) 5 _ _ HS (by rw[zbt,zbt,zaz,Hk.o,Hg];decide));have H4:=zH ((World.heap_setCells_other ((W3.drew.setCell ⟨G,3,none⟩ (.int .u64 (g1:Int))).setCell ⟨G,4,none⟩ (.int .i64 ((r1:Int)-1))) G 5 (bv ub) (zab.1 HW).1 (fun e=>Hy.o e.symm)).trans HW);have HX:=zH (show Below w.heap.size w (((W3.drew.setCell ⟨G,3,none⟩ (.int .u64 (g1:Int))).setCell ⟨G,4,none⟩ (.int .i64 ((r1:Int)-1))).setCells G 5 (bv ub))from below_setCells (((Hc.o.bl.drew).setCell (p:=⟨G,3,none⟩) Hc.o.lo _).setCell (p:=⟨G,4,none⟩) Hc.o.lo _) Hc.o.lo 5 _);generalize (((W3.drew.setCell ⟨G,3,none⟩ (.int .u64 (g1:Int))).setCell ⟨G,4,none⟩ (.int .i64 ((r1:Int)-1))).setCells G 5 (bv ub))=V3 at H0 H4 HX⊢;refine hK.out _ _ (Hw.o _ H4.o) (fun hHeld4=>?_);clear hK K;try simp only[zS]
     refine wpAnyH_done (by kernel_rfl) ?_ _;clear hHeld hHeld2 hHeld3 hHeld4 HD HU HV HW HP HR HS;go_wp2;refine⟨⟨k+1,by go_num,by omega,?_⟩,by simp[intOf];omega⟩;rw[Hp.o];unfold pick;rw[zaw (by simp[HG.o])];refine⟨?_,Hc.o.lo,HX.o,HY.o.1,HY.o.2,H9.o trivial⟩;rw[H0.o,qh5 Hg Hc.o.len]
    ·have tg:decide ((c.1:Int)<(g1:Int))=false:=zal (by omega);have HG:=zH hgt;clear hgt;go_wp2_with (go_at_call 43;refine HJ.o.mono ?_;rintro e w2 ⟨rfl,hb2⟩;have Hh:=zH hb2;clear hb2)
     rw[qbr (P:=Tryz.prog) w2 _ 113 (bv ub) ?hn (qaw _)]
     case hn=>rw[Hg];kernel_rfl
     go_upto_region 10 with fail
     obtain⟨W3,hW3⟩:∃ W,w2.alloc (.cells (bv ub).toArray 113)=W:=⟨_,rfl⟩;obtain⟨U,hU⟩:∃ U,w2.heap.size=U:=⟨_,rfl⟩;have Hm:Below wr.heap.size wr W3:=by
      subst hW3;exact Hh.o.trans ((zai _ _).alloc Hh.o.size _)
     have Hx:=zH (show W3.heap[U]?=some (.cells (bv ub).toArray 113 (0,0))by subst hW3 hU;exact zaf w2 _);have Hy:=zH (show G≠U by
      have h1:=(zab.1 He.o.gb).1;have h2:=Hh.o.size;omega)
     have Hc:=zH (He.o.below Hm);have c3:=Hc.o.cells.2.1;rw[hW3,hU];clear hW3 hU Hm;go_wp2;refine⟨⟨k+1,by go_num,by omega,?_⟩,by simp[intOf];omega⟩;rw[Hp.o];unfold pick;rw[zaB (by simp[HG.o])];exact Hc.o
  ·have H7:k=2:=by omega
   have tk:decide ((k:Int)<2)=false:=zal (by omega);have Hf:OpM w wr a d pg G (qen (p.seen d 0) (p.seen d 1)):=by rw[H7]at Hj;exact Hj
   obtain⟨c,hc⟩:∃ c,qen (p.seen d 0) (p.seen d 1)=c:=⟨_,rfl⟩;rw[hc]at Hf;have HC:=zH hc;have He:=zH Hf;obtain⟨c2,c3,c4,_⟩:=Hf.cells;have ht:=zH (Hf.cells.2.2.2);have hg:=zH (fun(i:Nat) (hi:i<384)=>qdw G 5 c.2.2 i wr Hf.cells.2.2.2 hi Hf.len);have ha:=zH (fun(i:Nat) (hi:i<384) (n:Nat)=>qdw G 5 c.2.2 i (wr.drewN n) Hf.cells.2.2.2 hi Hf.len);have Hl:=zH (show ∀ e,qef pg c=false→e=Ending.returned (.tuple #[.pointer none,.int .i64 4])→∀ w',Below w.heap.size w w'→OpF a F p d pg w e w' from fun e h0 he w' hb=>⟨hb,.inr ⟨by rw[HC.o];exact h0,he⟩⟩);clear Hj Hf hc hlt hk H7;go_wp2;go_loopw [13,64] (fun _ i wx=>∃ j:Nat,i=.int .i64 j∧j≤384∧(∀ x,x<j→pg≤x→hasB c.2.2 x=false)∧wr=wx) (fun _ i _=>384-(intOf i).toNat)
   case atStart=>exact⟨0,rfl,by omega,fun x hx=>by omega,rfl⟩
   case round=>
    obtain⟨j,rfl,hj,hno,rfl⟩:=hrel;have HH:=zH hno;clear hno;by_cases hlt:j<384
    ·by_cases hpj:pg≤j
     ·have t1:decide ((pg:Int)≤(j:Int))=true:=zas (by omega);have Hb:=hg.o j hlt;cases hb:hasB c.2.2 j with
      | true=>
       rw[hb]at Hb;have Ho:=zH Hb;have HB:=zH hb;clear Hb hb;go_wp2_with (go_at_call 44;refine Ho.o.mono ?_;rintro e w' ⟨rfl,rfl⟩)
       go_ret2
       refine Hl.o _ ?_ rfl _ He.o.bl;unfold qef;have HD:qjK pg c.2.2=true:=by
        cases hs:qjK pg c.2.2 with
        | true=>rfl
        | false=>have:=stray_false.1 hs j hpj hlt;rw[HB.o]at this;cases this
       rw[HD];rfl
      | false=>
       rw[hb]at Hb;have Ho:=zH Hb;have HB:=zH hb;clear Hb hb;go_wp2_with (go_at_call 44;refine Ho.o.mono ?_;rintro e w' ⟨rfl,rfl⟩)
       refine⟨⟨j+1,by go_num,by omega,fun x hx hpx=>?_,trivial⟩,by simp[intOf];omega⟩;by_cases hxj:x=j
       ·rw[hxj];exact HB.o
       ·exact HH.o x (by omega) hpx
     ·have t1:decide ((pg:Int)≤(j:Int))=false:=zal (by omega);go_wp2;exact⟨⟨j+1,by go_num,by omega,fun x hx hpx=>HH.o x (by omega) hpx,trivial⟩,by simp[intOf];omega⟩
    ·obtain rfl:j=384:=by omega
     have HN:=zH (show qjK pg c.2.2=false from stray_false.2 fun i h1 h2=>HH.o i h2 h1);have Hr:=zH (show qef pg c=!(decide (c.1=0)||decide (pg<c.2.1)||(decide (1≤c.2.1)&&!hasB c.2.2 (c.2.1-1)))by unfold qef;rw[HN.o];rfl);clear hlt hj;by_cases h0:c.1=0
     ·have q0:((c.1:Int)==0)=true:=by rw[zcz];omega
      have Ht:=zH h0;clear h0;go_upto_region 19 with fail
      go_quiet (fail)
      go_wp2;rename Nat=>nq
      go_ret2
      exact Hl.o _ (by rw[Hr.o,Ht.o];rfl) rfl _ (He.o.bl.trans ⟨rfl,rfl,rfl,zac _,fun _ _=>rfl⟩)
     ·have q0:((c.1:Int)==0)=false:=by rw[zaI];omega
      have Ht:=zH h0;clear h0;obtain⟨rt,hrt⟩:∃ r:Int,(c.2.1:Int)-1=r:=⟨_,rfl⟩;rw[hrt]at c4;by_cases h1:pg<c.2.1
      ·have q1:decide ((pg:Int)≤rt)=true:=zas (by omega);have H1:=zH h1;clear h1 hrt;go_upto_region 19 with fail
       go_quiet (fail)
       go_wp2;rename Nat=>nq
       go_ret2
       exact Hl.o _ (by rw[Hr.o];simp[H1.o]) rfl _ (He.o.bl.trans ⟨rfl,rfl,rfl,zac _,fun _ _=>rfl⟩)
      ·have q1:decide ((pg:Int)≤rt)=false:=zal (by omega);have H1:=zH h1;by_cases h2:c.2.1=0
       ·have q2:decide ((0:Int)≤rt)=false:=zal (by omega);have H2:=zH h2;clear h1 h2 hrt;go_upto_region 19 with fail
        go_quiet (fail)
        rename Nat=>nq;obtain⟨W,hW⟩:∃ W,wr.drewN nq=W:=⟨_,rfl⟩;have Ha:=zH (show OpM w W a d pg G c by subst hW;exact He.o.below ⟨rfl,rfl,rfl,zac _,fun _ _=>rfl⟩);rw[hW];clear hW;have Hk:=zH (show(gcells a d ⟨pg,c.1,c.2.1,c.2.2,zeros 48⟩).length=101 from qcf (g:=⟨pg,c.1,c.2.1,c.2.2,zeros 48⟩) Ha.o.len (zeros_len 48));have Hi:=zH (show(bv c.2.2).length=48 by rw[bv_len];exact Ha.o.len);have HK:=zH Ha.o.cells.2.2.2;have HO:=zH (show W.there G 53 (bv c.2.2).toArray.size from there_of_block Ha.o.gb 53 (by rw[zaz,zaz,Hk.o,Hi.o];decide));go_wp2_with (first|((with_reducible show wpList _ _ _ (⟨some 119,_,_,_,_,_⟩::_) _ _);(refine wpList_load_mid rfl 113 (.tmp 118) rfl G 5 rfl (bv c.2.2) _ HK.o Tryz.underlying113 rfl (by rw[Hi.o];kernel_rfl) ?_))|((with_reducible show wpList _ _ _ (⟨none,.store 113 _ _,_,_,_,_⟩::_) _ _);refine wpList_store_mid rfl 113 (.tmp 121) (.tmp 119) rfl G 53 (bv c.2.2).toArray rfl rfl HO.o (by rw[zaz,Hi.o];kernel_rfl) (all_oneCell_toArray (qaw _)) ?_))
        go_ret2
        have HF:=zH (heap_setCells (bv c.2.2) 53 _ _ Ha.o.gb (by rw[zaz,Hk.o,Hi.o];decide));have Hn:=zH (show Below w.heap.size w (W.setCells G 53 (bv c.2.2))from below_setCells Ha.o.bl Ha.o.lo 53 _);have ho:1<w.heap.size:=zaH w ⟨1,0,none⟩ (Hu.o 0 (by omega));refine⟨Hn.o,.inl ⟨by rw[HC.o,Hr.o];simp[Ht.o,H2.o],G,rfl,Ha.o.lo,?_⟩⟩;rw[HC.o];refine⟨Hv.o.below Hn.o,fun hf=>?_,?_,⟨HM.o,Ha.o.len,Ha.o.len,Ha.o.gen,?_,stray_false.1 HN.o⟩,Hu.o.below Hn.o,HZ.o,?_⟩
        ·have:=Hv.o.hF G hf;have:=Ha.o.lo;omega
        ·show(W.setCells G 53 (bv c.2.2)).heap[G]?=_;rw[HF.o,qeS Hi.o]
        ·show c.2.1≤384;rw[H2.o];omega
        ·have:=Ha.o.lo;omega
       ·obtain⟨q,hq⟩:∃ q,c.2.1=q+1:=⟨c.2.1-1,by omega⟩;have HQ:=zH hq;have H3:=zH (show q<pg by omega);obtain rfl:rt=(q:Int):=by omega
        have q2:decide ((0:Int)≤(q:Int))=true:=zas (by omega);have q3:decide (pg≤q)=false:=zal (by omega);have Hb:=ha.o q (by omega);clear h1 h2 hrt hq;cases hb:hasB c.2.2 q with
        | false=>
         rw[hb]at Hb;have Ho:=zH Hb;have HB:=zH hb;clear Hb hb;go_upto_region 19 with fail
         go_quiet (exact Calls.quiet_of_same ((Ho.o _).mono fun e w' h=>⟨h.1,h.2.symm⟩))
         go_wp2;rename Nat=>nq
         go_ret2
         exact Hl.o _ (by rw[Hr.o,HQ.o,Nat.add_sub_cancel,HB.o];simp) rfl _ (He.o.bl.trans ⟨rfl,rfl,rfl,zac _,fun _ _=>rfl⟩)
        | true=>
         rw[hb]at Hb;have Ho:=zH Hb;have HB:=zH hb;clear Hb hb;go_upto_region 19 with fail
         go_quiet (exact Calls.quiet_of_same ((Ho.o _).mono fun e w' h=>⟨h.1,h.2.symm⟩))
         rename Nat=>nq;obtain⟨W,hW⟩:∃ W,wr.drewN nq=W:=⟨_,rfl⟩;have Ha:=zH (show OpM w W a d pg G c by subst hW;exact He.o.below ⟨rfl,rfl,rfl,zac _,fun _ _=>rfl⟩);rw[hW];clear hW;have Hk:=zH (show(gcells a d ⟨pg,c.1,c.2.1,c.2.2,zeros 48⟩).length=101 from qcf (g:=⟨pg,c.1,c.2.1,c.2.2,zeros 48⟩) Ha.o.len (zeros_len 48));have Hi:=zH (show(bv c.2.2).length=48 by rw[bv_len];exact Ha.o.len);have HK:=zH Ha.o.cells.2.2.2;have HO:=zH (show W.there G 53 (bv c.2.2).toArray.size from there_of_block Ha.o.gb 53 (by rw[zaz,zaz,Hk.o,Hi.o];decide));go_wp2_with (first|((with_reducible show wpList _ _ _ (⟨some 119,_,_,_,_,_⟩::_) _ _);(refine wpList_load_mid rfl 113 (.tmp 118) rfl G 5 rfl (bv c.2.2) _ HK.o Tryz.underlying113 rfl (by rw[Hi.o];kernel_rfl) ?_))|((with_reducible show wpList _ _ _ (⟨none,.store 113 _ _,_,_,_,_⟩::_) _ _);refine wpList_store_mid rfl 113 (.tmp 121) (.tmp 119) rfl G 53 (bv c.2.2).toArray rfl rfl HO.o (by rw[zaz,Hi.o];kernel_rfl) (all_oneCell_toArray (qaw _)) ?_))
         go_ret2
         have HF:=zH (heap_setCells (bv c.2.2) 53 _ _ Ha.o.gb (by rw[zaz,Hk.o,Hi.o];decide));have Hn:=zH (show Below w.heap.size w (W.setCells G 53 (bv c.2.2))from below_setCells Ha.o.bl Ha.o.lo 53 _);have ho:1<w.heap.size:=zaH w ⟨1,0,none⟩ (Hu.o 0 (by omega));refine⟨Hn.o,.inl ⟨by rw[HC.o,Hr.o];simp[Ht.o,HQ.o,HB.o];have:=H3.o;omega,G,rfl,Ha.o.lo,?_⟩⟩;rw[HC.o];refine⟨Hv.o.below Hn.o,fun hf=>?_,?_,⟨HM.o,Ha.o.len,Ha.o.len,Ha.o.gen,?_,stray_false.1 HN.o⟩,Hu.o.below Hn.o,HZ.o,?_⟩
         ·have:=Hv.o.hF G hf;have:=Ha.o.lo;omega
         ·show(W.setCells G 53 (bv c.2.2)).heap[G]?=_;rw[HF.o,qeS Hi.o]
         ·show c.2.1≤384;have:=HQ.o;have:=H3.o;omega
         ·have:=Ha.o.lo;omega
def FmF (a:PA)(F:Nat→Prop)(p:Pl)(d:Nat)(w:World)(e:Ending)(w':World):Prop:=
 e=.returned (.int .i64 (if(qbD p d).1 then 0 else 2))∧∃ F',PlM w' a F' (qbD p d).2∧Ext F F' w w'
def qeZ (s0 s1:Bs):Nat→Nat
 | 0=>1
 | 1=>if(readS s0).ok then max 1 ((readS s0).gen+1)else 1
 | _=>qcj s0 s1
theorem qh3 (h:PlM w a F p)(hn:Nib w)(hd:p.most[d]?=some m)(hp:0<min ((m-2) / 8) 384)(hoff:p.off=false)(hw:p.waits.length≤1099511627776)(hnx:qcj (p.seen d 0) (p.seen d 1)<4611686018427387904) :
  Calls Tryz.prog 22 #[.pointer (some ⟨a.P,0,none⟩),.int .i64 d] w (FmF a F p d w):=by
 have Hz:=(zae.1 hd).1;have Hm:=zH (qeg h d Hz);have Hx:qe8 p.most d=min ((m-2) / 8) 384:=by
  unfold qe8;rw[zaB (by omega)];simp[hd]
 rw[Hx]at Hm;obtain⟨pg,hpg⟩:∃ n,min ((m-2) / 8) 384=n:=⟨_,rfl⟩;rw[hpg]at Hm hp;have HH:=zH (fun(k:Nat) (hk:k<2) (W:World) (hb:Below w.heap.size w W)=>qf7 (h.below hb) (hn.below hb) hd (k:=k) (by omega) hoff (Pl.Ok.seen h.ok d k));have HL:=zH (fun k=>Pl.Ok.seen h.ok d k);have Ht:=zH h;have HF:=zH hn;have HE:=zH hd;have Hl:=zH hoff;have HM:=zH hw;have Hk:=zH hnx;have Hj:=zH (show 10≤m by omega);have t0:((pg:Int)==0)=false:=by rw[zaI];omega
 clear h hn hd hoff hpg Hx Hz hw hnx;go_enter Tryz.func22,Tryz.ntmps22
 go_upto_region 4 with(go_at_call 42;refine Hm.o.mono ?_;rintro e w1 ⟨rfl,hb1⟩;have HC:=zH hb1;clear hb1)
 go_wp2;go_loopw [5,6,7,8,9,10,11,18,31,35] (fun n5 _ _ _ _ _ _ i _ _ wr=>∃ k:Nat,i=.int .i64 k∧k≤2∧n5=.int .u64 (qeZ (p.seen d 0) (p.seen d 1) k:Nat)∧qeZ (p.seen d 0) (p.seen d 1) k<9223372036854775809∧Below w.heap.size w wr) (fun _ _ _ _ _ _ _ i _ _ _=>2-(intOf i).toNat)
 case atStart=>exact⟨0,rfl,by omega,rfl,by show 1<_;decide,HC.o⟩
 case round=>
  rename World=>wr;obtain⟨k,rfl,hk,rfl,hc9,hbr⟩:=hrel;by_cases Hi:k<2
  ·have Hc:=HH.o k Hi wr hbr;have Hq:=HL.o k;have hnx:qeZ (p.seen d 0) (p.seen d 1) (k+1)=if(readS (p.seen d k)).ok then max (qeZ (p.seen d 0) (p.seen d 1) k) ((readS (p.seen d k)).gen+1)else qeZ (p.seen d 0) (p.seen d 1) k:=by
    have:k=0∨k=1:=by omega
    rcases this with rfl|rfl<;>rfl
   have Ha:=zH hnx;obtain⟨c,hc⟩:∃ c,qeZ (p.seen d 0) (p.seen d 1) k=c:=⟨_,rfl⟩;rw[hc]at hc9 Ha⊢;obtain⟨s,hs⟩:∃ s,p.seen d k=s:=⟨_,rfl⟩;rw[hs]at Hc Hq Ha;clear hs hc hnx;have Hg:=qiX s Hq;have Hp:=qhz s;obtain⟨g1,r1,ub,ok,hrs⟩:∃ g r u o,readS s=⟨g,r,u,o⟩:=⟨_,_,_,_,rfl⟩;unfold SbF at Hc;rw[hrs]at Hc Hg Hp Ha;simp only at Hc Hg Hp Ha;have Hu:=zH Hc;have HO:=zH Hg;have Hb:=zH hbr;have Hh:(bv ub).length=48:=by rw[bv_len];exact Hg.1
   clear Hc Hq Hg hrs hbr;cases ok with
   | false=>
    go_wp2_with (go_at_call 43;refine Hu.o.mono ?_;rintro e w2 ⟨rfl,hb2⟩;have He:=zH hb2;clear hb2)
    rw[qbr (P:=Tryz.prog) w2 _ 113 (bv ub) ?hn (qaw _)]
    case hn=>rw[Hh];kernel_rfl
    have Hf:=zH (show Below w.heap.size w (w2.alloc (.cells (bv ub).toArray 113))from Hb.o.trans ((He.o.mono Hb.o.size).trans ((zai _ _).alloc (zah Hb.o.size He.o.size) _)));generalize w2.alloc (.cells (bv ub).toArray 113)=W3 at Hf⊢;generalize w2.heap.size=U;go_wp2;refine⟨⟨k+1,by go_num,by omega,by rw[Ha.o];rfl,by rw[Ha.o];exact hc9,Hf.o⟩,by simp[intOf];omega⟩
   | true=>
    have HP:=Hp rfl;have e1:IntKind.u64.wrap ((g1:Int)+1)=((g1+1:Nat):Int):=by rw[zde _ (by omega)];omega
    go_wp2_with (go_at_call 43;refine Hu.o.mono ?_;rintro e w2 ⟨rfl,hb2⟩;have He:=zH hb2;clear hb2)
    rw[qbr (P:=Tryz.prog) w2 _ 113 (bv ub) ?hn (qaw _)]
    case hn=>rw[Hh];kernel_rfl
    have Hf:=zH (show Below w.heap.size w (w2.alloc (.cells (bv ub).toArray 113))from Hb.o.trans ((He.o.mono Hb.o.size).trans ((zai _ _).alloc (zah Hb.o.size He.o.size) _)));generalize w2.alloc (.cells (bv ub).toArray 113)=W3 at Hf⊢;generalize w2.heap.size=U;go_wp2;refine⟨⟨k+1,by go_num,by omega,?_,?_,Hf.o⟩,by simp[intOf];omega⟩
    ·rw[Ha.o];congr 1;simp only[zcn]
     first|omega|(split<;>omega)
    ·rw[Ha.o];simp only[zcn];omega
  ·have HA:k=2:=by omega
   have tk:decide ((k:Int)<2)=false:=zal (by omega);have Hy:qeZ (p.seen d 0) (p.seen d 1) k=qcj (p.seen d 0) (p.seen d 1):=by rw[HA];rfl
   rw[Hy]at hc9⊢;have HB:=zH hbr;obtain⟨gn,hgn⟩:∃ n,qcj (p.seen d 0) (p.seen d 1)=n:=⟨_,rfl⟩;have Hi:=Hk.o;rw[hgn]at hc9 Hi⊢;have Hs:=zH (show qbD p d=wf p ⟨d,slot gn,superB gn 0 (zeros 48)⟩by unfold qbD;rw[hgn,zaB (by omega)]);have q1:decide ((4611686018427387904:Int)≤(gn:Int))=false:=zal (by omega);have HJ:=zH (fun(V:World)=>qhG gn V (by omega));have HK:=zH (fun(V:World) (hn:Nib V)=>qgg gn 0 (zeros 48) V hn (zeros_len 48) (by omega) (by omega));have Hn:=zH (qb9 gn);clear hbr Hy hgn Hi hc9 HA hk;obtain⟨j0,hj0,hj1,hj2,hj3⟩:=zaT qlQ;go_upto_region 22 with fail
   go_wp2_with (first|(go_at_call 49;refine(HJ.o _).mono ?_;rintro e w' ⟨rfl,rfl⟩)|(go_at_call 50;refine(HK.o _ (HF.o.below HB.o)).mono ?_;rintro e w3 ⟨b,rfl,hs1,hs2,hs3⟩;have HI:=zH hs1;have Hv:=zH hs2;have Hw:=zH hs3;clear hs1 hs2 hs3)|(refine qgW rfl 103 (.tmp 63) rfl Tryz.underlying103 hj0 hj1 hj2 (by decide) (by decide) (.slice (some ⟨b,0,none⟩) 64 64) rfl [.slice (some ⟨b,0,none⟩) 64 64] rfl rfl ?_))
   have Hr:=zH (show Below w.heap.size w (w3.alloc (.cells #[.slice (some ⟨b,0,none⟩) 64 64] 34))from(HB.o.trans (Hw.o.mono HB.o.size)).alloc (zah HB.o.size Hw.o.size) _);have Ho:b<w3.heap.size:=(zab.1 Hv.o).1;have HN:=zH (qfn (Ht.o.below Hr.o) (d:=d) (m:=m) (k:=slot gn) HE.o (by have:=Hn.o;have:=Hj.o;omega) (b:=b) (C:=w3.heap.size) (cc:=1) (l:=superB gn 0 (zeros 48))
    (By.of_block ((((zai w3.heap.size w3).alloc (zac _) _).block _ Ho).trans Hv.o) rfl) (qgf _ _ _ (zeros_len 48)) (fun hf=>by have:=Ht.o.hF _ hf;have:=HI.o;have:=HB.o.size;omega)
    (by show(World.alloc _ _).cell? _=_;rw[zan _ _ 0 _ _ _ (zaf w3 _)];rfl) HM.o Hl.o)
   go_wp2_with (go_at_call 48;refine HN.o.mono ?_;rintro e w5 ⟨rfl,F5,hp5,he5⟩;have HG:=zH hp5;have HD:=zH he5;clear hp5 he5)
   go_ret;refine⟨?_,F5,by rw[Hs.o];exact HG.o,(Ext.of (Touch.of_below Hr.o)).trans HD.o⟩;rw[Hs.o];rfl
end Go.Proofs.YtpmebcgmgfcmiaaGreatDoor
namespace Go.Proofs.YtpmebcgmgfcmiaaGreatDoor
open Go.RowKit BT Go.Lib
variable {s:Nat→Bs}{use:Bs}{L root1:Nat}{l:List Pr}
structure SdM (w:World) (D:Nat) (a:PA) (G T:Nat) (F:Nat→Prop) (t:Ts) (Rn Ro:Nat) (pages:Nat) (dims:Int):Prop where
 box:w.heap[D]?=some (.cells #[.pointer (some ⟨a.P,0,none⟩),.pointer (some ⟨G,0,none⟩),.pointer (some ⟨T,0,none⟩),.pointer (some ⟨Rn,0,none⟩),.pointer (some ⟨Ro,0,none⟩),.int .i64 (pages:Int),.int .i64 dims] 32 (0,0))
 tr:TrM w a G 0 T F t.p t.g t.root1
def BgF (pages:Nat)(w:World)(e:Ending)(w':World):Prop:=
 ∃ D a G T F t Rn Ro,e=.returned (.pointer (some ⟨D,0,none⟩))∧SdM w' D a G T F t Rn Ro pages 0∧(∀ L,Std 0 L t [] [])∧t.g.pages=pages∧t.g.gen≤1∧t.p.waits=[]∧t.p.fuse=-1∧t.p.most=[2+8*pages]∧t.p.tp=[]∧t.root1=0∧t.g.was=t.g.use∧
  RowM w' Rn (fun _=>False) none 0 []∧RowM w' Ro (fun _=>False) none 0 []∧(∀ b,F b→w.heap.size≤b∧b<G)∧w.heap.size≤G∧G<T∧T<Rn∧Rn<Ro∧Ro<D∧Below w.heap.size w w'
theorem qfw {w:World}(hnib:Nib w)(pages:Nat)(hp:1≤pages∧pages≤384) :
  Calls Tryz.prog 6 #[.int .i64 (pages:Int)] w (BgF pages w):=by
 obtain⟨sz,hsz⟩:∃ k:Nat,2+8*pages=k:=⟨_,rfl⟩;have h1:2+8*(pages:Int)=(sz:Int):=by omega
 have HL:=zH hsz;have Hk:=zH hnib;obtain⟨i0,hi0,hz0,hz1,hz2⟩:=zaT qgz;clear hnib;have Hf:sz≤4096:=by rw[←hsz];omega
 have He:1≤sz:=by rw[←hsz];omega
 have Hh:min ((sz-2) / 8) 384=pages:=by rw[←hsz];omega
 have Hz:Below w.heap.size w (w.alloc (.cells #[.int .i64 (sz:Int)] 3)):=zB _ _;have Hq:=zH Hz;have Hv:=zH (qln (some ⟨w.heap.size,0,none⟩) none 1 0 1 0 [sz] [] (w.alloc (.cells #[.int .i64 (sz:Int)] 3)) ⟨by simp,fun _=>⟨w.heap.size,0,rfl,by simp,fun k hk=>by
   obtain rfl:k=0:=by simp at hk;omega
   rw[zan _ _ _ _ _ _ (zaf w _)];rfl⟩⟩ ⟨by simp,fun h=>by simp at h⟩ rfl rfl (by omega) (by omega) (fun m hm=>by rw[za3.1 hm];exact⟨He,Hf⟩) (fun m hm=>by cases hm) (by omega) (by omega))
 unfold NwF at Hv;obtain⟨f1,f2,f3,f4,f5,f6,gg,g1,g2,g3,f7⟩:=qh4 (p:=fresh [sz] []) (d:=0) (m:=sz) ⟨rfl,rfl⟩ rfl (by rw[Hh];omega);have Hn:qcj ((fresh [sz] []).seen 0 0) ((fresh [sz] []).seen 0 1)≤1:=by
  have e:∀ k,(fresh [sz] []).seen 0 k=zeros 64:=fun k=>rfl;rw[e,e];unfold qcj;rw[qfc];simp
 have g4:gg≤1:=by omega
 have HB:qcj ((fresh [sz] []).seen 0 0) ((fresh [sz] []).seen 0 1)<4611686018427387904:=by omega
 clear Hn g3;rw[Hh]at f7;have Hs:=zH f7;have Hr:=zH f3;have HD:=zH f4;have HE:=zH f6;have HH:=zH HB;have HC:=zH f1;have Hi:=zH f2;have Hl:=zH Hh;have HQ:1<w.heap.size:=zaH w ⟨1,0,none⟩ (Hk.o 0 (by omega));clear f1 f2 f3 f4 f5 f6 f7 HB Hz Hf He Hh hsz;go_enter Tryz.func6,Tryz.ntmps6
 go_upto_if 23 with(go_at_call 21;refine Hv.o.mono ?_;rintro e w1 ⟨a,F,rfl,hpl,hF,hb1⟩)
 have Hb:Below w.heap.size w w1:=Hq.o.trans (hb1.mono Hq.o.size);have Hy:¬F 1:=fun h=>by have:=hF 1 h;rw[za2]at this;omega
 have Hj:=zH (qh3 hpl (Hk.o.below Hb) (d:=0) (m:=sz) rfl (by rw[Hl.o];omega) rfl (by simp[fresh]) HH.o);unfold FmF at Hj;rw[HC.o,zaw rfl]at Hj;have Ha:=zH Hb;have Ht:=zH hF;clear hpl hF hb1 Hb;go_upto_region 5 with(go_at_call 22;refine Hj.o.mono ?_;rintro e w2 ⟨rfl,F',hpl2,hx2⟩)
 have Hm:¬F' 1:=fun h=>by
  rcases hx2.sub 1 h with h|h
  ·exact Hy h
  ·have:=Ha.o.size;omega
 have HA:=(Hk.o.below Ha.o).touch hx2.touch Hy;have Hc:=zH hx2;obtain⟨oc1,oc2⟩:=(Hs.o 24).com.open_;have Hg:=qe2 hpl2 HA Hm (d:=0) (m:=sz) (by rw[Hr.o];rfl) (by rw[Hl.o];omega) Hi.o.1;unfold OpF at Hg;rw[Hl.o,oc1,oc2]at Hg;have HI:=zH Hg;have HK:=zH (show ∀ b,F' b→b<w2.heap.size from hpl2.hF);clear Hg oc1 oc2 HA hx2 hpl2;go_upto_if 40 with(go_at_call 19;refine HI.o.mono ?_;rintro e w3 ⟨hb3,(⟨-,G,rfl,hG,hpg3⟩|⟨h,-⟩)⟩)
 ·have HJ:=zH (qe4 hpg3);have Ho:=zH hb3;have HF:=zH hG;have Hu:=zH (show ∀ b,F' b→w.heap.size≤b∧b<w2.heap.size from fun b hb=>⟨by
   rcases Hc.o.sub b hb with h|h
   ·have:=Ht.o b h;rw[za2]at this;omega
   ·have:=Ha.o.size;omega,HK.o b hb⟩)
  have HG:=zH hpg3.lt;clear hpg3 hb3 hG;go_upto_if 44 with(go_at_call 20;refine HJ.o.mono ?_;rintro e w4 ⟨T,rfl,htr,hb4,hT⟩)
  have Hw:=zH htr;have Hp:=zH hb4;have HM:=zH hT;clear htr hb4 hT;go_wp2;go_ret;obtain⟨N,hN⟩:∃ N,w4.heap.size=N:=⟨_,rfl⟩;have hb:Below w4.heap.size w4 (((w4.alloc (.cells #[.slice none 0 0] 46)).alloc (.cells #[.slice none 0 0] 46)).alloc (.cells #[.pointer (some ⟨a.P,0,none⟩),.pointer (some ⟨G,0,none⟩),.pointer (some ⟨T,0,none⟩),.pointer (some ⟨w4.heap.size,0,none⟩),.pointer (some ⟨w4.heap.size+1,0,none⟩),.int .i64 (pages:Int),.int .i64 0] 32)):=
   (((zai _ w4).alloc (zac _) _).alloc (by simp) _).alloc (by simp;omega) _
  have Hx:Below w.heap.size w1 w2:=⟨Hc.o.touch.os,Hc.o.touch.tape,Hc.o.touch.output,Hc.o.touch.size,fun b hb=>Hc.o.touch.block b (by have:=Ha.o.size;omega) (fun h=>by have:=Ht.o b h;rw[za2]at this;omega)⟩;have z1:=Ha.o.size;have z2:=Hx.size;have z3:=Ho.o.size;have z4:=Hp.o.size;have hG:=HF.o;have HO:=HG.o;have hT:=HM.o;have HP:=Hw.o.lt;have HN:Below w.heap.size w w4:=Ha.o.trans (Hx.trans ((Ho.o.mono (by omega)).trans (Hp.o.mono (by omega))));have k2:=zaf ((w4.alloc (.cells #[.slice none 0 0] 46)).alloc (.cells #[.slice none 0 0] 46)) (.cells #[.pointer (some ⟨a.P,0,none⟩),.pointer (some ⟨G,0,none⟩),.pointer (some ⟨T,0,none⟩),.pointer (some ⟨w4.heap.size,0,none⟩),.pointer (some ⟨w4.heap.size+1,0,none⟩),.int .i64 (pages:Int),.int .i64 0] 32);have k1:=zaf (w4.alloc (.cells #[.slice none 0 0] 46)) (.cells #[.slice none 0 0] 46);have k0:=zaf w4 (.cells #[.slice none 0 0] 46);rw[za2]at k1;rw[za2,za2]at k2;refine⟨w4.heap.size+1+1,a,G,T,F',⟨(qbD (fresh [sz] []) 0).2,⟨pages,gg,0,zeros 48,zeros 48⟩,0⟩,w4.heap.size,w4.heap.size+1,rfl,⟨k2,Hw.o.below hb⟩,fun L=>(Hs.o L).stand Hi.o.1,rfl,g4,?_,Hi.o.2,?_,?_,rfl,rfl,⟨?_,PrS.nil _ _,zac _⟩,⟨?_,PrS.nil _ _,zac _⟩,fun b hb=>⟨(Hu.o b hb).1,by have:=(Hu.o b hb).2;omega⟩,by omega,by omega,by omega,by omega,by omega,HN.trans (hb.mono (by omega))⟩
  ·rw[HE.o];rfl
  ·rw[Hr.o,HL.o];rfl
  ·rw[HD.o];rfl
  ·exact(za9 _ _ _ (by simp;omega)).trans ((za9 _ _ _ (by simp)).trans k0)
  ·exact(za9 _ _ _ (by simp)).trans k1
theorem qks {pages:Nat}:∀ (h:Nat) (k:Kd),WF (qah s pages use) h k→∀ i∈pgs (qah s pages use) h k,i<pages:=by
 have Ha:∀ {p:Nat} {m:Kd},qah s pages use p=some m→p<pages:=fun {p m} h=>by
  unfold qah at h;split at h
  ·rename_i hh;exact hh.1
  ·cases h
 intro h
 induction h with
 | zero=>
  intro k hw i hi;obtain⟨m,h1,_⟩:=hw;cases k with
  | page p=>
   obtain rfl:i=p:=by simpa [pgs,pageOf] using hi
   exact Ha h1
  | leaf ps=>simp[pgs,pageOf]at hi
  | inner ks xs=>simp[pgs,pageOf]at hi
 | succ h ih=>
  intro k hw i hi;obtain⟨m,h1,h2,_⟩:=hw;rw[qaY h1 h2]at hi;rcases zar.1 hi with hi|hi
  ·cases k with
   | page p=>
    obtain rfl:i=p:=by simpa [pageOf] using hi
    exact Ha h1
   | leaf ps=>simp[pageOf]at hi
   | inner ks xs=>simp[pageOf]at hi
  ·obtain⟨ks,xs,rfl,_,_,_,x1⟩:=h2;have ep:pgs (qah s pages use) (h+1) (.inner ks xs)=xs.flatMap (pgs (qah s pages use) h):=by simp only[pgs,nd,pageOf,zaA]
   rw[ep]at hi;obtain⟨x,hx,hix⟩:=zaS.1 hi;exact ih x (x1 x hx) i hix
theorem qjo {D:Dsk}:∀ (h:Nat) (k:Kd),WF D h k→∀ p∈itemsK D h k,plen p:=by
 intro h
 induction h with
 | zero=>
  intro k hw p hp;obtain⟨m,h1,h2,_⟩:=hw;rw[qaG h1 h2]at hp;obtain⟨ps,rfl,_,h4⟩:=h2;exact h4 p hp
 | succ h ih=>
  intro k hw p hp;obtain⟨m,h1,h2,_⟩:=hw;rw[qaG h1 h2]at hp;obtain⟨ks,xs,rfl,_,_,_,x1⟩:=h2;obtain⟨x,hx,hpx⟩:=zaS.1 (show p∈xs.flatMap (itemsK D h)from hp);exact ih x (x1 x hx) p hpx
theorem TreeIs.trp {pages:Nat}(h:TreeIs s pages use L root1 l)(hp:pages≤384):TrP (qah s pages use) root1:=by
 by_cases h0:root1=0
 ·exact .inl h0
 ·obtain⟨k,t1,t2,t3,_⟩:=h.some h0;exact .inr ⟨k,by have:=t1.h1;omega,t1.wf,t1.srt,t3,fun q hq=>by have:=qks _ _ t1.wf q hq;omega⟩
theorem TreeIs.srt {pages:Nat}(h:TreeIs s pages use L root1 l):Srt l∧∀ p∈l,plen p:=by
 by_cases h0:root1=0
 ·rw[(h.none h0).1];exact⟨List.Pairwise.nil,fun _ h=>by cases h⟩
 ·obtain⟨k,t1,t2,_,_⟩:=h.some h0;rw[←t2];exact⟨t1.srt,qjo _ _ t1.wf⟩
theorem TreeIs.lii {pages:Nat}(h:TreeIs s pages use L root1 l)(hp:pages≤384)(lo:Bs):LiI (qah s pages use) root1 lo (l.filter (geB lo)):=by
 by_cases h0:root1=0
 ·rw[(h.none h0).1];exact .inl ⟨h0,rfl⟩
 ·obtain⟨k,t1,t2,t3,_⟩:=h.some h0;exact .inr ⟨h0,k,t1.wf,t1.srt,t3,fun q hq=>by have:=qks _ _ t1.wf q hq;omega,by rw[t2]⟩
theorem listed (lo hi:Bs)(h:Srt l):(l.filter (geB lo)).takeWhile (ltB hi)=l.filter (inR lo hi):=qga h
end Go.Proofs.YtpmebcgmgfcmiaaGreatDoor
