/- Texts LiG RrA. -/
import Derived.Test.YtpmebcgmgfcmiaaGreatDoorQ28
set_option linter.all false
set_option maxRecDepth 100000
set_option maxHeartbeats 16000000
namespace Go.Proofs.YtpmebcgmgfcmiaaGreatDoor
open Go.RowKit BT Go.Lib
section
attribute [local go_sem] Oper.semAt_some
theorem qcs:(Tryz.prog.info? 48).map (fun i=>(i.zero,i.size,i.bytes))=some (some (.agg #[.slice none 0 0,.slice none 0 0]),2,48):=by kernel_rfl
theorem qcT {w:World}(l:Nat)(o:Obj):Touch (fun b=>b=l) w (w.putObj l o):=⟨rfl,rfl,rfl,by simp,fun k _ hn=>World.putObj_heap_other hn⟩
theorem qeE {l n:Nat}{f:FuncId}{args:Array Value}{w:World}{R:Ending→World→Prop}(h:Calls Tryz.prog f args w R):CallsIn (Fence.wide.inRound l) n Tryz.prog f args w R:=
 ⟨trivial,fun cs _=>let ⟨e,w',fr,r,s,x⟩:=h cs;⟨e,w',fr,r,comesIn_wide.2 s,x⟩⟩
def LsF (its:List Pr)(w:World)(e:Ending)(w':World):Prop:=
 Below w.heap.size w w'∧∃ A c cs,e=.returned (.tuple #[.slice A its.length c,.int .i64 0])∧Own w' w.heap.size 48 2 (.slice A its.length c) its.length cs∧RowV w' (fun b=>w.heap.size≤b) cs (its.flatMap fl2)
theorem qcH {w:World}{a:PA}{G d T:Nat}{F:Nat→Prop}{p:Pl}{g:Pg}{root1:Nat}{A HA:Option Addr}{lo hi:Bs}{n c hn hc:Nat}{its:List Pr}(ht:TrM w a G d T F p g root1)(hoff:p.off=false)(hI:LiI (qah (p.seen d) g.pages g.use) root1 lo its)(hlo:By w A lo)(hhi:By w HA hi)(hln:lo.length=n)(hhn:hi.length=hn)(hlen:its.length≤100000)(hpl:∀ x∈its,x.1.length≤1048576∧x.2.length≤1048576) :
  Calls Tryz.prog 13 #[.pointer (some ⟨T,0,none⟩),.slice A n c,.slice HA hn hc] w (LsF (its.takeWhile (ltB hi)) w):=by
 refine(callsIn_wide (n:=100)).1 (callsIn_of_wp_marks Tryz.func13 rfl trivial ?_ rfl);simp only[Tryz.ntmps13,zaz,zao,zaZ,Nat.reduceAdd,Nat.reduceSub,Array.replicate_succ,Array.replicate_zero,List.push_toArray,List.append_toArray,zaA,zaW];obtain⟨w5,hw5⟩:∃ x,((((w.alloc (.cells #[.slice HA hn hc] 34)).alloc (.cells #[.pointer (some ⟨T,0,none⟩),.slice none 0 0,.int .i64 0] 91)).alloc (.cells #[.slice none 0 0] 44)).alloc (.cells #[.pointer (some ⟨w.heap.size+1,0,none⟩)] 89)).alloc (.cells #[.slice A n c] 34)=x:=⟨_,rfl⟩;have Hb:Below w.heap.size w w5:=by rw[←hw5];exact(((((zai _ w).alloc (zac _) _).alloc (by simp) _).alloc (by simp;omega) _).alloc (by simp;omega) _).alloc (by simp;omega) _
 have hU:w5.heap.size=w.heap.size+5:=by rw[←hw5];simp
 have k4:w5.heap[w.heap.size+4]?=some (.cells #[.slice A n c] 34 (0,0)):=by
  rw[←hw5];have h:=zaf ((((w.alloc (.cells #[.slice HA hn hc] 34)).alloc (.cells #[.pointer (some ⟨T,0,none⟩),.slice none 0 0,.int .i64 0] 91)).alloc (.cells #[.slice none 0 0] 44)).alloc (.cells #[.pointer (some ⟨w.heap.size+1,0,none⟩)] 89)) (.cells #[.slice A n c] 34);simpa using h
 have k3:w5.heap[w.heap.size+3]?=some (.cells #[.pointer (some ⟨w.heap.size+1,0,none⟩)] 89 (0,0)):=by
  rw[←hw5];refine(za9 _ _ _ (by simp)).trans ?_;have h:=zaf (((w.alloc (.cells #[.slice HA hn hc] 34)).alloc (.cells #[.pointer (some ⟨T,0,none⟩),.slice none 0 0,.int .i64 0] 91)).alloc (.cells #[.slice none 0 0] 44)) (.cells #[.pointer (some ⟨w.heap.size+1,0,none⟩)] 89);simpa using h
 have k2:w5.heap[w.heap.size+2]?=some (.cells #[.slice none 0 0] 44 (0,0)):=by
  rw[←hw5];refine(za9 _ _ _ (by simp)).trans ((za9 _ _ _ (by simp)).trans ?_);have h:=zaf ((w.alloc (.cells #[.slice HA hn hc] 34)).alloc (.cells #[.pointer (some ⟨T,0,none⟩),.slice none 0 0,.int .i64 0] 91)) (.cells #[.slice none 0 0] 44);simpa using h
 have k1:w5.heap[w.heap.size+1]?=some (.cells #[.pointer (some ⟨T,0,none⟩),.slice none 0 0,.int .i64 0] 91 (0,0)):=by
  rw[←hw5];refine(za9 _ _ _ (by simp)).trans ((za9 _ _ _ (by simp)).trans ((za9 _ _ _ (by simp)).trans ?_));have h:=zaf (w.alloc (.cells #[.slice HA hn hc] 34)) (.cells #[.pointer (some ⟨T,0,none⟩),.slice none 0 0,.int .i64 0] 91);simpa using h
 have k0:w5.heap[w.heap.size]?=some (.cells #[.slice HA hn hc] 34 (0,0)):=by
  rw[←hw5];exact(za9 _ _ _ (by simp;omega)).trans ((za9 _ _ _ (by simp;omega)).trans ((za9 _ _ _ (by simp;omega)).trans ((za9 _ _ _ (by simp)).trans (zaf w _))))
 have HT:=zH ht;have HI:=zH hI;have H7:=zH hlo;have H6:=zH hhi;have HK:=zH (⟨k0,k1,k2,k3,k4⟩:_∧_∧_∧_∧_);have HQ:=zH Hb;clear ht hI hlo hhi k0 k1 k2 k3 k4 Hb
 gi_wp2_with (refine⟨trivial,(callsIn_wide.2 (qju _ _ A n c)).mono ?_⟩;rintro e w' ⟨rfl,rfl⟩)
 clear hw5;obtain⟨bo,hbo⟩:∃ b,w.heap.size+1+1=b:=⟨_,rfl⟩;rw[hbo];obtain⟨b1,hb1⟩:∃ b,bo+1=b:=⟨_,rfl⟩;rw[hb1];obtain⟨b2,hb2⟩:∃ b,b1+1=b:=⟨_,rfl⟩;rw[hb2];obtain⟨Wk,hWk⟩:∃ b,w.heap.size+1=b:=⟨_,rfl⟩;rw[hWk];obtain⟨b5,Hb⟩:∃ b,w.heap.size=b:=⟨_,rfl⟩;rw[Hb];obtain⟨l,hl⟩:∃ b,w5.heap.size+1=b:=⟨_,rfl⟩;obtain⟨dd,hdd⟩:∃ b,w5.heap.size=b:=⟨_,rfl⟩;have HE:=zH (show bo=b5+2∧b1=b5+3∧b2=b5+4∧Wk=b5+1∧l=b5+6∧dd=b5+5 from⟨by omega,by omega,by omega,by omega,by omega,by omega⟩);have k2:w5.heap[bo]?=some (.cells #[.slice none 0 0] 44 (0,0)):=by rw[←hbo];exact HK.o.2.2.1
 have k1:w5.heap[Wk]?=some (.cells #[.pointer (some ⟨T,0,none⟩),.slice none 0 0,.int .i64 0] 91 (0,0)):=by rw[←hWk];exact HK.o.2.1
 have k0:w5.heap[b5]?=some (.cells #[.slice HA hn hc] 34 (0,0)):=by rw[←Hb];exact HK.o.1
 have k3:w5.heap[b1]?=some (.cells #[.pointer (some ⟨Wk,0,none⟩)] 89 (0,0)):=by rw[←hb1,←hbo,←hWk];exact HK.o.2.2.2.1
 have k4:w5.heap[b2]?=some (.cells #[.slice A n c] 34 (0,0)):=by rw[←hb2,←hb1,←hbo];exact HK.o.2.2.2.2
 refine qkB (gf:=53) (lb:=#[.pointer (some ⟨b1,0,none⟩),.pointer (some ⟨b2,0,none⟩)]) rfl (enters_of Tryz.func53 (by kernel_rfl) rfl) rfl
  (fun C pre W=>(∃ vo cs,LCv w b5 b5 bo dd l HA hn hc C pre vo cs W)∧∀ x∈pre,ltB hi x=true)
  (fun cd C pre W=>cd=.exit 0∧∃ p0 x,pre=p0++[x]∧ltB hi x=false∧(∃ vo cs,LCv w b5 b5 bo dd l HA hn hc C p0 vo cs W)∧∀ x∈p0,ltB hi x=true)
  (fun W=>∃ mv met,WkM W b5 Wk T mv met 0∧¬MW Wk mv l) (fun b=>b=bo∨b=b5∨b=dd∨b=l) its ?put ?putx ?putX ?cl
  (fun kv vv=>{ tmps:=#[.pointer (some ⟨T,0,none⟩),.slice A n c,.slice HA hn hc,undef,undef,.pointer (some ⟨b5,0,none⟩),.slice none 0 0,.int .i64 0,.pointer (some ⟨Wk,0,none⟩),.pointer (some ⟨bo,0,none⟩),kv,vv,.pointer (some ⟨T,0,none⟩),.agg #[.pointer (some ⟨T,0,none⟩),.slice none 0 0,.int .i64 0],.pointer (some ⟨Wk,0,none⟩),.pointer (some ⟨Wk,0,none⟩),.slice A n c,.func (.func 53) #[] #[.pointer (some ⟨b1,0,none⟩),.pointer (some ⟨b2,0,none⟩)],kv,vv,undef,undef,undef,undef,undef,undef,undef,undef,undef,undef,undef,undef,undef,undef,undef,undef,undef,undef,undef,undef,undef,undef,undef,undef,undef,undef,undef],defers:=[] })
  ?assign ?body ?h0 ?iter ?done ?stop
 case put=>
  rintro C pre W o ⟨⟨vo,cs,h⟩,h2⟩;rw[hl];exact⟨⟨vo,cs,h.keep (qcT l o) (fun b hb=>⟨by rw[hb];have:=HE.o;omega,.inr hb⟩)⟩,h2⟩
 case putx=>
  rintro cd C pre W o ⟨h1,p0,x,h2,h3,⟨vo,cs,h⟩,h4⟩;rw[hl];exact⟨h1,p0,x,h2,h3,⟨vo,cs,h.keep (qcT l o) (fun b hb=>⟨by rw[hb];have:=HE.o;omega,.inr hb⟩)⟩,h4⟩
 case putX=>
  rintro W o ⟨mv,met,h1,h2⟩;rw[hl];exact⟨mv,met,h1.touch (qcT l o) (fun b hb=>by rw[hb];exact h2),h2⟩
 case cl=>
  rintro C pre W ⟨⟨vo,cs,h⟩,h2⟩;rw[hl];exact h.Co.2.2.2
 case assign=>
  intro kv vv W K hK;rw[hl]
  gi_wp2
  exact hK
 case body=>
  rw[hl];rintro C pre x KA VA kc vc W ⟨⟨vo,cs,hL⟩,hall⟩ hpre hk hv hkc hvc
  dsimp only
  have ho:x∈its:=hpre.subset (by simp);obtain⟨hx1,hx2⟩:=hpl x ho;have hQ:pre.length+1≤100000:=by
   have:=hpre.length_le;rw[zad,zcr]at this;omega
  have g0:W.cell? ⟨b5,0,none⟩=some (.slice HA hn hc):=zC hL.hi;have hB:b5≤W.heap.size:=by have:=hL.base.size;omega
  have hd:By W HA hi:=by
   refine H6.o.touchL hL.base (fun ad e h0 hm=>?_);obtain⟨b,off,e2,h3,_⟩:=H6.o.at_ h0;rw[e]at e2;cases e2;simp only at hm;omega
  have g1:W.drew.cell? ⟨bo,0,none⟩=some vo:=by
   show W.cell? _=_;rw[zan _ _ _ _ _ _ hL.out];rfl
  have hh:=fun(W2 W5:World) (A1 A2:Option Addr) (c1 c2:Nat) (v':Value)=>hL.snoc (W2:=W2) (W5:=W5) (x:=x) (A1:=A1) (A2:=A2) (c1:=c1) (c2:=c2) (v':=v') hB;have H8:=zH hh;have HL:=zH hL;have Hm:=zH hall;have hs:=zH hpre;have HW:=zH hk;have H9:=zH hv;have hp:=zH hd;have H5:=zH g1;obtain⟨j0,hj0,jz0,jz1,jz2⟩:=zaT qcs;clear hh hL hall hpre hk hv ho hd g1;by_cases h0:hn=0
  ·subst h0;have hC:hi=[]:=zcg.1 hhn;have Hh:ltB hi x=true:=by simp[ltB,hC]
   gi_wp2
   refine⟨trivial,?_⟩
   gi_wp2
   have Hv:=zH (qbd KA kc x.1 W.drew (HW.o.below ((zai _ _).drew)) hx1);have Hf:=zH (show Below W.heap.size W W.drew from(zai _ _).drew);have Hc:=zH (show W.drew.cell? ⟨bo,0,none⟩=some vo from H5.o);refine qcV (S:=fun W'=>W'.cell? ⟨bo,0,none⟩=some vo) [8] (by kernel_rfl) (by kernel_rfl) (by rintro⟨_,_,h⟩;exact h) Hc.o (fun _=>?_);generalize W.drew=W0 at Hc Hv Hf⊢;refine zL 0 29 (vo) rfl (Or.inl ⟨by rfl,fun W' hS=>by go_simp⟩) (qaa Hc.o) ?_;try simp only[zS]
   refine zP 1 30 (.slice KA x.1.length kc) Hc.o ?_;try simp only[zS]
   refine zP 3 32 (.slice VA x.2.length vc) Hc.o ?_;try simp only[zS]
   refine zE 2 31 rfl (fun Kr hKr=>?_);go_simp;go_at_call 36
   refine Hv.o.mono ?_;rintro e W1 ⟨A1,c1,rfl,ho1,hd1⟩;have He:=Hf.o.trans (hd1.mono Hf.o.size);have HB:=zH ho1;have Hx:=zH He;have Hn:=zH (show W1.cell? ⟨bo,0,none⟩=some vo from(zaR (hd1.block _ (cell_lt Hc.o))).trans Hc.o);have HR:=zH (qbd VA vc x.2 W1 (H9.o.below He) hx2);have H0:=zH hd1.size;clear ho1 hd1 He;refine hKr.out (.slice A1 x.1.length c1) _ (qaa Hn.o) (fun _=>?_);clear hKr Kr;try simp only[zS]
   refine zE 4 33 rfl (fun Kr hKr=>?_);go_simp;go_at_call 36
   refine HR.o.mono ?_;rintro e W2 ⟨A2,c2,rfl,ho2,hd2⟩;have Ha:=Hx.o.trans (hd2.mono Hx.o.size);have Hp:=zH ho2;have HU:=zH Ha;have Hj:=zH (show W2.cell? ⟨bo,0,none⟩=some vo from(zaR (hd2.block _ (cell_lt Hn.o))).trans Hn.o);have Hg:=zH (HB.o.touch (F:=fun _=>False) (Touch.of_below hd2) (fun _ _ h=>h.elim));have HX:=zH (show Own W2 b5 48 2 vo pre.length cs from HL.o.own.touch (F:=fun _=>False) (Touch.of_below Ha) (fun _ _ h=>h.elim));have Hu:=zH ((Ha.block bo (HL.o.lt _ HL.o.Co.1).2).trans HL.o.out);have hu:=zH hd2.size;have HO:=zH (show b5≤W2.heap.size from zah hB Ha.size);clear ho2 hd2 Ha;refine hKr.out (.slice A2 x.2.length c2) _ (qaa Hj.o) (fun _=>?_);clear hKr Kr;try simp only[zS]
   refine zP 5 34 (.agg #[.slice A1 x.1.length c1,.slice A2 x.2.length c2]) Hj.o ?_;try simp only[zS]
   refine zE 6 35 rfl (fun Kr hKr=>?_);refine Eq.mpr (zaw (by rfl)) ?_;refine qaP 44 (.tmp 34) rfl Tryz.underlying44 hj0 jz0 jz1 (by decide) (by decide) (.agg #[.slice A1 x.1.length c1,.slice A2 x.2.length c2]) rfl [.slice A1 x.1.length c1,.slice A2 x.2.length c2] (by rfl) rfl ?_;have Hs:Below W2.heap.size W2 (W2.alloc (.cells [Value.slice A1 x.1.length c1,.slice A2 x.2.length c2].toArray 48)):=zB _ _;have Hi:=zH Hs;have H1:=zH (show(W2.alloc (.cells [Value.slice A1 x.1.length c1,.slice A2 x.2.length c2].toArray 48)).heap.size=W2.heap.size+1 by simp);have Hw:=zH (show Src (W2.alloc (.cells [Value.slice A1 x.1.length c1,.slice A2 x.2.length c2].toArray 48)) 2 (some ⟨W2.heap.size,0,none⟩) 1 [.slice A1 x.1.length c1,.slice A2 x.2.length c2]from qaE (zaf W2 _) rfl);have Hy:=zH (show(W2.alloc (.cells [Value.slice A1 x.1.length c1,.slice A2 x.2.length c2].toArray 48)).cell? ⟨bo,0,none⟩=some vo from(zaR (Hs.block _ (cell_lt Hj.o))).trans Hj.o);clear Hs;obtain⟨C3,hC3⟩:∃ C,W2.heap.size=C:=⟨_,rfl⟩;have hr:=zH hC3;rw[hC3]at Hw⊢;clear hC3;generalize W2.alloc (.cells [Value.slice A1 x.1.length c1,.slice A2 x.2.length c2].toArray 48)=W3 at *;refine hKr.out (.slice (some ⟨C3,0,none⟩) 1 1) _ (qaa Hy.o) (fun _=>?_);clear hKr Kr;try simp only[zS]
   refine zE 7 36 rfl (fun Kr hKr=>?_);refine Eq.mpr (zaw (by rfl)) ?_;have Ht:Own W3 b5 48 2 vo pre.length cs:=HX.o.touch (F:=fun _=>False) (Touch.of_below Hi.o) (fun _ _ h=>h.elim);have HC:b5≤W3.heap.size:=zah HO.o Hi.o.size;refine qaJ (.tmp 29) (.tmp 35) 44 rfl b5 48 j0 _ 2 48 Tryz.underlying44 hj0 jz0 jz1 jz2 rfl (by decide) vo pre.length cs rfl Ht.row (some ⟨C3,0,none⟩) 1 1 [.slice A1 x.1.length c1,.slice A2 x.2.length c2] rfl Hw.o (by simp[Value.oneCell']) (by unfold maxLen;omega) (by omega) HC ?_;intro A4 c4 W4 q1 q2 q3;have Hl:=qao q2 q3;have HY:=zH (qaz Ht HC q1 Hl);have Hr:=zH Hl;have H2:bo<W3.heap.size:=cell_lt Hy.o;have HG:vo.ownBlock≠some bo:=fun e=>(HL.o.vC bo e).2 (.inl rfl);have Ho:=zH ((Hl.touch.block bo H2 HG).trans ((Hi.o.block bo (by have:=Hu.o;exact(zab.1 this).1)).trans Hu.o));have HV:=zH (show W4.cell? ⟨bo,0,none⟩=some vo from zC Ho.o);clear q1 q2 q3 Hl Ht;refine hKr.out (.slice A4 (pre.length+1) c4) _ (qaa HV.o) (fun _=>?_);clear hKr Kr;try simp only[zS]
   have Hq:=zH (show W4.there bo 0 1 from there_of_block Ho.o 0 (by simp));refine qae (rs:=[8]) (by kernel_rfl) (by simp) ?_;refine AllReadyG.store rfl 44 (.tmp 9) (.tmp 36) rfl rfl rfl bo 0 (.slice A4 (pre.length+1) c4) rfl rfl Hq.o (by kernel_rfl) rfl (qaf 8 (by rfl) (by kernel_rfl)) ?_ AllReadyG.nil;have HF:Touch (fun b=>b=bo) W4 (W4.setCell ⟨bo,0,none⟩ (.slice A4 (pre.length+1) c4)):=Touch.setCell (F:=fun b=>b=bo) (Touch.refl _ _) (p:=⟨bo,0,none⟩) rfl _;have Hz:=zH (show(W4.setCell ⟨bo,0,none⟩ (.slice A4 (pre.length+1) c4)).heap[bo]?=some (.cells #[.slice A4 (pre.length+1) c4] 44 (0,0))from qab Ho.o _);have Hk:=zH HF;clear HF;generalize W4.setCell ⟨bo,0,none⟩ (.slice A4 (pre.length+1) c4)=W5 at Hz Hk⊢;try simp only[zS]
   refine qad (by kernel_rfl) ?_ _;have H4:∀ b,(Value.slice A4 (pre.length+1) c4).ownBlock=some b→vo.ownBlock=some b∨(W2.heap.size≤b∧b<W5.heap.size):=fun b e=>by
    have h1:=Hk.o.size;have h2:=H1.o;rcases Hr.o.own b e with h|h
    ·exact .inl h
    ·exact .inr ⟨by omega,by omega⟩
   have HM:∀ {A:Option Addr} {m cc base:Nat} {ys:List Value} {W':World},Own W' base 5 1 (.slice A m cc) m ys→∀ ad,A=some ad→base≤ad.block∧ad.block<W'.heap.size:=fun h ad e=>by subst e;exact h.blk _ rfl
   obtain⟨C',he,hl5,v',cs',hlc⟩:=H8.o W2 W5 A1 A2 c1 c2 _ HU.o (Hg.o.byN rfl) (fun ad e=>by have:=HM Hg.o ad e;have:=Hf.o.size;omega) (by obtain⟨_,_,e,h⟩:=HB.o.slice;cases e;exact h) (Hp.o.byN rfl) (fun ad e=>by have:=HM Hp.o ad e;have:=H0.o;have:=Hf.o.size;omega) (by obtain⟨_,_,e,h⟩:=Hp.o.slice;cases e;exact h)
    (((Touch.of_below Hi.o).trans (Hr.o.touch.mono (fun b _ h=>.inr h))).trans (Hk.o.mono (fun b _ h=>.inl h))) Hz.o (HY.o.touch Hk.o (fun b e hb=>by
     subst hb;rcases Hr.o.own _ e with h|h
     ·exact HG h
     ·omega)) H4
   exact⟨C',he,hl5,⟨v',cs',hlc⟩,fun y hy=>by
    rcases zar.1 hy with h|h
    ·exact Hm.o y h
    ·rw[za3.1 h];exact Hh⟩
  ·have hg:(0:Int)<(hn:Int):=by omega
   have hO:decide ((hn:Int)>0)=true:=zas hg;have hP:decide ((0:Int)<(hn:Int))=true:=zas hg;have hD:hi.isEmpty=false:=by
    cases hi with
    | nil=>simp at hhn;omega
    | cons _ _=>rfl
   have HS:=zH (qdq (w:=W) kc hc HW.o hp.o rfl hhn);obtain⟨cv,hcv⟩:∃ v,cmpB x.1 hi=v:=⟨_,rfl⟩;rw[hcv]at HS;by_cases hb:blt x.1 hi=true
   ·have Hh:ltB hi x=true:=by simp[ltB,hb]
    have HN:=cmpB_lt.2 hb;rw[hcv]at HN;have hE:decide (cv≥0)=false:=zal (by omega);have hH:decide (0≤cv)=false:=zal (by omega);have hR:¬(0≤cv):=by omega
    gi_wp2_with (refine⟨trivial,(qeE HS.o).mono ?_⟩;rintro e w' ⟨rfl,rfl⟩)
    have Hv:=zH (qbd KA kc x.1 W.drew (HW.o.below ((zai _ _).drew)) hx1);have Hf:=zH (show Below W.heap.size W W.drew from(zai _ _).drew);have Hc:=zH (show W.drew.cell? ⟨bo,0,none⟩=some vo from H5.o);refine qcV (S:=fun W'=>W'.cell? ⟨bo,0,none⟩=some vo) [8] (by kernel_rfl) (by kernel_rfl) (by rintro⟨_,_,h⟩;exact h) Hc.o (fun _=>?_);generalize W.drew=W0 at Hc Hv Hf⊢;refine zL 0 29 (vo) rfl (Or.inl ⟨by rfl,fun W' hS=>by go_simp⟩) (qaa Hc.o) ?_;try simp only[zS]
    refine zP 1 30 (.slice KA x.1.length kc) Hc.o ?_;try simp only[zS]
    refine zP 3 32 (.slice VA x.2.length vc) Hc.o ?_;try simp only[zS]
    refine zE 2 31 rfl (fun Kr hKr=>?_);go_simp;go_at_call 36
    refine Hv.o.mono ?_;rintro e W1 ⟨A1,c1,rfl,ho1,hd1⟩;have He:=Hf.o.trans (hd1.mono Hf.o.size);have HB:=zH ho1;have Hx:=zH He;have Hn:=zH (show W1.cell? ⟨bo,0,none⟩=some vo from(zaR (hd1.block _ (cell_lt Hc.o))).trans Hc.o);have HR:=zH (qbd VA vc x.2 W1 (H9.o.below He) hx2);have H0:=zH hd1.size;clear ho1 hd1 He;refine hKr.out (.slice A1 x.1.length c1) _ (qaa Hn.o) (fun _=>?_);clear hKr Kr;try simp only[zS]
    refine zE 4 33 rfl (fun Kr hKr=>?_);go_simp;go_at_call 36
    refine HR.o.mono ?_;rintro e W2 ⟨A2,c2,rfl,ho2,hd2⟩;have Ha:=Hx.o.trans (hd2.mono Hx.o.size);have Hp:=zH ho2;have HU:=zH Ha;have Hj:=zH (show W2.cell? ⟨bo,0,none⟩=some vo from(zaR (hd2.block _ (cell_lt Hn.o))).trans Hn.o);have Hg:=zH (HB.o.touch (F:=fun _=>False) (Touch.of_below hd2) (fun _ _ h=>h.elim));have HX:=zH (show Own W2 b5 48 2 vo pre.length cs from HL.o.own.touch (F:=fun _=>False) (Touch.of_below Ha) (fun _ _ h=>h.elim));have Hu:=zH ((Ha.block bo (HL.o.lt _ HL.o.Co.1).2).trans HL.o.out);have hu:=zH hd2.size;have HO:=zH (show b5≤W2.heap.size from zah hB Ha.size);clear ho2 hd2 Ha;refine hKr.out (.slice A2 x.2.length c2) _ (qaa Hj.o) (fun _=>?_);clear hKr Kr;try simp only[zS]
    refine zP 5 34 (.agg #[.slice A1 x.1.length c1,.slice A2 x.2.length c2]) Hj.o ?_;try simp only[zS]
    refine zE 6 35 rfl (fun Kr hKr=>?_);refine Eq.mpr (zaw (by rfl)) ?_;refine qaP 44 (.tmp 34) rfl Tryz.underlying44 hj0 jz0 jz1 (by decide) (by decide) (.agg #[.slice A1 x.1.length c1,.slice A2 x.2.length c2]) rfl [.slice A1 x.1.length c1,.slice A2 x.2.length c2] (by rfl) rfl ?_;have Hs:Below W2.heap.size W2 (W2.alloc (.cells [Value.slice A1 x.1.length c1,.slice A2 x.2.length c2].toArray 48)):=zB _ _;have Hi:=zH Hs;have H1:=zH (show(W2.alloc (.cells [Value.slice A1 x.1.length c1,.slice A2 x.2.length c2].toArray 48)).heap.size=W2.heap.size+1 by simp);have Hw:=zH (show Src (W2.alloc (.cells [Value.slice A1 x.1.length c1,.slice A2 x.2.length c2].toArray 48)) 2 (some ⟨W2.heap.size,0,none⟩) 1 [.slice A1 x.1.length c1,.slice A2 x.2.length c2]from qaE (zaf W2 _) rfl);have Hy:=zH (show(W2.alloc (.cells [Value.slice A1 x.1.length c1,.slice A2 x.2.length c2].toArray 48)).cell? ⟨bo,0,none⟩=some vo from(zaR (Hs.block _ (cell_lt Hj.o))).trans Hj.o);clear Hs;obtain⟨C3,hC3⟩:∃ C,W2.heap.size=C:=⟨_,rfl⟩;have hr:=zH hC3;rw[hC3]at Hw⊢;clear hC3;generalize W2.alloc (.cells [Value.slice A1 x.1.length c1,.slice A2 x.2.length c2].toArray 48)=W3 at *;refine hKr.out (.slice (some ⟨C3,0,none⟩) 1 1) _ (qaa Hy.o) (fun _=>?_);clear hKr Kr;try simp only[zS]
    refine zE 7 36 rfl (fun Kr hKr=>?_);refine Eq.mpr (zaw (by rfl)) ?_;have Ht:Own W3 b5 48 2 vo pre.length cs:=HX.o.touch (F:=fun _=>False) (Touch.of_below Hi.o) (fun _ _ h=>h.elim);have HC:b5≤W3.heap.size:=zah HO.o Hi.o.size;refine qaJ (.tmp 29) (.tmp 35) 44 rfl b5 48 j0 _ 2 48 Tryz.underlying44 hj0 jz0 jz1 jz2 rfl (by decide) vo pre.length cs rfl Ht.row (some ⟨C3,0,none⟩) 1 1 [.slice A1 x.1.length c1,.slice A2 x.2.length c2] rfl Hw.o (by simp[Value.oneCell']) (by unfold maxLen;omega) (by omega) HC ?_;intro A4 c4 W4 q1 q2 q3;have Hl:=qao q2 q3;have HY:=zH (qaz Ht HC q1 Hl);have Hr:=zH Hl;have H2:bo<W3.heap.size:=cell_lt Hy.o;have HG:vo.ownBlock≠some bo:=fun e=>(HL.o.vC bo e).2 (.inl rfl);have Ho:=zH ((Hl.touch.block bo H2 HG).trans ((Hi.o.block bo (by have:=Hu.o;exact(zab.1 this).1)).trans Hu.o));have HV:=zH (show W4.cell? ⟨bo,0,none⟩=some vo from zC Ho.o);clear q1 q2 q3 Hl Ht;refine hKr.out (.slice A4 (pre.length+1) c4) _ (qaa HV.o) (fun _=>?_);clear hKr Kr;try simp only[zS]
    have Hq:=zH (show W4.there bo 0 1 from there_of_block Ho.o 0 (by simp));refine qae (rs:=[8]) (by kernel_rfl) (by simp) ?_;refine AllReadyG.store rfl 44 (.tmp 9) (.tmp 36) rfl rfl rfl bo 0 (.slice A4 (pre.length+1) c4) rfl rfl Hq.o (by kernel_rfl) rfl (qaf 8 (by rfl) (by kernel_rfl)) ?_ AllReadyG.nil;have HF:Touch (fun b=>b=bo) W4 (W4.setCell ⟨bo,0,none⟩ (.slice A4 (pre.length+1) c4)):=Touch.setCell (F:=fun b=>b=bo) (Touch.refl _ _) (p:=⟨bo,0,none⟩) rfl _;have Hz:=zH (show(W4.setCell ⟨bo,0,none⟩ (.slice A4 (pre.length+1) c4)).heap[bo]?=some (.cells #[.slice A4 (pre.length+1) c4] 44 (0,0))from qab Ho.o _);have Hk:=zH HF;clear HF;generalize W4.setCell ⟨bo,0,none⟩ (.slice A4 (pre.length+1) c4)=W5 at Hz Hk⊢;try simp only[zS]
    refine qad (by kernel_rfl) ?_ _;have H4:∀ b,(Value.slice A4 (pre.length+1) c4).ownBlock=some b→vo.ownBlock=some b∨(W2.heap.size≤b∧b<W5.heap.size):=fun b e=>by
     have h1:=Hk.o.size;have h2:=H1.o;rcases Hr.o.own b e with h|h
     ·exact .inl h
     ·exact .inr ⟨by omega,by omega⟩
    have HM:∀ {A:Option Addr} {m cc base:Nat} {ys:List Value} {W':World},Own W' base 5 1 (.slice A m cc) m ys→∀ ad,A=some ad→base≤ad.block∧ad.block<W'.heap.size:=fun h ad e=>by subst e;exact h.blk _ rfl
    obtain⟨C',he,hl5,v',cs',hlc⟩:=H8.o W2 W5 A1 A2 c1 c2 _ HU.o (Hg.o.byN rfl) (fun ad e=>by have:=HM Hg.o ad e;have:=Hf.o.size;omega) (by obtain⟨_,_,e,h⟩:=HB.o.slice;cases e;exact h) (Hp.o.byN rfl) (fun ad e=>by have:=HM Hp.o ad e;have:=H0.o;have:=Hf.o.size;omega) (by obtain⟨_,_,e,h⟩:=Hp.o.slice;cases e;exact h)
     (((Touch.of_below Hi.o).trans (Hr.o.touch.mono (fun b _ h=>.inr h))).trans (Hk.o.mono (fun b _ h=>.inl h))) Hz.o (HY.o.touch Hk.o (fun b e hb=>by
      subst hb;rcases Hr.o.own _ e with h|h
      ·exact HG h
      ·omega)) H4
    exact⟨C',he,hl5,⟨v',cs',hlc⟩,fun y hy=>by
     rcases zar.1 hy with h|h
     ·exact Hm.o y h
     ·rw[za3.1 h];exact Hh⟩
   ·have ha:blt x.1 hi=false:=by simpa using hb
    have Hh:ltB hi x=false:=by simp[ltB,ha,hD]
    have HN:=cmpB_ge.2 ha;rw[hcv]at HN;have hE:decide (cv≥0)=true:=zas (by omega);have hH:decide (0≤cv)=true:=zas HN
    gi_wp2_with (refine⟨trivial,(qeE HS.o).mono ?_⟩;rintro e w' ⟨rfl,rfl⟩)
    exact⟨C,EvM.refl _ _,rfl,rfl,pre,x,rfl,Hh,⟨vo,cs,HL.o⟩,Hm.o⟩
 case h0=>
  intro W1 hbW hz1 hd1 hr1;rw[hdd]at hd1;have hM:bo<w5.heap.size:=by have:=HE.o;omega
  have hN:b5<w5.heap.size:=by have:=HE.o;omega
  refine⟨⟨.slice none 0 0,[],⟨(Touch.of_below HQ.o).trans (Touch.of_below hbW),(hbW.block bo hM).trans k2,Own.nil _ _ _ _,rfl,fun b hb=>(by cases hb),(hbW.block b5 hN).trans k0,hd1,⟨.inl rfl,.inr (.inl rfl),.inr (.inr (.inl rfl)),.inr (.inr (.inr rfl))⟩,fun b hb=>?_,?_⟩⟩,fun x hx=>by cases hx⟩
  ·have:=HE.o;rcases hb with rfl|rfl|rfl|rfl<;>omega
  ·have:=HE.o;omega
 case iter=>
  intro J Jx W1 hJ1 hJx hJ2 hY hj hbW hz1;rw[hl]at hY⊢;have h6:=HE.o;have Hh:∀ b,b<b5+5→b<w5.heap.size:=fun b hb=>by omega
  have hz:TrB W1 b5 a G d T F p g root1:=⟨(HT.o.below (by rw[Hb];exact Hb▸HQ.o)).below hbW,by rw[←Hb];exact HT.o.pg.pl.hF,by rw[←Hb];exact HT.o.pg.lt,by rw[←Hb];exact HT.o.lt,by rw[←Hb];exact cell_lt (HT.o.pg.nib 0 (by omega))⟩;have hA:qhU b5 J:=fun C pre X Y hx ht=>hJ2 C pre X Y hx (fun b hb Hh=>ht.block b Hh (fun h=>h.2 hb)) (by
   obtain⟨⟨vo,cs,h⟩,h2⟩:=hJ1 _ _ _ hx;exact⟨⟨vo,cs,h.keep ht (fun b hb=>⟨hb.1,.inl hb.2⟩)⟩,h2⟩)
  have hJ:WkM W1 b5 Wk T (.slice none 0 0) [] 0:=⟨(hbW.block Wk (Hh _ (by omega))).trans k1,by omega,Own.nil _ _ _ _,by simp[Value.ownBlock]⟩;have hlo:By W1 A lo:=(H7.o.below (by rw[Hb];exact Hb▸HQ.o)).below hbW;have HP:=qik (W:=Wk) (n:=n) (c:=c) (C:=fun b=>b=bo∨b=b5∨b=dd∨b=l) (its:=its) (mv:=.slice none 0 0) (b1:=b1) (b2:=b2) hoff hA hY hln HI.o hz hJ hlo (fun ad e h0=>by
    obtain⟨b,off,e2,h3,_⟩:=H7.o.at_ h0;rw[e]at e2;cases e2;simp only;omega) ((hbW.block b1 (Hh _ (by omega))).trans k3) ((hbW.block b2 (Hh _ (by omega))).trans k4) (fun b hb=>by omega) (fun b hb=>⟨by omega,(fun hm=>by rcases hm with hm|hm;omega;cases hm),by omega,by omega⟩)
   (fun hm=>by rcases hm with hm|hm;omega;cases hm) (fun hm=>by rcases hm with hm|hm;omega;cases hm) (by omega) hj
  refine(callsIn_wide.2 HP).mono ?_;rintro e W' ⟨rfl,C',mv',met',he,hwk',hap',hres⟩;refine⟨⟨_,rfl⟩,⟨mv',met',hwk',hap' l ?_⟩,C',hres⟩;rcases hres with h|⟨q,hq,h⟩
  ·obtain⟨⟨vo,cs,h⟩,_⟩:=hJ1 _ _ _ h;exact h.Co.2.2.2
  ·obtain⟨cd,_,p0,x,_,_,⟨vo,cs,h⟩,_⟩:=hJx _ _ _ h;exact h.Co.2.2.2
 case done=>
  rintro C W ⟨⟨vo,cs,h⟩,h2⟩ ⟨mv,met,hw,hml⟩;have HZ:=zH (show its.takeWhile (ltB hi)=its by
   have:=qbV (q:=ltB hi) (a:=its) [] (zb0.2 h2);simpa using this)
  clear h2;have HJ:W.heap[w5.heap.size]?=some (.deferred (some [])):=by rw[hdd];exact h.df
  have g0:W.cell? ⟨Wk,2,none⟩=some (.int .i64 0):=hw.c2;have g1:W.cell? ⟨bo,0,none⟩=some vo:=zC h.out;obtain⟨Ao,co,hvo,_⟩:=h.own.slice;subst hvo;have HH:=zH h;have HD:=zH HJ;have H3:=h.lt _ h.Co.2.2.1;clear h HJ hw hml
  gi_wp2
  refine⟨by simp,.inl ⟨_,_,rfl,run_takeDeferred HD.o,?_⟩⟩;refine⟨_,by simp[results,Tryz.results13,go_sem];rfl,?_⟩;rw[hdd];have ht:Touch (fun b=>b=dd) W (W.putObj dd (.deferred none)):=qcT dd _;refine⟨Hb▸(qbH HH.o.base (by omega)).trans ⟨ht.os,ht.tape,ht.output,ht.size,fun b hb=>ht.block b (by have:=HH.o.base.size;omega) (by omega)⟩,?_⟩;rw[HZ.o];exact⟨_,_,cs,rfl,by rw[Hb];exact HH.o.own.touch ht (fun b e hb=>(HH.o.vC b e).2 (.inr (.inr (.inr hb)))),(HH.o.row.same (Same.of_touch ht (fun b hb e=>hb.2 (.inr (.inr (.inr (.inl e))))))).mono (fun b hb=>by rw[Hb];exact(HH.o.lt b hb.1).1)⟩
 case stop=>
  rintro cd C q W hq ⟨rfl,p0,x,rfl,hx,⟨vo,cs,h⟩,h2⟩ ⟨mv,met,hw,hml⟩;have HZ:=zH (show its.takeWhile (ltB hi)=p0 by
   obtain⟨t,rfl⟩:=hq;rw[zaj,qbV (q:=ltB hi) _ (zb0.2 h2)];simp[List.takeWhile,hx])
  clear h2 hx;have HJ:W.heap[w5.heap.size]?=some (.deferred (some [])):=by rw[hdd];exact h.df
  have g0:W.cell? ⟨Wk,2,none⟩=some (.int .i64 0):=hw.c2;have g1:W.cell? ⟨bo,0,none⟩=some vo:=zC h.out;obtain⟨Ao,co,hvo,_⟩:=h.own.slice;subst hvo;have HH:=zH h;have HD:=zH HJ;have H3:=h.lt _ h.Co.2.2.1;clear h HJ hw hml
  gi_wp2
  refine⟨by simp,.inl ⟨_,_,rfl,run_takeDeferred HD.o,?_⟩⟩;refine⟨_,by simp[results,Tryz.results13,go_sem];rfl,?_⟩;rw[hdd];have ht:Touch (fun b=>b=dd) W (W.putObj dd (.deferred none)):=qcT dd _;refine⟨Hb▸(qbH HH.o.base (by omega)).trans ⟨ht.os,ht.tape,ht.output,ht.size,fun b hb=>ht.block b (by have:=HH.o.base.size;omega) (by omega)⟩,?_⟩;rw[HZ.o];exact⟨_,_,cs,rfl,by rw[Hb];exact HH.o.own.touch ht (fun b e hb=>(HH.o.vC b e).2 (.inr (.inr (.inr hb)))),(HH.o.row.same (Same.of_touch ht (fun b hb e=>hb.2 (.inr (.inr (.inr (.inl e))))))).mono (fun b hb=>by rw[Hb];exact(HH.o.lt b hb.1).1)⟩
end
variable {w w':World}{A:Option Addr}{l:List Pr}{i R:Nat}{x:Pr}{S:Nat→Prop}
theorem qbQ:∀ a b:Bs,Op.bytesLess a b=blt a b
 | _,[]=>by cases ‹Bs›<;>rfl
 | [],_::_=>rfl
 | x::xs,y::ys=>by
  simp only[Op.bytesLess,blt];rw[qbQ xs ys]
def bstr (s:Bs):ByteArray:=⟨s.toArray⟩
theorem qa6 (s:Bs):(bstr s).toList=s:=by rw[ByteArray.toList_eq];rfl
theorem qbe {s:Bs}{n:Nat}(c:Nat)(h:By w A s)(hn:s.length=n):(convert 34 9 (.slice A n c)).run Tryz.prog w=.ok (.string (bstr s)) w:=by
 subst hn;have e0:∀ l:Bs,bstr l=strOfNums (l.map fun u=>(u.toNat:Int)):=fun l=>by
  unfold bstr strOfNums;congr 2;rw[zcN]
  conv=>lhs;rw[←List.map_id l]
  exact List.map_congr_left (fun u _=>by simp)
 by_cases h0:0<s.length
 ·obtain⟨b,off,rfl,_,hc⟩:=h.at_ h0;rw[e0];exact run_convert_bytes_arg w 34 5 Tryz.underlying34 Tryz.underlying5 b off _ _ _ (by simp) (fun i hi=>by
   rw[hc i s[i] (zaa hi)];simp[List.getD,hi]) 9 Tryz.underlying9
 ·have hb:s=[]:=zbo (by omega);subst hb;cases A with
  | none=>exact run_convert_bytes_nil w 34 5 Tryz.underlying34 Tryz.underlying5 _ _ 9 Tryz.underlying9
  | some a=>
   rw[zaZ,run_convert_bytes_string w 34 9 5 _ 0 c Tryz.underlying34 Tryz.underlying5 Tryz.underlying9];have hl:(loadCells a 0).run Tryz.prog w=.ok #[] w:=run_loadCells_list (P:=Tryz.prog) w a [] (fun j v hj=>by cases hj);simp[Conv.bytesToString,hl];rfl
def atR (k:Bs):List Pr→Nat×Bool
 | []=>(0,false)
 | p::r=>if blt p.1 k then((atR k r).1+1,(atR k r).2)else(0,decide (p.1=k))
theorem qgY (k:Bs):∀ l,(atR k l).1≤l.length
 | []=>zac _
 | p::r=>by
  have:=qgY k r;unfold atR;split<;>simp<;>omega
theorem qlM (k:Bs):∀ (l:List Pr) (i:Nat) (x:Pr),i<(atR k l).1→l[i]?=some x→blt x.1 k=true
 | [],i,x,h,_=>by simp[atR]at h
 | p::r,i,x,h,hx=>by
  unfold atR at h;split at h
  ·rename_i hp;cases i with
   | zero=>cases hx;exact hp
   | succ i=>exact qlM k r i x (by simpa using h) (by simpa using hx)
  ·simp at h
theorem qiu (k:Bs):∀ (l:List Pr) (x:Pr),l[(atR k l).1]?=some x→blt x.1 k=false∧(atR k l).2=decide (x.1=k)
 | [],x,h=>by simp at h
 | p::r,x,h=>by
  unfold atR at h⊢;split at h
  ·rename_i hp;rw[zaw hp];exact qiu k r x (by simpa using h)
  ·rename_i hp;rw[zaB hp];cases h;exact⟨by simpa using hp,rfl⟩
theorem qeC (k:Bs):∀ l:List Pr,(atR k l).1=l.length→(atR k l).2=false
 | [],_=>rfl
 | p::r,h=>by
  unfold atR at h⊢;split at h
  ·rename_i hp;rw[zaw hp];exact qeC k r (by simpa using h)
  ·simp at h
theorem qkw (k v:Bs):∀ l:List Pr,putR k v l=l.take (atR k l).1++(k,v)::l.drop ((atR k l).1+if(atR k l).2 then 1 else 0)
 | []=>rfl
 | p::r=>by
  unfold putR atR;split
  ·rename_i hp;rw[qkw k v r]
   dsimp only
   rw[zbn,Nat.add_right_comm,zbQ];rfl
  ·split
   ·rename_i h1;simp[h1]
   ·rename_i h1;simp[h1]
theorem qj1 (k:Bs):∀ l:List Pr,delR k l=if(atR k l).2 then l.take (atR k l).1++l.drop ((atR k l).1+1)else l
 | []=>rfl
 | p::r=>by
  unfold delR atR;split
  ·rename_i hp;rw[qj1 k r];by_cases h:(atR k r).2=true<;>simp[h]
  ·split
   ·rename_i h1;simp[h1]
   ·rename_i h1;simp[h1]
theorem qj6 (k:Bs):∀ l:List Pr,getR k l=if(atR k l).2 then(l[(atR k l).1]?).map Prod.snd else none
 | []=>rfl
 | p::r=>by
  unfold getR atR;split
  ·rename_i hp;rw[qj6 k r];by_cases h:(atR k r).2=true<;>simp[h]
  ·split
   ·rename_i h1;simp[h1]
   ·rename_i h1;simp[h1]
def PrS (w:World)(S:Nat→Prop)(A:Option Addr)(l:List Pr):Prop:=∃ cs,SrcS w S 2 A l.length cs∧RowV w S cs (l.flatMap fl2)
theorem ql1 (h:l[i]?=some x):(l.flatMap fl2)[i*2]?=some x.1∧(l.flatMap fl2)[i*2+1]?=some x.2:=by
 induction l generalizing i with
 | nil=>simp at h
 | cons p r ih=>
  cases i with
  | zero=>cases h;exact⟨rfl,rfl⟩
  | succ i=>
   have:=ih (by simpa using h);have e:(i+1)*2=i*2+1+1:=by omega
   rw[e];exact this
theorem PrS.get (h:PrS w S A l)(hx:l[i]?=some x) :
  ∃ b off KA kc VA vc,A=some ⟨b,off,none⟩∧S b∧w.cell? ⟨b,off+i*2,none⟩=some (.slice KA x.1.length kc)∧w.cell? ⟨b,off+i*2+1,none⟩=some (.slice VA x.2.length vc)∧ByS w S KA x.1∧ByS w S VA x.2∧x.1.length≤kc∧x.2.length≤vc:=by
 obtain⟨cs,h1,h2⟩:=h;obtain⟨q1,q2⟩:=ql1 hx;obtain⟨KA,kc,k1,k2,k3⟩:=h2.get q1;obtain⟨VA,vc,v1,v2,v3⟩:=h2.get q2;have hi:i<l.length:=(zae.1 hx).1;obtain⟨b,off,e,hS,hat⟩:=h1.at_ (by omega);exact⟨b,off,KA,kc,VA,vc,e,hS,hat _ _ k1,by rw[zbV];exact hat _ _ v1,k3,v3,k2,v2⟩
theorem PrS.same (h:PrS w S A l)(hs:Same S (fun _ _=>False) w w'):PrS w' S A l:=by
 obtain⟨cs,h1,h2⟩:=h;exact⟨cs,h1.same hs h2.val,h2.same hs⟩
theorem PrS.below (h:PrS w S A l)(hb:Below w.heap.size w w'):PrS w' S A l:=h.same (Same.of_below hb)
theorem PrS.mono {S':Nat→Prop}(h:PrS w S A l)(hS:∀ b,S b→S' b):PrS w S' A l:=by
 obtain⟨cs,h1,h2⟩:=h;exact⟨cs,h1.mono hS,h2.mono hS⟩
theorem PrS.nil (w:World)(S:Nat→Prop):PrS w S none []:=⟨[],SrcS.mk' rfl (fun h=>absurd h (by simp)),rfl⟩
theorem LsF.prs {its:List Pr}{c:Nat}{cs:List Value}(ho:Own w' w.heap.size 48 2 (.slice A its.length c) its.length cs)(hr:RowV w' (fun b=>w.heap.size≤b) cs (its.flatMap fl2)):PrS w' (fun b=>w.heap.size≤b) A its:=
 ⟨cs,ho.srcS (fun b hb=>(ho.blk b hb).1),hr⟩
structure RowM (w:World) (R:Nat) (S:Nat→Prop) (A:Option Addr) (c:Nat) (l:List Pr):Prop where
 box:w.heap[R]?=some (.cells #[.slice A l.length c] 46 (0,0))
 pr:PrS w S A l
 cap:l.length≤c
theorem RowM.c0 {c:Nat}(h:RowM w R S A c l):w.cell? ⟨R,0,none⟩=some (.slice A l.length c):=zC h.box
theorem RowM.below {c:Nat}(h:RowM w R S A c l)(hb:Below w.heap.size w w'):RowM w' R S A c l:=
 ⟨(hb.block R (zab.1 h.box).1).trans h.box,h.pr.below hb,h.cap⟩
end Go.Proofs.YtpmebcgmgfcmiaaGreatDoor
