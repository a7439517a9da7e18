/- Texts LiC LiD LiE. -/
import Derived.Test.YtfcknhbmeofniaaGreatDoorR21
import Derived.Shelf.RegionOpen
set_option linter.all false
set_option maxRecDepth 100000
set_option maxHeartbeats 16000000
namespace Go.Proofs.YtfcknhbmeofniaaGreatDoor
open Go.RowKit BT Go.Lib
section
attribute [local go_sem] Oper.semAt_some
theorem qju {P:Program}{t e:TypeId}{i:TypeInfo}(ht:P.underlying t=some (.slice e))(hi:P.info? e=some i)(X:Option Addr)(cx:Nat) :
  ∃ XA c2,∀ W,(Instr.slice t (.slice X 0 cx) (some (.int .i64 0)) none none).run P W=.ok (.slice XA 0 c2) W:=by
 cases X with
 | none=>refine⟨none,cx,fun W=>?_⟩;simp[Instr.slice,Instr.sliceBounds,Instr.sliceBound,asIntOf,zaU ht,sizeOf,typeInfo,hi,go_sem]
 | some a=>refine⟨some a,cx,fun W=>?_⟩;simp[Instr.slice,Instr.sliceBounds,Instr.sliceBound,asIntOf,zaU ht,sizeOf,typeInfo,hi,go_sem]
section
variable {J Jx:(Nat→Prop)→List Pr→World→Prop} {a:PA} {G d T:Nat} {F:Nat→Prop} {p:Pl} {g:Pg} {root1 B W:Nat} {A:Option Addr} {n c:Nat} {lo:Bs} {l b1 b2 b3 b4:Nat}
theorem qmi {C:Nat→Prop}{pre N:List Pr}{met:List Nat}{mv:Value}{w:World}{q:Nat}{ps:List Pr}(hoff:p.off=false)(hJ:qhE B J)(hY:LiY J Jx l N)(hln:lo.length=n)(hS:LiS J a G d T F p g root1 B W A n c lo l b1 b2 b3 b4 C pre met mv w)
  (hq:qax (p.seen d) g.pages g.use q=some (.leaf ps))(hp5:ps.length≤500)(hm:q∉met)(hl:met.length≤449)(hN:pre++ps.filter (geB lo) <+: N) :
  Calls Tryz.prog 132 #[.agg #[.int .i64 (q:Nat),.pointer none],.pointer (some ⟨b1,0,none⟩),.pointer (some ⟨b2,0,none⟩),.pointer (some ⟨b3,0,none⟩),.pointer (some ⟨b4,0,none⟩)] w
   (LiF J Jx a G d T F p g root1 B W A n c lo l b1 b2 b3 b4 C pre met mv (ps.filter (geB lo)) [q] w):=by
 have Hw:Below w.heap.size w (w.alloc (.cells #[.int .i64 (q:Int),.pointer none] 222)):=zB _ _;have Hg:=zH (hS.below hJ Hw);have g1:w.cell? ⟨b1,0,none⟩=some (.pointer (some ⟨W,0,none⟩)):=zC hS.e1;have l1:=hS.lt b1 (.inl rfl);have HS:=zH hS;have Hr:=zH (qg5 Hg.o.tr Hg.o.wk Hg.o.sz hoff hq hm (by omega));unfold LdF at Hr;have HA:=zH Hw;clear hS Hw;go_enter Tryz.func132,Tryz.ntmps132
 go_upto_if 17 with(go_at_call 126;refine Hr.o.mono ?_;rintro e w2 ⟨N2,L2,mv2,rfl,hwk,hev,hnm,-⟩)
 have Hx:=hev;simp only[NM]at hnm;obtain⟨-,hSN,K,ck,V,cv,X,cx,vk,vv,hnc,hsk,hrk,hsv,hrv⟩:=hnm;have HD:=zH (Hg.o.ev hJ hwk hev);have HF:EvM (LM W C mv) (LM W C mv2) w w2:=(EvM.below HA.o).trans (qmN C hev);have Hv:SOk (FrN W mv2 (w.alloc (.cells #[.int .i64 (q:Int),.pointer none] 222)) w2) (LM W C mv2) w2:=⟨fun b hb=>hb.2.1,fun b hb hm=>by
  rcases hm with hm|hm|hm
  ·have h1:=(Hg.o.ap b hm).1;have h2:=hb.1;omega
  ·exact hb.2.2.1 hm
  ·exact hb.2.2.2 hm⟩
 generalize FrN W mv2 (w.alloc (.cells #[.int .i64 (q:Int),.pointer none] 222)) w2=S2 at hSN hsk hrk hsv hrv Hv;have Ht:=zH Hv;have HB:=zH HF;obtain⟨np,hnp⟩:∃ i,ps.length=i:=⟨_,rfl⟩;rw[hnp]at hnc hsk hsv hp5;have g2:w2.cell? ⟨b2,0,none⟩=some (.slice A n c):=zC HD.o.e2;have c0:=hnc.c0;have c3:=hnc.c3;obtain⟨ik,hik,-,hiz,-⟩:=zaY qhU;obtain⟨XA,c2,SL⟩:=qju (P:=Tryz.prog) Tryz.underlying223 hik X cx;have Hs:=zH hnc;have HR:=zH hsk;have HT:=zH hsv;have HP:=zH hrk;have HQ:=zH hrv;have H3:=qaq c0;clear hsk hrk hsv hrv hnc Hv HF Hr hev Hx hwk hq HA;go_upto_region 7 with fail
 go_region
 go_wp2_with fail
 clear SL;go_loopw [39] (fun s wx=>s=.int .i64 0∧wx=w2.drew) (fun _ _=>0)
 case atStart=>exact⟨rfl,rfl⟩
 case round=>
  rename World=>wx;obtain⟨rfl,rfl⟩:=hrel;have HW:Below w2.heap.size w2 w2.drew:=(zai _ _).drew;have gv:w2.drew.cell? ⟨N2,2,none⟩=some (.slice V np cv):=Hs.o.c2;clear HW;go_wp2;go_loopw [53] (fun s53 wr=>∃ (j:Nat) (C2:Nat→Prop),s53=.int .i64 j∧j≤np∧EvM (LM W C mv2) (LM W C2 mv2) w2 wr∧LiS J a G d T F p g root1 B W A n c lo l b1 b2 b3 b4 C2 (pre++(ps.take j).filter (geB lo)) (met++[q]) mv2 wr) (fun s53 _=>np-(RowKit.intOf s53).toNat)
  case atStart=>
   refine⟨0,C,rfl,zbO _,EvM.below ((zai _ _).drew),?_⟩;simp only[zbT,zcC,zaP];exact HD.o.below hJ ((zai _ _).drew)
  case round=>
   rename World=>wr;obtain⟨j,C2,rfl,hj,hem,hst⟩:=hrel;have Hb:=zH hem;have Hh:=zH hst;clear hem hst;by_cases hjn:j<np
   ·have H1:j<ps.length:=by rw[hnp];exact hjn
    have Hk:ps[j]?=some ps[j]:=zab H1;obtain⟨x,hx⟩:∃ x,ps[j]=x:=⟨_,rfl⟩;rw[hx]at Hk;have HJ:(ps.take (j+1)).filter (geB lo)=(ps.take j).filter (geB lo)++if blt x.1 lo then[]else[x]:=by
     rw[List.take_add_one,Hk,zbv];cases hb:blt x.1 lo<;>simp[geB,hb]
    have HI:(ps.take (j+1)).filter (geB lo) <+: ps.filter (geB lo):=by
     conv=>rhs;rw[←zay (j+1) ps]
     rw[zbv];exact⟨_,rfl⟩
    obtain⟨KA,kc,hk1,hk2,hk3⟩:=HP.o.get (show(ps.map Prod.fst)[j]?=some x.1 by rw[zaD,Hk];rfl);obtain⟨VA,vc,hv1,hv2,hv3⟩:=HQ.o.get (show(ps.map Prod.snd)[j]?=some x.2 by rw[zaD,Hk];rfl);have Hl:∀ b,S2 b→¬LM W C mv2 b:=Ht.o.ap;obtain⟨kb,ko,rfl,hSkb,hkat⟩:=(HR.o.touch Hb.o.touch Hl).at_ (by omega);obtain⟨vb,vo,rfl,-,hvat⟩:=(HT.o.touch Hb.o.touch Hl).at_ (by omega);obtain⟨ok,hok⟩:∃ o,ko+j=o:=⟨_,rfl⟩;obtain⟨ov,hov⟩:∃ o,vo+j=o:=⟨_,rfl⟩;have Hu:=hkat _ _ hk1;have HV:=hvat _ _ hv1;rw[hok]at Hu;rw[hov]at HV;have HE:wr.cell? ⟨N2,1,none⟩=some (.slice (some ⟨kb,ko,none⟩) np ck):=(qaj Hb.o.touch (qaq Hs.o.c1) (Ht.o.ap _ hSN)).trans Hs.o.c1;have g4:wr.cell? ⟨b2,0,none⟩=some (.slice A n c):=zC Hh.o.e2;have g5:wr.cell? ⟨b4,0,none⟩=some (.func (.yield l) #[] #[]):=zC Hh.o.e4;have HH:ByS wr S2 KA x.1:=hk3.same (Same.of_touch Hb.o.touch Hl);have H2:ByS wr S2 VA x.2:=hv3.same (Same.of_touch Hb.o.touch Hl);have Hc:=Hh.o.below hJ ((zai wr.heap.size wr).drew);have Ho:=zH (qdm (w:=wr.drew) kc c (HH.by_.below ((zai _ _).drew)) Hc.by_ rfl hln);have H5:(j:Int)<(np:Int):=by omega
    have H4:(0:Int)≤(j:Int):=by omega
    have Hn:=zH (show Below wr.heap.size wr wr.drew from(zai _ _).drew);obtain⟨cv1,hcv⟩:∃ v,cmpB x.1 lo=v:=⟨_,rfl⟩;rw[hcv]at Ho;have Hi:=zH HJ;have HC:=zH HI;clear Hk HJ HI hk1 hv1 hkat hvat Hl hx;by_cases hge:blt x.1 lo=true
    ·have Hm:=cmpB_lt.2 hge;rw[hcv]at Hm;have HX:decide (cv1≥0)=false:=zan (by omega);have HY:¬(0≤cv1):=by omega
     have HZ:decide (0≤cv1)=false:=zan HY;have HM:=zH hge;clear hge hcv;go_upto_region 16 with fail
     have Ha:=zH (show wr.drew.cell? ⟨N2,1,none⟩=some (.slice (some ⟨kb,ko,none⟩) np ck)∧wr.drew.cell? ⟨kb,ok,none⟩=some (.slice KA x.1.length kc)∧wr.drew.cell? ⟨b2,0,none⟩=some (.slice A n c)∧wr.drew.cell? ⟨b4,0,none⟩=some (.func (.yield l) #[] #[])from⟨HE,Hu,g4,g5⟩);refine qad (S:=fun W'=>W'.cell? ⟨N2,1,none⟩=some (.slice (some ⟨kb,ko,none⟩) np ck)∧W'.cell? ⟨kb,ok,none⟩=some (.slice KA x.1.length kc)∧W'.cell? ⟨b2,0,none⟩=some (.slice A n c)∧W'.cell? ⟨b4,0,none⟩=some (.func (.yield l) #[] #[])) [] (by kernel_rfl) Ha.o (fun _=>?_);generalize wr.drew=W0 at *;refine zP 0 58 (.pointer (some ⟨N2,0,none⟩)) Ha.o ?_;try simp only[zS]
     refine zP 1 59 (.pointer (some ⟨N2,0,none⟩)) Ha.o ?_;try simp only[zS]
     refine zP 2 60 (.pointer (some ⟨N2,1,none⟩)) Ha.o ?_;try simp only[zS]
     refine zL 3 61 (.slice (some ⟨kb,ko,none⟩) np ck) rfl (Or.inl ⟨by rfl,fun W' hS=>by obtain⟨hS1,He,hS3,hS4⟩:=hS;go_simp⟩) (qab Ha.o) ?_;try simp only[zS]
     refine zP 4 62 (.int .i64 (j:Int)) Ha.o ?_;try simp only[zS]
     refine zP 5 63 (.pointer (some ⟨kb,ok,none⟩)) Ha.o ?_;try simp only[zS]
     refine zL 6 64 (.slice KA x.1.length kc) rfl (Or.inl ⟨by rfl,fun W' hS=>by obtain⟨hS1,He,hS3,hS4⟩:=hS;go_simp⟩) (qab Ha.o) ?_;try simp only[zS]
     refine zL 7 65 (.slice A n c) rfl (Or.inl ⟨by rfl,fun W' hS=>by obtain⟨hS1,He,hS3,hS4⟩:=hS;go_simp⟩) (qab Ha.o) ?_;try simp only[zS]
     refine zE 8 66 rfl (fun Kr hKr=>?_);go_simp;go_at_call 51;refine Ho.o.mono ?_
     rintro e W1 ⟨rfl,rfl⟩;refine hKr.out (.int .i64 cv1) _ (qab Ha.o) (fun _=>?_);clear hKr Kr;try simp only[zS]
     refine zP 9 67 (.bool false) Ha.o ?_;try simp only[zS]
     refine zP 10 68 (.bool false) Ha.o ?_;try simp only[zS]
     refine zN 11 69 (qab Ha.o) ?_;try simp only[zS]
     refine zN 12 70 (qab Ha.o) ?_;try simp only[zS]
     refine zN 13 71 (qab Ha.o) ?_;try simp only[zS]
     refine zN 14 72 (qab Ha.o) ?_;try simp only[zS]
     refine zN 15 73 (qab Ha.o) ?_;try simp only[zS]
     refine zN 16 74 (qab Ha.o) ?_;try simp only[zS]
     refine zN 17 75 (qab Ha.o) ?_;try simp only[zS]
     refine zN 18 76 (qab Ha.o) ?_;try simp only[zS]
     refine zN 19 77 (qab Ha.o) ?_;try simp only[zS]
     refine zN 20 78 (qab Ha.o) ?_;try simp only[zS]
     refine zN 21 79 (qab Ha.o) ?_;try simp only[zS]
     refine zP 22 80 (.bool false) Ha.o ?_;try simp only[zS]
     refine qaf (by kernel_rfl) ?_ _
     all_goals go_wp2
     all_goals
      refine⟨⟨j+1,C2,by go_num,by omega,Hb.o.trans (EvM.below Hn.o),?_⟩,by simp[RowKit.intOf];omega⟩;rw[Hi.o,zax HM.o,zaP];exact Hh.o.below hJ Hn.o
    ·have Hy:blt x.1 lo=false:=by simpa using hge
     have Hm:=cmpB_ge.2 Hy;rw[hcv]at Hm;have HX:decide (cv1≥0)=true:=zaT (by omega);have HZ:decide (0≤cv1)=true:=zaT Hm;rw[Hy,zaC (by simp)]at Hi;have Hj:(pre++(ps.take j).filter (geB lo))++[x] <+: N:=by
      rw[zah,←Hi.o];exact((zcl pre).2 HC.o).trans hN
     have HU:=hY 99 C2 _ x KA VA kc vc wr.drew Hc.j Hj (HH.by_.below ((zai _ _).drew)) (H2.by_.below ((zai _ _).drew)) hk2 hv2;obtain⟨fn,tmps,asg,bod,hy,hR⟩:=HU;clear hge Hy hcv Hj;go_upto_region 16 with fail
     have Ha:=zH (show wr.drew.cell? ⟨N2,1,none⟩=some (.slice (some ⟨kb,ko,none⟩) np ck)∧wr.drew.cell? ⟨kb,ok,none⟩=some (.slice KA x.1.length kc)∧wr.drew.cell? ⟨b2,0,none⟩=some (.slice A n c)∧wr.drew.cell? ⟨b4,0,none⟩=some (.func (.yield l) #[] #[])from⟨HE,Hu,g4,g5⟩);have HN:=zH (show ∀ (w6:World) (C3:Nat→Prop),EvM C2 C3 wr.drew w6→w6.cell? ⟨N2,1,none⟩=some (.slice (some ⟨kb,ko,none⟩) np ck)∧w6.cell? ⟨kb,ok,none⟩=some (.slice KA x.1.length kc)∧w6.cell? ⟨b2,0,none⟩=some (.slice A n c)∧w6.cell? ⟨b4,0,none⟩=some (.func (.yield l) #[] #[])from fun w6 C3 he=>by
      have He:=(Ht.o.ev Hb.o);have hE:∀ b,E4 b1 b2 b3 b4 b→¬C2 b:=fun b hb hc=>(Hc.ap b hc).2.2 hb;exact⟨(qaj he.touch (qaq Ha.o.1) (fun hc=>He.ap _ hSN (.inl hc))).trans Ha.o.1,(qaj he.touch (qaq Ha.o.2.1) (fun hc=>He.ap _ hSkb (.inl hc))).trans Ha.o.2.1,(qaj he.touch (qaq Ha.o.2.2.1) (hE _ (.inr (.inl rfl)))).trans Ha.o.2.2.1,(qaj he.touch (qaq Ha.o.2.2.2) (hE _ (.inr (.inr (.inr rfl))))).trans Ha.o.2.2.2⟩)
     refine(wpIn_wide (n:=100)).1 ?_;refine qey (n:=100) (S:=fun W'=>W'.cell? ⟨N2,1,none⟩=some (.slice (some ⟨kb,ko,none⟩) np ck)∧W'.cell? ⟨kb,ok,none⟩=some (.slice KA x.1.length kc)∧W'.cell? ⟨b2,0,none⟩=some (.slice A n c)∧W'.cell? ⟨b4,0,none⟩=some (.func (.yield l) #[] #[])) [] (by kernel_rfl) Ha.o (fun _=>?_);generalize wr.drew=W0 at *;refine qav (i:=0) (some 58) (v:=.pointer (some ⟨N2,0,none⟩)) rfl rfl (by kernel_rfl) (by kernel_rfl) (by kernel_rfl) (by kernel_rfl) (fun _ _ _ h=>h) (Or.inl ⟨by rfl,fun W hS=>by clear hS;go_simp⟩) (qab Ha.o) ?_;try simp only[zS]
     refine qav (i:=1) (some 59) (v:=.pointer (some ⟨N2,0,none⟩)) rfl rfl (by kernel_rfl) (by kernel_rfl) (by kernel_rfl) (by kernel_rfl) (fun _ _ _ h=>h) (Or.inl ⟨by rfl,fun W hS=>by clear hS;go_simp⟩) (qab Ha.o) ?_;try simp only[zS]
     refine qav (i:=2) (some 60) (v:=.pointer (some ⟨N2,1,none⟩)) rfl rfl (by kernel_rfl) (by kernel_rfl) (by kernel_rfl) (by kernel_rfl) (fun _ _ _ h=>h) (Or.inl ⟨by rfl,fun W hS=>by clear hS;go_simp⟩) (qab Ha.o) ?_;try simp only[zS]
     refine qcc (i:=3) (some 61) (v:=.slice (some ⟨kb,ko,none⟩) np ck) rfl rfl (by kernel_rfl) (by kernel_rfl) (by kernel_rfl) (by kernel_rfl) (fun _ _ _ h=>h) (Or.inl ⟨by rfl,fun W' hS=>by obtain⟨hS1,He,hS3,hS4⟩:=hS;go_simp⟩) (qab Ha.o) ?_;try simp only[zS]
     refine qav (i:=4) (some 62) (v:=.int .i64 (j:Int)) rfl rfl (by kernel_rfl) (by kernel_rfl) (by kernel_rfl) (by kernel_rfl) (fun _ _ _ h=>h) (Or.inl ⟨by rfl,fun W hS=>by clear hS;go_simp⟩) (qab Ha.o) ?_;try simp only[zS]
     refine qav (i:=5) (some 63) (v:=.pointer (some ⟨kb,ok,none⟩)) rfl rfl (by kernel_rfl) (by kernel_rfl) (by kernel_rfl) (by kernel_rfl) (fun _ _ _ h=>h) (Or.inl ⟨by rfl,fun W hS=>by clear hS;go_simp⟩) (qab Ha.o) ?_;try simp only[zS]
     refine qcc (i:=6) (some 64) (v:=.slice KA x.1.length kc) rfl rfl (by kernel_rfl) (by kernel_rfl) (by kernel_rfl) (by kernel_rfl) (fun _ _ _ h=>h) (Or.inl ⟨by rfl,fun W' hS=>by obtain⟨hS1,He,hS3,hS4⟩:=hS;go_simp⟩) (qab Ha.o) ?_;try simp only[zS]
     refine qcc (i:=7) (some 65) (v:=.slice A n c) rfl rfl (by kernel_rfl) (by kernel_rfl) (by kernel_rfl) (by kernel_rfl) (fun _ _ _ h=>h) (Or.inl ⟨by rfl,fun W' hS=>by obtain⟨hS1,He,hS3,hS4⟩:=hS;go_simp⟩) (qab Ha.o) ?_;try simp only[zS]
     refine qdH (rs:=[8]) (by kernel_rfl) (by simp) ?_;refine AllReadyGI.ev (some 66) rfl rfl (fun Kr hKr=>?_) AllReadyGI.nil;go_simp;refine⟨trivial,(callsIn_wide.2 Ho.o).mono ?_⟩;rintro e W1 ⟨rfl,rfl⟩;refine hKr.out (.int .i64 cv1) _ (qab Ha.o) (fun _=>?_);clear hKr Kr;try simp only[zS]
     refine qav (i:=9) (some 67) (v:=.bool true) rfl rfl (by kernel_rfl) (by kernel_rfl) (by kernel_rfl) (by kernel_rfl) (fun _ _ _ h=>h) (Or.inl ⟨by rfl,fun W hS=>by clear hS;go_simp⟩) (qab Ha.o) ?_;try simp only[zS]
     refine qav (i:=10) (some 68) (v:=.bool true) rfl rfl (by kernel_rfl) (by kernel_rfl) (by kernel_rfl) (by kernel_rfl) (fun _ _ _ h=>h) (Or.inl ⟨by rfl,fun W hS=>by clear hS;go_simp⟩) (qab Ha.o) ?_;try simp only[zS]
     refine qcc (i:=11) (some 69) (v:=.func (.yield l) #[] #[]) rfl rfl (by kernel_rfl) (by kernel_rfl) (by kernel_rfl) (by kernel_rfl) (fun _ _ _ h=>h) (Or.inl ⟨by rfl,fun W' hS=>by obtain⟨hS1,He,hS3,hS4⟩:=hS;go_simp⟩) (qab Ha.o) ?_;try simp only[zS]
     refine qav (i:=12) (some 70) (v:=.pointer (some ⟨N2,0,none⟩)) rfl rfl (by kernel_rfl) (by kernel_rfl) (by kernel_rfl) (by kernel_rfl) (fun _ _ _ h=>h) (Or.inl ⟨by rfl,fun W hS=>by clear hS;go_simp⟩) (qab Ha.o) ?_;try simp only[zS]
     refine qav (i:=13) (some 71) (v:=.pointer (some ⟨N2,0,none⟩)) rfl rfl (by kernel_rfl) (by kernel_rfl) (by kernel_rfl) (by kernel_rfl) (fun _ _ _ h=>h) (Or.inl ⟨by rfl,fun W hS=>by clear hS;go_simp⟩) (qab Ha.o) ?_;try simp only[zS]
     refine qav (i:=14) (some 72) (v:=.pointer (some ⟨N2,1,none⟩)) rfl rfl (by kernel_rfl) (by kernel_rfl) (by kernel_rfl) (by kernel_rfl) (fun _ _ _ h=>h) (Or.inl ⟨by rfl,fun W hS=>by clear hS;go_simp⟩) (qab Ha.o) ?_;try simp only[zS]
     refine qcc (i:=15) (some 73) (v:=.slice (some ⟨kb,ko,none⟩) np ck) rfl rfl (by kernel_rfl) (by kernel_rfl) (by kernel_rfl) (by kernel_rfl) (fun _ _ _ h=>h) (Or.inl ⟨by rfl,fun W' hS=>by obtain⟨hS1,He,hS3,hS4⟩:=hS;go_simp⟩) (qab Ha.o) ?_;try simp only[zS]
     refine qav (i:=16) (some 74) (v:=.int .i64 (j:Int)) rfl rfl (by kernel_rfl) (by kernel_rfl) (by kernel_rfl) (by kernel_rfl) (fun _ _ _ h=>h) (Or.inl ⟨by rfl,fun W hS=>by clear hS;go_simp⟩) (qab Ha.o) ?_;try simp only[zS]
     refine qav (i:=17) (some 75) (v:=.pointer (some ⟨kb,ok,none⟩)) rfl rfl (by kernel_rfl) (by kernel_rfl) (by kernel_rfl) (by kernel_rfl) (fun _ _ _ h=>h) (Or.inl ⟨by rfl,fun W hS=>by clear hS;go_simp⟩) (qab Ha.o) ?_;try simp only[zS]
     refine qcc (i:=18) (some 76) (v:=.slice KA x.1.length kc) rfl rfl (by kernel_rfl) (by kernel_rfl) (by kernel_rfl) (by kernel_rfl) (fun _ _ _ h=>h) (Or.inl ⟨by rfl,fun W' hS=>by obtain⟨hS1,He,hS3,hS4⟩:=hS;go_simp⟩) (qab Ha.o) ?_;try simp only[zS]
     refine qav (i:=19) (some 77) (v:=.slice VA x.2.length vc) rfl rfl (by kernel_rfl) (by kernel_rfl) (by kernel_rfl) (by kernel_rfl) (fun _ _ _ h=>h) (Or.inl ⟨by rfl,fun W hS=>by clear hS;go_simp⟩) (qab Ha.o) ?_;try simp only[zS]
     refine qdH (rs:=[20]) (by kernel_rfl) (by simp) ?_;refine AllReadyGI.ev (some 78) rfl rfl (fun Kr hKr=>?_) AllReadyGI.nil;go_simp;refine hR.mono ?_;rintro e w6 ⟨C3,b,rfl,hem6,hbt,hbf⟩;have Hq:=zH (HN.o w6 C3 hem6);refine hKr.out (.bool b) _ (qab Hq.o) (fun _=>?_);clear hKr Kr;try simp only[zS]
     refine qav (i:=21) (some 79) (v:=.bool (!b)) rfl rfl (by kernel_rfl) (by kernel_rfl) (by kernel_rfl) (by kernel_rfl) (fun _ _ _ h=>h) (Or.inl ⟨by rfl,fun W hS=>by clear hS;go_simp⟩) (qab Hq.o) ?_;try simp only[zS]
     refine qav (i:=22) (some 80) (v:=.bool (!b)) rfl rfl (by kernel_rfl) (by kernel_rfl) (by kernel_rfl) (by kernel_rfl) (fun _ _ _ h=>h) (Or.inl ⟨by rfl,fun W hS=>by clear hS;go_simp⟩) (qab Hq.o) ?_;try simp only[zS]
     refine qhy (by kernel_rfl) ?_ _;have Hf:=zH (Hb.o.trans ((EvM.below Hn.o).trans (qmZ mv2 hem6)));have HL:=zH hbt;have HK:=zH hbf;have Hp:=zH hem6;clear hem6 hbt hbf;cases b with
     | true=>
      go_wp2;refine⟨⟨j+1,C3,by go_num,by omega,Hf.o,?_⟩,by simp[RowKit.intOf];omega⟩;have h5:=HL.o (by trivial);rw[zah,←Hi.o]at h5;exact Hc.ca Hp.o h5
     | false=>
      go_wp2;go_ret;refine⟨C3,mv2,HB.o.trans Hf.o,.inr ⟨rfl,⟨_,HC.o,?_⟩,_,Hc.wk.touch Hp.o.touch (fun b hb=>(Hc.ap b hb).2.1),fun b hb hm=>?_⟩⟩
      ·have h5:=HK.o (by trivial);rw[zah,←Hi.o]at h5;exact h5
      ·rcases Hp.o.own b hb with h1|h1
       ·exact(Hc.ap b h1).2.1 hm
       ·rcases hm with hm|hm
        ·have:=Hc.wk.lt;omega
        ·have:=(Hc.wk.own.blk b hm).2;omega
   ·have Hz:¬((j:Int)<(np:Int)):=by omega
    have H0:decide ((j:Int)<(np:Int))=false:=zan Hz;have HG:j=np:=by omega
    have HO:=zH HG;clear HG;go_wp2;go_ret;refine⟨C2,mv2,HB.o.trans Hb.o,.inl ⟨rfl,[q],?_,fun r hr=>hr,zad _⟩⟩;have h5:=Hh.o;rw[HO.o,←hnp,zbA]at h5;exact h5
end
end
section
section
variable {J Jx:(Nat→Prop)→List Pr→World→Prop} {a:PA} {G d T:Nat} {F:Nat→Prop} {p:Pl} {g:Pg} {root1 B W:Nat} {A:Option Addr} {n c:Nat} {lo:Bs} {l b1 b2 b3 b4:Nat}
theorem qka {N:List Pr}{D:Dsk}(hD:qax (p.seen d) g.pages g.use=D)(hoff:p.off=false)(hJ:qhE B J)(hY:LiY J Jx l N)(hln:lo.length=n) :
  ∀ (h q:Nat) (C:Nat→Prop) (pre:List Pr) (met:List Nat) (mv:Value) (w:World),WF D h (.page q)→Srt (itemsK D h (.page q))→(pgs D h (.page q)).Nodup→(∀ r∈pgs D h (.page q),r∉met)→met.length+(pgs D h (.page q)).length≤450→pre++(itemsK D h (.page q)).filter (geB lo) <+: N→LiS J a G d T F p g root1 B W A n c lo l b1 b2 b3 b4 C pre met mv w→
   Calls Tryz.prog 132 #[.agg #[.int .i64 (q:Nat),.pointer none],.pointer (some ⟨b1,0,none⟩),.pointer (some ⟨b2,0,none⟩),.pointer (some ⟨b3,0,none⟩),.pointer (some ⟨b4,0,none⟩)] w (LiF J Jx a G d T F p g root1 B W A n c lo l b1 b2 b3 b4 C pre met mv ((itemsK D h (.page q)).filter (geB lo)) (pgs D h (.page q)) w)
 | 0,q,C,pre,met,mv,w,hw,hs,hn,ho,hl,hN,hS=>by
  obtain⟨m,h1,h2,h3⟩:=hw;rw[qaE h1 h2]at hs hN⊢;rw[qbu h1 h2]at hn ho hl⊢;obtain⟨ps,rfl,-,hp⟩:=h2;simp only[qah,pgs,zaP,zb7]at hn ho hl⊢;have h4:=qe5 hp;simp only[qaz]at h3;have h5:ps.length≤500:=by omega
  exact qmi hoff hJ hY hln hS (by rw[hD];exact h1) h5 (ho q (by simp)) (by omega) hN
 | h+1,q,C,pre,met,mv,w,hw,hs,hn,ho,hl,hN,hS=>by
  obtain⟨m,h1,h2,h3⟩:=hw;rw[qaE h1 h2]at hs hN⊢;rw[qbu h1 h2]at hn ho hl⊢;obtain⟨ks,xs,rfl,h4⟩:=h2;have ei:itemsK D (h+1) (.inner ks xs)=xs.flatMap (itemsK D h):=rfl;have ep:pgs D (h+1) (.inner ks xs)=xs.flatMap (pgs D h):=by simp only[pgs,nd,qah,zaI]
  rw[ei]at hs hN⊢;rw[ep]at hn ho hl⊢;simp only[qah,zcM,zal]at hn ho hl⊢;have Ha:=List.nodup_cons.1 hn;exact qlo hD hoff hJ hln hS h1 ⟨ks,xs,rfl,h4⟩ h3 hs Ha.2 (fun r hr hin=>by
   rcases zar.1 hin with h5|h5
   ·exact ho r (zba _ hr) h5
   ·rw[za1.1 h5]at hr;exact Ha.1 hr) (ho q (by simp)) (by omega) hN (fun q C pre met mv w=>qka hD hoff hJ hY hln h q C pre met mv w)
theorem qgz {P:Program}(w:World)(z v:Value)(t:TypeId)(n:Nat)(hn:n=w.heap.size)(hv:v.oneCell'=true):(store ⟨n,0,none⟩ v).run P (w.alloc (.cells #[z] t))=.ok () (w.alloc (.cells #[v] t)):=by
 subst hn;have hb:=zae w (.cells #[z] t);rw[run_store _ _ _ _ _ hv,zao _ _ 0 _ _ _ hb,zbk _ _ 0 _ _ hb];show Result.ok () _=_;rw[World.setCell_alloc_new];rfl
def LiI (D:Dsk)(root1:Nat)(lo:Bs)(its:List Pr):Prop:=
 (root1=0∧its=[])∨(root1≠0∧∃ h,WF D h (.page (root1-1))∧Srt (itemsK D h (.page (root1-1)))∧(pgs D h (.page (root1-1))).Nodup∧(∀ q∈pgs D h (.page (root1-1)),q<384)∧its=(itemsK D h (.page (root1-1))).filter (geB lo))
def LiP (J Jx:(Nat→Prop)→List Pr→World→Prop)(B W T:Nat)(C:Nat→Prop)(mv:Value)(its:List Pr)(w:World)(e:Ending)(w':World):Prop:=
 e=.returned (.tuple #[])∧∃ C' mv' met',EvM (LM W C mv) (LM W C' mv') w w'∧WkM w' B W T mv' met' 0∧(∀ b,C' b→¬MW W mv' b)∧(J C' its w'∨∃ q,q <+: its∧Jx C' q w')
theorem qh6 {C:Nat→Prop}{its:List Pr}{mv:Value}{w:World}(hoff:p.off=false)(hJ:qhE B J)(hY:LiY J Jx l its)(hln:lo.length=n)(hI:LiI (qax (p.seen d) g.pages g.use) root1 lo its)
  (ht:TrB w B a G d T F p g root1)(hw:WkM w B W T mv [] 0)(hby:By w A lo)(hbB:∀ ad,A=some ad→0<lo.length→ad.block<B)(e1:w.heap[b1]?=some (.cells #[.pointer (some ⟨W,0,none⟩)] 168 (0,0)))(e2:w.heap[b2]?=some (.cells #[.slice A n c] 40 (0,0)))
  (hCB:∀ b,C b→B≤b)(hap:∀ b,C b→b<w.heap.size∧¬MW W mv b∧b≠b1∧b≠b2)(hM1:¬MW W mv b1)(hM2:¬MW W mv b2)(hsz:B≤w.heap.size)(hj:J C [] w) :
  Calls Tryz.prog 131 #[.func (.yield l) #[] #[],.pointer (some ⟨b1,0,none⟩),.pointer (some ⟨b2,0,none⟩)] w (LiP J Jx B W T C mv its w):=by
 have q1:w.cell? ⟨b1,0,none⟩=some (.pointer (some ⟨W,0,none⟩)):=zC e1;have q2:=hw.c0;have q3:=ht.tr.c1;have l1:=qaq q1;have l2:=qaq q2;have l3:=qaq q3;have Hf:=qgz (P:=Tryz.prog) (w.alloc (.cells #[.func (.yield l) #[] #[]] 72)) .nilFunc (.func (.func 132) #[] #[.pointer (some ⟨b1,0,none⟩),.pointer (some ⟨b2,0,none⟩),.pointer (some ⟨w.heap.size+1,0,none⟩),.pointer (some ⟨w.heap.size,0,none⟩)]) 231 (w.heap.size+1) (by simp) rfl;obtain⟨w3,hw3⟩:∃ x,(w.alloc (.cells #[.func (.yield l) #[] #[]] 72)).alloc (.cells #[.func (.func 132) #[] #[.pointer (some ⟨b1,0,none⟩),.pointer (some ⟨b2,0,none⟩),.pointer (some ⟨w.heap.size+1,0,none⟩),.pointer (some ⟨w.heap.size,0,none⟩)]] 231)=x:=⟨_,rfl⟩;have Hc:Below w.heap.size w w3:=by rw[←hw3];exact((zai _ w).alloc (zad _) _).alloc (by simp) _
 have Hn:w3.heap.size=w.heap.size+2:=by rw[←hw3];simp
 have k3:w3.heap[w.heap.size+1]?=some (.cells #[.func (.func 132) #[] #[.pointer (some ⟨b1,0,none⟩),.pointer (some ⟨b2,0,none⟩),.pointer (some ⟨w.heap.size+1,0,none⟩),.pointer (some ⟨w.heap.size,0,none⟩)]] 231 (0,0)):=by
  rw[←hw3];have h:=zae (w.alloc (.cells #[.func (.yield l) #[] #[]] 72)) (.cells #[.func (.func 132) #[] #[.pointer (some ⟨b1,0,none⟩),.pointer (some ⟨b2,0,none⟩),.pointer (some ⟨w.heap.size+1,0,none⟩),.pointer (some ⟨w.heap.size,0,none⟩)]] 231);rw[za5]at h;exact h
 have k4:w3.heap[w.heap.size]?=some (.cells #[.func (.yield l) #[] #[]] 72 (0,0)):=by
  rw[←hw3];exact(zaW _ _ _ (by simp)).trans (zae w _)
 have l0:b1<w.heap.size∧b2<w.heap.size:=⟨(zaa.1 e1).1,(zaa.1 e2).1⟩;have Hb:=zH (show LiS J a G d T F p g root1 B W A n c lo l b1 b2 (w.heap.size+1) w.heap.size C [] [] mv w3 from
  ⟨ht.touch (M:=fun _=>False) (Touch.of_below Hc) (fun _ h=>h.elim),hw.below Hc,hby.below Hc,hbB,(Hc.block _ l0.1).trans e1,(Hc.block _ l0.2).trans e2,k3,k4,hCB,
   fun b hb=>by
    obtain⟨h1,h2,h3,h4⟩:=hap b hb;exact⟨by omega,h2,fun h=>by rcases h with h|h|h|h;exact h3 h;exact h4 h;omega;omega⟩,
   fun b hb hm=>by
    rcases hb with rfl|rfl|rfl|rfl
    ·exact hM1 hm
    ·exact hM2 hm
    ·rcases hm with hm|hm
     ·have:=hw.lt;omega
     ·have:=(hw.own.blk _ hm).2;omega
    ·rcases hm with hm|hm
     ·have:=hw.lt;omega
     ·have:=(hw.own.blk _ hm).2;omega,
   by omega,hJ _ _ _ _ hj (Touch.of_below Hc)⟩)
 have Hh:=zH Hc;have HI:=zH hI;have HW:=zH hw;clear hI ht hw hby hbB e1 e2 hCB hap hM1 hM2 hsz hj k3 k4 l0;rw[hw3]at Hf;have g1:w3.cell? ⟨b1,0,none⟩=some (.pointer (some ⟨W,0,none⟩)):=zC Hb.o.e1;have g2:=Hb.o.wk.c0;have g3:=Hb.o.tr.tr.c1;have g4:w3.cell? ⟨w.heap.size+1,0,none⟩=some (.func (.func 132) #[] #[.pointer (some ⟨b1,0,none⟩),.pointer (some ⟨b2,0,none⟩),.pointer (some ⟨w.heap.size+1,0,none⟩),.pointer (some ⟨w.heap.size,0,none⟩)]):=zC Hb.o.e3;clear hw3 q1 q2 q3 l1 l2 l3 Hc Hn;go_enter Tryz.func131,Tryz.ntmps131
 by_cases hr0:root1=0
 ·have h1:¬(0≤(root1:Int)-1):=by omega
  have h2:decide (0≤(root1:Int)-1)=false:=zan h1;have h3:(root1:Int)-1<0:=by omega
  go_wp2
  go_end0
  refine⟨rfl,C,mv,_,EvM.below Hh.o,Hb.o.wk,fun b hb=>(Hb.o.ap b hb).2.1,.inl ?_⟩;rcases HI.o with⟨_,rfl⟩|⟨h,_⟩
  ·exact Hb.o.j
  ·exact absurd hr0 h
 ·obtain⟨q0,hq0⟩:∃ q,root1-1=q:=⟨_,rfl⟩;have h1:(root1:Int)-1=(q0:Int):=by omega
  have h2:(0:Int)≤(q0:Int):=by omega
  rcases HI.o with⟨h,_⟩|⟨_,h,hwf,hsr,hnd,hpg,hits⟩
  ·exact absurd h hr0
  rw[hq0]at hwf hsr hnd hpg hits;have Hi:=qj9 (l2:=List.range 384) hnd (fun x hx=>za9.2 (hpg x hx));rw[zcI]at Hi;have He:=zH (Hb.o.below hJ ((zai w3.heap.size w3).drew));have Hg:=zH (qka (N:=its) rfl hoff hJ hY hln h q0 C [] [] mv w3.drew hwf hsr hnd (fun _ _=>by simp) (by simp;omega) (by rw[hits];simp) He.o);rw[←hits]at Hg;unfold LiF at Hg;clear hwf hsr hnd hpg hits Hi;have g5:w3.cell? ⟨T,1,none⟩=some (.int .i64 (q0:Int)):=by rw[←h1];exact g3
  have Ha:=zH (show w3.drew.cell? ⟨b1,0,none⟩=some (.pointer (some ⟨W,0,none⟩))∧w3.drew.cell? ⟨W,0,none⟩=some (.pointer (some ⟨T,0,none⟩))∧w3.drew.cell? ⟨T,1,none⟩=some (.int .i64 (q0:Int))∧w3.drew.cell? ⟨w.heap.size+1,0,none⟩=some (.func (.func 132) #[] #[.pointer (some ⟨b1,0,none⟩),.pointer (some ⟨b2,0,none⟩),.pointer (some ⟨w.heap.size+1,0,none⟩),.pointer (some ⟨w.heap.size,0,none⟩)])from⟨g1,g2,g5,g4⟩);have Hj:=zH (show Below w.heap.size w w3.drew from Hh.o.drew);have Hl:=zH (show ∀ (w6:World) (C3:Nat→Prop) (mv3:Value) (met3:List Nat),EvM (LM W C mv) (LM W C3 mv3) w3.drew w6→WkM w6 B W T mv3 met3 0→w6.cell? ⟨b1,0,none⟩=some (.pointer (some ⟨W,0,none⟩))∧w6.cell? ⟨W,0,none⟩=some (.pointer (some ⟨T,0,none⟩))∧w6.cell? ⟨T,1,none⟩=some (.int .i64 (q0:Int))∧w6.cell? ⟨w.heap.size+1,0,none⟩=some (.func (.func 132) #[] #[.pointer (some ⟨b1,0,none⟩),.pointer (some ⟨b2,0,none⟩),.pointer (some ⟨w.heap.size+1,0,none⟩),.pointer (some ⟨w.heap.size,0,none⟩)])from fun w6 C3 mv3 met3 he hw=>by
   have hE:∀ b,E4 b1 b2 (w.heap.size+1) w.heap.size b→¬LM W C mv b:=fun b hb hc=>by
    rcases hc with hc|hc
    ·exact(He.o.ap _ hc).2.2 hb
    ·exact He.o.eM _ hb hc
   have hT:¬LM W C mv T:=fun hc=>by
    have Ho:=He.o.tr.hT;rcases hc with hc|hc|hc
    ·have:=He.o.CB _ hc;omega
    ·have:=He.o.wk.lo;omega
    ·have:=(He.o.wk.own.blk _ hc).1;omega
   exact⟨(qaj he.touch (qaq Ha.o.1) (hE _ (.inl rfl))).trans Ha.o.1,hw.c0,(qaj he.touch (qaq Ha.o.2.2.1) hT).trans Ha.o.2.2.1,(qaj he.touch (qaq Ha.o.2.2.2) (hE _ (.inr (.inr (.inl rfl))))).trans Ha.o.2.2.2⟩)
  go_upto_region 4 with fail
  refine qad (S:=fun W'=>W'.cell? ⟨b1,0,none⟩=some (.pointer (some ⟨W,0,none⟩))∧W'.cell? ⟨W,0,none⟩=some (.pointer (some ⟨T,0,none⟩))∧W'.cell? ⟨T,1,none⟩=some (.int .i64 (q0:Int))∧W'.cell? ⟨w.heap.size+1,0,none⟩=some (.func (.func 132) #[] #[.pointer (some ⟨b1,0,none⟩),.pointer (some ⟨b2,0,none⟩),.pointer (some ⟨w.heap.size+1,0,none⟩),.pointer (some ⟨w.heap.size,0,none⟩)])) [] (by kernel_rfl) Ha.o (fun _=>?_);generalize w3.drew=W0 at *;refine zL 0 14 (.func (.func 132) #[] #[.pointer (some ⟨b1,0,none⟩),.pointer (some ⟨b2,0,none⟩),.pointer (some ⟨w.heap.size+1,0,none⟩),.pointer (some ⟨w.heap.size,0,none⟩)]) rfl (Or.inl ⟨by rfl,fun W' hS=>by obtain⟨hS1,hS2,hS3,hS4⟩:=hS;go_simp⟩) (qab Ha.o) ?_;try simp only[zS]
  refine zL 1 15 (.pointer (some ⟨W,0,none⟩)) rfl (Or.inl ⟨by rfl,fun W' hS=>by obtain⟨hS1,hS2,hS3,hS4⟩:=hS;go_simp⟩) (qab Ha.o) ?_;try simp only[zS]
  refine zP 2 16 (.pointer (some ⟨W,0,none⟩)) Ha.o ?_;try simp only[zS]
  refine zP 3 17 (.pointer (some ⟨W,0,none⟩)) Ha.o ?_;try simp only[zS]
  refine zL 4 18 (.pointer (some ⟨T,0,none⟩)) rfl (Or.inl ⟨by rfl,fun W' hS=>by obtain⟨hS1,hS2,hS3,hS4⟩:=hS;go_simp⟩) (qab Ha.o) ?_;try simp only[zS]
  refine zP 5 19 (.pointer (some ⟨T,0,none⟩)) Ha.o ?_;try simp only[zS]
  refine zP 6 20 (.pointer (some ⟨T,1,none⟩)) Ha.o ?_;try simp only[zS]
  refine zL 7 21 (.int .i64 (q0:Int)) rfl (Or.inl ⟨by rfl,fun W' hS=>by obtain⟨hS1,hS2,hS3,hS4⟩:=hS;go_simp⟩) (qab Ha.o) ?_;try simp only[zS]
  refine zP 8 22 (.agg #[.int .i64 (q0:Int),.pointer none]) Ha.o ?_;try simp only[zS]
  refine zE 9 23 rfl (fun Kr hKr=>?_);go_simp;go_at_call 132
  refine Hg.o.mono ?_;rintro e w6 ⟨C3,mv3,hem,hres⟩;obtain⟨b,met3,rfl,hw3,hap3,hr⟩:∃ b met3,e=.returned (.bool b)∧WkM w6 B W T mv3 met3 0∧(∀ b,C3 b→¬MW W mv3 b)∧(J C3 its w6∨∃ q,q <+: its∧Jx C3 q w6):=by
   rcases hres with⟨rfl,m,Hf,-,-⟩|⟨rfl,h8,met3,h9,h10⟩
   ·exact⟨true,_,rfl,Hf.wk,fun b hb=>(Hf.ap b hb).2.1,.inl Hf.j⟩
   ·exact⟨false,met3,rfl,h9,h10,.inr h8⟩
  have Hk:=zH (Hl.o w6 C3 mv3 met3 hem hw3);have Hm:=zH hw3;clear hw3;refine hKr.out (.bool b) _ (qab Hk.o) (fun _=>?_);clear hKr Kr;try simp only[zS]
  refine qaf (by kernel_rfl) ?_ _;go_wp2
  go_end0
  exact⟨rfl,C3,mv3,met3,(EvM.below Hj.o).trans hem,Hm.o,hap3,hr⟩
theorem qjj (w:World)(W:Nat)(A:Option Addr)(n c:Nat):Calls Tryz.prog 91 #[.pointer (some ⟨W,0,none⟩),.slice A n c] w fun e w'=>
  e=.returned (.func (.func 131) #[] #[.pointer (some ⟨w.heap.size,0,none⟩),.pointer (some ⟨w.heap.size+1,0,none⟩)])∧w'=(w.alloc (.cells #[.pointer (some ⟨W,0,none⟩)] 168)).alloc (.cells #[.slice A n c] 40):=by
 go_enter Tryz.func91,Tryz.ntmps91
 go_wp2;go_ret;exact⟨rfl,rfl⟩
end
end
theorem qjU {C C':Nat→Prop}{A B:World}{l:Nat}(h:EvM C C' A B)(hl:C l)(o:Obj):EvM C C' A (B.putObj l o):=
 ⟨⟨h.touch.os,h.touch.tape,h.touch.output,by simpa using h.touch.size,fun k hk hn=>(World.putObj_heap_other (fun e=>hn (by rw[e];exact hl))).trans (h.touch.block k hk hn)⟩,fun b hb=>by simpa using h.own b hb⟩
def qmY (LC:(Nat→Prop)→List Pr→World→Prop)(LX:Code→(Nat→Prop)→List Pr→World→Prop)(l:Nat)(C:Nat→Prop)(pre:List Pr)(W:World):Exit→Act→World→Prop
 | .normal,_,W'=>∃ C',EvM C C' W W'∧W'.heap[l]?=W.heap[l]?∧LC C' pre W'
 | .ret,_,W'=>∃ C',EvM C C' W W'∧W'.heap[l]?=W.heap[l]?∧LX .ret C' pre W'
 | .exit id,_,W'=>∃ C',EvM C C' W W'∧W'.heap[l]?=W.heap[l]?∧LX (.exit id) C' pre W'
 | .goto t,_,W'=>∃ C',EvM C C' W W'∧W'.heap[l]?=W.heap[l]?∧LX (.goto t) C' pre W'
 | .panic _,_,_=>False
 | .outgrown,_,_=>False
theorem qkv {g:Operand}{ps:Array Tmp}{assign body:Code}{Q:Exit→Act→World→Prop}{a:Act}{w:World}{gf:Nat}{lb:Array Value}
  (hg:a.eval g=.func (.func gf) #[] lb)(eg:∀ args w,(callFunc gf args).run Tryz.prog w=.ok (.enter gf args) w)(hps:ps.size=2)
  (LC:(Nat→Prop)→List Pr→World→Prop)(LX:Code→(Nat→Prop)→List Pr→World→Prop)(X:World→Prop)(C0:Nat→Prop)(N:List Pr)
  (hLC:∀ C pre W o,LC C pre W→LC C pre (W.putObj (w.heap.size+1) o))(hLX:∀ c C pre W o,LX c C pre W→LX c C pre (W.putObj (w.heap.size+1) o))(hX:∀ W o,X W→X (W.putObj (w.heap.size+1) o))
  (hl:∀ C pre W,LC C pre W→C (w.heap.size+1))(a₁:Value→Value→Act)
  (hassign:∀ kv vv W (K:Act→World→Prop),K (a₁ kv vv) W→assign.wpIn (Fence.wide.inRound (w.heap.size+1)) 98 Tryz.prog (Exit.then K (fun _ _ _=>False)) { tmps:=(ps.zip #[kv,vv]).foldl (fun t (p,v)=>t.setIfInBounds p v) a.tmps,defers:=[] } W)
  (hbody:∀ C pre (x:Pr) KA VA kc vc W,LC C pre W→pre++[x] <+: N→By W KA x.1→By W VA x.2→x.1.length≤kc→x.2.length≤vc→
   body.wpIn (Fence.wide.inRound (w.heap.size+1)) 98 Tryz.prog (qmY LC LX (w.heap.size+1) C (pre++[x]) W) (a₁ (.slice KA x.1.length kc) (.slice VA x.2.length vc)) W)
  (h0:∀ W1,Below w.heap.size w W1→W1.heap.size=w.heap.size+2→W1.heap[w.heap.size]?=some (.deferred (some []))→(∃ r,W1.heap[w.heap.size+1]?=some (.loop r))→LC C0 [] W1)
  (hiter:∀ (J Jx:(Nat→Prop)→List Pr→World→Prop) (W1:World),(∀ C pre W,J C pre W→LC C pre W)→(∀ C pre W,Jx C pre W→∃ c,LX c C pre W)→(∀ C pre A B,J C pre A→(∀ b,C b→b<A.heap.size→B.heap[b]?=A.heap[b]?)→LC C pre B→J C pre B)→
   LiY J Jx (w.heap.size+1) N→J C0 [] W1→Below w.heap.size w W1→W1.heap.size=w.heap.size+2→
   CallsIn Fence.wide 99 Tryz.prog gf (#[.func (.yield (w.heap.size+1)) #[] #[]]++lb) W1 fun e W'=>(∃ v,e=.returned v)∧X W'∧∃ C',(J C' N W'∨∃ q,q <+: N∧Jx C' q W'))
  (hdone:∀ C W,LC C N W→X W→Q .normal { a with defers:={ target:=.collected w.heap.size,args:=#[] }::a.defers } W)
  (hstop:∀ c C q W,q <+: N→LX c C q W→X W→c.wpIn Fence.wide 100 Tryz.prog Q { a with defers:={ target:=.collected w.heap.size,args:=#[] }::a.defers } W) :
  (Code.rangeFunc g ps assign body).wpIn Fence.wide 100 Tryz.prog Q a w:=by
 refine wpIn_rangeFunc ?_;intro fn hfn;obtain⟨rec,hrec⟩:∃ rec:LoopState→Option Code→Loop,rec=fun st pe=>{ state:=st,pending:=pe,fn,tmps:=a.tmps,params:=ps,assign,body,defers:=w.heap.size }:=⟨_,rfl⟩;obtain⟨W1,hW1⟩:∃ W1,(w.alloc (.deferred (some []))).alloc (.loop (rec .ready none))=W1:=⟨_,rfl⟩;have He:W1.heap[w.heap.size+1]?=some (.loop (rec .ready none)):=by
  rw[←hW1];have:=World.alloc_heap_new (w.alloc (.deferred (some []))) (.loop (rec .ready none));rwa [za5]at this
 have Hi:W1.heap[w.heap.size]?=some (.deferred (some [])):=by
  rw[←hW1];exact(zaW _ _ _ (by simp)).trans (World.alloc_heap_new w _)
 have Hf:Below w.heap.size w W1:=by
  rw[←hW1];exact((zai _ w).alloc (zad _) _).alloc (by simp) _
 have Hh:W1.heap.size=w.heap.size+2:=by rw[←hW1];simp
 refine⟨w.heap.size+1,[{ target:=.collected w.heap.size,args:=#[] }],W1,{ target:=.fn (.func gf) lb,args:=#[.func (.yield (w.heap.size+1)) #[] #[]] },W1,gf,
  #[.func (.yield (w.heap.size+1)) #[] #[]]++lb,W1,?_,?_,fun _ _=>trivial,?_,fun h=>(by cases h),?_⟩
 ·rw[←hW1,hrec];exact run_enterLoop_outer _ _ _ _ _
 ·simp only[resolve,hg];simp[go_sem]
 ·simp[invoke,go_sem,eg]
 ·refine(hiter (fun C pre W=>LC C pre W∧W.heap[w.heap.size+1]?=some (.loop (rec .ready none)))
   (fun C pre W=>∃ c,LX c C pre W∧W.heap[w.heap.size+1]?=some (.loop (rec .done (some c)))) W1 (fun _ _ _ h=>h.1) (fun _ _ _ ⟨c,h,_⟩=>⟨c,h⟩)
   (fun C pre A B h hk hB=>⟨hB,(hk _ (hl _ _ _ h.1) (zaa.1 h.2).1).trans h.2⟩) ?_ ⟨h0 _ Hf Hh Hi ⟨_,He⟩,He⟩ Hf Hh).mono ?_
  ·intro m C pre x KA VA kc vc W hJ hpre hk hv hkc hvc;obtain⟨hi,hlr⟩:=hJ;have Hc:=hl _ _ _ hi;have Hk:w.heap.size+1<W.heap.size:=(zaa.1 hlr).1;have hy:=run_yield (P:=Tryz.prog) (args:=#[.slice KA x.1.length kc,.slice VA x.2.length vc]) hlr (by rw[hrec];exact hps.symm);rw[hrec]at hy;refine⟨fn,_,assign,body,hy,?_⟩;have key:RoundIn Fence.wide 98 Tryz.prog (w.heap.size+1) fn ((ps.zip #[.slice KA x.1.length kc,.slice VA x.2.length vc]).foldl (fun t (p,v)=>t.setIfInBounds p v) a.tmps) assign body W (fun e W'=>∃ C' b,e=.returned (.bool b)∧EvM C C' W W'∧(b=true→LC C' (pre++[x]) W'∧W'.heap[w.heap.size+1]?=some (.loop (rec .ready none)))∧(b=false→∃ c,LX c C' (pre++[x]) W'∧W'.heap[w.heap.size+1]?=some (.loop (rec .done (some c))))):=by
    refine roundIn_of_wpIn hfn (hassign _ _ W _ ⟨_,run_beginRound hlr (by rw[hrec]),?_⟩);have Hj:(W.putObj (w.heap.size+1) (.loop { rec .ready none with state:=.busy })).heap[w.heap.size+1]?=some (.loop { rec .ready none with state:=.busy }):=World.putObj_heap_same Hk;have hp:EvM C C W (W.putObj (w.heap.size+1) (.loop { rec .ready none with state:=.busy })):=qjU (EvM.refl _ _) Hc _;have Hb:∀ {A:Option Addr} {s:Bs},By W A s→By (W.putObj (w.heap.size+1) (.loop { rec .ready none with state:=.busy })) A s:=fun {A s} h=>⟨fun h1=>by
     obtain⟨b,off,e,hlb,hc⟩:=h.at_ h1;refine⟨b,off,e,by simpa using hlb,fun k u hu=>?_⟩;have Hl:b≠w.heap.size+1:=fun e2=>by
      have:=hc k u hu;subst e2;simp[World.cell?,hlr]at this
     exact(zbP (World.putObj_heap_other Hl)).trans (hc k u hu)⟩
    refine wpIn_mono (hbody C pre x KA VA kc vc _ (hLC _ _ _ _ hi) hpre (Hb hk) (Hb hv) hkc hvc) ?_;have Ha:∀ (jump:Option Code) (C':Nat→Prop) (W3:World),EvM C C' (W.putObj (w.heap.size+1) (.loop { rec .ready none with state:=.busy })) W3→W3.heap[w.heap.size+1]?=(W.putObj (w.heap.size+1) (.loop { rec .ready none with state:=.busy })).heap[w.heap.size+1]?→
      (Instr.endRound (w.heap.size+1) jump).run Tryz.prog W3=.ok (.bool jump.isNone) (W3.putObj (w.heap.size+1) (.loop (rec (if jump.isNone then .ready else .done) jump)))∧
      (W3.putObj (w.heap.size+1) (.loop (rec (if jump.isNone then .ready else .done) jump))).heap[w.heap.size+1]?=some (.loop (rec (if jump.isNone then .ready else .done) jump))∧
      EvM C C' W (W3.putObj (w.heap.size+1) (.loop (rec (if jump.isNone then .ready else .done) jump))):=fun jump C' W3 he h3=>by
     have Hg:=h3.trans Hj;have:=run_endRound (P:=Tryz.prog) jump Hg;rw[hrec]at this⊢;exact⟨this,World.putObj_heap_same (zaa.1 Hg).1,qjU (hp.trans he) Hc _⟩
    rintro e a3 W3 hq;cases e with
    | normal=>
     obtain⟨C',he,h3,hi3⟩:=hq;obtain⟨hr,hl4,he4⟩:=Ha none C' W3 he h3;exact⟨_,_,hr,C',true,rfl,he4,fun _=>⟨hLC _ _ _ _ hi3,hl4⟩,fun h=>by cases h⟩
    | ret=>
     obtain⟨C',he,h3,hi3⟩:=hq;obtain⟨hr,hl4,he4⟩:=Ha (some .ret) C' W3 he h3;exact⟨_,_,hr,C',false,rfl,he4,fun h=>(by cases h),fun _=>⟨_,hLX _ _ _ _ _ hi3,hl4⟩⟩
    | exit id=>
     obtain⟨C',he,h3,hi3⟩:=hq;obtain⟨hr,hl4,he4⟩:=Ha (some (.exit id)) C' W3 he h3;exact⟨_,_,hr,C',false,rfl,he4,fun h=>(by cases h),fun _=>⟨_,hLX _ _ _ _ _ hi3,hl4⟩⟩
    | goto t=>
     obtain⟨C',he,h3,hi3⟩:=hq;obtain⟨hr,hl4,he4⟩:=Ha (some (.goto t)) C' W3 he h3;exact⟨_,_,hr,C',false,rfl,he4,fun h=>(by cases h),fun _=>⟨_,hLX _ _ _ _ _ hi3,hl4⟩⟩
    | panic ch=>exact hq.elim
    | outgrown=>exact hq.elim
   exact⟨key.1,fun c cs _=>key.2 c cs (room_wide _)⟩
  ·rintro e W2 ⟨⟨v,rfl⟩,hx,C',(⟨hi,hlr⟩|⟨q,hq,c,hi,hlr⟩)⟩
   ·exact⟨none,_,by have:=run_endLoop (P:=Tryz.prog) hlr (by rw[hrec];simp);rw[hrec]at this;exact this,hdone C' _ (hLC _ _ _ _ hi) (hX _ _ hx)⟩
   ·exact⟨some c,_,by have:=run_endLoop (P:=Tryz.prog) hlr (by rw[hrec];simp);rw[hrec]at this;exact this,hstop c C' q _ hq (hLX _ _ _ _ _ hi) (hX _ _ hx)⟩
end Go.Proofs.YtfcknhbmeofniaaGreatDoor
