/- Texts WkMem LdA PkA MgMem. -/
import Derived.Test.YtpmebcgmgfcmiaaGreatDoorQ19
set_option linter.all false
set_option maxRecDepth 100000
set_option maxHeartbeats 16000000
namespace Go.Proofs.YtpmebcgmgfcmiaaGreatDoor
open Go.RowKit BT Go.Lib
variable {w w' b w0 w1:World}{B W T N G d root1 pg:Nat}{mv mv' v x:Value}{met:List Nat}{e:Int}{a:PA}{S0 F M M1 M2 M' S:Nat→Prop}{k n y:Kd}{A:Option Addr}{p:Pl}{g:Pg}{xs:List Kd}{vs:List Kv}{ks:List Bs}{vk:List Value}
structure WkM (w:World) (B W T:Nat) (mv:Value) (met:List Nat) (e:Int):Prop where
 nd:w.heap[W]?=some (.cells #[.pointer (some ⟨T,0,none⟩),mv,.int .i64 e] 91 (0,0))
 lo:B≤W
 own:Own w B 3 1 mv met.length (nums met)
 mW:mv.ownBlock≠some W
theorem WkM.lt (h:WkM w B W T mv met e):W<w.heap.size:=(zab.1 h.nd).1
theorem WkM.c0 (h:WkM w B W T mv met e):w.cell? ⟨W,0,none⟩=some (.pointer (some ⟨T,0,none⟩)):=zC h.nd
theorem WkM.c1 (h:WkM w B W T mv met e):w.cell? ⟨W,1,none⟩=some mv:=zC h.nd
theorem WkM.c2 (h:WkM w B W T mv met e):w.cell? ⟨W,2,none⟩=some (.int .i64 e):=zC h.nd
structure Ev (W:Nat) (mv mv':Value) (w w':World):Prop where
 touch:Touch (fun b=>b=W∨mv.ownBlock=some b) w w'
 own:∀ b,mv'.ownBlock=some b→mv.ownBlock=some b∨(w.heap.size≤b∧b<w'.heap.size)
theorem Ev.refl (W:Nat)(mv:Value)(w:World):Ev W mv mv w w:=⟨Touch.refl _ _,fun _ h=>.inl h⟩
theorem Ev.below (h:Below w.heap.size w w'):Ev W mv mv w w':=⟨Touch.of_below h,fun _ h=>.inl h⟩
theorem Ev.trans {m1 m2 m3:Value}{a c:World}(h:Ev W m1 m2 a b)(k:Ev W m2 m3 b c):Ev W m1 m3 a c:=by
 refine⟨⟨k.touch.os.trans h.touch.os,k.touch.tape.trans h.touch.tape,k.touch.output.trans h.touch.output,zah h.touch.size k.touch.size,fun i hi hn=>?_⟩,fun i hi=>?_⟩
 ·refine(k.touch.block i (zam hi h.touch.size) (fun h2=>?_)).trans (h.touch.block i hi hn);rcases h2 with h2|h2
  ·exact hn (.inl h2)
  ·rcases h.own i h2 with h3|h3
   ·exact hn (.inr h3)
   ·omega
 ·rcases k.own i hi with h2|h2
  ·rcases h.own i h2 with h3|h3
   ·exact .inl h3
   ·exact .inr ⟨h3.1,zam h3.2 k.touch.size⟩
  ·exact .inr ⟨zah h.touch.size h2.1,h2.2⟩
theorem WkM.below (h:WkM w B W T mv met e)(hb:Below w.heap.size w w'):WkM w' B W T mv met e:=
 ⟨(hb.block W h.lt).trans h.nd,h.lo,h.own.below (zac _) hb,h.mW⟩
def NS (S0:Nat→Prop)(B W:Nat)(mv:Value)(w:World):Nat→Prop:=fun b=>S0 b∨(B≤b∧b<w.heap.size∧b≠W∧mv.ownBlock≠some b)
theorem NS.ev (h:Ev W mv mv' w w'):∀ b,NS S0 B W mv w b→NS S0 B W mv' w' b:=fun b hb=>by
 rcases hb with hb|⟨h1,h2,h3,h4⟩
 ·exact .inl hb
 ·refine .inr ⟨h1,zam h2 h.touch.size,h3,fun e=>?_⟩;rcases h.own b e with h5|h5
  ·exact h4 h5
  ·omega
theorem NS.apart (hw:WkM w B W T mv met e)(h0:∀ b,S0 b→b<B):∀ b,NS S0 B W mv w b→¬(b=W∨mv.ownBlock=some b):=fun b hb=>by
 rcases hb with hb|⟨_,_,h3,h4⟩
 ·have:=h0 b hb;rintro(h|h)
  ·have:=hw.lo;omega
  ·have:=(hw.own.blk b h).1;omega
 ·rintro(h|h)
  ·exact h3 h
  ·exact h4 h
theorem NS.fr (hw:WkM w B W T mv met e)(hB:B≤w.heap.size)(hb:w.heap.size≤w'.heap.size):∀ b,Fr (NS S0 B W mv w) w w' b→NS S0 B W mv w' b:=fun b h=>by
 rcases h with(h|⟨h1,h2,h3,h4⟩)|⟨h1,h2⟩
 ·exact .inl h
 ·exact .inr ⟨h1,zam h2 hb,h3,h4⟩
 ·refine .inr ⟨by omega,h2,fun e=>?_,fun e=>?_⟩
  ·have:=hw.lt;omega
  ·have:=(hw.own.blk b e).2;omega
theorem NM.ev {L:List (Nat×Nat)}(h:NM w (NS S0 B W mv w) k N L)(hw:WkM w B W T mv met e)(h0:∀ b,S0 b→b<B)(he:Ev W mv mv' w w'):NM w' (NS S0 B W mv' w') k N L:=
 NM.mono (NS.ev he) _ _ _ (h.touch he.touch (NS.apart hw h0))
theorem ByS.ev {l:Bs}(h:ByS w (NS S0 B W mv w) A l)(hw:WkM w B W T mv met e)(h0:∀ b,S0 b→b<B)(he:Ev W mv mv' w w'):ByS w' (NS S0 B W mv' w') A l:=
 (h.same (Same.of_touch he.touch (NS.apart hw h0))).mono (NS.ev he)
def FrN (W:Nat)(mv:Value)(w0 w:World):Nat→Prop:=fun b=>w0.heap.size≤b∧b<w.heap.size∧b≠W∧mv.ownBlock≠some b
theorem FrN.ev (h:Ev W mv mv' w w'):∀ b,FrN W mv w0 w b→FrN W mv' w0 w' b:=fun b ⟨h1,h2,h3,h4⟩=>
 ⟨h1,zam h2 h.touch.size,h3,fun e=>by
  rcases h.own b e with h5|h5
  ·exact h4 h5
  ·omega⟩
theorem FrN.apart:∀ b,FrN W mv w0 w b→¬(b=W∨mv.ownBlock=some b):=fun _ ⟨_,_,h3,h4⟩ h=>h.elim h3 h4
theorem FrN.base (h:w0.heap.size≤w1.heap.size):∀ b,FrN W mv w1 w b→FrN W mv w0 w b:=fun _ ⟨h1,h2,h3,h4⟩=>⟨zah h h1,h2,h3,h4⟩
theorem NM.evn {L:List (Nat×Nat)}(h:NM w (FrN W mv w0 w) k N L)(he:Ev W mv mv' w w'):NM w' (FrN W mv' w0 w') k N L:=
 NM.mono (FrN.ev he) _ _ _ (h.touch he.touch FrN.apart)
structure TrM (w:World) (a:PA) (G d T:Nat) (F:Nat→Prop) (p:Pl) (g:Pg) (root1:Nat):Prop where
 pg:PgM w a G d F p g
 t:w.heap[T]?=some (.cells #[.pointer (some ⟨G,0,none⟩),.int .i64 ((root1:Int)-1)] 98 (0,0))
 nT:¬GF F G T∧T≠1
theorem TrM.lt (h:TrM w a G d T F p g root1):T<w.heap.size:=(zab.1 h.t).1
theorem TrM.c0 (h:TrM w a G d T F p g root1):w.cell? ⟨T,0,none⟩=some (.pointer (some ⟨G,0,none⟩)):=zC h.t
theorem TrM.c1 (h:TrM w a G d T F p g root1):w.cell? ⟨T,1,none⟩=some (.int .i64 ((root1:Int)-1)):=zC h.t
theorem TrM.below (h:TrM w a G d T F p g root1)(hb:Below w.heap.size w w'):TrM w' a G d T F p g root1:=
 ⟨h.pg.below hb,(hb.block T h.lt).trans h.t,h.nT⟩
structure TrB (w:World) (B:Nat) (a:PA) (G d T:Nat) (F:Nat→Prop) (p:Pl) (g:Pg) (root1:Nat):Prop where
 tr:TrM w a G d T F p g root1
 hF:∀ b,F b→b<B
 hG:G<B
 hT:T<B
 h1:1<B
theorem TrB.ev (h:TrB w B a G d T F p g root1)(hw:WkM w B W T mv met e)(he:Ev W mv mv' w w'):TrB w' B a G d T F p g root1:=by
 have hn:∀ b,b<B→¬(b=W∨mv.ownBlock=some b):=fun b hb=>by
  rintro(h|h)
  ·have:=hw.lo;omega
  ·have:=(hw.own.blk b h).1;omega
 refine⟨⟨h.tr.pg.touch he.touch (fun b hb=>hn b ?_) (hn 1 h.h1),(he.touch.block T h.tr.lt (hn T h.hT)).trans h.tr.t,h.tr.nT⟩,h.hF,h.hG,h.hT,h.h1⟩;rcases hb with hb|hb
 ·exact h.hF b hb
 ·rw[hb];exact h.hG
theorem qgz:(Tryz.prog.info? 3).map (fun i=>(i.zero,i.size,i.bytes))=some (some (.int .i64 0),1,8):=by kernel_rfl
def LdF (B W T:Nat)(mv:Value)(met:List Nat)(pg:Nat)(n:Kd)(w:World)(e:Ending)(w':World):Prop:=
 ∃ N L mv',e=.returned (.pointer (some ⟨N,0,none⟩))∧WkM w' B W T mv' (met++[pg]) 0∧Ev W mv mv' w w'∧NM w' (FrN W mv' w w') n N L∧Slo w.heap.size [] L
theorem qbT {n c:Nat}(h:Own w B 3 1 (.slice A n c) n (nums met)):NumsAt w A met:=NumsAt.of_row h.row
theorem qmn (h:TrB w B a G d T F p g root1){i:Nat}(v:Value)(hW:B≤W):TrB (w.setCell ⟨W,i,none⟩ v) B a G d T F p g root1:=by
 have hT:Touch (fun b=>b=W) w (w.setCell ⟨W,i,none⟩ v):=Touch.setCell (F:=fun b=>b=W) (Touch.refl _ _) (p:=⟨W,i,none⟩) rfl _;refine⟨⟨h.tr.pg.touch hT (fun b hb e=>?_) (fun e=>by have:=h.h1;omega),(hT.block T h.tr.lt (fun e=>by have:=h.hT;omega)).trans h.tr.t,h.tr.nT⟩,h.hF,h.hG,h.hT,h.h1⟩;rcases hb with hb|hb
 ·have:=h.hF b hb;omega
 ·have:=h.hG;omega
theorem qb0 (ht:TrB w B a G d T F p g root1)(hw:WkM w B W T mv met 0)(hB:B≤w.heap.size)(hoff:p.off=false)(hn:qah (p.seen d) g.pages g.use pg=some n)(hm:pg∉met)(hl:met.length≤1000) :
  Calls Tryz.prog 38 #[.pointer (some ⟨W,0,none⟩),.agg #[.int .i64 (pg:Nat),.pointer none]] w (LdF B W T mv met pg n w):=by
 unfold qah at hn;split at hn
 case isFalse=>cases hn
 rename_i hpu;obtain⟨bs,hbs,hdc⟩:=zbS.1 hn;obtain⟨A,c,hmv,hnc⟩:=hw.own.slice;have HW:=zH hw;have HT:=zH ht;have HM:=zH hm;have H1:=zH hpu;have ha:=zH hbs;have HX:=zH hdc;have Hx:=zH (show bs.length≤500 from readPage_len hbs);obtain⟨j0,hj0,jz0,jz1,jz2⟩:=zaT qgz;obtain⟨ml,hml⟩:∃ n,met.length=n:=⟨_,rfl⟩;have Hr:=zH hml;rw[hml]at hmv hl hnc;subst hmv;clear hw ht hm hpu hbs hdc hn hml;go_enter Tryz.func38,Tryz.ntmps38
 go_upto_region 3 with fail
 have Hm:=zH (zaf w (.cells #[.int .i64 (pg:Int),.pointer none] 102));have Ho:Below w.heap.size w (w.alloc (.cells #[.int .i64 (pg:Int),.pointer none] 102)):=zB _ _;have HS:=zH Ho;have Hg:=zH (HW.o.below Ho);have HD:=zH (HT.o.ev HW.o (Ev.below Ho));have Hy:=zH (show Ev W (.slice A ml c) (.slice A ml c) w (w.alloc (.cells #[.int .i64 (pg:Int),.pointer none] 102))from Ev.below Ho);obtain⟨X,hX⟩:∃ X,w.heap.size=X:=⟨_,rfl⟩;have hs:=zH hX;rw[hX]at Hm⊢;have H0:=zH (show B≤W from HW.o.lo);have hA:=zH (show X≠W by have:=HW.o.lt;omega);have Hh:∀ {b:Nat},(Value.slice A ml c).ownBlock=some b→B≤b∧b<w.heap.size:=fun {b} e=>HW.o.own.blk b e;clear Ho hX HW HT;generalize w.alloc (.cells #[.int .i64 (pg:Int),.pointer none] 102)=w0 at Hm HS Hg HD Hy⊢;have HV:=zH (qdr (w:=w0.drew) c (qbT (by have h:=(Hg.o.below (zai _ _).drew).own;rw[Hr.o]at h;exact h)) Hr.o (by omega) pg);have Hb:=zH (show w0.drew.cell? ⟨W,1,none⟩=some (.slice A ml c)∧w0.drew.cell? ⟨X,0,none⟩=some (.int .i64 (pg:Int))from⟨Hg.o.c1,by rw[zan _ _ _ _ _ _ (show w0.drew.heap[X]?=_ from Hm.o)];rfl⟩);refine qac (S:=fun W'=>W'.cell? ⟨W,1,none⟩=some (.slice A ml c)∧W'.cell? ⟨X,0,none⟩=some (.int .i64 (pg:Int))) [] (by kernel_rfl) Hb.o (fun _=>?_);refine zP 0 14 (.pointer (some ⟨W,0,none⟩)) Hb.o ?_;try simp only[zS]
 refine zP 1 15 (.pointer (some ⟨W,0,none⟩)) Hb.o ?_;try simp only[zS]
 refine zP 2 16 (.pointer (some ⟨W,1,none⟩)) Hb.o ?_;try simp only[zS]
 refine zL 3 17 (.slice A ml c) rfl (Or.inl ⟨by rfl,fun W' hS=>by obtain⟨hS1,hS2⟩:=hS;go_simp⟩) (qaa Hb.o) ?_;try simp only[zS]
 refine zP 4 18 (.pointer (some ⟨X,0,none⟩)) Hb.o ?_;try simp only[zS]
 refine zL 5 19 (.int .i64 (pg:Int)) rfl (Or.inl ⟨by rfl,fun W' hS=>by obtain⟨hS1,hS2⟩:=hS;go_simp⟩) (qaa Hb.o) ?_;try simp only[zS]
 refine zE 6 20 rfl (fun Kr hKr=>?_);go_simp;go_at_call 59
 refine HV.o.mono ?_;rintro e W9 ⟨rfl,rfl⟩;rw[zal HM.o];refine hKr.out _ _ (qaa Hb.o) (fun _=>?_);clear hKr Kr;try simp only[zS]
 refine qad (by kernel_rfl) ?_ _;go_upto_region 6 with fail
 have Hu:=zH (show WkM w0.drew.drew B W T (.slice A ml c) met 0 from(Hg.o.below (zai _ _).drew).below (zai _ _).drew);have HO:w0.drew.drew.heap[X]?=some (.cells #[.int .i64 (pg:Int),.pointer none] 102 (0,0)):=Hm.o;have H5:=zH HO;have HZ:=zH (show Ev W (.slice A ml c) (.slice A ml c) w w0.drew.drew from(Hy.o.trans (Ev.below (zai _ _).drew)).trans (Ev.below (zai _ _).drew));have H4:=zH (show TrB w0.drew.drew B a G d T F p g root1 from(HD.o.ev Hg.o (Ev.below (zai _ _).drew)).ev (Hg.o.below (zai _ _).drew) (Ev.below (zai _ _).drew));have Hc:=zH (show w0.drew.drew.cell? ⟨W,1,none⟩=some (.slice A ml c)∧w0.drew.drew.cell? ⟨X,0,none⟩=some (.int .i64 (pg:Int))from⟨Hu.o.c1,zC HO⟩);have H6:B≤w0.drew.drew.heap.size:=by have:=HS.o.size;show B≤w0.heap.size;omega
 clear HO Hm Hg HD Hy Hb HV;refine qac (S:=fun W'=>W'.cell? ⟨W,1,none⟩=some (.slice A ml c)∧W'.cell? ⟨X,0,none⟩=some (.int .i64 (pg:Int))) [11] (by kernel_rfl) Hc.o (fun _=>?_);generalize w0.drew.drew=W0 at Hc Hu H5 HZ H4 H6⊢;refine zP 0 24 (.pointer (some ⟨W,0,none⟩)) Hc.o ?_;try simp only[zS]
 refine zP 1 25 (.pointer (some ⟨W,0,none⟩)) Hc.o ?_;try simp only[zS]
 refine zP 2 26 (.pointer (some ⟨W,0,none⟩)) Hc.o ?_;try simp only[zS]
 refine zP 3 27 (.pointer (some ⟨W,1,none⟩)) Hc.o ?_;try simp only[zS]
 refine zL 4 28 (.slice A ml c) rfl (Or.inl ⟨by rfl,fun W' hS=>by obtain⟨hS1,hS2⟩:=hS;go_simp⟩) (qaa Hc.o) ?_;try simp only[zS]
 refine zP 5 29 (.pointer (some ⟨X,0,none⟩)) Hc.o ?_;try simp only[zS]
 refine zL 6 30 (.int .i64 (pg:Int)) rfl (Or.inl ⟨by rfl,fun W' hS=>by obtain⟨hS1,hS2⟩:=hS;go_simp⟩) (qaa Hc.o) ?_;try simp only[zS]
 refine zE 7 31 rfl (fun Kr hKr=>?_);refine Eq.mpr (zaw (by rfl)) ?_;refine qaP 23 (.tmp 30) rfl Tryz.underlying23 hj0 jz0 jz1 (by decide) (by decide) (.int .i64 (pg:Int)) rfl [.int .i64 (pg:Int)] (by rfl) rfl ?_;have Hp:Below W0.heap.size W0 (W0.alloc (.cells #[.int .i64 (pg:Int)] 3)):=zB _ _;have He:=zH (Hu.o.below Hp);have hp:=zH (H4.o.ev Hu.o (Ev.below Hp));have hc:=zH (HZ.o.trans (Ev.below Hp));have HH:=zH (qap (.cells #[.int .i64 (pg:Int)] 3) H5.o);have HU:=zH (show Src (W0.alloc (.cells #[.int .i64 (pg:Int)] 3)) 1 (some ⟨W0.heap.size,0,none⟩) 1 [.int .i64 (pg:Int)]from qaE (zaf W0 (.cells #[.int .i64 (pg:Int)] 3)) rfl);have he:=zH (show(W0.alloc (.cells #[.int .i64 (pg:Int)] 3)).cell? ⟨W,1,none⟩=some (.slice A ml c)∧(W0.alloc (.cells #[.int .i64 (pg:Int)] 3)).cell? ⟨X,0,none⟩=some (.int .i64 (pg:Int))from⟨He.o.c1,zC HH.o⟩);have HL:B≤(W0.alloc (.cells #[.int .i64 (pg:Int)] 3)).heap.size:=zah H6 Hp.size;obtain⟨C,hC⟩:∃ C,W0.heap.size=C:=⟨_,rfl⟩;rw[hC]at HU⊢;clear hC Hp;generalize W0.alloc (.cells #[.int .i64 (pg:Int)] 3)=W2 at *;refine hKr.out _ _ (qaa he.o) (fun _=>?_);clear hKr Kr;try simp only[zS]
 refine zE 8 32 rfl (fun Kr hKr=>?_);refine Eq.mpr (zaw (by rfl)) ?_;have ho:=He.o.own;rw[Hr.o]at ho;refine qaJ (.tmp 28) (.tmp 31) 23 rfl B 3 j0 _ 1 8 Tryz.underlying23 hj0 jz0 jz1 jz2 rfl (by decide) (.slice A ml c) ml (nums met) rfl ho.row (some ⟨C,0,none⟩) 1 1 [.int .i64 (pg:Int)] rfl HU.o (by simp;rfl) (by unfold maxLen;omega) (by omega) HL ?_;intro A4 c4 W4 q1 q2 q3;have Hf:=qao q2 q3;have hh:=zH (qaz ho HL q1 Hf);have HP:Ev W (.slice A ml c) (.slice A4 (ml+1) c4) W2 W4:=⟨Hf.touch.mono (fun b _ h=>.inr h),Hf.own⟩;have hq:=zH (hp.o.ev He.o HP);have hd:=zH (hc.o.trans HP);have H7:=(zab.1 HH.o).1;have H8:(Value.slice A ml c).ownBlock≠some X:=fun e=>by have:=(Hh e).2;have:=hs.o;omega
 have HI:=zH ((Hf.touch.block X H7 H8).trans HH.o);have HC:=zH ((Hf.touch.block W He.o.lt He.o.mW).trans He.o.nd);have Hl:=zH (show(Value.slice A4 (ml+1) c4).ownBlock≠some W from fun e=>by
  rcases Hf.own W e with h|h
  ·exact He.o.mW h
  ·have:=He.o.lt;omega)
 have HB:=zH (show W4.cell? ⟨W,1,none⟩=some (.slice A ml c)∧W4.cell? ⟨X,0,none⟩=some (.int .i64 (pg:Int))from⟨zC HC.o,zC HI.o⟩);have hu:B≤W4.heap.size:=zah HL Hf.touch.size;clear q1 q2 q3 Hf HP H7 H8 ho;refine hKr.out _ _ (qaa HB.o) (fun _=>?_);clear hKr Kr;try simp only[zS]
 refine zP 9 33 (.pointer (some ⟨W,0,none⟩)) HB.o ?_;try simp only[zS]
 refine zP 10 34 (.pointer (some ⟨W,1,none⟩)) HB.o ?_;try simp only[zS]
 have HF:=zH (show W4.there W 1 1 from there_of_block HC.o 1 (by simp));refine qae (rs:=[11]) (by kernel_rfl) (by simp) ?_;refine AllReadyG.store rfl 23 (.tmp 34) (.tmp 32) rfl rfl rfl W 1 (.slice A4 (ml+1) c4) rfl rfl HF.o (by kernel_rfl) rfl (qaf 11 (by rfl) (by kernel_rfl)) ?_ AllReadyG.nil;have Hn:Touch (fun b=>b=W) W4 (W4.setCell ⟨W,1,none⟩ (.slice A4 (ml+1) c4)):=Touch.setCell (F:=fun b=>b=W) (Touch.refl _ _) (p:=⟨W,1,none⟩) rfl _;have H9:Ev W (.slice A4 (ml+1) c4) (.slice A4 (ml+1) c4) W4 (W4.setCell ⟨W,1,none⟩ (.slice A4 (ml+1) c4)):=⟨Hn.mono (fun b _ h=>.inl h),fun b e=>.inl e⟩;have Hv:=zH (show WkM (W4.setCell ⟨W,1,none⟩ (.slice A4 (ml+1) c4)) B W T (.slice A4 (ml+1) c4) (met++[pg]) 0 from⟨qab HC.o _,H0.o,by
  rw[zad,Hr.o,show nums (met++[pg])=nums met++[.int .i64 (pg:Int)]by unfold nums;simp];exact hh.o.touch Hn (fun b e h=>Hl.o (by rw[e,h])),Hl.o⟩)
 have Hz:=zH (hd.o.trans H9);have HE:=zH (qmn (i:=1) hq.o (.slice A4 (ml+1) c4) H0.o);have HJ:=zH ((Hn.block X (zab.1 HI.o).1 (fun e=>hA.o e)).trans HI.o);have HN:B≤(W4.setCell ⟨W,1,none⟩ (.slice A4 (ml+1) c4)).heap.size:=zah hu Hn.size;clear Hn H9;generalize W4.setCell ⟨W,1,none⟩ (.slice A4 (ml+1) c4)=W5 at Hv Hz HE HJ HN⊢;try simp only[zS]
 refine qad (by kernel_rfl) ?_ _;go_upto_region 7 with fail
 have Hk:=zH (Hv.o.below (zai _ _).drew);have HA:=zH (Hz.o.trans (Ev.below (zai _ _).drew));have Ht:=zH (HE.o.ev Hv.o (Ev.below (zai _ _).drew));have HK:=zH (show W5.drew.heap[X]?=some (.cells #[.int .i64 (pg:Int),.pointer none] 102 (0,0))from HJ.o);have hz:B≤W5.drew.heap.size:=HN;have Ha:=zH (show W5.drew.cell? ⟨W,0,none⟩=some (.pointer (some ⟨T,0,none⟩))∧W5.drew.cell? ⟨T,0,none⟩=some (.pointer (some ⟨G,0,none⟩))∧W5.drew.cell? ⟨X,0,none⟩=some (.int .i64 (pg:Int))from⟨Hk.o.c0,Ht.o.tr.c0,zC HK.o⟩);have Hj:=zH (qjw Ht.o.tr.pg H1.o.1 H1.o.2 hoff);rw[ha.o]at Hj;unfold RdF at Hj;obtain⟨bl,hbl⟩:∃ n,bs.length=n:=⟨_,rfl⟩;have Hq:=zH hbl;simp only at Hj;rw[hbl]at Hj;clear Hv Hz HE HJ HN hbl;refine qac (S:=fun W'=>W'.cell? ⟨W,0,none⟩=some (.pointer (some ⟨T,0,none⟩))∧W'.cell? ⟨T,0,none⟩=some (.pointer (some ⟨G,0,none⟩))∧W'.cell? ⟨X,0,none⟩=some (.int .i64 (pg:Int))) [] (by kernel_rfl) Ha.o (fun _=>?_);generalize W5.drew=W6 at Ha Hk HA Ht HK hz Hj⊢;refine zP 0 36 (.pointer (some ⟨W,0,none⟩)) Ha.o ?_;try simp only[zS]
 refine zP 1 37 (.pointer (some ⟨W,0,none⟩)) Ha.o ?_;try simp only[zS]
 refine zP 2 38 (.pointer (some ⟨W,0,none⟩)) Ha.o ?_;try simp only[zS]
 refine zL 3 39 (.pointer (some ⟨T,0,none⟩)) rfl (Or.inl ⟨by rfl,fun W' hS=>by obtain⟨hS1,hS2,hS3⟩:=hS;go_simp⟩) (qaa Ha.o) ?_;try simp only[zS]
 refine zP 4 40 (.pointer (some ⟨T,0,none⟩)) Ha.o ?_;try simp only[zS]
 refine zP 5 41 (.pointer (some ⟨T,0,none⟩)) Ha.o ?_;try simp only[zS]
 refine zL 6 42 (.pointer (some ⟨G,0,none⟩)) rfl (Or.inl ⟨by rfl,fun W' hS=>by obtain⟨hS1,hS2,hS3⟩:=hS;go_simp⟩) (qaa Ha.o) ?_;try simp only[zS]
 refine zP 7 43 (.pointer (some ⟨X,0,none⟩)) Ha.o ?_;try simp only[zS]
 refine zL 8 44 (.int .i64 (pg:Int)) rfl (Or.inl ⟨by rfl,fun W' hS=>by obtain⟨hS1,hS2,hS3⟩:=hS;go_simp⟩) (qaa Ha.o) ?_;try simp only[zS]
 refine zE 9 45 rfl (fun Kr hKr=>?_);go_simp;go_at_call 60
 refine Hj.o.mono ?_;rintro e W7 ⟨RA,rc,rfl,hro,hrb⟩;have Hs:=zH hro;have H2:=zH hrb;have Hi:=zH (show W7.cell? ⟨W,0,none⟩=some (.pointer (some ⟨T,0,none⟩))∧W7.cell? ⟨T,0,none⟩=some (.pointer (some ⟨G,0,none⟩))∧W7.cell? ⟨X,0,none⟩=some (.int .i64 (pg:Int))from⟨(hrb.cell (p:=⟨W,0,none⟩) Hk.o.lt).trans Ha.o.1,(hrb.cell (p:=⟨T,0,none⟩) Ht.o.tr.lt).trans Ha.o.2.1,(hrb.cell (p:=⟨X,0,none⟩) (zab.1 HK.o).1).trans Ha.o.2.2⟩);clear hro hrb;refine hKr.out _ _ (qaa Hi.o) (fun _=>?_);clear hKr Kr;try simp only[zS]
 refine zP 10 35 (.tuple #[.slice RA bl rc,.int .i64 0]) Hi.o ?_;try simp only[zS]
 refine zP 11 46 (.slice RA bl rc) Hi.o ?_;try simp only[zS]
 refine zP 12 47 (.int .i64 0) Hi.o ?_;try simp only[zS]
 refine zP 13 5 (.slice RA bl rc) Hi.o ?_;try simp only[zS]
 refine zP 14 6 (.int .i64 0) Hi.o ?_;try simp only[zS]
 refine qad (by kernel_rfl) ?_ _;have hD:2≤bl:=by
  have h1:=HX.o;have h2:=Hq.o
  match bs,h1,h2 with
  | [],h1,_=>cases h1
  | [_],h1,_=>cases h1
  | _::_::_,_,h2=>simp at h2;omega
 obtain⟨rb,ro,rfl,hRS,_⟩:=(Hs.o.srcS (S:=fun b=>W6.heap.size≤b∧b<W7.heap.size) (fun b e=>Hs.o.blk b e)).at_ (by omega);have HR:=Hs.o.row.cap;have HY:=zH (qh0 (S:=fun b=>b=rb) (len:=bl) (c:=rc) (By.of_own Hs.o.row Hq.o) rfl Hq.o HR (by have h1:=Hx.o;have h2:=Hq.o;omega) HX.o);unfold DcF at HY;go_wp2_with (go_at_call 61;refine HY.o.mono ?_;rintro e W8 ⟨N,L,rfl,hnm,hb8,hsl⟩;have hg:=zH hnm;have Hw:=zH hb8;have H3:=zH hsl;clear hnm hb8 hsl)
 have HG:=Hk.o.below H2.o;have hr:=HG.below Hw.o;have HQ:=HA.o.trans (Ev.below H2.o);have hH:rb≠W:=fun e=>by have:=Hk.o.lt;omega
 have hE:(Value.slice A4 (ml+1) c4).ownBlock≠some rb:=fun e=>by have:=(Hk.o.own.blk rb e).2;omega
 refine zbs (v:=.pointer (some ⟨N,0,none⟩)) (by simp[results,Tryz.results38,go_sem]) rfl ?_;refine⟨N,L,.slice A4 (ml+1) c4,rfl,hr,HQ.trans (Ev.below Hw.o),NM.mono (fun b hb=>?_) _ _ _ hg.o,⟨fun y hy=>?_,H3.o.nd⟩⟩
 ·rcases hb with hb|hb
  ·subst hb;exact⟨zah HA.o.touch.size hRS.1,zam hRS.2 Hw.o.size,hH,hE⟩
  ·exact⟨zah HQ.touch.size hb.1,hb.2,fun e=>by have:=HG.lt;omega,fun e=>by have:=(HG.own.blk b e).2;omega⟩
 ·rcases H3.o.mem y hy with h|h
  ·cases h
  ·exact .inr (zah HQ.touch.size h)
theorem qlt (w:World)(W N:Nat)(q:Int):Calls Tryz.prog 99 #[.pointer (some ⟨W,0,none⟩),.agg #[.int .i64 q,.pointer (some ⟨N,0,none⟩)]] w (fun e w'=>e=.returned (.pointer (some ⟨N,0,none⟩))∧Below w.heap.size w w'):=by
 go_enter Tryz.func99,Tryz.ntmps99
 go_wp2;exact zbs (v:=.pointer (some ⟨N,0,none⟩)) (by simp[results,Tryz.results99,go_sem]) rfl ⟨rfl,zB _ _⟩
theorem qkT (w:World)(W N:Nat)(q:Int):Calls Tryz.prog 101 #[.pointer (some ⟨W,0,none⟩),.agg #[.int .i64 q,.pointer (some ⟨N,0,none⟩)]] w (fun e w'=>e=.returned (.tuple #[])∧Below w.heap.size w w'):=by
 go_enter Tryz.func101,Tryz.ntmps101
 go_wp2;go_returns;exact⟨rfl,zB _ _⟩
theorem qgJ (A:Option Addr)(n m c d:Nat):(Value.slice A n c).ownBlock=(Value.slice A m d).ownBlock:=by cases A<;>rfl
def PkF (B W T:Nat)(mv:Value)(met:List Nat)(n:Kd)(w:World)(e:Ending)(w':World):Prop:=
 ∃ N L mv',e=.returned (.pointer (some ⟨N,0,none⟩))∧WkM w' B W T mv' met 0∧Ev W mv mv' w w'∧NM w' (FrN W mv' w w') n N L∧Slo w.heap.size [] L
theorem qkr (ht:TrB w B a G d T F p g root1)(hw:WkM w B W T mv met 0)(hB:B≤w.heap.size)(hoff:p.off=false)(hn:qah (p.seen d) g.pages g.use pg=some n)(hm:pg∉met)(hl:met.length≤1000) :
  Calls Tryz.prog 99 #[.pointer (some ⟨W,0,none⟩),.agg #[.int .i64 (pg:Nat),.pointer none]] w (PkF B W T mv met n w):=by
 obtain⟨A,c,hmv,hnc⟩:=hw.own.slice;have HW:=zH hw;have HT:=zH ht;have HM:=zH hm;have HN:=zH hn;obtain⟨ml,hml⟩:∃ n,met.length=n:=⟨_,rfl⟩;have Hf:=zH hml;rw[hml]at hmv hl hnc;subst hmv;clear hw ht hm hn hml;go_enter Tryz.func99,Tryz.ntmps99
 go_upto_region 3 with fail
 have He:=zH (zaf w (.cells #[.int .i64 (pg:Int),.pointer none] 102));have Hh:Below w.heap.size w (w.alloc (.cells #[.int .i64 (pg:Int),.pointer none] 102)):=zB _ _;have Hp:=zH Hh;have Hg:=zH (HW.o.below Hh);have Hx:=zH (HT.o.ev HW.o (Ev.below Hh));have Hr:=zH (show Ev W (.slice A ml c) (.slice A ml c) w (w.alloc (.cells #[.int .i64 (pg:Int),.pointer none] 102))from Ev.below Hh);obtain⟨X,hX⟩:∃ X,w.heap.size=X:=⟨_,rfl⟩;have HP:=zH hX;rw[hX]at He⊢;have HH:=zH (show X≠W by have:=HW.o.lt;omega);have HG:=zH (show(Value.slice A ml c).ownBlock≠some X from fun e=>by have:=(HW.o.own.blk X e).2;omega);clear Hh hX HW HT;generalize w.alloc (.cells #[.int .i64 (pg:Int),.pointer none] 102)=w0 at He Hp Hg Hx Hr⊢;have HA:=zH (qdr (w:=w0.drew) c (qbT (by have h:=(Hg.o.below (zai _ _).drew).own;rw[Hf.o]at h;exact h)) Hf.o (by omega) pg);have Ha:=zH (show w0.drew.cell? ⟨W,1,none⟩=some (.slice A ml c)∧w0.drew.cell? ⟨X,0,none⟩=some (.int .i64 (pg:Int))from⟨Hg.o.c1,by rw[zan _ _ _ _ _ _ (show w0.drew.heap[X]?=_ from He.o)];rfl⟩);refine qac (S:=fun W'=>W'.cell? ⟨W,1,none⟩=some (.slice A ml c)∧W'.cell? ⟨X,0,none⟩=some (.int .i64 (pg:Int))) [] (by kernel_rfl) Ha.o (fun _=>?_);refine zP 0 11 (.pointer (some ⟨W,0,none⟩)) Ha.o ?_;try simp only[zS]
 refine zP 1 12 (.pointer (some ⟨W,0,none⟩)) Ha.o ?_;try simp only[zS]
 refine zP 2 13 (.pointer (some ⟨W,1,none⟩)) Ha.o ?_;try simp only[zS]
 refine zL 3 14 (.slice A ml c) rfl (Or.inl ⟨by rfl,fun W' hS=>by obtain⟨hS1,hS2⟩:=hS;go_simp⟩) (qaa Ha.o) ?_;try simp only[zS]
 refine zP 4 15 (.pointer (some ⟨X,0,none⟩)) Ha.o ?_;try simp only[zS]
 refine zL 5 16 (.int .i64 (pg:Int)) rfl (Or.inl ⟨by rfl,fun W' hS=>by obtain⟨hS1,hS2⟩:=hS;go_simp⟩) (qaa Ha.o) ?_;try simp only[zS]
 refine zE 6 17 rfl (fun Kr hKr=>?_);go_simp;go_at_call 59
 refine HA.o.mono ?_;rintro e W9 ⟨rfl,rfl⟩;rw[zal HM.o];refine hKr.out _ _ (qaa Ha.o) (fun _=>?_);clear hKr Kr;try simp only[zS]
 refine qad (by kernel_rfl) ?_ _;have HE:=zH (show WkM w0.drew B W T (.slice A ml c) met 0 from Hg.o.below (zai _ _).drew);have HJ:w0.drew.cell? ⟨X,0,none⟩=some (.int .i64 (pg:Int)):=Ha.o.2;have HK:w0.drew.cell? ⟨X,1,none⟩=some (.pointer none):=by rw[zan _ _ _ _ _ _ (show w0.drew.heap[X]?=_ from He.o)];rfl
 have Hu:=zH (qb0 (w:=w0.drew) (Hx.o.ev Hg.o (Ev.below (zai _ _).drew)) HE.o (by have:=Hp.o.size;show B≤w0.heap.size;omega) hoff HN.o HM.o (by rw[Hf.o];omega));have Hk:=zH (Hr.o.trans (Ev.below (zai w0.heap.size w0).drew));unfold LdF at Hu;go_upto_region 7 with(first|(go_at_call 38;refine Hu.o.mono ?_;rintro e w2 ⟨N,L,mv2,rfl,hw2,he2,hn2,hs2⟩;have Hc:=zH hw2;have Hs:=zH he2;have HB:=zH hn2;have Hw:=zH hs2;clear hw2 he2 hn2 hs2))
 have HF:=zH ((Hs.o.touch.block X (zab.1 He.o).1 (fun h=>by
  rcases h with h|h
  ·exact HH.o h
  ·exact HG.o h)).trans He.o)
 have Hi:=Hc.o.own;obtain⟨A2,c2,hmv2,hnc2⟩:=Hi.slice;subst hmv2;have Hj:(met++[pg]).length=ml+1:=by rw[zad,Hf.o];rfl
 rw[Hj]at Hi;have HI:=Hc.o.c1;rw[Hj]at HI;have Hq:=zH (qjh (n:=ml) (X:=X) Hi rfl (by omega) (zC HF.o) HM.o);have HL:=zH Hj;have HO:=zH Hi;clear Hi Hj HJ HK;unfold DfF qls at Hq;go_upto_region 8 with(go_at_call 108;go_loud (refine Hq.o.mono ?_;rintro e w3 ⟨rfl,ho3,ht3⟩;have HC:=zH ho3;have HD:=zH ht3;have Hb:=(ht3.block W Hc.o.lt (fun h=>Hc.o.mW ((qgJ _ _ _ _ _).trans h))).trans Hc.o.nd;have HQ:w3.cell? ⟨W,1,none⟩=some (.slice A2 (met++[pg]).length c2):=(zan _ _ _ _ _ _ Hb).trans rfl;have HR:w3.frozen? ⟨W,1,none⟩=false:=zaQ _ _ _ _ _ Hb;have Hl:=zH Hb;clear ho3 ht3 Hb))
 have Hz:(Value.slice A2 ml c2).ownBlock≠some W:=fun h=>Hc.o.mW ((qgJ _ _ _ _ _).trans h);have Hn:Ev W (.slice A2 (met++[pg]).length c2) (.slice A2 ml c2) w2 w3:=⟨HD.o.mono (fun b _ h=>.inr ((qgJ _ _ _ _ _).trans h)),fun b e=>.inl ((qgJ _ _ _ _ _).trans e)⟩;have Hm:Touch (fun b=>b=W) w3 (w3.setCell ⟨W,1,none⟩ (.slice A2 ml c2)):=Touch.setCell (F:=fun b=>b=W) (Touch.refl _ _) (p:=⟨W,1,none⟩) rfl _;have Ho:Ev W (.slice A2 ml c2) (.slice A2 ml c2) w3 (w3.setCell ⟨W,1,none⟩ (.slice A2 ml c2)):=⟨Hm.mono (fun b _ h=>.inl h),fun b e=>.inl e⟩;have Hy:=zH (show WkM (w3.setCell ⟨W,1,none⟩ (.slice A2 ml c2)) B W T (.slice A2 ml c2) met 0 from⟨qab Hl.o _,Hc.o.lo,by rw[Hf.o];exact HC.o.touch Hm (fun b e h=>Hz (by rw[e,h])),Hz⟩);have Ht:=zH (((Hk.o.trans Hs.o).trans Hn).trans Ho);have Hv:=zH (NM.mono (FrN.base Hk.o.touch.size) _ _ _ (HB.o.evn (Hn.trans Ho)));clear Hn Hm Ho;generalize w3.setCell ⟨W,1,none⟩ (.slice A2 ml c2)=w5 at Hy Ht Hv⊢;go_wp2;refine zbs (v:=.pointer (some ⟨N,0,none⟩)) (by simp[results,Tryz.results99,go_sem]) rfl ?_;refine⟨N,L,.slice A2 ml c2,rfl,Hy.o,Ht.o,Hv.o,⟨fun y hy=>?_,Hw.o.nd⟩⟩;rcases Hw.o.mem y hy with h|h
 ·cases h
 ·exact .inr (zah Hk.o.touch.size h)
def TkF (B W T:Nat)(mv:Value)(met:List Nat)(w:World)(e:Ending)(w':World):Prop:=
 ∃ mv',e=.returned (.tuple #[])∧WkM w' B W T mv' met 0∧Ev W mv mv' w w'
theorem qjM (hw:WkM w B W T mv met 0)(hB:B≤w.heap.size)(hl:met.length≤100000) :
  Calls Tryz.prog 101 #[.pointer (some ⟨W,0,none⟩),.agg #[.int .i64 (pg:Nat),.pointer none]] w (TkF B W T mv (met++[pg]) w):=by
 obtain⟨A,c,hmv,hnc⟩:=hw.own.slice;have HW:=zH hw;obtain⟨ml,hml⟩:∃ n,met.length=n:=⟨_,rfl⟩;have Hu:=zH hml;rw[hml]at hmv hl hnc;subst hmv;obtain⟨j0,hj0,jz0,jz1,jz2⟩:=zaT qgz;clear hw hml;go_enter Tryz.func101,Tryz.ntmps101
 go_upto_region 2 with fail
 have Hf:=zH (zaf w (.cells #[.int .i64 (pg:Int),.pointer none] 102));have Hg:Below w.heap.size w (w.alloc (.cells #[.int .i64 (pg:Int),.pointer none] 102)):=zB _ _;have Hm:=zH (HW.o.below Hg);have Hi:=zH (show Ev W (.slice A ml c) (.slice A ml c) w (w.alloc (.cells #[.int .i64 (pg:Int),.pointer none] 102))from Ev.below Hg);have Hw:B≤(w.alloc (.cells #[.int .i64 (pg:Int),.pointer none] 102)).heap.size:=zah hB Hg.size;obtain⟨X,hX⟩:∃ X,w.heap.size=X:=⟨_,rfl⟩;have HG:=zH hX;rw[hX]at Hf⊢;have HF:=zH (show(Value.slice A ml c).ownBlock≠some X from fun e=>by have:=(HW.o.own.blk X e).2;omega);clear Hg hX HW;generalize w.alloc (.cells #[.int .i64 (pg:Int),.pointer none] 102)=w0 at Hf Hm Hi Hw⊢;have Hn:=zH (show WkM w0.drew B W T (.slice A ml c) met 0 from Hm.o.below (zai _ _).drew);have Ho:=zH (show w0.drew.heap[X]?=some (.cells #[.int .i64 (pg:Int),.pointer none] 102 (0,0))from Hf.o);have Hs:=zH (show Ev W (.slice A ml c) (.slice A ml c) w w0.drew from Hi.o.trans (Ev.below (zai _ _).drew));have Ha:=zH (show w0.drew.cell? ⟨W,1,none⟩=some (.slice A ml c)∧w0.drew.cell? ⟨X,0,none⟩=some (.int .i64 (pg:Int))from⟨Hn.o.c1,zC Ho.o⟩);have Hx:B≤w0.drew.heap.size:=Hw;clear Hf Hm Hi;refine qac (S:=fun W'=>W'.cell? ⟨W,1,none⟩=some (.slice A ml c)∧W'.cell? ⟨X,0,none⟩=some (.int .i64 (pg:Int))) [11] (by kernel_rfl) Ha.o (fun _=>?_);generalize w0.drew=W0 at Ha Hn Ho Hs Hx⊢;refine zP 0 7 (.pointer (some ⟨W,0,none⟩)) Ha.o ?_;try simp only[zS]
 refine zP 1 8 (.pointer (some ⟨W,0,none⟩)) Ha.o ?_;try simp only[zS]
 refine zP 2 9 (.pointer (some ⟨W,0,none⟩)) Ha.o ?_;try simp only[zS]
 refine zP 3 10 (.pointer (some ⟨W,1,none⟩)) Ha.o ?_;try simp only[zS]
 refine zL 4 11 (.slice A ml c) rfl (Or.inl ⟨by rfl,fun W' hS=>by obtain⟨hS1,hS2⟩:=hS;go_simp⟩) (qaa Ha.o) ?_;try simp only[zS]
 refine zP 5 12 (.pointer (some ⟨X,0,none⟩)) Ha.o ?_;try simp only[zS]
 refine zL 6 13 (.int .i64 (pg:Int)) rfl (Or.inl ⟨by rfl,fun W' hS=>by obtain⟨hS1,hS2⟩:=hS;go_simp⟩) (qaa Ha.o) ?_;try simp only[zS]
 refine zE 7 14 rfl (fun Kr hKr=>?_);refine Eq.mpr (zaw (by rfl)) ?_;refine qaP 23 (.tmp 13) rfl Tryz.underlying23 hj0 jz0 jz1 (by decide) (by decide) (.int .i64 (pg:Int)) rfl [.int .i64 (pg:Int)] (by rfl) rfl ?_;have Hh:Below W0.heap.size W0 (W0.alloc (.cells #[.int .i64 (pg:Int)] 3)):=zB _ _;have Hb:=zH (Hn.o.below Hh);have HA:=zH (Hs.o.trans (Ev.below Hh));have Hp:=zH (qap (.cells #[.int .i64 (pg:Int)] 3) Ho.o);have Hr:=zH (show Src (W0.alloc (.cells #[.int .i64 (pg:Int)] 3)) 1 (some ⟨W0.heap.size,0,none⟩) 1 [.int .i64 (pg:Int)]from qaE (zaf W0 (.cells #[.int .i64 (pg:Int)] 3)) rfl);have HC:=zH (show(W0.alloc (.cells #[.int .i64 (pg:Int)] 3)).cell? ⟨W,1,none⟩=some (.slice A ml c)∧(W0.alloc (.cells #[.int .i64 (pg:Int)] 3)).cell? ⟨X,0,none⟩=some (.int .i64 (pg:Int))from⟨Hb.o.c1,zC Hp.o⟩);have Hy:B≤(W0.alloc (.cells #[.int .i64 (pg:Int)] 3)).heap.size:=zah Hx Hh.size;obtain⟨C,hC⟩:∃ C,W0.heap.size=C:=⟨_,rfl⟩;rw[hC]at Hr⊢;clear hC Hh;generalize W0.alloc (.cells #[.int .i64 (pg:Int)] 3)=W2 at *;refine hKr.out _ _ (qaa HC.o) (fun _=>?_);clear hKr Kr;try simp only[zS]
 refine zE 8 15 rfl (fun Kr hKr=>?_);refine Eq.mpr (zaw (by rfl)) ?_;have ho:=Hb.o.own;rw[Hu.o]at ho;refine qaJ (.tmp 11) (.tmp 14) 23 rfl B 3 j0 _ 1 8 Tryz.underlying23 hj0 jz0 jz1 jz2 rfl (by decide) (.slice A ml c) ml (nums met) rfl ho.row (some ⟨C,0,none⟩) 1 1 [.int .i64 (pg:Int)] rfl Hr.o (by simp;rfl) (by unfold maxLen;omega) (by omega) Hy ?_;intro A4 c4 W4 q1 q2 q3;have Hc:=qao q2 q3;have HD:=zH (qaz ho Hy q1 Hc);have HB:=zH (HA.o.trans (show Ev W (.slice A ml c) (.slice A4 (ml+1) c4) W2 W4 from⟨Hc.touch.mono (fun b _ h=>.inr h),Hc.own⟩));have HE:=zH ((Hc.touch.block X (zab.1 Hp.o).1 HF.o).trans Hp.o);have Hk:=zH ((Hc.touch.block W Hb.o.lt Hb.o.mW).trans Hb.o.nd);have He:=zH (show(Value.slice A4 (ml+1) c4).ownBlock≠some W from fun e=>by
  rcases Hc.own W e with h|h
  ·exact Hb.o.mW h
  ·have:=Hb.o.lt;omega)
 have Hj:=zH (show W4.cell? ⟨W,1,none⟩=some (.slice A ml c)∧W4.cell? ⟨X,0,none⟩=some (.int .i64 (pg:Int))from⟨zC Hk.o,zC HE.o⟩);clear q1 q2 q3 Hc ho;refine hKr.out _ _ (qaa Hj.o) (fun _=>?_);clear hKr Kr;try simp only[zS]
 refine zP 9 16 (.pointer (some ⟨W,0,none⟩)) Hj.o ?_;try simp only[zS]
 refine zP 10 17 (.pointer (some ⟨W,1,none⟩)) Hj.o ?_;try simp only[zS]
 have Hl:=zH (show W4.there W 1 1 from there_of_block Hk.o 1 (by simp));refine qae (rs:=[11]) (by kernel_rfl) (by simp) ?_;refine AllReadyG.store rfl 23 (.tmp 17) (.tmp 15) rfl rfl rfl W 1 (.slice A4 (ml+1) c4) rfl rfl Hl.o (by kernel_rfl) rfl (qaf 11 (by rfl) (by kernel_rfl)) ?_ AllReadyG.nil;have Hq:Touch (fun b=>b=W) W4 (W4.setCell ⟨W,1,none⟩ (.slice A4 (ml+1) c4)):=Touch.setCell (F:=fun b=>b=W) (Touch.refl _ _) (p:=⟨W,1,none⟩) rfl _;have Hz:Ev W (.slice A4 (ml+1) c4) (.slice A4 (ml+1) c4) W4 (W4.setCell ⟨W,1,none⟩ (.slice A4 (ml+1) c4)):=⟨Hq.mono (fun b _ h=>.inl h),fun b e=>.inl e⟩;have Hv:=zH (show WkM (W4.setCell ⟨W,1,none⟩ (.slice A4 (ml+1) c4)) B W T (.slice A4 (ml+1) c4) (met++[pg]) 0 from⟨qab Hk.o _,Hb.o.lo,by
  rw[zad,Hu.o,show nums (met++[pg])=nums met++[.int .i64 (pg:Int)]by unfold nums;simp];exact HD.o.touch Hq (fun b e h=>He.o (by rw[e,h])),He.o⟩)
 have Ht:=zH (HB.o.trans Hz);clear Hq Hz;generalize W4.setCell ⟨W,1,none⟩ (.slice A4 (ml+1) c4)=W5 at Hv Ht⊢;try simp only[zS]
 refine qad (by kernel_rfl) ?_ _;go_wp2;go_returns;exact⟨_,rfl,Hv.o,Ht.o⟩
structure EvM (M M':Nat→Prop) (w w':World):Prop where
 touch:Touch M w w'
 own:∀ b,M' b→M b∨(w.heap.size≤b∧b<w'.heap.size)
theorem EvM.refl (M:Nat→Prop)(w:World):EvM M M w w:=⟨Touch.refl _ _,fun _ h=>.inl h⟩
theorem EvM.below (h:Below w.heap.size w w'):EvM M M w w':=⟨Touch.of_below h,fun _ h=>.inl h⟩
theorem EvM.trans {M3:Nat→Prop}{a c:World}(h:EvM M1 M2 a b)(k:EvM M2 M3 b c):EvM M1 M3 a c:=by
 refine⟨⟨k.touch.os.trans h.touch.os,k.touch.tape.trans h.touch.tape,k.touch.output.trans h.touch.output,zah h.touch.size k.touch.size,fun i hi hn=>?_⟩,fun i hi=>?_⟩
 ·refine(k.touch.block i (zam hi h.touch.size) (fun h2=>?_)).trans (h.touch.block i hi hn);rcases h.own i h2 with h3|h3
  ·exact hn h3
  ·omega
 ·rcases k.own i hi with h2|h2
  ·rcases h.own i h2 with h3|h3
   ·exact .inl h3
   ·exact .inr ⟨h3.1,zam h3.2 k.touch.size⟩
  ·exact .inr ⟨zah h.touch.size h2.1,h2.2⟩
def MW (W:Nat)(mv:Value):Nat→Prop:=fun b=>b=W∨mv.ownBlock=some b
def NB (N:Nat)(k v x:Value):Nat→Prop:=fun b=>b=N∨k.ownBlock=some b∨v.ownBlock=some b∨x.ownBlock=some b
def MS (W:Nat)(mv:Value)(N:Nat)(k v x:Value):Nat→Prop:=fun b=>MW W mv b∨NB N k v x b
theorem Ev.evm (h:Ev W mv mv' w w'):EvM (MW W mv) (MW W mv') w w':=⟨h.touch,fun b hb=>by
 rcases hb with hb|hb
 ·exact .inl (.inl hb)
 ·rcases h.own b hb with h1|h1
  ·exact .inl (.inr h1)
  ·exact .inr h1⟩
theorem EvM.orL {R:Nat→Prop}(h:EvM M M' w w'):EvM (fun b=>M b∨R b) (fun b=>M' b∨R b) w w':=⟨h.touch.mono (fun _ _ h=>.inl h),fun b hb=>by
 rcases hb with hb|hb
 ·rcases h.own b hb with h1|h1
  ·exact .inl (.inl h1)
  ·exact .inr h1
 ·exact .inl (.inr hb)⟩
def Grow (S M':Nat→Prop)(w w':World):Nat→Prop:=fun b=>S b∨(w.heap.size≤b∧b<w'.heap.size∧¬M' b)
structure SOk (S M:Nat→Prop) (w:World):Prop where
 lt:∀ b,S b→b<w.heap.size
 ap:∀ b,S b→¬M b
theorem SOk.grow (h:SOk S M w)(he:EvM M M' w w'):SOk (Grow S M' w w') M' w':=
 ⟨fun b hb=>by
  rcases hb with hb|hb
  ·exact zam (h.lt b hb) he.touch.size
  ·exact hb.2.1,fun b hb hm=>by
  rcases hb with hb|hb
  ·rcases he.own b hm with h1|h1
   ·exact h.ap b hb h1
   ·have:=h.lt b hb;omega
  ·exact hb.2.2 hm⟩
theorem Grow.trans {w2:World}(h:w.heap.size≤w1.heap.size)(he:EvM M1 M2 w1 w2):∀ b,Grow (Grow S M1 w w1) M2 w1 w2 b→Grow S M2 w w2 b:=fun b hb=>by
 rcases hb with(hb|⟨h1,h2,h3⟩)|⟨h1,h2,h3⟩
 ·exact .inl hb
 ·refine .inr ⟨h1,zam h2 he.touch.size,fun hm=>?_⟩;rcases he.own b hm with h4|h4
  ·exact h3 h4
  ·omega
 ·exact .inr ⟨by omega,h2,h3⟩
theorem KM.evm {L:List (Nat×Nat)}(h:KM w S xs vs L)(hs:SOk S M w)(he:EvM M M' w w'):KM w' (Grow S M' w w') xs vs L:=
 KM.mono (fun _ h=>.inl h) _ _ _ (h.touch he.touch hs.ap)
theorem NM.evm {L:List (Nat×Nat)}(h:NM w S k N L)(hs:SOk S M w)(he:EvM M M' w w'):NM w' (Grow S M' w w') k N L:=
 NM.mono (fun _ h=>.inl h) _ _ _ (h.touch he.touch hs.ap)
theorem RowV.evm {vs:List Value}(h:RowV w S vs ks)(hs:SOk S M w)(he:EvM M M' w w'):RowV w' (Grow S M' w w') vs ks:=
 (h.same (Same.of_touch he.touch hs.ap)).mono fun _ h=>.inl h
structure MgI (w:World) (B W T:Nat) (mv:Value) (met:List Nat) (N:Nat) (k:Value) (vk:List Value) (v x:Value) (vs:List Kv) (ks:List Bs) (xs:List Kd) (L:List (Nat×Nat)) (S:Nat→Prop):Prop where
 wk:WkM w B W T mv met 0
 q:NdQ w B N false k v x k ks.length vk v 0 [] x xs.length (vs.flatMap qaI)
 rk:RowV w S vk ks
 km:KM w S xs vs L
 so:SOk S (MS W mv N k v x) w
 ap:∀ b,MW W mv b→¬NB N k v x b
theorem MgI.nbLt {k:Value}{L:List (Nat×Nat)}(h:MgI w B W T mv met N k vk v x vs ks xs L S):∀ b,NB N k v x b→b<w.heap.size:=fun b hb=>by
 rcases hb with hb|hb|hb|hb
 ·rw[hb];exact h.q.lt
 ·exact(h.q.ko.blk b hb).2
 ·exact(h.q.vo.blk b hb).2
 ·exact(h.q.xo.blk b hb).2
theorem MgI.walk {met':List Nat}{k:Value}{L:List (Nat×Nat)}(h:MgI w B W T mv met N k vk v x vs ks xs L S)(he:Ev W mv mv' w w')(hw:WkM w' B W T mv' met' 0) :
  MgI w' B W T mv' met' N k vk v x vs ks xs L (Grow S (MS W mv' N k v x) w w')∧EvM (MS W mv N k v x) (MS W mv' N k v x) w w':=by
 have e:EvM (MS W mv N k v x) (MS W mv' N k v x) w w':=he.evm.orL;have hn:∀ b,NB N k v x b→¬MW W mv b:=fun b hb hm=>h.ap b hm hb;refine⟨⟨hw,h.q.touch he.touch (hn N (.inl rfl)) (fun b hb=>hn b (.inr (.inl hb))) (fun b hb=>hn b (.inr (.inr (.inl hb)))) (fun b hb=>hn b (.inr (.inr (.inr hb)))),h.rk.evm h.so e,h.km.evm h.so e,h.so.grow e,fun b hm hb=>?_⟩,e⟩;rcases he.evm.own b hm with h1|h1
 ·exact h.ap b h1 hb
 ·have:=h.nbLt b hb;omega
theorem qmk {P A A' R:List (Nat×Nat)}(h:Slo B A A')(hl:∀ y∈P++R,y.1<B):Slo B (P++A++R) (P++A'++R):=by
 refine⟨fun y hy=>?_,fun hn=>?_⟩
 ·rcases zar.1 hy with hy|hy
  ·rcases zar.1 hy with hy|hy
   ·exact .inl (by simp[hy])
   ·rcases h.mem y hy with h1|h1
    ·exact .inl (by simp[h1])
    ·exact .inr h1
  ·exact .inl (by simp[hy])
 ·obtain⟨h1,hR,h2⟩:=zaD.1 hn;obtain⟨hP,hA,h3⟩:=zaD.1 h1;refine zaD.2 ⟨zaD.2 ⟨hP,h.nd hA,fun a ha b hb e=>?_⟩,hR,fun a ha b hb e=>?_⟩
  ·subst e;rcases h.mem a hb with h4|h4
   ·exact h3 a ha a h4 rfl
   ·have:=hl a (by simp[ha]);omega
  ·subst e;rcases zar.1 ha with h4|h4
   ·exact h2 a (by simp[h4]) a hb rfl
   ·rcases h.mem a h4 with h5|h5
    ·exact h2 a (by simp[h5]) a hb rfl
    ·have:=hl a (by simp[hb]);omega
theorem qml {A A' R R':List (Nat×Nat)}(h:Slo B A A')(k:Slo B R R')(hl:∀ y∈A++R,y.1<B){C:Nat}(hA:∀ y∈A',y.1<C)(hR:∀ y∈R',y∈R∨C≤y.1):Slo B (A++R) (A'++R'):=by
 refine⟨fun y hy=>?_,fun hn=>?_⟩
 ·rcases zar.1 hy with hy|hy
  ·rcases h.mem y hy with h1|h1
   ·exact .inl (by simp[h1])
   ·exact .inr h1
  ·rcases k.mem y hy with h1|h1
   ·exact .inl (by simp[h1])
   ·exact .inr h1
 ·obtain⟨h1,h2,h3⟩:=zaD.1 hn;refine zaD.2 ⟨h.nd h1,k.nd h2,fun a ha b hb e=>?_⟩;subst e;rcases hR a hb with h4|h4
  ·rcases h.mem a ha with h5|h5
   ·exact h3 a h5 a h4 rfl
   ·have:=hl a (by simp[h4]);omega
  ·have:=hA a ha;omega
def kidV (v:Kv):Value:=.agg #[.int .i64 v.1,.pointer (v.2.map fun N=>⟨N,0,none⟩)]
def PdF (B W T:Nat)(mv:Value)(met:List Nat)(S:Nat→Prop)(n:Kd)(La:List (Nat×Nat))(w:World)(e:Ending)(w':World):Prop:=
 ∃ N L mv',e=.returned (.pointer (some ⟨N,0,none⟩))∧WkM w' B W T mv' met 0∧Ev W mv mv' w w'∧NM w' (fun b=>S b∨FrN W mv' w w' b) n N L∧Slo w.heap.size La L
theorem qiU (ht:TrB w B a G d T F p g root1)(hw:WkM w B W T mv met 0)(hB:B≤w.heap.size)(hoff:p.off=false){v:Kv}{La:List (Nat×Nat)}(hk:KidM w S y v La)(hS:∀ b,S b→¬MW W mv b)(hn:qb1 (qah (p.seen d) g.pages g.use) met y=some n)(hl:met.length≤1000) :
  Calls Tryz.prog 99 #[.pointer (some ⟨W,0,none⟩),kidV v] w (PdF B W T mv met S n La w):=by
 rcases hk with⟨pg,rfl,rfl,rfl⟩|⟨N,rfl,hk⟩
 ·have Ha:(if pg∈met then none else qah (p.seen d) g.pages g.use pg)=some n:=hn;have hm:pg∉met:=fun h=>by
   rw[zaw h]at Ha;cases Ha
  ·rw[zaB hm]at Ha;refine(qkr ht hw hB hoff Ha hm hl).mono ?_;rintro e w' ⟨N,L,mv',h1,h2,h3,h4,h5⟩;exact⟨N,L,mv',h1,h2,h3,NM.mono (fun _ h=>.inr h) _ _ _ h4,h5⟩
 ·have hy:n=y:=by
   cases y with
   | page q=>simp only[NM]at hk
   | leaf ps=>simp only[qb1,zax]at hn;exact hn.symm
   | inner ks xs=>simp only[qb1,zax]at hn;exact hn.symm
  subst hy;refine(qlt w W N 0).mono ?_;rintro e w' ⟨h1,h2⟩;exact⟨N,La,mv,h1,hw.below h2,Ev.below h2,NM.mono (fun _ h=>.inl h) _ _ _ (hk.below h2),Slo.refl _ _⟩
def TdF (B W T:Nat)(mv:Value)(met:List Nat)(w:World)(e:Ending)(w':World):Prop:=
 ∃ mv',e=.returned (.tuple #[])∧WkM w' B W T mv' met 0∧Ev W mv mv' w w'
theorem qhL (hw:WkM w B W T mv met 0)(hB:B≤w.heap.size){v:Kv}{La:List (Nat×Nat)}(hk:KidM w0 S y v La)(hl:met.length≤100000) :
  Calls Tryz.prog 101 #[.pointer (some ⟨W,0,none⟩),kidV v] w (TdF B W T mv (met++pageOf y) w):=by
 rcases hk with⟨pg,rfl,rfl,rfl⟩|⟨N,rfl,hk⟩
 ·exact qjM hw hB hl
 ·have hy:pageOf y=[]:=by
   cases y with
   | page q=>simp only[NM]at hk
   | leaf ps=>rfl
   | inner ks xs=>rfl
  rw[hy,zaG];refine(qkT w W N 0).mono ?_;rintro e w' ⟨h1,h2⟩;exact⟨mv,h1,hw.below h2,Ev.below h2⟩
end Go.Proofs.YtpmebcgmgfcmiaaGreatDoor
