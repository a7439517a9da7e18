/- Texts WkMem LdA PkA MgMem MgMemB MgA EnA InZ ChA ChB WrA WrC WrD WrE WrG SwA SwB ChC ApA GeA PuA CoA. -/
import Derived.Test.YtfcknhbmeofniaaGreatDoorR17
import Derived.Test.YtfcknhbmeofniaaGreatDoorR19
set_option linter.all false
set_option maxRecDepth 100000
set_option maxHeartbeats 16000000
namespace Go.Proofs.YtfcknhbmeofniaaGreatDoor
open Go.RowKit BT Go.Lib
variable {w w' b w0 w1:World}{B W T N G d root1:Nat}{mv mv' v x:Value}{met:List Nat}{e:Int}{a:PA}{S0 F M M1 M2 M' S:Nat→Prop}{k:Kd}{A:Option Addr}{p:Pl}{g:Pg}{xs:List Kd}{vs:List Kv}{ks:List Bs}{vk:List Value}
structure WkM (w:World) (B W T:Nat) (mv:Value) (met:List Nat) (e:Int):Prop where
 nd:w.heap[W]?=some (.cells #[.pointer (some ⟨T,0,none⟩),mv,.int .i64 e] 170 (0,0))
 lo:B≤W
 own:Own w B 3 1 mv met.length (nums met)
 mW:mv.ownBlock≠some W
theorem WkM.lt (h:WkM w B W T mv met e):W<w.heap.size:=(zaa.1 h.nd).1
theorem WkM.c0 (h:WkM w B W T mv met e):w.cell? ⟨W,0,none⟩=some (.pointer (some ⟨T,0,none⟩)):=zC h.nd
theorem WkM.c1 (h:WkM w B W T mv met e):w.cell? ⟨W,1,none⟩=some mv:=zC h.nd
theorem WkM.c2 (h:WkM w B W T mv met e):w.cell? ⟨W,2,none⟩=some (.int .i64 e):=zC h.nd
structure Ev (W:Nat) (mv mv':Value) (w w':World):Prop where
 touch:Touch (fun b=>b=W∨mv.ownBlock=some b) w w'
 own:∀ b,mv'.ownBlock=some b→mv.ownBlock=some b∨(w.heap.size≤b∧b<w'.heap.size)
theorem Ev.refl (W:Nat)(mv:Value)(w:World):Ev W mv mv w w:=⟨Touch.refl _ _,fun _ h=>.inl h⟩
theorem Ev.below (h:Below w.heap.size w w'):Ev W mv mv w w':=⟨Touch.of_below h,fun _ h=>.inl h⟩
theorem Ev.trans {m1 m2 m3:Value}{a c:World}(h:Ev W m1 m2 a b)(k:Ev W m2 m3 b c):Ev W m1 m3 a c:=by
 refine⟨⟨k.touch.os.trans h.touch.os,k.touch.tape.trans h.touch.tape,k.touch.output.trans h.touch.output,zam h.touch.size k.touch.size,fun i hi hn=>?_⟩,fun i hi=>?_⟩
 ·refine(k.touch.block i (zag hi h.touch.size) (fun h2=>?_)).trans (h.touch.block i hi hn);rcases h2 with h2|h2
  ·exact hn (.inl h2)
  ·rcases h.own i h2 with h3|h3
   ·exact hn (.inr h3)
   ·omega
 ·rcases k.own i hi with h2|h2
  ·rcases h.own i h2 with h3|h3
   ·exact .inl h3
   ·exact .inr ⟨h3.1,zag h3.2 k.touch.size⟩
  ·exact .inr ⟨zam h.touch.size h2.1,h2.2⟩
theorem WkM.below (h:WkM w B W T mv met e)(hb:Below w.heap.size w w'):WkM w' B W T mv met e:=
 ⟨(hb.block W h.lt).trans h.nd,h.lo,h.own.below (zad _) hb,h.mW⟩
def NS (S0:Nat→Prop)(B W:Nat)(mv:Value)(w:World):Nat→Prop:=fun b=>S0 b∨(B≤b∧b<w.heap.size∧b≠W∧mv.ownBlock≠some b)
theorem NS.ev (h:Ev W mv mv' w w'):∀ b,NS S0 B W mv w b→NS S0 B W mv' w' b:=fun b hb=>by
 rcases hb with hb|⟨h1,h2,h3,h4⟩
 ·exact .inl hb
 ·refine .inr ⟨h1,zag h2 h.touch.size,h3,fun e=>?_⟩;rcases h.own b e with h5|h5
  ·exact h4 h5
  ·omega
theorem NS.apart (hw:WkM w B W T mv met e)(h0:∀ b,S0 b→b<B):∀ b,NS S0 B W mv w b→¬(b=W∨mv.ownBlock=some b):=fun b hb=>by
 rcases hb with hb|⟨_,_,h3,h4⟩
 ·have:=h0 b hb;rintro(h|h)
  ·have:=hw.lo;omega
  ·have:=(hw.own.blk b h).1;omega
 ·rintro(h|h)
  ·exact h3 h
  ·exact h4 h
theorem NS.fr (hw:WkM w B W T mv met e)(hB:B≤w.heap.size)(hb:w.heap.size≤w'.heap.size):∀ b,Fr (NS S0 B W mv w) w w' b→NS S0 B W mv w' b:=fun b h=>by
 rcases h with(h|⟨h1,h2,h3,h4⟩)|⟨h1,h2⟩
 ·exact .inl h
 ·exact .inr ⟨h1,zag h2 hb,h3,h4⟩
 ·refine .inr ⟨by omega,h2,fun e=>?_,fun e=>?_⟩
  ·have:=hw.lt;omega
  ·have:=(hw.own.blk b e).2;omega
theorem NM.ev {L:List (Nat×Nat)}(h:NM w (NS S0 B W mv w) k N L)(hw:WkM w B W T mv met e)(h0:∀ b,S0 b→b<B)(he:Ev W mv mv' w w'):NM w' (NS S0 B W mv' w') k N L:=
 NM.mono (NS.ev he) _ _ _ (h.touch he.touch (NS.apart hw h0))
theorem ByS.ev {l:Bs}(h:ByS w (NS S0 B W mv w) A l)(hw:WkM w B W T mv met e)(h0:∀ b,S0 b→b<B)(he:Ev W mv mv' w w'):ByS w' (NS S0 B W mv' w') A l:=
 (h.same (Same.of_touch he.touch (NS.apart hw h0))).mono (NS.ev he)
def FrN (W:Nat)(mv:Value)(w0 w:World):Nat→Prop:=fun b=>w0.heap.size≤b∧b<w.heap.size∧b≠W∧mv.ownBlock≠some b
theorem FrN.ev (h:Ev W mv mv' w w'):∀ b,FrN W mv w0 w b→FrN W mv' w0 w' b:=fun b ⟨h1,h2,h3,h4⟩=>
 ⟨h1,zag h2 h.touch.size,h3,fun e=>by
  rcases h.own b e with h5|h5
  ·exact h4 h5
  ·omega⟩
theorem FrN.apart:∀ b,FrN W mv w0 w b→¬(b=W∨mv.ownBlock=some b):=fun _ ⟨_,_,h3,h4⟩ h=>h.elim h3 h4
theorem FrN.base (h:w0.heap.size≤w1.heap.size):∀ b,FrN W mv w1 w b→FrN W mv w0 w b:=fun _ ⟨h1,h2,h3,h4⟩=>⟨zam h h1,h2,h3,h4⟩
structure TrM (w:World) (a:PA) (G d T:Nat) (F:Nat→Prop) (p:Pl) (g:Pg) (root1:Nat):Prop where
 pg:PgM w a G d F p g
 t:w.heap[T]?=some (.cells #[.pointer (some ⟨G,0,none⟩),.int .i64 ((root1:Int)-1)] 159 (0,0))
 nT:¬GF F G T∧T≠2
theorem TrM.lt (h:TrM w a G d T F p g root1):T<w.heap.size:=(zaa.1 h.t).1
theorem TrM.c0 (h:TrM w a G d T F p g root1):w.cell? ⟨T,0,none⟩=some (.pointer (some ⟨G,0,none⟩)):=zC h.t
theorem TrM.c1 (h:TrM w a G d T F p g root1):w.cell? ⟨T,1,none⟩=some (.int .i64 ((root1:Int)-1)):=zC h.t
theorem TrM.below (h:TrM w a G d T F p g root1)(hb:Below w.heap.size w w'):TrM w' a G d T F p g root1:=
 ⟨h.pg.below hb,(hb.block T h.lt).trans h.t,h.nT⟩
structure TrB (w:World) (B:Nat) (a:PA) (G d T:Nat) (F:Nat→Prop) (p:Pl) (g:Pg) (root1:Nat):Prop where
 tr:TrM w a G d T F p g root1
 hF:∀ b,F b→b<B
 hG:G<B
 hT:T<B
 h1:2<B
theorem TrB.ev (h:TrB w B a G d T F p g root1)(hw:WkM w B W T mv met e)(he:Ev W mv mv' w w'):TrB w' B a G d T F p g root1:=by
 have hn:∀ b,b<B→¬(b=W∨mv.ownBlock=some b):=fun b hb=>by
  rintro(h|h)
  ·have:=hw.lo;omega
  ·have:=(hw.own.blk b h).1;omega
 refine⟨⟨h.tr.pg.touch he.touch (fun b hb=>hn b ?_) (hn 2 h.h1),(he.touch.block T h.tr.lt (hn T h.hT)).trans h.tr.t,h.tr.nT⟩,h.hF,h.hG,h.hT,h.h1⟩;rcases hb with hb|hb
 ·exact h.hF b hb
 ·rw[hb];exact h.hG
theorem ql9:(Tryz.prog.info? 3).map (fun i=>(i.zero,i.size,i.bytes))=some (some (.int .i64 0),1,8):=by kernel_rfl
def LdF (B W T:Nat)(mv:Value)(met:List Nat)(pg:Nat)(n:Kd)(w:World)(e:Ending)(w':World):Prop:=
 ∃ N L mv',e=.returned (.pointer (some ⟨N,0,none⟩))∧WkM w' B W T mv' (met++[pg]) 0∧Ev W mv mv' w w'∧NM w' (FrN W mv' w w') n N L∧Slo w.heap.size [] L
theorem qgk {n c:Nat}(h:Own w B 3 1 (.slice A n c) n (nums met)):NumsAt w A met:=NumsAt.of_row h.row
theorem qmy (h:TrB w B a G d T F p g root1){i:Nat}(v:Value)(hW:B≤W):TrB (w.setCell ⟨W,i,none⟩ v) B a G d T F p g root1:=by
 have hT:Touch (fun b=>b=W) w (w.setCell ⟨W,i,none⟩ v):=Touch.setCell (F:=fun b=>b=W) (Touch.refl _ _) (p:=⟨W,i,none⟩) rfl _;refine⟨⟨h.tr.pg.touch hT (fun b hb e=>?_) (fun e=>by have:=h.h1;omega),(hT.block T h.tr.lt (fun e=>by have:=h.hT;omega)).trans h.tr.t,h.tr.nT⟩,h.hF,h.hG,h.hT,h.h1⟩;rcases hb with hb|hb
 ·have:=h.hF b hb;omega
 ·have:=h.hG;omega
theorem qg5 (ht:TrB w B a G d T F p g root1)(hw:WkM w B W T mv met 0)(hB:B≤w.heap.size)(hoff:p.off=false){pg:Nat}{n:Kd}(hn:qax (p.seen d) g.pages g.use pg=some n)(hm:pg∉met)(hl:met.length≤1000) :
  Calls Tryz.prog 126 #[.pointer (some ⟨W,0,none⟩),.agg #[.int .i64 (pg:Nat),.pointer none]] w (LdF B W T mv met pg n w):=by
 unfold qax at hn;split at hn
 case isFalse=>cases hn
 rename_i hpu;obtain⟨bs,hbs,hdc⟩:=zbF.1 hn;obtain⟨A,c,hmv,hnc⟩:=hw.own.slice;have HW:=zH hw;have HT:=zH ht;have HM:=zH hm;have H1:=zH hpu;have ha:=zH hbs;have HX:=zH hdc;have Hx:=zH (show bs.length≤500 from readPage_len hbs);obtain⟨j0,hj0,jz0,jz1,jz2⟩:=zaY ql9;obtain⟨ml,hml⟩:∃ n,met.length=n:=⟨_,rfl⟩;have Hr:=zH hml;rw[hml]at hmv hl hnc;subst hmv;clear hw ht hm hpu hbs hdc hn hml;go_enter Tryz.func126,Tryz.ntmps126
 go_upto_region 3 with fail
 have Hm:=zH (zae w (.cells #[.int .i64 (pg:Int),.pointer none] 222));have Ho:Below w.heap.size w (w.alloc (.cells #[.int .i64 (pg:Int),.pointer none] 222)):=zB _ _;have HS:=zH Ho;have Hg:=zH (HW.o.below Ho);have HD:=zH (HT.o.ev HW.o (Ev.below Ho));have Hy:=zH (show Ev W (.slice A ml c) (.slice A ml c) w (w.alloc (.cells #[.int .i64 (pg:Int),.pointer none] 222))from Ev.below Ho);obtain⟨X,hX⟩:∃ X,w.heap.size=X:=⟨_,rfl⟩;have hs:=zH hX;rw[hX]at Hm⊢;have H0:=zH (show B≤W from HW.o.lo);have hA:=zH (show X≠W by have:=HW.o.lt;omega);have Hh:∀ {b:Nat},(Value.slice A ml c).ownBlock=some b→B≤b∧b<w.heap.size:=fun {b} e=>HW.o.own.blk b e;clear Ho hX HW HT;generalize w.alloc (.cells #[.int .i64 (pg:Int),.pointer none] 222)=w0 at Hm HS Hg HD Hy⊢;have HV:=zH (qf2 (w:=w0.drew) c (qgk (by have h:=(Hg.o.below (zai _ _).drew).own;rw[Hr.o]at h;exact h)) Hr.o (by omega) pg);have Hb:=zH (show w0.drew.cell? ⟨W,1,none⟩=some (.slice A ml c)∧w0.drew.cell? ⟨X,0,none⟩=some (.int .i64 (pg:Int))from⟨Hg.o.c1,by rw[zao _ _ _ _ _ _ (show w0.drew.heap[X]?=_ from Hm.o)];rfl⟩);refine qad (S:=fun W'=>W'.cell? ⟨W,1,none⟩=some (.slice A ml c)∧W'.cell? ⟨X,0,none⟩=some (.int .i64 (pg:Int))) [] (by kernel_rfl) Hb.o (fun _=>?_);refine zP 0 14 (.pointer (some ⟨W,0,none⟩)) Hb.o ?_;try simp only[zS]
 refine zP 1 15 (.pointer (some ⟨W,0,none⟩)) Hb.o ?_;try simp only[zS]
 refine zP 2 16 (.pointer (some ⟨W,1,none⟩)) Hb.o ?_;try simp only[zS]
 refine zL 3 17 (.slice A ml c) rfl (Or.inl ⟨by rfl,fun W' hS=>by obtain⟨hS1,hS2⟩:=hS;go_simp⟩) (qab Hb.o) ?_;try simp only[zS]
 refine zP 4 18 (.pointer (some ⟨X,0,none⟩)) Hb.o ?_;try simp only[zS]
 refine zL 5 19 (.int .i64 (pg:Int)) rfl (Or.inl ⟨by rfl,fun W' hS=>by obtain⟨hS1,hS2⟩:=hS;go_simp⟩) (qab Hb.o) ?_;try simp only[zS]
 refine zE 6 20 rfl (fun Kr hKr=>?_);go_simp;go_at_call 144
 refine HV.o.mono ?_;rintro e W9 ⟨rfl,rfl⟩;rw[zan HM.o];refine hKr.out _ _ (qab Hb.o) (fun _=>?_);clear hKr Kr;try simp only[zS]
 refine qaf (by kernel_rfl) ?_ _;go_upto_region 6 with fail
 have Hu:=zH (show WkM w0.drew.drew B W T (.slice A ml c) met 0 from(Hg.o.below (zai _ _).drew).below (zai _ _).drew);have HO:w0.drew.drew.heap[X]?=some (.cells #[.int .i64 (pg:Int),.pointer none] 222 (0,0)):=Hm.o;have H5:=zH HO;have HZ:=zH (show Ev W (.slice A ml c) (.slice A ml c) w w0.drew.drew from(Hy.o.trans (Ev.below (zai _ _).drew)).trans (Ev.below (zai _ _).drew));have H4:=zH (show TrB w0.drew.drew B a G d T F p g root1 from(HD.o.ev Hg.o (Ev.below (zai _ _).drew)).ev (Hg.o.below (zai _ _).drew) (Ev.below (zai _ _).drew));have Hc:=zH (show w0.drew.drew.cell? ⟨W,1,none⟩=some (.slice A ml c)∧w0.drew.drew.cell? ⟨X,0,none⟩=some (.int .i64 (pg:Int))from⟨Hu.o.c1,zC HO⟩);have H6:B≤w0.drew.drew.heap.size:=by have:=HS.o.size;show B≤w0.heap.size;omega
 clear HO Hm Hg HD Hy Hb HV;refine qad (S:=fun W'=>W'.cell? ⟨W,1,none⟩=some (.slice A ml c)∧W'.cell? ⟨X,0,none⟩=some (.int .i64 (pg:Int))) [11] (by kernel_rfl) Hc.o (fun _=>?_);generalize w0.drew.drew=W0 at Hc Hu H5 HZ H4 H6⊢;refine zP 0 24 (.pointer (some ⟨W,0,none⟩)) Hc.o ?_;try simp only[zS]
 refine zP 1 25 (.pointer (some ⟨W,0,none⟩)) Hc.o ?_;try simp only[zS]
 refine zP 2 26 (.pointer (some ⟨W,0,none⟩)) Hc.o ?_;try simp only[zS]
 refine zP 3 27 (.pointer (some ⟨W,1,none⟩)) Hc.o ?_;try simp only[zS]
 refine zL 4 28 (.slice A ml c) rfl (Or.inl ⟨by rfl,fun W' hS=>by obtain⟨hS1,hS2⟩:=hS;go_simp⟩) (qab Hc.o) ?_;try simp only[zS]
 refine zP 5 29 (.pointer (some ⟨X,0,none⟩)) Hc.o ?_;try simp only[zS]
 refine zL 6 30 (.int .i64 (pg:Int)) rfl (Or.inl ⟨by rfl,fun W' hS=>by obtain⟨hS1,hS2⟩:=hS;go_simp⟩) (qab Hc.o) ?_;try simp only[zS]
 refine zE 7 31 rfl (fun Kr hKr=>?_);refine Eq.mpr (zax (by rfl)) ?_;refine qaU 59 (.tmp 30) rfl Tryz.underlying59 hj0 jz0 jz1 (by decide) (by decide) (.int .i64 (pg:Int)) rfl [.int .i64 (pg:Int)] (by rfl) rfl ?_;have Hp:Below W0.heap.size W0 (W0.alloc (.cells #[.int .i64 (pg:Int)] 3)):=zB _ _;have He:=zH (Hu.o.below Hp);have hj:=zH (H4.o.ev Hu.o (Ev.below Hp));have hd:=zH (HZ.o.trans (Ev.below Hp));have HH:=zH (qeX (.cells #[.int .i64 (pg:Int)] 3) H5.o);have HU:=zH (show Src (W0.alloc (.cells #[.int .i64 (pg:Int)] 3)) 1 (some ⟨W0.heap.size,0,none⟩) 1 [.int .i64 (pg:Int)]from qas (zae W0 (.cells #[.int .i64 (pg:Int)] 3)) rfl);have hf:=zH (show(W0.alloc (.cells #[.int .i64 (pg:Int)] 3)).cell? ⟨W,1,none⟩=some (.slice A ml c)∧(W0.alloc (.cells #[.int .i64 (pg:Int)] 3)).cell? ⟨X,0,none⟩=some (.int .i64 (pg:Int))from⟨He.o.c1,zC HH.o⟩);have HL:B≤(W0.alloc (.cells #[.int .i64 (pg:Int)] 3)).heap.size:=zam H6 Hp.size;obtain⟨C,hC⟩:∃ C,W0.heap.size=C:=⟨_,rfl⟩;rw[hC]at HU⊢;clear hC Hp;generalize W0.alloc (.cells #[.int .i64 (pg:Int)] 3)=W2 at *;refine hKr.out _ _ (qab hf.o) (fun _=>?_);clear hKr Kr;try simp only[zS]
 refine zE 8 32 rfl (fun Kr hKr=>?_);refine Eq.mpr (zax (by rfl)) ?_;have ho:=He.o.own;rw[Hr.o]at ho;refine qaS (.tmp 28) (.tmp 31) 59 rfl B 3 j0 _ 1 8 Tryz.underlying59 hj0 jz0 jz1 jz2 rfl (by decide) (.slice A ml c) ml (nums met) rfl ho.row (some ⟨C,0,none⟩) 1 1 [.int .i64 (pg:Int)] rfl HU.o (by simp;rfl) (by unfold maxLen;omega) (by omega) HL ?_;intro A4 c4 W4 q1 q2 q3;have Hf:=qbq q2 q3;have hh:=zH (qaQ ho HL q1 Hf);have HP:Ev W (.slice A ml c) (.slice A4 (ml+1) c4) W2 W4:=⟨Hf.touch.mono (fun b _ h=>.inr h),Hf.own⟩;have hp:=zH (hj.o.ev He.o HP);have he:=zH (hd.o.trans HP);have H7:=(zaa.1 HH.o).1;have H8:(Value.slice A ml c).ownBlock≠some X:=fun e=>by have:=(Hh e).2;have:=hs.o;omega
 have HI:=zH ((Hf.touch.block X H7 H8).trans HH.o);have HC:=zH ((Hf.touch.block W He.o.lt He.o.mW).trans He.o.nd);have Hl:=zH (show(Value.slice A4 (ml+1) c4).ownBlock≠some W from fun e=>by
  rcases Hf.own W e with h|h
  ·exact He.o.mW h
  ·have:=He.o.lt;omega)
 have HB:=zH (show W4.cell? ⟨W,1,none⟩=some (.slice A ml c)∧W4.cell? ⟨X,0,none⟩=some (.int .i64 (pg:Int))from⟨zC HC.o,zC HI.o⟩);have hu:B≤W4.heap.size:=zam HL Hf.touch.size;clear q1 q2 q3 Hf HP H7 H8 ho;refine hKr.out _ _ (qab HB.o) (fun _=>?_);clear hKr Kr;try simp only[zS]
 refine zP 9 33 (.pointer (some ⟨W,0,none⟩)) HB.o ?_;try simp only[zS]
 refine zP 10 34 (.pointer (some ⟨W,1,none⟩)) HB.o ?_;try simp only[zS]
 have HF:=zH (show W4.there W 1 1 from there_of_block HC.o 1 (by simp));refine qam (rs:=[11]) (by kernel_rfl) (by simp) ?_;refine AllReadyG.store rfl 59 (.tmp 34) (.tmp 32) rfl rfl rfl W 1 (.slice A4 (ml+1) c4) rfl rfl HF.o (by kernel_rfl) rfl (qaD 11 (by rfl) (by kernel_rfl)) ?_ AllReadyG.nil;have Hn:Touch (fun b=>b=W) W4 (W4.setCell ⟨W,1,none⟩ (.slice A4 (ml+1) c4)):=Touch.setCell (F:=fun b=>b=W) (Touch.refl _ _) (p:=⟨W,1,none⟩) rfl _;have H9:Ev W (.slice A4 (ml+1) c4) (.slice A4 (ml+1) c4) W4 (W4.setCell ⟨W,1,none⟩ (.slice A4 (ml+1) c4)):=⟨Hn.mono (fun b _ h=>.inl h),fun b e=>.inl e⟩;have Hv:=zH (show WkM (W4.setCell ⟨W,1,none⟩ (.slice A4 (ml+1) c4)) B W T (.slice A4 (ml+1) c4) (met++[pg]) 0 from⟨qac HC.o _,H0.o,by
  rw[zaf,Hr.o,show nums (met++[pg])=nums met++[.int .i64 (pg:Int)]by unfold nums;simp];exact hh.o.touch Hn (fun b e h=>Hl.o (by rw[e,h])),Hl.o⟩)
 have Hz:=zH (he.o.trans H9);have HE:=zH (qmy (i:=1) hp.o (.slice A4 (ml+1) c4) H0.o);have HJ:=zH ((Hn.block X (zaa.1 HI.o).1 (fun e=>hA.o e)).trans HI.o);have HN:B≤(W4.setCell ⟨W,1,none⟩ (.slice A4 (ml+1) c4)).heap.size:=zam hu Hn.size;clear Hn H9;generalize W4.setCell ⟨W,1,none⟩ (.slice A4 (ml+1) c4)=W5 at Hv Hz HE HJ HN⊢;try simp only[zS]
 refine qaf (by kernel_rfl) ?_ _;go_upto_region 7 with fail
 have Hk:=zH (Hv.o.below (zai _ _).drew);have HA:=zH (Hz.o.trans (Ev.below (zai _ _).drew));have Ht:=zH (HE.o.ev Hv.o (Ev.below (zai _ _).drew));have HK:=zH (show W5.drew.heap[X]?=some (.cells #[.int .i64 (pg:Int),.pointer none] 222 (0,0))from HJ.o);have hz:B≤W5.drew.heap.size:=HN;have Ha:=zH (show W5.drew.cell? ⟨W,0,none⟩=some (.pointer (some ⟨T,0,none⟩))∧W5.drew.cell? ⟨T,0,none⟩=some (.pointer (some ⟨G,0,none⟩))∧W5.drew.cell? ⟨X,0,none⟩=some (.int .i64 (pg:Int))from⟨Hk.o.c0,Ht.o.tr.c0,zC HK.o⟩);have Hj:=zH (qjm Ht.o.tr.pg H1.o.1 H1.o.2 hoff);rw[ha.o]at Hj;unfold RdF at Hj;obtain⟨bl,hbl⟩:∃ n,bs.length=n:=⟨_,rfl⟩;have Hq:=zH hbl;simp only at Hj;rw[hbl]at Hj;clear Hv Hz HE HJ HN hbl;refine qad (S:=fun W'=>W'.cell? ⟨W,0,none⟩=some (.pointer (some ⟨T,0,none⟩))∧W'.cell? ⟨T,0,none⟩=some (.pointer (some ⟨G,0,none⟩))∧W'.cell? ⟨X,0,none⟩=some (.int .i64 (pg:Int))) [] (by kernel_rfl) Ha.o (fun _=>?_);generalize W5.drew=W6 at Ha Hk HA Ht HK hz Hj⊢;refine zP 0 36 (.pointer (some ⟨W,0,none⟩)) Ha.o ?_;try simp only[zS]
 refine zP 1 37 (.pointer (some ⟨W,0,none⟩)) Ha.o ?_;try simp only[zS]
 refine zP 2 38 (.pointer (some ⟨W,0,none⟩)) Ha.o ?_;try simp only[zS]
 refine zL 3 39 (.pointer (some ⟨T,0,none⟩)) rfl (Or.inl ⟨by rfl,fun W' hS=>by obtain⟨hS1,hS2,hS3⟩:=hS;go_simp⟩) (qab Ha.o) ?_;try simp only[zS]
 refine zP 4 40 (.pointer (some ⟨T,0,none⟩)) Ha.o ?_;try simp only[zS]
 refine zP 5 41 (.pointer (some ⟨T,0,none⟩)) Ha.o ?_;try simp only[zS]
 refine zL 6 42 (.pointer (some ⟨G,0,none⟩)) rfl (Or.inl ⟨by rfl,fun W' hS=>by obtain⟨hS1,hS2,hS3⟩:=hS;go_simp⟩) (qab Ha.o) ?_;try simp only[zS]
 refine zP 7 43 (.pointer (some ⟨X,0,none⟩)) Ha.o ?_;try simp only[zS]
 refine zL 8 44 (.int .i64 (pg:Int)) rfl (Or.inl ⟨by rfl,fun W' hS=>by obtain⟨hS1,hS2,hS3⟩:=hS;go_simp⟩) (qab Ha.o) ?_;try simp only[zS]
 refine zE 9 45 rfl (fun Kr hKr=>?_);go_simp;go_at_call 145
 refine Hj.o.mono ?_;rintro e W7 ⟨RA,rc,rfl,hro,hrb⟩;have Hs:=zH hro;have H2:=zH hrb;have Hi:=zH (show W7.cell? ⟨W,0,none⟩=some (.pointer (some ⟨T,0,none⟩))∧W7.cell? ⟨T,0,none⟩=some (.pointer (some ⟨G,0,none⟩))∧W7.cell? ⟨X,0,none⟩=some (.int .i64 (pg:Int))from⟨(hrb.cell (p:=⟨W,0,none⟩) Hk.o.lt).trans Ha.o.1,(hrb.cell (p:=⟨T,0,none⟩) Ht.o.tr.lt).trans Ha.o.2.1,(hrb.cell (p:=⟨X,0,none⟩) (zaa.1 HK.o).1).trans Ha.o.2.2⟩);clear hro hrb;refine hKr.out _ _ (qab Hi.o) (fun _=>?_);clear hKr Kr;try simp only[zS]
 refine zP 10 35 (.tuple #[.slice RA bl rc,.int .i64 0]) Hi.o ?_;try simp only[zS]
 refine zP 11 46 (.slice RA bl rc) Hi.o ?_;try simp only[zS]
 refine zP 12 47 (.int .i64 0) Hi.o ?_;try simp only[zS]
 refine zP 13 5 (.slice RA bl rc) Hi.o ?_;try simp only[zS]
 refine zP 14 6 (.int .i64 0) Hi.o ?_;try simp only[zS]
 refine qaf (by kernel_rfl) ?_ _;have hD:2≤bl:=by
  have h1:=HX.o;have h2:=Hq.o
  match bs,h1,h2 with
  | [],h1,_=>cases h1
  | [_],h1,_=>cases h1
  | _::_::_,_,h2=>simp at h2;omega
 obtain⟨rb,ro,rfl,hRS,_⟩:=(Hs.o.srcS (S:=fun b=>W6.heap.size≤b∧b<W7.heap.size) (fun b e=>Hs.o.blk b e)).at_ (by omega);have HR:=Hs.o.row.cap;have HY:=zH (qhK (S:=fun b=>b=rb) (len:=bl) (c:=rc) (By.of_own Hs.o.row Hq.o) rfl Hq.o HR (by have h1:=Hx.o;have h2:=Hq.o;omega) HX.o);unfold DcF at HY;go_wp2_with (go_at_call 146;refine HY.o.mono ?_;rintro e W8 ⟨N,L,rfl,hnm,hb8,hsl⟩;have hg:=zH hnm;have Hw:=zH hb8;have H3:=zH hsl;clear hnm hb8 hsl)
 have HG:=Hk.o.below H2.o;have hr:=HG.below Hw.o;have HQ:=HA.o.trans (Ev.below H2.o);have hH:rb≠W:=fun e=>by have:=Hk.o.lt;omega
 have hE:(Value.slice A4 (ml+1) c4).ownBlock≠some rb:=fun e=>by have:=(Hk.o.own.blk rb e).2;omega
 refine za7 (v:=.pointer (some ⟨N,0,none⟩)) (by simp[results,Tryz.results126,go_sem]) rfl ?_;refine⟨N,L,.slice A4 (ml+1) c4,rfl,hr,HQ.trans (Ev.below Hw.o),NM.mono (fun b hb=>?_) _ _ _ hg.o,⟨fun y hy=>?_,H3.o.nd⟩⟩
 ·rcases hb with hb|hb
  ·subst hb;exact⟨zam HA.o.touch.size hRS.1,zag hRS.2 Hw.o.size,hH,hE⟩
  ·exact⟨zam HQ.touch.size hb.1,hb.2,fun e=>by have:=HG.lt;omega,fun e=>by have:=(HG.own.blk b e).2;omega⟩
 ·rcases H3.o.mem y hy with h|h
  ·cases h
  ·exact .inr (zam HQ.touch.size h)
structure EvM (M M':Nat→Prop) (w w':World):Prop where
 touch:Touch M w w'
 own:∀ b,M' b→M b∨(w.heap.size≤b∧b<w'.heap.size)
theorem EvM.refl (M:Nat→Prop)(w:World):EvM M M w w:=⟨Touch.refl _ _,fun _ h=>.inl h⟩
theorem EvM.below (h:Below w.heap.size w w'):EvM M M w w':=⟨Touch.of_below h,fun _ h=>.inl h⟩
theorem EvM.trans {M3:Nat→Prop}{a c:World}(h:EvM M1 M2 a b)(k:EvM M2 M3 b c):EvM M1 M3 a c:=by
 refine⟨⟨k.touch.os.trans h.touch.os,k.touch.tape.trans h.touch.tape,k.touch.output.trans h.touch.output,zam h.touch.size k.touch.size,fun i hi hn=>?_⟩,fun i hi=>?_⟩
 ·refine(k.touch.block i (zag hi h.touch.size) (fun h2=>?_)).trans (h.touch.block i hi hn);rcases h.own i h2 with h3|h3
  ·exact hn h3
  ·omega
 ·rcases k.own i hi with h2|h2
  ·rcases h.own i h2 with h3|h3
   ·exact .inl h3
   ·exact .inr ⟨h3.1,zag h3.2 k.touch.size⟩
  ·exact .inr ⟨zam h.touch.size h2.1,h2.2⟩
def MW (W:Nat)(mv:Value):Nat→Prop:=fun b=>b=W∨mv.ownBlock=some b
def NB (N:Nat)(k v x:Value):Nat→Prop:=fun b=>b=N∨k.ownBlock=some b∨v.ownBlock=some b∨x.ownBlock=some b
def MS (W:Nat)(mv:Value)(N:Nat)(k v x:Value):Nat→Prop:=fun b=>MW W mv b∨NB N k v x b
theorem Ev.evm (h:Ev W mv mv' w w'):EvM (MW W mv) (MW W mv') w w':=⟨h.touch,fun b hb=>by
 rcases hb with hb|hb
 ·exact .inl (.inl hb)
 ·rcases h.own b hb with h1|h1
  ·exact .inl (.inr h1)
  ·exact .inr h1⟩
theorem EvM.orL {R:Nat→Prop}(h:EvM M M' w w'):EvM (fun b=>M b∨R b) (fun b=>M' b∨R b) w w':=⟨h.touch.mono (fun _ _ h=>.inl h),fun b hb=>by
 rcases hb with hb|hb
 ·rcases h.own b hb with h1|h1
  ·exact .inl (.inl h1)
  ·exact .inr h1
 ·exact .inl (.inr hb)⟩
def Grow (S M':Nat→Prop)(w w':World):Nat→Prop:=fun b=>S b∨(w.heap.size≤b∧b<w'.heap.size∧¬M' b)
structure SOk (S M:Nat→Prop) (w:World):Prop where
 lt:∀ b,S b→b<w.heap.size
 ap:∀ b,S b→¬M b
theorem SOk.grow (h:SOk S M w)(he:EvM M M' w w'):SOk (Grow S M' w w') M' w':=
 ⟨fun b hb=>by
  rcases hb with hb|hb
  ·exact zag (h.lt b hb) he.touch.size
  ·exact hb.2.1,fun b hb hm=>by
  rcases hb with hb|hb
  ·rcases he.own b hm with h1|h1
   ·exact h.ap b hb h1
   ·have:=h.lt b hb;omega
  ·exact hb.2.2 hm⟩
theorem Grow.trans {w2:World}(h:w.heap.size≤w1.heap.size)(he:EvM M1 M2 w1 w2):∀ b,Grow (Grow S M1 w w1) M2 w1 w2 b→Grow S M2 w w2 b:=fun b hb=>by
 rcases hb with(hb|⟨h1,h2,h3⟩)|⟨h1,h2,h3⟩
 ·exact .inl hb
 ·refine .inr ⟨h1,zag h2 he.touch.size,fun hm=>?_⟩;rcases he.own b hm with h4|h4
  ·exact h3 h4
  ·omega
 ·exact .inr ⟨by omega,h2,h3⟩
theorem KM.evm {L:List (Nat×Nat)}(h:KM w S xs vs L)(hs:SOk S M w)(he:EvM M M' w w'):KM w' (Grow S M' w w') xs vs L:=
 KM.mono (fun _ h=>.inl h) _ _ _ (h.touch he.touch hs.ap)
theorem NM.evm {L:List (Nat×Nat)}(h:NM w S k N L)(hs:SOk S M w)(he:EvM M M' w w'):NM w' (Grow S M' w w') k N L:=
 NM.mono (fun _ h=>.inl h) _ _ _ (h.touch he.touch hs.ap)
theorem RowV.evm {vs:List Value}(h:RowV w S vs ks)(hs:SOk S M w)(he:EvM M M' w w'):RowV w' (Grow S M' w w') vs ks:=
 (h.same (Same.of_touch he.touch hs.ap)).mono fun _ h=>.inl h
structure MgI (w:World) (B W T:Nat) (mv:Value) (met:List Nat) (N:Nat) (k:Value) (vk:List Value) (v x:Value) (vs:List Kv) (ks:List Bs) (xs:List Kd) (L:List (Nat×Nat)) (S:Nat→Prop):Prop where
 wk:WkM w B W T mv met 0
 q:NdQ w B N false k v x k ks.length vk v 0 [] x xs.length (vs.flatMap qdS)
 rk:RowV w S vk ks
 km:KM w S xs vs L
 so:SOk S (MS W mv N k v x) w
 ap:∀ b,MW W mv b→¬NB N k v x b
theorem MgI.nbLt {k:Value}{L:List (Nat×Nat)}(h:MgI w B W T mv met N k vk v x vs ks xs L S):∀ b,NB N k v x b→b<w.heap.size:=fun b hb=>by
 rcases hb with hb|hb|hb|hb
 ·rw[hb];exact h.q.lt
 ·exact(h.q.ko.blk b hb).2
 ·exact(h.q.vo.blk b hb).2
 ·exact(h.q.xo.blk b hb).2
theorem MgI.walk {met':List Nat}{k:Value}{L:List (Nat×Nat)}(h:MgI w B W T mv met N k vk v x vs ks xs L S)(he:Ev W mv mv' w w')(hw:WkM w' B W T mv' met' 0) :
  MgI w' B W T mv' met' N k vk v x vs ks xs L (Grow S (MS W mv' N k v x) w w')∧EvM (MS W mv N k v x) (MS W mv' N k v x) w w':=by
 have e:EvM (MS W mv N k v x) (MS W mv' N k v x) w w':=he.evm.orL;have hn:∀ b,NB N k v x b→¬MW W mv b:=fun b hb hm=>h.ap b hm hb;refine⟨⟨hw,h.q.touch he.touch (hn N (.inl rfl)) (fun b hb=>hn b (.inr (.inl hb))) (fun b hb=>hn b (.inr (.inr (.inl hb)))) (fun b hb=>hn b (.inr (.inr (.inr hb)))),h.rk.evm h.so e,h.km.evm h.so e,h.so.grow e,fun b hm hb=>?_⟩,e⟩;rcases he.evm.own b hm with h1|h1
 ·exact h.ap b h1 hb
 ·have:=h.nbLt b hb;omega
section
theorem TrB.touch {w w':World}{B:Nat}{a:PA}{G d T:Nat}{F:Nat→Prop}{p:Pl}{g:Pg}{root1:Nat}(h:TrB w B a G d T F p g root1){M:Nat→Prop}(ht:Touch M w w')(hM:∀ b,M b→B≤b):TrB w' B a G d T F p g root1:=by
 refine⟨⟨h.tr.pg.touch ht (fun b hb e=>?_) (fun e=>?_),(ht.block T h.tr.lt (fun e=>?_)).trans h.tr.t,h.tr.nT⟩,h.hF,h.hG,h.hT,h.h1⟩
 ·have:=hM b e;rcases hb with hb|hb
  ·have:=h.hF b hb;omega
  ·have:=h.hG;omega
 ·have:=hM 2 e;have:=h.h1;omega
 ·have:=hM T e;have:=h.hT;omega
section
variable {w w':World} {B W T:Nat} {mv:Value} {met:List Nat} {N:Nat} {k:Value} {vk:List Value} {v x:Value} {vs:List Kv} {ks:List Bs} {xs:List Kd} {L:List (Nat×Nat)} {S:Nat→Prop}
theorem MgI.low (h:MgI w B W T mv met N k vk v x vs ks xs L S):∀ b,MS W mv N k v x b→B≤b:=fun b hb=>by
 rcases hb with(hb|hb)|(hb|hb|hb|hb)
 ·rw[hb];exact h.wk.lo
 ·exact(h.wk.own.blk b hb).1
 ·rw[hb];exact h.q.lo
 ·exact(h.q.ko.blk b hb).1
 ·exact(h.q.vo.blk b hb).1
 ·exact(h.q.xo.blk b hb).1
theorem MgI.lts (h:MgI w B W T mv met N k vk v x vs ks xs L S):∀ b,MS W mv N k v x b→b<w.heap.size:=fun b hb=>by
 rcases hb with(hb|hb)|hb
 ·rw[hb];exact h.wk.lt
 ·exact(h.wk.own.blk b hb).2
 ·exact h.nbLt b hb
theorem MgI.below (h:MgI w B W T mv met N k vk v x vs ks xs L S)(hb:Below w.heap.size w w'):MgI w' B W T mv met N k vk v x vs ks xs L (Grow S (MS W mv N k v x) w w')∧EvM (MS W mv N k v x) (MS W mv N k v x) w w':=
 h.walk (Ev.below hb) (h.wk.below hb)
theorem MgI.fresh (h:MgI w B W T mv met N k vk v x vs ks xs L S):∀ b,Fr S w w' b→Grow S (MS W mv N k v x) w w' b:=fun b hb=>by
 rcases hb with hb|hb
 ·exact .inl hb
 ·exact .inr ⟨hb.1,hb.2,fun hm=>by have:=h.lts b hm;omega⟩
end
end
variable {vs:List Kv}{j B:Nat}{v:Kv}{S:Nat→Prop}{w:World}
theorem qjb (h:vs[j]?=some v):(vs.flatMap qdS)[j*2]?=some (.int .i64 v.1):=by
 have:=flat_at (f:=qdS) (s:=2) (fun _ _=>rfl) h 0 (by omega);simpa [qdS] using this
theorem qjc (h:vs[j]?=some v):(vs.flatMap qdS)[j*2+1]?=some (.pointer (v.2.map fun N=>⟨N,0,none⟩)):=by
 have:=flat_at (f:=qdS) (s:=2) (fun _ _=>rfl) h 1 (by omega);simpa [qdS] using this
theorem KidM.evm {M M':Nat→Prop}{w':World}{y:Kd}{L:List (Nat×Nat)}(h:KidM w S y v L)(hs:SOk S M w)(he:EvM M M' w w'):KidM w' (Grow S M' w w') y v L:=
 (h.touch he.touch hs.ap).mono fun _ h=>.inl h
theorem Slo.base {C:Nat}{L M:List (Nat×Nat)}(h:Slo C L M)(hb:B≤C):Slo B L M:=⟨fun y hy=>(h.mem y hy).imp id (fun h=>by omega),h.nd⟩
theorem qfx {s:Nat→Bs}{pages:Nat}{use:Bs}{pg:Nat}{ks:List Bs}{xs:List Kd}(h:qax s pages use pg=some (.inner ks xs)):∀ x∈xs,∃ q,x=.page q∧q<65536:=by
 unfold qax at h;split at h
 ·obtain⟨b,_,h2⟩:=zbF.1 h;obtain⟨hd,_⟩:=qjQ h2;cases hd;assumption
 ·cases h
theorem Got.none (w:World)(S:Nat→Prop):Got w S [] [] [] (.slice none 0 0) (.slice none 0 0):=
 ⟨Option.none,0,Option.none,0,[],[],rfl,rfl,zad _,zad _,rfl,SrcS.mk' rfl (fun h=>by simp at h),⟨rfl,rfl⟩,SrcS.mk' rfl (fun h=>by simp at h),rfl,fun h=>by simp at h⟩
theorem Got.mono {S':Nat→Prop}{got:List Kd}{bet:List Bs}{L:List (Nat×Nat)}{g b:Value}(hS:∀ b,S b→S' b)(h:Got w S got bet L g b):Got w S' got bet L g b:=by
 obtain⟨A,c,B,cb,Ns,vb,h1,h2,h3,h4,h5,h6,h7,h8,h9,h10⟩:=h.ex;refine⟨A,c,B,cb,Ns,vb,h1,h2,h3,h4,h5,h6.mono hS,?_,h8.mono hS,h9.mono hS,fun h=>?_⟩
 ·clear h h1 h3 h5 h6 h8 h9 h10
  induction got generalizing Ns L with
  | nil=>exact h7
  | cons k ks ih=>
   obtain⟨N,r,L1,L2,e1,e2,e3,e4⟩:=h7;exact⟨N,r,L1,L2,e1,e2,NM.mono hS _ _ _ e3,ih _ e4⟩
 ·obtain⟨C,u,e1,e2,e3,e4⟩:=h10 h;exact⟨C,u,e1,e2,e3,hS _ e4⟩
theorem NdQ.base {B' N:Nat}{leaf:Bool}{c1 c2 c3 k v x:Value}{nk nv nx:Nat}{vk vv vx:List Value}(h:NdQ w B N leaf c1 c2 c3 k nk vk v nv vv x nx vx)(hb:B'≤B):NdQ w B' N leaf c1 c2 c3 k nk vk v nv vv x nx vx:=
 ⟨h.nd,zam hb h.lo,h.ko.base hb,h.vo.base hb,h.xo.base hb,h.kN,h.vN,h.xN,h.kv,h.kx,h.vx⟩
def qmB (w:World)(L:List (Nat×Nat)):Prop:=∀ y∈L,(∃ n,w.cell? ⟨y.1,y.2,none⟩=some (.int .i64 n))∧∃ p,w.cell? ⟨y.1,y.2+1,none⟩=some (.pointer p)
def CL (L:List (Nat×Nat))(b i:Nat):Prop:=∃ y∈L,b=y.1∧(i=y.2∨i=y.2+1)
theorem qkP {L:List (Nat×Nat)}(h:qmB w L):∀ b i v,S b→CL L b i→w.cell? ⟨b,i,none⟩=some v→(∃ n,v=.int .i64 n)∨∃ p,v=.pointer p:=fun b i v _ hc hv=>by
 obtain⟨y,hy,rfl,e⟩:=hc;obtain⟨⟨n1,d1⟩,⟨p1,d2⟩⟩:=h y hy;rcases e with rfl|rfl
 ·rw[d1]at hv;cases hv;exact .inl ⟨_,rfl⟩
 ·rw[d2]at hv;cases hv;exact .inr ⟨_,rfl⟩
theorem CL.mono {L L':List (Nat×Nat)}(h:∀ y∈L,y∈L'){b i:Nat}(hc:CL L b i):CL L' b i:=by
 obtain⟨y,hy,e⟩:=hc;exact⟨y,h y hy,e⟩
theorem qaM:∀ (a b:List Kd),qay (a++b)=qay a+qay b
 | [],b=>by simp[qay]
 | x::a,b=>by simp only[za3,qay,qaM a b];omega
section
def WT (F:Nat→Prop)(G W PT:Nat)(pv:Value):Nat→Prop:=fun b=>GF F G b∨b=W∨b=PT∨pv.ownBlock=some b
def WX (F:Nat→Prop)(G W T PT:Nat)(mv pv:Value):Nat→Prop:=fun b=>WT F G W PT pv b∨b=T∨b=2∨mv.ownBlock=some b
structure WrI (w:World) (a:PA) (G d T:Nat) (F:Nat→Prop) (g:Pg) (root1 B W PT:Nat) (mv:Value) (met:List Nat) (pv:Value) (s:Ws):Prop where
 tr:TrM w a G d T F s.p { g with use:=s.use } root1
 wk:WkM w B W T mv met (s.e:Int)
 pt:w.heap[PT]?=some (.cells #[pv] 59 (0,0))
 po:Own w B 3 1 pv s.put.length (nums s.put)
 ag:∀ b,GF F G b→b≠W∧b≠PT∧pv.ownBlock≠some b∧mv.ownBlock≠some b
 aW:W≠PT∧pv.ownBlock≠some W∧pv.ownBlock≠some PT∧mv.ownBlock≠some PT
 am:∀ b,pv.ownBlock=some b→mv.ownBlock≠some b
 bT:T<B∧2<B∧B≤PT
 off:s.e=0→s.p.off=false
variable {w w':World} {a:PA} {G d T:Nat} {F F':Nat→Prop} {g:Pg} {root1 B W PT:Nat} {mv:Value} {met:List Nat} {pv pv':Value} {s:Ws}
theorem WrI.ptlt (h:WrI w a G d T F g root1 B W PT mv met pv s):PT<w.heap.size:=(zaa.1 h.pt).1
theorem WrI.touch (h:WrI w a G d T F g root1 B W PT mv met pv s){H:Nat→Prop}(ht:Touch H w w')(hd:∀ b,WX F G W T PT mv pv b→¬H b):WrI w' a G d T F g root1 B W PT mv met pv s:=
 ⟨⟨h.tr.pg.touch ht (fun b hb=>hd b (.inl (.inl hb))) (hd 2 (.inr (.inr (.inl rfl)))),(ht.block T h.tr.lt (hd T (.inr (.inl rfl)))).trans h.tr.t,h.tr.nT⟩,
  ⟨(ht.block W h.wk.lt (hd W (.inl (.inr (.inl rfl))))).trans h.wk.nd,h.wk.lo,h.wk.own.touch ht (fun b e=>hd b (.inr (.inr (.inr e)))),h.wk.mW⟩,
  (ht.block PT h.ptlt (hd PT (.inl (.inr (.inr (.inl rfl)))))).trans h.pt,h.po.touch ht (fun b e=>hd b (.inl (.inr (.inr (.inr e))))),h.ag,h.aW,h.am,h.bT,h.off⟩
theorem WrI.below (h:WrI w a G d T F g root1 B W PT mv met pv s)(hb:Below w.heap.size w w'):WrI w' a G d T F g root1 B W PT mv met pv s:=
 h.touch (Touch.of_below (F:=fun _=>False) hb) (fun _ _ h=>h)
structure WrR (S:Nat→Prop) (L:List (Nat×Nat)) (F F':Nat→Prop) (G W PT:Nat) (pv pv':Value) (w w':World):Prop where
 touch:Touch (fun b=>WT F G W PT pv b∨∃ y∈L,b=y.1) w w'
 cell:∀ b i,S b→¬CL L b i→w'.cell? ⟨b,i,none⟩=w.cell? ⟨b,i,none⟩
 fr:∀ b i,S b→w'.frozen? ⟨b,i,none⟩=w.frozen? ⟨b,i,none⟩
 own:∀ b,WT F' G W PT pv' b→WT F G W PT pv b∨w.heap.size≤b
theorem WrR.same {S:Nat→Prop}{L:List (Nat×Nat)}(h:WrR S L F F' G W PT pv pv' w w')(ht:qmB w L):Same S (CL L) w w':=
 ⟨h.touch.size,fun b i hS _ hc=>h.cell b i hS hc,qkP ht,fun b i hS _=>h.fr b i hS⟩
theorem WrR.trans {S:Nat→Prop}{L1 L2 L:List (Nat×Nat)}{F1 F2 F3:Nat→Prop}{p1 p2 p3:Value}{w1 w2 w3:World}(h:WrR S L1 F1 F2 G W PT p1 p2 w1 w2)(k:WrR S L2 F2 F3 G W PT p2 p3 w2 w3)(s1:∀ y∈L1,y∈L)(s2:∀ y∈L2,y∈L):WrR S L F1 F3 G W PT p1 p3 w1 w3:=
 ⟨⟨k.touch.os.trans h.touch.os,k.touch.tape.trans h.touch.tape,k.touch.output.trans h.touch.output,zam h.touch.size k.touch.size,fun i hi hn=>by
  refine(k.touch.block i (zag hi h.touch.size) (fun h2=>?_)).trans (h.touch.block i hi (fun h1=>hn (h1.imp id (fun⟨y,hy,e⟩=>⟨y,s1 y hy,e⟩))));rcases h2 with h2|⟨y,hy,e⟩
  ·rcases h.own i h2 with h3|h3
   ·exact hn (.inl h3)
   ·omega
  ·exact hn (.inr ⟨y,s2 y hy,e⟩)⟩,
  fun b i hS hc=>(k.cell b i hS (fun h2=>hc (h2.mono s2))).trans (h.cell b i hS (fun h1=>hc (h1.mono s1))),
  fun b i hS=>(k.fr b i hS).trans (h.fr b i hS),
  fun b hb=>by
  rcases k.own b hb with h2|h2
  ·exact h.own b h2
  ·exact .inr (zam h.touch.size h2)⟩
theorem WrR.of_below {S:Nat→Prop}{L:List (Nat×Nat)}(hb:Below w.heap.size w w')(hs:∀ b,S b→b<w.heap.size):WrR S L F F G W PT pv pv w w':=
 ⟨Touch.of_below hb,fun b i hS _=>hb.cell (p:=⟨b,i,none⟩) (hs b hS),fun b i hS=>hb.frozen (p:=⟨b,i,none⟩) (hs b hS),fun _ h=>.inl h⟩
end
section
variable {w w':World} {a:PA} {G d T:Nat} {F F':Nat→Prop} {g:Pg} {root1 B W PT:Nat} {mv:Value} {met:List Nat} {pv pv':Value} {s:Ws}
theorem qjl {w2:World}{F2:Nat→Prop}{p3:Pl}{u3:Bs}(h:WrI w a G d T F g root1 B W PT mv met pv s)(hx:Ext (GF F G) (GF F2 G) w w2)(hpg:PgM w2 a G d F2 p3 { g with use:=u3 }) :
  TrM w2 a G d T F2 p3 { g with use:=u3 } root1∧WkM w2 B W T mv met (s.e:Int)∧w2.heap[PT]?=some (.cells #[pv] 59 (0,0))∧Own w2 B 3 1 pv s.put.length (nums s.put)∧
  (∀ b,GF F2 G b→b≠W∧b≠PT∧pv.ownBlock≠some b∧mv.ownBlock≠some b)∧(∀ b,WT F2 G W PT pv b→WT F G W PT pv b∨w.heap.size≤b):=by
 have hs:=hx.touch.size;refine⟨⟨hpg,(hx.touch.block T h.tr.lt h.tr.nT.1).trans h.tr.t,fun hb=>?_,h.tr.nT.2⟩,⟨(hx.touch.block W h.wk.lt (fun e=>(h.ag W e).1 rfl)).trans h.wk.nd,h.wk.lo,h.wk.own.touch hx.touch (fun b e hb=>(h.ag b hb).2.2.2 e),h.wk.mW⟩,
  (hx.touch.block PT h.ptlt (fun e=>(h.ag PT e).2.1 rfl)).trans h.pt,h.po.touch hx.touch (fun b e hb=>(h.ag b hb).2.2.1 e),fun b hb=>?_,fun b hb=>?_⟩
 ·rcases hx.sub T hb with h1|h1
  ·exact h.tr.nT.1 h1
  ·have:=h.tr.lt;omega
 ·rcases hx.sub b hb with h1|h1
  ·exact h.ag b h1
  ·exact⟨fun e=>by have:=h.wk.lt;omega,fun e=>by have:=h.ptlt;omega,fun e=>by have:=(h.po.blk b e).2;omega,fun e=>by have:=(h.wk.own.blk b e).2;omega⟩
 ·rcases hb with hb|hb
  ·exact(hx.sub b hb).imp .inl id
  ·exact .inl (.inr hb)
end
section
variable {w w':World} {a:PA} {G d T:Nat} {F F':Nat→Prop} {g:Pg} {root1 B W PT:Nat} {mv:Value} {met:List Nat} {pv pv':Value} {s:Ws}
end
theorem WrI.free {w w':World}{a:PA}{G d T:Nat}{F:Nat→Prop}{g:Pg}{root1 B W PT:Nat}{mv:Value}{met:List Nat}{pv:Value}{s:Ws}(h:WrI w a G d T F g root1 B W PT mv met pv s){u:Bs}(hpg:PgM w' a G d F s.p { g with use:=u })(hx:Ext (GF F G) (GF F G) w w') :
  WrI w' a G d T F g root1 B W PT mv met pv { s with use:=u }:=by
 obtain⟨f1,f2,f3,f4,f5,f6⟩:=qjl (u3:=u) h hx hpg;exact⟨f1,f2,f3,f4,f5,h.aW,h.am,h.bT,h.off⟩
section
variable {w w':World} {a:PA} {G d T:Nat} {F F':Nat→Prop} {g:Pg} {root1 B W PT:Nat} {mv:Value} {met:List Nat} {pv pv':Value} {s:Ws}
end
section
variable {w w':World} {a:PA} {G d T:Nat} {F F':Nat→Prop} {g:Pg} {root1 B W PT:Nat} {mv:Value} {met:List Nat}
end
structure GtN (D:Dsk) (key:Bs) (r:Option Bs) (h:Nat) (n:Kd) (met:List Nat):Prop where
 body:Body D h n
 sz:qaz n≤500
 flat:∀ ks xs,n=.inner ks xs→∀ x∈xs,∃ q,x=.page q
 srt:Srt (itemsK D h n)
 nodup:(pgs D h n).Nodup
 out:∀ q∈pgs D h n,q∉met
 len:met.length+(pgs D h n).length≤450
 get:getR key (itemsK D h n)=r
theorem GtN.load {s:Nat→Bs}{pages:Nat}{use:Bs}{key:Bs}{r:Option Bs}{h q:Nat}{met:List Nat}(hw:WF (qax s pages use) h (.page q))(hs:Srt (itemsK (qax s pages use) h (.page q)))(hn:(pgs (qax s pages use) h (.page q)).Nodup)(hm:∀ p∈pgs (qax s pages use) h (.page q),p∉met)(hl:met.length+(pgs (qax s pages use) h (.page q)).length≤450)(hr:getR key (itemsK (qax s pages use) h (.page q))=r) :
  ∃ n,qax s pages use q=some n∧q∉met∧GtN (qax s pages use) key r h n (met++[q]):=by
 obtain⟨n,h1,h2,h3⟩:=hw;have ep:=qbu h1 h2;have ei:=qaE h1 h2;rw[ep]at hn hm hl;rw[ei]at hs hr;simp only[qah]at hn hm hl;have Ha:=za2.1 hn;refine⟨n,h1,hm q (by simp),h2,h3,fun ks xs e x hx=>?_,hs,Ha.2.1,fun p hp hin=>?_,?_,hr⟩
 ·subst e;obtain⟨p,e,_⟩:=qfx (show qax s pages use q=_ from h1) x hx;exact⟨p,e⟩
 ·rcases zar.1 hin with h5|h5
  ·exact hm p (zaS _ hp) h5
  ·exact Ha.2.2 q (by simp) p hp (za1.1 h5).symm
 ·simp only[zaf,zal,zbl]at hl⊢;omega
theorem qcX {w w':World}{B:Nat}(h:Touch (fun b=>B≤b) w w')(hB:B≤w.heap.size):Below B w w':=
 ⟨h.os,h.tape,h.output,h.size,fun k hk=>h.block k (by omega) (by omega)⟩
section
section
variable {P:Program}
end
end
theorem qkq {w:World}{a:PA}{G d:Nat}{F:Nat→Prop}{p:Pl}{g:Pg}(h:PgM w a G d F p g) :
  Calls Tryz.prog 47 #[.pointer (some ⟨G,0,none⟩)] w (fun e w'=>∃ T,e=.returned (.pointer (some ⟨T,0,none⟩))∧TrM w' a G d T F p g g.root1∧Below w.heap.size w w'∧w.heap.size≤T):=by
 have Ha:=zH (qkA h);have H:=zH h;clear h;go_enter Tryz.func47,Tryz.ntmps47
 go_wp2_with (go_at_call 83;refine Ha.o.mono ?_;rintro e w2 ⟨rfl,rfl⟩)
 go_ret;have hb:Below w.heap.size w (w.alloc (.cells #[.pointer (some ⟨G,0,none⟩),.int .i64 ((g.root1:Int)-1)] 159)):=zB _ _;refine⟨w.heap.size,rfl,⟨H.o.below hb,zae w _,fun hg=>?_,fun e=>?_⟩,hb,zad _⟩
 ·rcases hg with hg|hg
  ·have:=H.o.pl.hF _ hg;omega
  ·have:=H.o.lt;omega
 ·have:=qaq (H.o.nib 0 (by omega));omega
end Go.Proofs.YtfcknhbmeofniaaGreatDoor
