/- Texts LgD LgE LgF LgG. -/
import Derived.Test.YtfcknhbmeofniaaGreatDoorR24
set_option linter.all false
set_option maxRecDepth 100000
set_option maxHeartbeats 16000000
set_option linter.all false
namespace Go.Proofs.YtfcknhbmeofniaaGreatDoor
open Go.RowKit BT
theorem By.setC {w:World}{A:Option Addr}{l:Bs}{g o:Nat}{vs:List Value}(h:By w A l)(hne:∀ ad,A=some ad→0<l.length→ad.block≠g):By (w.setCells g o vs) A l:=⟨fun h0=>by
 obtain⟨b,off,e,hl,hc⟩:=h.at_ h0;refine⟨b,off,e,by rw[qbc];exact hl,fun k x hk=>?_⟩;rw[←hc k x hk];unfold World.cell?;have:=hne ⟨b,off,none⟩ e h0;simp only at this;rw[World.heap_setCells_other w g o vs hl (by omega)]⟩
def keyL (i:Nat):Bs:=[108]++numB i 4
theorem qlk (i:Nat)(w:World)(hi:i≤100000) :
  Calls Tryz.prog 24 #[.int .i64 i] w fun e w'=>∃ A c,e=.returned (.slice A 5 c)∧By w' A (keyL i)∧(∀ ad,A=some ad→w.heap.size≤ad.block)∧Below w.heap.size w w':=by
 have Hf:=Lib.run_convert_bytes_const (P:=Tryz.prog) w 40 5 #[.int .u8 108] 1 1 Tryz.underlying40 Tryz.underlying5;have Hc:Below w.heap.size w (w.alloc (.cells #[.int .u8 108] 5 (1,2))):=zB _ _;have HN:=zH (qbK (some ⟨w.heap.size,0,none⟩) 1 [108] 1 5 i (w.alloc (.cells #[.int .u8 108] 5 (1,2))) (By.of_block (l:=[108]) (zae w _) rfl) rfl rfl (by omega) (by omega));have Ha:=zH Hc;have e1:IntKind.u64.wrap (i:Int)=(i:Int):=zbL _ (by omega);have i6:(i:Int)≤100000:=by omega
 clear Hc;go_enter Tryz.func24,Tryz.ntmps24
 go_wp2_with (go_at_call 55;go_loud (refine HN.o.mono ?_;rintro e w1 ⟨A1,c1,rfl,ho1,hb1⟩;have Hb:=zH ho1;have He:=zH hb1;clear ho1 hb1))
 go_ret;exact⟨A1,c1,rfl,Own.byN Hb.o (by simp[keyL,qan]),(fun ad e=>by obtain⟨b,e2,h1,_⟩:=Hb.o.pos (by omega);rw[e]at e2;cases e2;simp at h1;exact Nat.le_of_lt h1),Ha.o.trans (He.o.mono Ha.o.size)⟩
theorem qbb {fn:Func}{c t1:Tmp}{T:TypeId}{v v1:Value}(h:fn.results=#[.cell c T,.tmp t1])(tmps:Array Value)(P:Program)(w:World)(ad:Addr)
  (hp:tmps.getD c undef=.pointer (some ad))(h1:tmps.getD t1 undef=v1)(hl:(loadVar T ad).run P w=.ok v w):(results fn tmps).run P w=.ok (.tuple #[v,v1]) w:=by
 have Ha:tmps[c]?.getD undef=.pointer (some ad):=by simpa using hp
 subst h1;simp[results,h,Ha,asAddr,hl]
def NeF (i:Nat)(l:Bs)(w:World)(e:Ending)(w':World):Prop:=
 ∃ A c A2 c2,e=.returned (.tuple #[.agg #[.slice A 5 c,.slice A2 l.length c2,.bool false],.int .i64 0])∧By w' A (keyL i)∧By w' A2 l∧(∀ ad,A=some ad→w.heap.size≤ad.block)∧(∀ ad,A2=some ad→0<l.length→w.heap.size≤ad.block)∧Below w.heap.size w w'
theorem qha {w:World}{B L:Nat}{F:Nat→Prop}{es:List Bs}(h:LeM w B F L es){A:Option Addr}{c n:Nat}{l:Bs}(hb:By w A l)(hn:l.length=n)(h160:n≤160) :
  Calls Tryz.prog 10 #[.pointer (some ⟨L,0,none⟩),.slice A n c] w (NeF es.length l w):=by
 obtain⟨Ae,ce,cs,A2,c2,h1,_⟩:=h.ex;have Hn:=h.lt;have Ha:=h.many;have Hh:Below w.heap.size w (w.alloc (.cells #[.slice none 0 0,.slice none 0 0,.bool false] 42)):=zB _ _;have f0:(w.alloc (.cells #[.slice none 0 0,.slice none 0 0,.bool false] 42)).cell? ⟨L,0,none⟩=some (.slice Ae es.length ce):=by
  rw[Hh.cell (p:=⟨L,0,none⟩) Hn,zao _ _ _ _ _ _ h1];rfl
 have Hf:=zH (zae w (.cells #[.slice none 0 0,.slice none 0 0,.bool false] 42));have Hb:=zH Hh;have HY:=zH hb;have Hc:=zH hn;obtain⟨k,hk⟩:∃ k,es.length=k:=⟨_,rfl⟩;rw[hk]at f0 Ha⊢;unfold NeF;rw[hn];have Hs:=zH (fun(W:World)=>qlk k W (by omega));have t1:(n:Int)≤160:=by omega
 clear h h1 Hn Hh hb hn hk Ha;go_enter Tryz.func10,Tryz.ntmps10
 go_upto_region 1 with fail
 generalize w.alloc (.cells #[.slice none 0 0,.slice none 0 0,.bool false] 42)=W0 at *;go_upto_region 3 with fail
 go_wp2_with (first
  | (go_at_call 24;go_loud (refine(Hs.o _).mono ?_;rintro e w1 ⟨A1,c1,rfl,hk1,ha1,hb1⟩;have Hk:=zH ha1;have He:=zH (Hb.o.trans (hb1.mono Hb.o.size));have Hq:=zH hk1;have Hm:=zH (qaC A c l w1 (HY.o.below (Hb.o.trans (hb1.mono Hb.o.size))) (by have:=Hc.o;omega));rw[Hc.o]at Hm;have Hg:=zH ((hb1.block w.heap.size (zaa.1 Hf.o).1).trans Hf.o);clear hk1 ha1 hb1))
  | (go_at_call 28;go_loud (refine Hm.o.mono ?_;rintro e w2 ⟨A3,c3,rfl,ho2,hb2⟩;have Hp:=zH (He.o.trans (hb2.mono He.o.size));have Hr:=zH (Hq.o.below hb2);have Hv:=zH (show By w2 A3 l from Own.byN ho2 Hc.o);have Hl:=zH (show ∀ ad,A3=some ad→0<l.length→w1.heap.size≤ad.block from fun ad e h0=>by obtain⟨b,e2,h1,_⟩:=ho2.pos (by have:=Hc.o;omega);rw[e]at e2;cases e2;exact h1);have Ho:=zH (show ∀ ad,A3=some ad→0<l.length→w.heap.size≤ad.block from fun ad e h0=>zam He.o.size (Hl.o ad e h0));have Hj:=(hb2.block w.heap.size (zaa.1 Hg.o).1).trans Hg.o;have Hu:=zH (show w2.there w.heap.size 0 3 from there_of_block Hj 0 (by simp));have Ht:=zH Hj;clear ho2 hb2 Hj))
  | ((with_reducible show wpList _ _ _ (⟨none,.store 42 _ _,_,_,_,_⟩::_) _ _);go_loud (refine wpList_store_mid rfl 42 (.tmp 4) (.tmp 18) rfl w.heap.size 0 #[.slice A1 5 c1,.slice A3 n c3,.bool false] rfl rfl Hu.o (by kernel_rfl) (by kernel_rfl) ?_)))
 have Hi:=qae Ht.o [.slice A1 5 c1,.slice A3 n c3,.bool false] (by simp);refine za7 (v:=.tuple #[.agg #[.slice A1 5 c1,.slice A3 n c3,.bool false],.int .i64 0]) ?_ rfl ?_
 ·exact qbb rfl _ _ _ ⟨w.heap.size,0,none⟩ rfl rfl (run_loadVar_mid _ _ _ _ _ _ (rangeAt_whole Hi) Tryz.underlying42 rfl (by kernel_rfl))
 ·have hb:=below_setCells (zai w.heap.size w2) (zad _) 0 [.slice A1 5 c1,.slice A3 n c3,.bool false];exact⟨A1,c1,A3,c3,rfl,Hr.o.setC (fun ad e _=>by have:=Hk.o ad e;have:=(zaa.1 Hf.o).1;omega),Hv.o.setC (fun ad e h0=>by have:=Hl.o ad e h0;have:=(zaa.1 Hg.o).1;omega),fun ad e=>zam Hb.o.size (Hk.o ad e),fun ad e h0=>Ho.o ad e (by have:=Hc.o;omega),below_setCells Hp.o (zad _) _ _⟩
end Go.Proofs.YtfcknhbmeofniaaGreatDoor
set_option linter.all false
namespace Go.Proofs.YtfcknhbmeofniaaGreatDoor
open Go.RowKit BT
theorem By.touchF {w w':World}{A:Option Addr}{l:Bs}{F:Nat→Prop}(h:By w A l)(ht:Touch F w w')(hF:∀ ad,A=some ad→0<l.length→¬F ad.block):By w' A l:=⟨fun h0=>by
 obtain⟨b,off,e,hl,hc⟩:=h.at_ h0;refine⟨b,off,e,zag hl ht.size,fun k x hk=>?_⟩;rw[←hc k x hk];unfold World.cell?;rw[ht.block b hl (hF ⟨b,off,none⟩ e h0)]⟩
theorem RowV.keepF {w w':World}{S S' F:Nat→Prop}(ht:Touch F w w')(hF:∀ b,S b→¬F b)(hS:∀ b,S b→S' b):∀ {vs:List Value} {ks:List Bs},RowV w S vs ks→RowV w' S' vs ks
 | [],_,h=>h
 | v::vs,_,⟨k,r,A,c,e1,e2,e3,e4,e5⟩=>⟨k,r,A,c,e1,e2,e3,⟨e4.by_.touchF ht (fun ad e h0=>hF _ (e4.blk ad e h0)),fun ad e h0=>hS _ (e4.blk ad e h0)⟩,RowV.keepF ht hF hS e5⟩
structure LeR (w:World) (B:Nat) (F:Nat→Prop) (L:Nat) (A:Option Addr) (c q:Nat) (cs:List Value) (es:List Bs) (A2:Option Addr) (c2 q2:Nat) (hs:List Value):Prop where
 lo:B≤L
 box:w.heap[L]?=some (.cells #[.slice A q c,.slice A2 q2 c2] 69 (0,0))
 own:Own w B 40 1 (.slice A q c) q cs
 rows:RowV w (LeS w B F L (.slice A q c) (.slice A2 q2 c2)) cs es
 n1:(Value.slice A q c).ownBlock≠some L
 own2:Own w B 34 32 (.slice A2 q2 c2) q2 hs
 n2:(Value.slice A2 q2 c2).ownBlock≠some L
 ap:∀ b,(Value.slice A q c).ownBlock=some b→(Value.slice A2 q2 c2).ownBlock≠some b
theorem LeR.lt {w:World}{B L:Nat}{F:Nat→Prop}{A:Option Addr}{c q:Nat}{cs:List Value}{es:List Bs}{A2:Option Addr}{c2 q2:Nat}{hs:List Value}(h:LeR w B F L A c q cs es A2 c2 q2 hs):L<w.heap.size:=(zaa.1 h.box).1
theorem LeR.below {w w':World}{B L:Nat}{F:Nat→Prop}{A:Option Addr}{c q:Nat}{cs:List Value}{es:List Bs}{A2:Option Addr}{c2 q2:Nat}{hs:List Value}(h:LeR w B F L A c q cs es A2 c2 q2 hs)(hb:Below w.heap.size w w'):LeR w' B F L A c q cs es A2 c2 q2 hs:=
 ⟨h.lo,(hb.block L h.lt).trans h.box,h.own.below (zad _) hb,h.rows.keepF (F:=fun _=>False) (Touch.of_below hb) (fun _ _ e=>e) (fun b hb2=>⟨hb2.1,zag hb2.2.1 hb.size,hb2.2.2⟩),h.n1,h.own2.below (zad _) hb,h.n2,h.ap⟩
theorem Touch.setC (w:World)(L k:Nat)(u:Value):Touch (fun b=>b=L) w (w.setCell ⟨L,k,none⟩ u):=Touch.setCell (F:=fun b=>b=L) (p:=⟨L,k,none⟩) (Touch.refl _ w) rfl u
theorem LeR.upd {w:World}{B L:Nat}{F:Nat→Prop}{A:Option Addr}{c q:Nat}{cs:List Value}{es:List Bs}{A2:Option Addr}{c2 q2:Nat}{hs:List Value}{w':World}{A4:Option Addr}{c4 q4:Nat}{cs':List Value}{es':List Bs}(h:LeR w B F L A c q cs es A2 c2 q2 hs)(hu:Upd w w' (.slice A q c) (.slice A4 q4 c4))
  (ho:Own w' B 40 1 (.slice A4 q4 c4) q4 cs')(hr:RowV w (LeS w B F L (.slice A q c) (.slice A2 q2 c2)) cs' es'):LeR (w'.setCell ⟨L,0,none⟩ (.slice A4 q4 c4)) B F L A4 c4 q4 cs' es' A2 c2 q2 hs:=by
 have Hb:(Value.slice A4 q4 c4).ownBlock≠some L:=fun e=>by
  rcases hu.own L e with h1|h1
  ·exact h.n1 h1
  ·have:=h.lt;omega
 have Ha:=(hu.touch.block L h.lt h.n1).trans h.box;have ht:=Touch.setC w' L 0 (.slice A4 q4 c4);refine⟨h.lo,qac Ha _,ho.touch ht (fun b e hb=>Hb (by rw[e,hb])),?_,Hb,(h.own2.touch hu.touch (fun b e hb=>h.ap b hb e)).touch ht (fun b e hb=>h.n2 (by rw[e,hb])),h.n2,fun b e e2=>?_⟩
 ·have h1:RowV w' (LeS w' B F L (.slice A4 q4 c4) (.slice A2 q2 c2)) cs' es':=hr.keepF hu.touch (fun b hb=>hb.2.2.2.1) (fun b hb=>⟨hb.1,zag hb.2.1 hu.touch.size,hb.2.2.1,fun e=>by
   rcases hu.own b e with h1|h1
   ·exact hb.2.2.2.1 h1
   ·have:=hb.2.1;omega,hb.2.2.2.2⟩)
  exact h1.keepF ht (fun b hb=>hb.2.2.1) (fun b hb=>⟨hb.1,zag hb.2.1 ht.size,hb.2.2⟩)
 ·rcases hu.own b e with h1|h1
  ·exact h.ap b h1 e2
  ·have:=(h.own2.blk b e2).2;omega
theorem LeR.upd2 {w:World}{B L:Nat}{F:Nat→Prop}{A:Option Addr}{c q:Nat}{cs:List Value}{es:List Bs}{A2:Option Addr}{c2 q2:Nat}{hs:List Value}{w':World}{A4:Option Addr}{c4 q4:Nat}{hs':List Value}(h:LeR w B F L A c q cs es A2 c2 q2 hs)(hu:Upd w w' (.slice A2 q2 c2) (.slice A4 q4 c4))
  (ho:Own w' B 34 32 (.slice A4 q4 c4) q4 hs'):LeR (w'.setCell ⟨L,1,none⟩ (.slice A4 q4 c4)) B F L A c q cs es A4 c4 q4 hs':=by
 have Hb:(Value.slice A4 q4 c4).ownBlock≠some L:=fun e=>by
  rcases hu.own L e with h1|h1
  ·exact h.n2 h1
  ·have:=h.lt;omega
 have Ha:=(hu.touch.block L h.lt h.n2).trans h.box;have ht:=Touch.setC w' L 1 (.slice A4 q4 c4);refine⟨h.lo,qac Ha _,(h.own.touch hu.touch (fun b e hb=>h.ap b e hb)).touch ht (fun b e hb=>h.n1 (by rw[e,hb])),?_,h.n1,ho.touch ht (fun b e hb=>Hb (by rw[e,hb])),Hb,fun b e e2=>?_⟩
 ·have h1:RowV w' (LeS w' B F L (.slice A q c) (.slice A4 q4 c4)) cs es:=h.rows.keepF hu.touch (fun b hb=>hb.2.2.2.2.1) (fun b hb=>⟨hb.1,zag hb.2.1 hu.touch.size,hb.2.2.1,hb.2.2.2.1,(fun e=>by
   rcases hu.own b e with h1|h1
   ·exact hb.2.2.2.2.1 h1
   ·have:=hb.2.1;omega),hb.2.2.2.2.2⟩)
  exact h1.keepF ht (fun b hb=>hb.2.2.1) (fun b hb=>⟨hb.1,zag hb.2.1 ht.size,hb.2.2⟩)
 ·rcases hu.own b e2 with h1|h1
  ·exact h.ap b e h1
  ·have:=(h.own.blk b e).2;omega
end Go.Proofs.YtfcknhbmeofniaaGreatDoor
set_option linter.all false
namespace Go.Proofs.YtfcknhbmeofniaaGreatDoor
open Go.RowKit BT
theorem below_upd {B:Nat}{w w2 w4:World}{v v':Value}(hb:Below B w w2)(hu:Upd w2 w4 v v')(hv:∀ b,v.ownBlock=some b→B≤b)(hB:B≤w2.heap.size):Below B w w4:=
 ⟨hu.touch.os.trans hb.os,hu.touch.tape.trans hb.tape,hu.touch.output.trans hb.output,zam hb.size hu.touch.size,fun k hk=>(hu.touch.block k (by omega) (fun e=>by have:=hv k e;omega)).trans (hb.block k hk)⟩
theorem qgV {w:World}{B L:Nat}{F:Nat→Prop}{es:List Bs}(h:LeM w B F L es){A0:Option Addr}{n c0:Nat}{l:Bs}(hb:By w A0 l)(hn:l.length=n)(h1M:n≤1048576)(hA:∀ ad,A0=some ad→0<l.length→¬F ad.block)
  (hk:Kon w)(hkB:1<B)(hBw:B≤w.heap.size)(hmany:es.length<1000) :
  Calls Tryz.prog 11 #[.pointer (some ⟨L,0,none⟩),.slice A0 n c0] w fun e w'=>e=.returned (.tuple #[])∧∃ F',LeM w' B F' L (es++[l])∧Below B w w'∧Ext F F' w w':=by
 obtain⟨J0,hj0,jz0,jz1,jz2⟩:=zaY qlS;obtain⟨I0,hi0,hz0,hz1,hz2⟩:=zaY qhT;have hN:=zH hk;obtain⟨A,c,cs,A2,c2,x1,x2,x3,x4,x5,x6,x7⟩:=h.ex;have HD:=h.sz;have hR:LeR w B (fun b=>F b∨w.heap.size≤b) L A c es.length cs es A2 c2 es.length (bv (es.map qce).flatten):=⟨h.lo,x1,x2,x3.keepF (F:=fun _=>False) (Touch.refl _ _) (fun _ _ e=>e) (fun b hb=>⟨hb.1,hb.2.1,hb.2.2.1,hb.2.2.2.1,hb.2.2.2.2.1,.inl hb.2.2.2.2.2⟩),x4,x5,x6,x7⟩;have hs:∀ ad,A0=some ad→0<l.length→(Value.slice A es.length c).ownBlock≠some ad.block∧(Value.slice A2 es.length c2).ownBlock≠some ad.block:=fun ad e h0=>⟨fun e2=>hA ad e h0 (h.fo _ (.inr ⟨_,_,x1,.inl e2⟩)),fun e2=>hA ad e h0 (h.fo _ (.inr ⟨_,_,x1,.inr e2⟩))⟩;have ht:∀ ad,A0=some ad→0<l.length→ad.block≠L:=fun ad e h0 e2=>hA ad e h0 (h.fo _ (.inl e2));have H6:=zH h.fb;have Ho:=zH h.fo;have Ha:Below w.heap.size w w.drew:=(zai _ _).drew;have Hh:=zH (hR.below Ha);have hj:=zH (hb.below Ha);have HI:=zH (qaC A0 c0 l w.drew (hb.below Ha) (by omega));rw[hn]at HI;have HJ:=zH (hk.below hk.lt Ha);have HG:=zH (show ∀ ad,A0=some ad→0<l.length→ad.block≠L∧(Value.slice A es.length c).ownBlock≠some ad.block∧(Value.slice A2 es.length c2).ownBlock≠some ad.block from fun ad e h0=>⟨ht ad e h0,hs ad e h0⟩);have H4:=zH (show Below B w w.drew from Ha.mono hBw);have HT:=zH (show Touch (fun b=>b=L∨(Value.slice A es.length c).ownBlock=some b∨(Value.slice A2 es.length c2).ownBlock=some b) w w.drew from Touch.of_below Ha);have HC:=zH x1
 have hL:=zH (show w.heap.size≤w.drew.heap.size from Ha.size);have hQ:=zH HD;have Hj:=zH hn;have HM:=zH hmany;have HA:=zH h.lo;have hI:=zH hBw;have H9:=zH (show qce l=qce l from rfl);obtain⟨q,hq⟩:∃ q,es.length=q:=⟨_,rfl⟩;rw[hq]at Hh HG HM HT HC;have HQ:=zH hq;have hX:q≤1000:=by have:=HM.o;omega
 have HZ:B≤w.drew.heap.size:=hBw;have Hc:=zH (show w.drew.cell? ⟨L,0,none⟩=some (.slice A q c)from zC Hh.o.box);clear h hb hn hA hk hmany x1 x2 x3 x4 x5 x6 x7 HD hR hs ht Ha hq hBw;go_enter Tryz.func11,Tryz.ntmps11
 go_upto_region 0 with fail
 refine qad (S:=fun W'=>W'.cell? ⟨L,0,none⟩=some (.slice A q c)) [11] (by kernel_rfl) Hc.o (fun _=>?_);generalize w.drew=W0 at *;refine zP 0 4 (.pointer (some ⟨L,0,none⟩)) Hc.o ?_;try simp only[zS]
 refine zP 1 5 (.pointer (some ⟨L,0,none⟩)) Hc.o ?_;try simp only[zS]
 refine zP 2 6 (.pointer (some ⟨L,0,none⟩)) Hc.o ?_;try simp only[zS]
 refine zP 3 7 (.pointer (some ⟨L,0,none⟩)) Hc.o ?_;try simp only[zS]
 refine zL 4 8 (.slice A q c) rfl (Or.inl ⟨by rfl,fun W' hS=>by go_simp⟩) (qab Hc.o) ?_;try simp only[zS]
 refine zP 5 9 (.slice A0 n c0) Hc.o ?_;try simp only[zS]
 refine zE 6 10 rfl (fun Kr hKr=>?_);go_simp;go_at_call 28
 refine HI.o.mono ?_;rintro e W1 ⟨A1,c1,rfl,ho1,hb1⟩;have HO:=zH (Hh.o.below hb1);have ha:=zH ho1;have hP:=zH hb1.size;have Hl:=zH (H4.o.trans (hb1.mono HZ));have Hp:=zH (HT.o.trans (Touch.of_below hb1));have ho:=zH (hj.o.below hb1);have HK:=zH (HJ.o.below HJ.o.lt hb1);have hu:B≤W1.heap.size:=zam HZ hb1.size;have H7:=zH (show W1.cell? ⟨L,0,none⟩=some (.slice A q c)from zC HO.o.box);clear ho1 hb1;refine hKr.out (.slice A1 n c1) _ (qab H7.o) (fun _=>?_);clear hKr Kr;try simp only[zS]
 refine zE 7 11 rfl (fun Kr hKr=>?_);refine Eq.mpr (zax (by rfl)) ?_;refine qaU 22 (.tmp 10) rfl Tryz.underlying22 hj0 jz0 jz1 (by decide) (by decide) (.slice A1 n c1) rfl [.slice A1 n c1] (by rfl) rfl ?_;have Hf:Below W1.heap.size W1 (W1.alloc (.cells #[.slice A1 n c1] 40)):=zB _ _;have Hb:=zH (HO.o.below Hf);have HB:=zH (ha.o.below (zad _) Hf);have Hm:=zH (Hl.o.trans (Hf.mono hu));have Hi:=zH (Hp.o.trans (Touch.of_below Hf));have hp:=zH (ho.o.below Hf);have hM:=zH (HK.o.below HK.o.lt Hf);have HH:=zH (show Src (W1.alloc (.cells #[.slice A1 n c1] 40)) 1 (some ⟨W1.heap.size,0,none⟩) 1 [.slice A1 n c1]from qas (zae W1 (.cells #[.slice A1 n c1] 40)) rfl);have HX:B≤(W1.alloc (.cells #[.slice A1 n c1] 40)).heap.size:=zam hu Hf.size;have H8:=zH (show(W1.alloc (.cells #[.slice A1 n c1] 40)).cell? ⟨L,0,none⟩=some (.slice A q c)from zC Hb.o.box);obtain⟨C,hC⟩:∃ C,W1.heap.size=C:=⟨_,rfl⟩;rw[hC]at HH⊢;clear hC Hf;generalize W1.alloc (.cells #[.slice A1 n c1] 40)=W2 at *;refine hKr.out (.slice (some ⟨C,0,none⟩) 1 1) _ (qab H8.o) (fun _=>?_);clear hKr Kr;try simp only[zS]
 refine zE 8 12 rfl (fun Kr hKr=>?_);refine Eq.mpr (zax (by rfl)) ?_;refine qaS (.tmp 8) (.tmp 11) 22 rfl B 40 J0 _ 1 24 Tryz.underlying22 hj0 jz0 jz1 jz2 rfl (by decide) (.slice A q c) q cs rfl Hb.o.own.row (some ⟨C,0,none⟩) 1 1 [.slice A1 n c1] rfl HH.o (by simp;rfl) (by unfold maxLen;omega) (by omega) HX ?_;intro A4 c4 W4 r1 r2 r3;have HE:=qbq r2 r3;have Hk:=zH HE;have hd:=zH (qaQ Hb.o.own HX r1 HE);have HL:=zH ((HE.touch.block L Hb.o.lt Hb.o.n1).trans Hb.o.box);have Hy:=zH (show W4.cell? ⟨L,0,none⟩=some (.slice A q c)from zC HL.o);have Hs:=zH (show W4.there L 0 1 from there_of_block HL.o 0 (by simp));clear r1 r2 r3 HE;refine hKr.out (.slice A4 (q+1) c4) _ (qab Hy.o) (fun _=>?_);clear hKr Kr;try simp only[zS]
 refine zP 9 13 (.pointer (some ⟨L,0,none⟩)) Hy.o ?_;try simp only[zS]
 refine zP 10 14 (.pointer (some ⟨L,0,none⟩)) Hy.o ?_;try simp only[zS]
 refine qam (rs:=[11]) (by kernel_rfl) (by simp) ?_;refine AllReadyG.store rfl 22 (.tmp 14) (.tmp 12) rfl rfl rfl L 0 (.slice A4 (q+1) c4) rfl rfl Hs.o (by kernel_rfl) rfl (qaD 11 (by rfl) (by kernel_rfl)) ?_ AllReadyG.nil;have hB:RowV W2 (LeS W2 B (fun b=>F b∨w.heap.size≤b) L (.slice A q c) (.slice A2 q c2)) (cs++[.slice A1 n c1]) (es++[l]):=by
  have H1:=Hb.o.rows;have h1:RowV W2 (LeS W2 B (fun b=>F b∨w.heap.size≤b) L (.slice A q c) (.slice A2 q c2)) [.slice A1 l.length c1] [l]:=RowV.one (by rw[Hj.o];exact HB.o.row.capn) ⟨Own.byN HB.o Hj.o,fun ad e h0=>by
   obtain⟨b,e2,h1,h2⟩:=HB.o.pos (by have:=Hj.o;omega);rw[e]at e2;cases e2;have hl:=Hh.o.lt;exact⟨zam HZ h1,h2,(fun e=>by have e3:b=L:=e;omega),(fun e=>by have:=(Hh.o.own.blk b e).2;omega),(fun e=>by have:=(Hh.o.own2.blk b e).2;omega),.inr (zam hL.o (zam (zad _) h1))⟩⟩
  rw[Hj.o]at h1;exact H1.append h1
 have HP:=zH (Hb.o.upd Hk.o hd.o hB);have Hn:=zH ((below_upd Hm.o Hk.o (fun b e=>(Hb.o.own.blk b e).1) HX).setCell (p:=⟨L,0,none⟩) HA.o (.slice A4 (q+1) c4));have HU:=zH ((Hi.o.trans (Hk.o.touch.mono (fun b _ e=>.inr (.inl e)))).trans ((Touch.setC W4 L 0 (.slice A4 (q+1) c4)).mono (fun b _ e=>.inl e)));have HR:=zH (show ∀ b,(Value.slice A4 (q+1) c4).ownBlock=some b→(Value.slice A q c).ownBlock=some b∨w.heap.size≤b from fun b e=>(Hk.o.own b e).imp id (fun h=>zam Hi.o.size h.1));have hr:=zH ((hp.o.touchF Hk.o.touch (fun ad e h0=>(HG.o ad e h0).2.1)).touchF (Touch.setC W4 L 0 (.slice A4 (q+1) c4)) (fun ad e h0=>(HG.o ad e h0).1));have hw:B≤(W4.setCell ⟨L,0,none⟩ (.slice A4 (q+1) c4)).heap.size:=by have:=HP.o.lt;have:=HA.o;omega
 clear hB Hk hd HL Hy Hs Hb HB hp hM HH H8 HO ha ho HK H7 Hh hj HI HJ Hc H4 Hl Hm HT Hp Hi;generalize W4.setCell ⟨L,0,none⟩ (.slice A4 (q+1) c4)=W5 at *;try simp only[zS]
 refine qaf (by kernel_rfl) ?_ _;go_upto_region 1 with fail
 have Ha:Below W5.heap.size W5 W5.drew:=(zai _ _).drew;have hg:=zH (HP.o.below Ha);have H3:=zH (Hn.o.trans (Ha.mono hw));have HV:=zH (HU.o.trans (Touch.of_below Ha));have H0:=qj7 A0 n c0 l W5.drew (hr.o.below Ha) Hj.o (hN.o.below hkB H3.o) (by omega);obtain⟨XL,hXL⟩:∃ x,bv (qce l)=x:=⟨_,rfl⟩;rw[hXL]at H0;have H9:=zH H0;have Hv:=zH (show XL.length=32 by rw[←hXL,bv_len,qcm]);have hV:=zH (show ∀ v∈XL,v.oneCell'=true by rw[←hXL];exact qak _);have hU:=zH hXL;have hy:B≤W5.drew.heap.size:=hw;have Hg:=zH (show W5.drew.cell? ⟨L,1,none⟩=some (.slice A2 q c2)from zC hg.o.box);clear Ha H0 hXL HP Hn hr;refine qad (S:=fun W'=>W'.cell? ⟨L,1,none⟩=some (.slice A2 q c2)) [11] (by kernel_rfl) Hg.o (fun _=>?_);generalize W5.drew=W6 at *;refine zP 0 15 (.pointer (some ⟨L,0,none⟩)) Hg.o ?_;try simp only[zS]
 refine zP 1 16 (.pointer (some ⟨L,0,none⟩)) Hg.o ?_;try simp only[zS]
 refine zP 2 17 (.pointer (some ⟨L,0,none⟩)) Hg.o ?_;try simp only[zS]
 refine zP 3 18 (.pointer (some ⟨L,1,none⟩)) Hg.o ?_;try simp only[zS]
 refine zL 4 19 (.slice A2 q c2) rfl (Or.inl ⟨by rfl,fun W' hS=>by go_simp⟩) (qab Hg.o) ?_;try simp only[zS]
 refine zP 5 20 (.slice A0 n c0) Hg.o ?_;try simp only[zS]
 refine zE 6 21 rfl (fun Kr hKr=>?_);go_simp;go_at_call 29
 refine H9.o.mono ?_;rintro e W7 ⟨rfl,hb7⟩;have hh:=zH (hg.o.below hb7);have hD:=zH (H3.o.trans (hb7.mono hy));have HW:=zH (HV.o.trans (Touch.of_below hb7));have hz:B≤W7.heap.size:=zam hy hb7.size;have hJ:=zH (show W7.cell? ⟨L,1,none⟩=some (.slice A2 q c2)from zC hh.o.box);clear hb7;refine hKr.out (.agg XL.toArray) _ (qab hJ.o) (fun _=>?_);clear hKr Kr;try simp only[zS]
 refine zE 7 22 rfl (fun Kr hKr=>?_);refine Eq.mpr (zax (by rfl)) ?_;refine qaU 50 (.tmp 21) rfl Tryz.underlying50 hi0 hz0 hz1 (by decide) (by decide) (.agg XL.toArray) rfl XL (by rfl) Hv.o ?_;have Hw:Below W7.heap.size W7 (W7.alloc (.cells XL.toArray 34)):=zB _ _;have He:=zH (hh.o.below Hw);have hE:=zH (hD.o.trans (Hw.mono hz));have Hq:=zH (HW.o.trans (Touch.of_below Hw));have H5:=zH (show Src (W7.alloc (.cells XL.toArray 34)) 32 (some ⟨W7.heap.size,0,none⟩) 1 XL from qas (zae W7 (.cells XL.toArray 34)) (by rw[Hv.o]));have HY:B≤(W7.alloc (.cells XL.toArray 34)).heap.size:=zam hz Hw.size;have hK:=zH (show(W7.alloc (.cells XL.toArray 34)).cell? ⟨L,1,none⟩=some (.slice A2 q c2)from zC He.o.box);obtain⟨C2,hC2⟩:∃ C,W7.heap.size=C:=⟨_,rfl⟩;rw[hC2]at H5⊢;clear hC2 Hw;generalize W7.alloc (.cells XL.toArray 34)=W8 at *;refine hKr.out (.slice (some ⟨C2,0,none⟩) 1 1) _ (qab hK.o) (fun _=>?_);clear hKr Kr;try simp only[zS]
 refine zE 8 23 rfl (fun Kr hKr=>?_);refine Eq.mpr (zax (by rfl)) ?_;refine qaS (.tmp 19) (.tmp 22) 50 rfl B 34 I0 _ 32 32 Tryz.underlying50 hi0 hz0 hz1 hz2 (by simp[Value.cells]) (by decide) (.slice A2 q c2) q _ rfl He.o.own2.row (some ⟨C2,0,none⟩) 1 1 XL rfl H5.o hV.o (by unfold maxLen;omega) (by omega) HY ?_;intro A9 c9 W9 r1 r2 r3;have HF:=qbq r2 r3;have Hu:=zH HF;have hf:=zH (qaQ He.o.own2 HY r1 HF);have HN:=zH ((HF.touch.block L He.o.lt He.o.n2).trans He.o.box);have Hz:=zH (show W9.cell? ⟨L,1,none⟩=some (.slice A2 q c2)from zC HN.o);have Ht:=zH (show W9.there L 1 1 from there_of_block HN.o 1 (by simp));clear r1 r2 r3 HF;refine hKr.out (.slice A9 (q+1) c9) _ (qab Hz.o) (fun _=>?_);clear hKr Kr;try simp only[zS]
 refine zP 9 24 (.pointer (some ⟨L,0,none⟩)) Hz.o ?_;try simp only[zS]
 refine zP 10 25 (.pointer (some ⟨L,1,none⟩)) Hz.o ?_;try simp only[zS]
 refine qam (rs:=[11]) (by kernel_rfl) (by simp) ?_;refine AllReadyG.store rfl 50 (.tmp 25) (.tmp 23) rfl rfl rfl L 1 (.slice A9 (q+1) c9) rfl rfl Ht.o (by kernel_rfl) rfl (qaD 11 (by rfl) (by kernel_rfl)) ?_ AllReadyG.nil;have hO:=zH (He.o.upd2 Hu.o hf.o);have hH:=zH ((below_upd hE.o Hu.o (fun b e=>(He.o.own2.blk b e).1) HY).setCell (p:=⟨L,1,none⟩) HA.o (.slice A9 (q+1) c9));have Hr:=zH ((Hq.o.trans (Hu.o.touch.mono (fun b _ e=>.inr (.inr e)))).trans ((Touch.setC W9 L 1 (.slice A9 (q+1) c9)).mono (fun b _ e=>.inl e)));have HS:=zH (show ∀ b,(Value.slice A9 (q+1) c9).ownBlock=some b→(Value.slice A2 q c2).ownBlock=some b∨w.heap.size≤b from fun b e=>(Hu.o.own b e).imp id (fun h=>zam Hq.o.size h.1));clear Hu hf HN Hz Ht;generalize W9.setCell ⟨L,1,none⟩ (.slice A9 (q+1) c9)=WA at *;try simp only[zS]
 refine qaf (by kernel_rfl) ?_ _;go_wp2;go_returns;have hq:=HQ.o;have e1:(es++[l]).length=q+1:=by simp[hq]
 have e2:bv (es.map qce).flatten++XL=bv ((es++[l]).map qce).flatten:=by
  rw[zbz,List.flatten_append,qao,←hU.o];simp
 have hR:=hO.o;rw[e2]at hR;have hW:=hR.lt;have HD:w.heap.size≤WA.heap.size:=Hr.o.size;have H2:∀ b,LeO WA L b→F b∨w.heap.size≤b:=fun b hb=>by
  rcases hb with h1|⟨v,v2,h0,h1⟩
  ·exact .inl (Ho.o b (.inl h1))
  ·have e:=hR.box.symm.trans h0;simp only[zau,Obj.cells.injEq,and_true,Array.mk.injEq,List.cons.injEq]at e;obtain⟨rfl,rfl⟩:=e;rcases h1 with h1|h1
   ·exact(HR.o b h1).imp (fun h=>Ho.o b (.inr ⟨_,_,HC.o,.inl h⟩)) id
   ·exact(HS.o b h1).imp (fun h=>Ho.o b (.inr ⟨_,_,HC.o,.inr h⟩)) id
 have Hx:∀ b,LeO WA L b→b<WA.heap.size:=fun b hb=>by
  rcases hb with h1|⟨v,v2,h0,h1⟩
  ·rw[h1];exact hW
  ·have e:=hR.box.symm.trans h0;simp only[zau,Obj.cells.injEq,and_true,Array.mk.injEq,List.cons.injEq]at e;obtain⟨rfl,rfl⟩:=e;rcases h1 with h1|h1
   ·exact(hR.own.blk b h1).2
   ·exact(hR.own2.blk b h1).2
 refine⟨rfl,fun b=>F b∨(w.heap.size≤b∧b<WA.heap.size),⟨HA.o,fun b hb=>?_,fun b hb=>(H2 b hb).imp id (fun h=>⟨h,Hx b hb⟩),fun e he=>?_,by have:=HM.o;omega,A4,c4,cs++[.slice A1 n c1],A9,c9,?_⟩,hH.o,Hr.o.mono (fun b _ hb=>?_),fun b hb=>hb.imp id (fun h=>h.1)⟩
 ·rcases hb with h1|h1
  ·exact⟨(H6.o b h1).1,zag (H6.o b h1).2 HD⟩
  ·exact⟨zam hI.o h1.1,h1.2⟩
 ·rcases zar.1 he with h1|h1
  ·exact hQ.o e h1
  ·rw[za1.1 h1,Hj.o];exact h1M
 ·rw[e1];exact⟨hR.box,hR.own,hR.rows.keepF (F:=fun _=>False) (Touch.refl _ _) (fun _ _ e=>e) (fun b hb=>⟨hb.1,hb.2.1,hb.2.2.1,hb.2.2.2.1,hb.2.2.2.2.1,hb.2.2.2.2.2.imp id (fun h=>⟨h,hb.2.1⟩)⟩),hR.n1,hR.own2,hR.n2,hR.ap⟩
 ·rcases hb with h1|h1
  ·exact Ho.o b (.inl h1)
  ·exact Ho.o b (.inr ⟨_,_,HC.o,h1⟩)
end Go.Proofs.YtfcknhbmeofniaaGreatDoor
set_option linter.all false
namespace Go.Proofs.YtfcknhbmeofniaaGreatDoor
open Go.RowKit BT
theorem qhH (k:Int)(x0 x1 x2 x3 x4 x5 x6 x7 x8 x9 x10 x11 x12 x13 x14 x15 x16 x17 x18 x19 x20 x21 x22 x23 x24 x25 x26 x27 x28 x29 x30 x31:Value):List.foldl (fun cs x=>cs.setIfInBounds (1+x.snd) x.fst) #[Value.int .i64 k,Value.int .u8 0,Value.int .u8 0,Value.int .u8 0,Value.int .u8 0,Value.int .u8 0,Value.int .u8 0,Value.int .u8 0,Value.int .u8 0,Value.int .u8 0,Value.int .u8 0,Value.int .u8 0,Value.int .u8 0,Value.int .u8 0,Value.int .u8 0,Value.int .u8 0,Value.int .u8 0,Value.int .u8 0,Value.int .u8 0,Value.int .u8 0,Value.int .u8 0,Value.int .u8 0,Value.int .u8 0,Value.int .u8 0,Value.int .u8 0,Value.int .u8 0,Value.int .u8 0,Value.int .u8 0,Value.int .u8 0,Value.int .u8 0,Value.int .u8 0,Value.int .u8 0,Value.int .u8 0] [x0,x1,x2,x3,x4,x5,x6,x7,x8,x9,x10,x11,x12,x13,x14,x15,x16,x17,x18,x19,x20,x21,x22,x23,x24,x25,x26,x27,x28,x29,x30,x31].zipIdx=[Value.int .i64 k,x0,x1,x2,x3,x4,x5,x6,x7,x8,x9,x10,x11,x12,x13,x14,x15,x16,x17,x18,x19,x20,x21,x22,x23,x24,x25,x26,x27,x28,x29,x30,x31].toArray:=by kernel_rfl
theorem qiR (k:Int)(XL:List Value)(h:XL.length=32):List.foldl (fun cs x=>cs.setIfInBounds (1+x.snd) x.fst) #[Value.int .i64 k,Value.int .u8 0,Value.int .u8 0,Value.int .u8 0,Value.int .u8 0,Value.int .u8 0,Value.int .u8 0,Value.int .u8 0,Value.int .u8 0,Value.int .u8 0,Value.int .u8 0,Value.int .u8 0,Value.int .u8 0,Value.int .u8 0,Value.int .u8 0,Value.int .u8 0,Value.int .u8 0,Value.int .u8 0,Value.int .u8 0,Value.int .u8 0,Value.int .u8 0,Value.int .u8 0,Value.int .u8 0,Value.int .u8 0,Value.int .u8 0,Value.int .u8 0,Value.int .u8 0,Value.int .u8 0,Value.int .u8 0,Value.int .u8 0,Value.int .u8 0,Value.int .u8 0,Value.int .u8 0] XL.zipIdx=(Value.int .i64 k::XL).toArray:=by
 match XL,h with
 | [x0,x1,x2,x3,x4,x5,x6,x7,x8,x9,x10,x11,x12,x13,x14,x15,x16,x17,x18,x19,x20,x21,x22,x23,x24,x25,x26,x27,x28,x29,x30,x31],_=>exact qhH k x0 x1 x2 x3 x4 x5 x6 x7 x8 x9 x10 x11 x12 x13 x14 x15 x16 x17 x18 x19 x20 x21 x22 x23 x24 x25 x26 x27 x28 x29 x30 x31
theorem qi6 {w:World}{b k:Nat}{A:Option Addr}{n c:Nat}{l:List Bs}(hb:By w A l.flatten)(h32:H32 l)(hn:l.length=n)(hk:Kon w)(hlen:n≤1000000)(hx:w.cell? ⟨b,0,none⟩=some (.int .i64 (k:Int))) :
  Calls Tryz.prog 26 #[.slice A n c,.pointer (some ⟨b,0,none⟩)] w fun e w'=>e=.returned (.tuple #[.agg (Value.int .i64 (k:Int)::bv (mtH l)).toArray,.int .i64 0])∧Below w.heap.size w w':=by
 obtain⟨W0,hW0⟩:∃ W0,w.alloc (.cells #[.int .i64 0,Value.int .u8 0,Value.int .u8 0,Value.int .u8 0,Value.int .u8 0,Value.int .u8 0,Value.int .u8 0,Value.int .u8 0,Value.int .u8 0,Value.int .u8 0,Value.int .u8 0,Value.int .u8 0,Value.int .u8 0,Value.int .u8 0,Value.int .u8 0,Value.int .u8 0,Value.int .u8 0,Value.int .u8 0,Value.int .u8 0,Value.int .u8 0,Value.int .u8 0,Value.int .u8 0,Value.int .u8 0,Value.int .u8 0,Value.int .u8 0,Value.int .u8 0,Value.int .u8 0,Value.int .u8 0,Value.int .u8 0,Value.int .u8 0,Value.int .u8 0,Value.int .u8 0,Value.int .u8 0] 36)=W0:=⟨_,rfl⟩;have He:W0.heap[w.heap.size]?=some (.cells (#[.int .i64 0,Value.int .u8 0,Value.int .u8 0,Value.int .u8 0,Value.int .u8 0,Value.int .u8 0,Value.int .u8 0,Value.int .u8 0,Value.int .u8 0,Value.int .u8 0,Value.int .u8 0,Value.int .u8 0,Value.int .u8 0,Value.int .u8 0,Value.int .u8 0,Value.int .u8 0,Value.int .u8 0,Value.int .u8 0,Value.int .u8 0,Value.int .u8 0,Value.int .u8 0,Value.int .u8 0,Value.int .u8 0,Value.int .u8 0,Value.int .u8 0,Value.int .u8 0,Value.int .u8 0,Value.int .u8 0,Value.int .u8 0,Value.int .u8 0,Value.int .u8 0,Value.int .u8 0,Value.int .u8 0]:Array Value) 36 (0,0)):=by rw[←hW0];exact zae w _
 have Hl:Below w.heap.size w W0:=by rw[←hW0];exact zB _ _
 have Hb:Below w.heap.size w W0.drew:=Hl.drew;have Hk:=zH (qd9 A n c l W0.drew (hb.below Hb) h32 hn (hk.below hk.lt Hb) hlen);obtain⟨XL,hXL⟩:∃ x,bv (mtH l)=x:=⟨_,rfl⟩;rw[hXL]at Hk;have Hf:XL.length=32:=by rw[←hXL,bv_len];exact qcD h32
 have Ha:=zH Hf;have Hs:=zH (show ∀ v∈XL,v.oneCell'=true by rw[←hXL];exact qak _);have Hu:=qiR (k:Int) XL Hf;have Hc:=zH (show W0.drew.cell? ⟨b,0,none⟩=some (.int .i64 (k:Int))from(Hb.cell (p:=⟨b,0,none⟩) (zav _ _ hx)).trans hx);have Hg:=zH Hb;have Hm:w.heap.size<W0.drew.heap.size:=(zaa.1 He).1;have Hn:W0.drew.heap[w.heap.size]?=W0.heap[w.heap.size]?:=rfl;have Hq:=zH (Hn.trans He);have Hv:(XL.length+1)=33:=by omega
 have Hi:=zH (show(Value.int .i64 (k:Int)::XL).toArray.size=33 by simp[Hf]);have Hp:=zH (show ∀ v∈(Value.int .i64 (k:Int)::XL),v.oneCell'=true from fun v hv=>by
  rcases zaB.1 hv with rfl|h
  ·rfl
  ·exact Hs.o v h)
 have Ht:b<w.heap.size:=zav _ _ hx;rw[hXL];clear He Hn Hl Hb hb h32 hn hk hlen hx hXL;go_enter Tryz.func26,Tryz.ntmps26
 go_upto_region 1 with fail
 clear hW0;refine qad (S:=fun W'=>W'.cell? ⟨b,0,none⟩=some (.int .i64 (k:Int))) [4] (by kernel_rfl) Hc.o (fun _=>?_);refine zL 0 5 (.int .i64 (k:Int)) rfl (Or.inl ⟨by rfl,fun W' hS=>by go_simp⟩) (qab Hc.o) ?_;try simp only[zS]
 refine zP 1 6 (.slice A n c) Hc.o ?_;try simp only[zS]
 refine zE 2 7 rfl (fun Kr hKr=>?_);go_simp;go_at_call 27
 refine Hk.o.mono ?_;rintro e W1 ⟨rfl,hb1⟩;have Hj:=zH ((hb1.block w.heap.size Hm).trans Hq.o);have Ho:=zH (Hg.o.trans (hb1.mono Hg.o.size));have Hh:=zH (show W1.cell? ⟨b,0,none⟩=some (.int .i64 (k:Int))from(hb1.cell (p:=⟨b,0,none⟩) (Nat.lt_trans Ht Hm)).trans Hc.o);have Hr:=zH (show W1.there w.heap.size 0 33 from there_of_block Hj.o 0 (by simp));clear hb1;refine hKr.out (.agg XL.toArray) _ (qab Hh.o) (fun _=>?_);clear hKr Kr;try simp only[zS]
 refine zP 3 8 (.agg (Value.int .i64 (k:Int)::XL).toArray) Hh.o ?_;try simp only[zS]
 refine qam (rs:=[4]) (by kernel_rfl) (by simp) ?_;refine AllReadyG.ev none rfl rfl (fun Kr hKr=>?_) AllReadyG.nil;refine Eq.mpr (zax (by rfl)) ?_;refine wp_store_mid 36 (.tmp 3) (.tmp 8) rfl w.heap.size 0 (Value.int .i64 (k:Int)::XL).toArray rfl rfl (by rw[Hi.o];exact Hr.o) (by rw[Hi.o];kernel_rfl) (all_oneCell_toArray Hp.o) ?_;refine hKr.out _ _ (qaD 4 (by rfl) (by kernel_rfl)) (fun _=>?_);clear hKr Kr;try simp only[zS]
 refine zR 5 4 (.int .i64 0) (qaD 4 (by rfl) (by kernel_rfl)) ?_;try simp only[zS]
 refine qaf (by kernel_rfl) ?_ _;go_wp2;refine za7 (v:=.tuple #[.agg (Value.int .i64 (k:Int)::XL).toArray,.int .i64 0]) ?_ rfl ?_
 ·exact qbb rfl _ _ _ ⟨w.heap.size,0,none⟩ rfl rfl (run_loadVar_mid _ _ _ _ _ _ (rangeAt_whole (qae Hj.o (Value.int .i64 (k:Int)::XL) (by simp[Ha.o]))) Tryz.underlying36 rfl (by rw[zal,Ha.o];kernel_rfl))
 ·exact⟨rfl,below_setCells Ho.o (zad _) _ _⟩
end Go.Proofs.YtfcknhbmeofniaaGreatDoor
