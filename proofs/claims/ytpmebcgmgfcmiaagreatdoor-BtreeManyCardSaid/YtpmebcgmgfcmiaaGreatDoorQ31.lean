/- Texts RrE RrF PgI PgJ. -/
import Derived.Test.YtpmebcgmgfcmiaaGreatDoorQ30
set_option linter.all false
set_option maxRecDepth 100000
set_option maxHeartbeats 16000000
namespace Go.Proofs.YtpmebcgmgfcmiaaGreatDoor
open Go.RowKit BT Go.Lib
variable {w wr:World}{R j n:Nat}{S:Nat→Prop}{A:Option Addr}{l:List Pr}{cs:List Value}{lo hi:Bs}{x:Pr}
theorem qlx {w0 w2 w3 w8:World}{A2 A3:Option Addr}{c c2 c3 i q:Nat}{l':List Pr}(h:RowM w R S A c l)(hRS:¬S R)(hq:l.length=q)(hr:RowV w S cs (l.flatMap fl2))
  (hP:l'=l.take i++l.drop j)(hRl:R<w.heap.size)(hb0:Below w.heap.size w w0)(ho2:Own w2 w0.heap.size 48 2 (.slice A2 i c2) i (cs.take (i*2)))(hb2:Below w0.heap.size w0 w2)
  (ho3:Own w3 w0.heap.size 48 2 (.slice A3 (i+(q-j)) c3) (i+(q-j)) (cs.take (i*2)++cs.drop (j*2)))(hu3:Upd w2 w3 (.slice A2 i c2) (.slice A3 (i+(q-j)) c3))
  (hT8:Touch (fun b=>b=R) w3 w8)(hbx:w8.heap[R]?=some (.cells #[.slice A3 (i+(q-j)) c3] 46 (0,0)))(hj:j≤q)(hi:i≤q)(v:Value) :
  RzF R S l' v w (.returned v) w8:=by
 have z0:=hb0.size;have z2:=hb2.size;have z3:=hu3.touch.size;have z8:=hT8.size;have Hb:Touch (fun b=>b=R) w w8:=by
  have t2:Below w.heap.size w w2:=hb0.trans (hb2.mono hb0.size);have t3:Below w.heap.size w w3:=t2.trans (qb2 hu3 (fun b e=>by have:=ho2.blk b e;omega) t2.size);exact(Touch.of_below t3).trans hT8
 have Ha:l'.length=i+(q-j):=by rw[hP];simp;omega
 refine⟨rfl,Hb,A3,c3,⟨by rw[Ha];exact hbx,?_,?_⟩⟩
 ·rw[PrS,Ha];refine⟨_,(ho3.touch hT8 (fun b e hR=>by have:=(ho3.blk b e).1;omega)).srcS (fun b e=>.inr ⟨by have:=(ho3.blk b e).1;omega,by have:=(ho3.blk b e).2;omega⟩),?_⟩;have Hc:=(hr.same (Same.of_touch Hb (fun b hb e=>hRS (by rw[←e];exact hb)))).mono (S':=fun b=>S b∨(w.heap.size≤b∧b<w8.heap.size)) (fun b hb=>.inl hb);have r1:=(Hc.split (i*2)).1;have r2:=(Hc.split (j*2)).2;rw[qgw]at r1;rw[qgv]at r2;rw[hP,zat];exact RowV.append r1 r2
 ·rw[Ha];obtain⟨_,_,e,h⟩:=ho3.slice;cases e;exact h
theorem qkC {KA:Option Addr}{c kc:Nat}{key:Bs}(h:RowM w R S A c l)(hRS:¬S R)(hk:By w KA key)(hn:key.length=n)(hl:l.length≤1048575) :
  Calls Tryz.prog 33 #[.pointer (some ⟨R,0,none⟩),.slice KA n kc] w (RzF R S (delR key l) (.bool (atR key l).2) w):=by
 have HA:=zH (qhV (kc:=kc) h hk hn (by omega));have HP:=zH (qj1 key l);have Hj:=qgY key l;obtain⟨i,hi⟩:∃ i,(atR key l).1=i:=⟨_,rfl⟩;obtain⟨th,hth⟩:∃ i,(atR key l).2=i:=⟨_,rfl⟩;have Hg:th=true→i<l.length:=fun h=>by
  rcases zbL i l.length with h' | h'
  ·exact h'
  ·have:=qeC key l (by omega);rw[hth,h]at this;cases this
 rw[hi,hth]at HA HP;rw[hi]at Hj;rw[hth];obtain⟨q,hq⟩:∃ q,l.length=q:=⟨_,rfl⟩;have HQ:=zH hq;have HR:=zH h;obtain⟨cs,hs,hr⟩:=h.pr;rw[hq]at hs hl Hj Hg;have Hf:=h.cap;rw[hq]at Hf;have HS:=zH hs;have Hn:=zH hr;have HF:=zH hRS;have Hu:R<w.heap.size:=(zab.1 h.box).1;clear h hk hi hth hr hRS hq;obtain⟨i0,hi0,hz0,hz1,hz2⟩:=zaT qcs;go_enter Tryz.func33,Tryz.ntmps33
 cases th with
 | false=>
  go_wp2_with (go_at_call 51;refine HA.o.mono ?_;rintro e w1 ⟨rfl,hb1⟩)
  go_ret;have hp:=HP.o;rw[zaB (by simp)]at hp;rw[hp];exact⟨rfl,Touch.of_below hb1,A,c,⟨(HR.o.below hb1).box,(HR.o.below hb1).pr.mono (fun b hb=>.inl hb),HR.o.cap⟩⟩
 | true=>
  have HN:=Hg rfl;obtain⟨j,hj⟩:∃ j,i+1=j:=⟨_,rfl⟩;have Hw:j≤q:=by omega
  obtain⟨AH,hAH,SLH⟩:=qku hs Hj Hf;have Hx:=zH hAH;obtain⟨AT,hAT,SLT⟩:=qkv hs Hw Hf;have Hy:=zH hAT;have h1:(i:Int)+1=(j:Int):=by omega
  have HO:IntKind.i64.wrap (j:Int)=(j:Int):=by
   rw[IntKind.wrap_i64];omega
  have HJ:=zH hj;clear hs hAH hAT hj Hg;go_upto_region 4 with(go_at_call 51;refine HA.o.mono ?_;rintro e w1 ⟨rfl,hb1⟩)
  have He:=hb1.drew;have Hc:=zH He;have c0:=(HR.o.below He).c0;rw[HQ.o]at c0;have Ha:=zH c0;clear hb1 He c0;refine qac (S:=fun W'=>W'.cell? ⟨R,0,none⟩=some (.slice A q c)) [19] (by kernel_rfl) Ha.o (fun _=>?_);generalize w1.drew=W0 at *;refine zP 0 15 (.pointer (some ⟨R,0,none⟩)) Ha.o ?_;try simp only[zS]
  refine zP 2 17 (.pointer (some ⟨R,0,none⟩)) Ha.o ?_;try simp only[zS]
  refine zP 3 18 (.pointer (some ⟨R,0,none⟩)) Ha.o ?_;try simp only[zS]
  refine zP 4 19 (.pointer (some ⟨R,0,none⟩)) Ha.o ?_;try simp only[zS]
  refine zL 5 20 (.slice A q c) rfl (Or.inl ⟨by rfl,fun W' hS=>by go_simp⟩) (qaa Ha.o) ?_;try simp only[zS]
  refine zP 6 21 (.int .i64 (i:Int)) Ha.o ?_;try simp only[zS]
  refine zP 7 22 (.slice AH i c) Ha.o ?_;try simp only[zS]
  refine zP 9 24 (.pointer (some ⟨R,0,none⟩)) Ha.o ?_;try simp only[zS]
  refine zP 10 25 (.pointer (some ⟨R,0,none⟩)) Ha.o ?_;try simp only[zS]
  refine zP 11 26 (.pointer (some ⟨R,0,none⟩)) Ha.o ?_;try simp only[zS]
  refine zL 12 27 (.slice A q c) rfl (Or.inl ⟨by rfl,fun W' hS=>by go_simp⟩) (qaa Ha.o) ?_;try simp only[zS]
  refine zP 13 28 (.int .i64 (i:Int)) Ha.o ?_;try simp only[zS]
  refine zP 14 29 (.int .i64 (j:Int)) Ha.o ?_;try simp only[zS]
  refine zP 15 30 (.slice AT (q-j) (c-j)) Ha.o ?_;try simp only[zS]
  refine zE 1 16 rfl (fun Kr hKr=>?_);refine Eq.mpr (zaw (by rfl)) ?_;go_simp;have Hh:Below W0.heap.size W0 (W0.alloc (.cells #[] 48)):=zB _ _;have HB:=zH Hh;have Hs:=zH (show Own (W0.alloc (.cells #[] 48)) W0.heap.size 48 2 (.slice (some ⟨W0.heap.size,0,none⟩) 0 0) 0 []from Own.empty _ _ _ _ W0.heap.size 0 (zac _) (by simp));have HG:=zH ((Hx.o _ (HS.o.below (Hc.o.trans (Hh.mono Hc.o.size)))).src);have HC:=zH (show(W0.alloc (.cells #[] 48)).cell? ⟨R,0,none⟩=some (.slice A q c)from(zaR (Hh.block R (cell_lt Ha.o))).trans Ha.o);have Hp:=zH Hh.size;clear Hh;obtain⟨C1,hC1⟩:∃ C,W0.heap.size=C:=⟨_,rfl⟩;have Hl:=zH hC1;rw[hC1]at Hs Hp⊢;clear hC1;generalize W0.alloc (.cells #[] 48)=W1 at *;refine hKr.out (.slice (some ⟨C1,0,none⟩) 0 0) _ (qaa HC.o) (fun _=>?_);clear hKr Kr;try simp only[zS]
  refine zE 8 23 rfl (fun Kr hKr=>?_);refine Eq.mpr (zaw (by rfl)) ?_;refine qeB (.tmp 16) (.tmp 22) 44 rfl C1 48 i0 _ 2 48 Tryz.underlying44 hi0 hz0 hz1 hz2 rfl (by decide) (.slice (some ⟨C1,0,none⟩) 0 0) 0 [] rfl Hs.o AH i c (cs.take (i*2)) rfl HG.o (fun u hu=>Hn.o.one_cell u (zaY hu)) (by unfold maxLen;omega) (by omega) Hp.o ?_;intro A2 c2 W2 ho2 hb2;simp only[zaO,zaA]at ho2⊢;have Hi:=zH ho2;have Hb:Below W0.heap.size W0 W2:=HB.o.trans (by rw[Hl.o];exact hb2);have Hz:=zH Hb;have Hq:=zH (show C1≤W2.heap.size from zah Hp.o hb2.size);have HH:=zH ((Hy.o _ (HS.o.below (Hc.o.trans (Hb.mono Hc.o.size)))).src);have HL:=zH (((Hc.o.trans (Hb.mono Hc.o.size)).block R Hu).trans HR.o.box);have HD:=zH (show W2.cell? ⟨R,0,none⟩=some (.slice A q c)from(zaR (Hb.block R (cell_lt Ha.o))).trans Ha.o);clear ho2 hb2 Hb;refine hKr.out (.slice A2 i c2) _ (qaa HD.o) (fun _=>?_);clear hKr Kr;try simp only[zS]
  refine zE 16 31 rfl (fun Kr hKr=>?_);refine Eq.mpr (zaw (by rfl)) ?_;refine qaJ (.tmp 23) (.tmp 30) 44 rfl C1 48 i0 _ 2 48 Tryz.underlying44 hi0 hz0 hz1 hz2 rfl (by decide) (.slice A2 i c2) i (cs.take (i*2)) rfl Hi.o.row AT (q-j) (c-j) (cs.drop (j*2)) rfl HH.o (fun u hu=>Hn.o.one_cell u (zaU hu)) (by unfold maxLen;omega) (by omega) Hq.o ?_;intro A3 c3 W3 q1 q2 q3;have Hk:=qao q2 q3;have HE:=zH (qaz Hi.o Hq.o q1 Hk);have HK:=zH Hk;have HM:R<C1:=by have:=Hl.o;have:=Hc.o.size;omega
  have Ho:=zH (((qb2 Hk (N:=C1) (fun b e=>(Hi.o.blk b e).1) Hq.o).block R HM).trans HL.o);have Hm:=zH (show W3.cell? ⟨R,0,none⟩=some (.slice A q c)by rw[zan _ _ _ _ _ _ Ho.o,HQ.o];rfl);clear q1 q2 q3 Hk;refine hKr.out (.slice A3 (i+(q-j)) c3) _ (qaa Hm.o) (fun _=>?_);clear hKr Kr;try simp only[zS]
  refine zP 17 32 (.pointer (some ⟨R,0,none⟩)) Hm.o ?_;try simp only[zS]
  refine zP 18 33 (.pointer (some ⟨R,0,none⟩)) Hm.o ?_;try simp only[zS]
  have HI:=zH (show W3.there R 0 1 from there_of_block Ho.o 0 (by simp));refine qae (rs:=[19]) (by kernel_rfl) (by simp) ?_;refine AllReadyG.store rfl 44 (.tmp 33) (.tmp 31) rfl rfl rfl R 0 (.slice A3 (i+(q-j)) c3) rfl rfl HI.o (by kernel_rfl) rfl (qaf 19 (by rfl) (by kernel_rfl)) ?_ AllReadyG.nil;have Hv:Touch (fun b=>b=R) W3 (W3.setCell ⟨R,0,none⟩ (.slice A3 (i+(q-j)) c3)):=Touch.setCell (F:=fun b=>b=R) (Touch.refl _ _) (p:=⟨R,0,none⟩) rfl _;have Ht:=zH Hv;have Hr:=zH (show(W3.setCell ⟨R,0,none⟩ (.slice A3 (i+(q-j)) c3)).heap[R]?=some (.cells #[.slice A3 (i+(q-j)) c3] 46 (0,0))from qab Ho.o _);clear Hv;generalize W3.setCell ⟨R,0,none⟩ (.slice A3 (i+(q-j)) c3)=W8 at Ht Hr⊢;try simp only[zS]
  refine qad (by kernel_rfl) ?_ _;go_wp2;go_ret;have hc:=Hl.o;subst hc;exact qlx HR.o HF.o HQ.o Hn.o (by rw[HP.o,←HJ.o];simp) Hu Hc.o Hi.o Hz.o HE.o HK.o Ht.o Hr.o Hw Hj _
def inR (lo hi:Bs)(p:Pr):Bool:=geB lo p&&ltB hi p
def RlF (S:Nat→Prop)(l:List Pr)(w:World)(e:Ending)(w':World):Prop:=
 Below w.heap.size w w'∧∃ A c cs,e=.returned (.slice A l.length c)∧Own w' w.heap.size 48 2 (.slice A l.length c) l.length cs∧RowV w' S cs (l.flatMap fl2)
def RlI (w:World)(S:Nat→Prop)(lo hi:Bs)(l:List Pr)(j:Nat)(s7:Value)(wr:World):Prop:=
 Below w.heap.size w wr∧∃ A c cs k,s7=.slice A k c∧k=((l.take j).filter (inR lo hi)).length∧Own wr w.heap.size 48 2 (.slice A k c) k cs∧RowV wr S cs (((l.take j).filter (inR lo hi)).flatMap fl2)
theorem RlI.skip {wr':World}{s7:Value}(h:RlI w S lo hi l j s7 wr)(hx:l[j]?=some x)(hn:inR lo hi x=false)(hb:Below wr.heap.size wr wr'):RlI w S lo hi l (j+1) s7 wr':=by
 obtain⟨h1,A,c,cs,k,h2,h3,h4,h5⟩:=h;have e:(l.take (j+1)).filter (inR lo hi)=(l.take j).filter (inR lo hi):=by
  rw[zbK,hx,zbu];simp[hn]
 exact⟨h1.trans (hb.mono h1.size),A,c,cs,k,h2,by rw[e];exact h3,h4.touch (F:=fun _=>False) (Touch.of_below hb) (fun _ _ h=>h.elim),by rw[e];exact h5.same (Same.of_below hb)⟩
theorem RlI.push {W0 w6:World}{k co c6 nx nv xc vc:Nat}{Ao A6 XA VA:Option Addr}{o:Obj}(hS:∀ b,S b→b<w.heap.size)(hx:l[j]?=some x)(hin:inR lo hi x=true)(hb:Below w.heap.size w wr)(hbd:Below wr.heap.size wr W0)
  (hk:k=((l.take j).filter (inR lo hi)).length)(hown:Own wr w.heap.size 48 2 (.slice Ao k co) k cs)(hrow:RowV wr S cs (((l.take j).filter (inR lo hi)).flatMap fl2))(xk:ByS wr S XA x.1)(xv:ByS wr S VA x.2)(hnx:x.1.length=nx)(hnv:x.2.length=nv)(hxc:x.1.length≤xc)(hvc:x.2.length≤vc)
  (ho6:Own w6 w.heap.size 48 2 (.slice A6 (k+1) c6) (k+1) (cs++[.slice XA nx xc,.slice VA nv vc]))(hu6:Upd (W0.alloc o) w6 (.slice Ao k co) (.slice A6 (k+1) c6)):RlI w S lo hi l (j+1) (.slice A6 (k+1) c6) w6:=by
 have e:(l.take (j+1)).filter (inR lo hi)=(l.take j).filter (inR lo hi)++[x]:=by
  rw[zbK,hx,zbu];simp[hin]
 have h1:Below w.heap.size wr W0:=hbd.mono hb.size;have h2:Below w.heap.size wr (W0.alloc o):=h1.trans ((zai _ _).alloc (zah hb.size hbd.size) o);have h3:Below w.heap.size wr w6:=h2.trans (qb2 hu6 (fun b e=>(hown.blk b e).1) (zah hb.size h2.size));have ht:Touch (fun b=>w.heap.size≤b) wr w6:=⟨h3.os,h3.tape,h3.output,h3.size,fun b _ hn=>h3.block b (by omega)⟩;have hs:=Same.of_touch (S:=S) ht (fun b hb h=>by have:=hS b hb;omega);refine⟨hb.trans h3,A6,c6,_,k+1,rfl,by rw[e,zad,hk];rfl,ho6,?_⟩;rw[e,zat];subst hnx hnv;exact RowV.append (hrow.same hs) (RowV.append (RowV.one hxc (xk.same hs)) (RowV.one hvc (xv.same hs)))
theorem qjx {LA HA:Option Addr}{c lc hn hc:Nat}(h:RowM w R S A c l)(hS:∀ b,S b→b<w.heap.size)(hlo:By w LA lo)(hln:lo.length=n)(hhi:By w HA hi)(hhn:hi.length=hn)(hl:l.length≤1048575) :
  Calls Tryz.prog 24 #[.pointer (some ⟨R,0,none⟩),.slice LA n lc,.slice HA hn hc] w (RlF S (l.filter (inR lo hi)) w):=by
 obtain⟨m,hm⟩:∃ m,l.length=m:=⟨_,rfl⟩;have HM:=zH hm;have HR:=zH h;have Hz:=zH hlo;have Hx:=zH hhi;have Hp:=zH hS;rw[hm]at hl;have HC:=zH (show RlI w S lo hi l 0 (.slice (some ⟨w.heap.size,0,none⟩) 0 0) (w.alloc (.cells #[] 48))from⟨zB _ _,_,_,[],0,rfl,by simp,Own.empty _ _ _ _ w.heap.size 0 (zac _) (by simp),by simp[RowV]⟩);obtain⟨i0,hi0,hz0,hz1,hz2⟩:=zaT qcs;clear h hlo hhi hm hS;go_enter Tryz.func24,Tryz.ntmps24
 go_wp2;go_loopw [7,8] (fun s7 s8 wr=>∃ j:Nat,s8=.int .i64 j∧j≤m∧RlI w S lo hi l j s7 wr) (fun _ s8 _=>m-(RowKit.intOf s8).toNat)
 case atStart=>exact⟨0,rfl,za7 _,HC.o⟩
 case round=>
  rename World=>wr;rename_i s7 _;obtain⟨j,rfl,hj,hri⟩:=hrel;have Ho:=zH hri;obtain⟨hb,Ao,co,cs,k,rfl,hk,hown,hrow⟩:=hri;have Ha:=zH hown;have Hc:=zH hrow;have He:=zH hk;have Hl:=HR.o.below hb;have c0:=Hl.c0;rw[HM.o]at c0;by_cases hji:j<m
  ·have Hv:j<l.length:=by rw[HM.o];exact hji
   obtain⟨x,hx⟩:∃ x,l[j]?=some x:=⟨_,zaa Hv⟩;obtain⟨pb,po,XA,xc,VA,vc,rfl,hSpb,x0,x1,xk,xv,hxc,hvc⟩:=Hl.pr.get hx;obtain⟨nx,hnx⟩:∃ k,x.1.length=k:=⟨_,rfl⟩;obtain⟨nv,hnv⟩:∃ k,x.2.length=k:=⟨_,rfl⟩;have HX:=zH hx;have Ht:=zH xk;have Hu:=zH xv;have Hs:=zH hxc;have Hr:=zH hvc;have Hn:=zH hnx;have Hm:=zH hnv;rw[hnx]at x0;rw[hnv]at x1;have bd:Below wr.heap.size wr wr.drew:=(zai _ _).drew;have C1:=qbe (w:=wr.drew) xc (xk.by_.below bd) hnx;have C2:=qbe (w:=wr.drew) lc ((Hz.o.below hb).below bd) hln;have C3:=qbe (w:=wr.drew) hc ((Hx.o.below hb).below bd) hhn;obtain⟨oj,hoj⟩:∃ o,po+j*2=o:=⟨_,rfl⟩;rw[hoj]at x0 x1;obtain⟨K1,hK1⟩:∃ k,bstr x.1=k:=⟨_,rfl⟩;obtain⟨K2,hK2⟩:∃ k,bstr lo=k:=⟨_,rfl⟩;obtain⟨K3,hK3⟩:∃ k,bstr hi=k:=⟨_,rfl⟩;rw[hK1]at C1;rw[hK2]at C2;rw[hK3]at C3;obtain⟨t1,ht1⟩:∃ b,Op.bytesLess K1.toList K2.toList=b:=⟨_,rfl⟩;obtain⟨t2,ht2⟩:∃ b,Op.bytesLess K1.toList K3.toList=b:=⟨_,rfl⟩;have Hf:=zH (show blt x.1 lo=t1 by rw[←ht1,←hK1,←hK2,qa6,qa6,qbQ]);have Hq:=zH (show blt x.1 hi=t2 by rw[←ht2,←hK1,←hK3,qa6,qa6,qbQ]);have h1:(j:Int)<(m:Int):=by omega
   have h0:(0:Int)≤(j:Int):=by omega
   have Hb:=zH bd;have HB:=zH hb;have g0:wr.drew.cell? ⟨R,0,none⟩=some (.slice (some ⟨pb,po,none⟩) m c):=c0;have g1:wr.drew.cell? ⟨pb,oj,none⟩=some (.slice XA nx xc):=x0;have g2:wr.drew.cell? ⟨pb,oj+1,none⟩=some (.slice VA nv vc):=x1;clear hb Hl x0 x1 xk xv hx hK1 hK2 hK3 Hv hnx hnv bd hown hrow hk hxc hvc;go_upto_region 5 with fail
   cases t1 with
   | true=>
    refine qac (S:=fun W'=>W'=wr.drew) [] (by kernel_rfl) rfl (fun _=>?_);generalize wr.drew=W0 at *;refine zP 0 19 (.pointer (some ⟨R,0,none⟩)) rfl ?_;try simp only[zS]
    refine zP 1 20 (.pointer (some ⟨R,0,none⟩)) rfl ?_;try simp only[zS]
    refine zP 2 21 (.pointer (some ⟨R,0,none⟩)) rfl ?_;try simp only[zS]
    refine zL 3 22 (.slice (some ⟨pb,po,none⟩) m c) rfl (Or.inl ⟨by rfl,fun W' hS=>by subst hS;go_simp⟩) (qaa rfl) ?_;try simp only[zS]
    refine zP 4 23 (.int .i64 (j:Int)) rfl ?_;try simp only[zS]
    refine zP 5 24 (.pointer (some ⟨pb,oj,none⟩)) rfl ?_;try simp only[zS]
    refine zP 6 25 (.pointer (some ⟨pb,oj,none⟩)) rfl ?_;try simp only[zS]
    refine zL 7 26 (.slice XA nx xc) rfl (Or.inl ⟨by rfl,fun W' hS=>by subst hS;go_simp⟩) (qaa rfl) ?_;try simp only[zS]
    refine zL 8 27 (.string K1) rfl (Or.inl ⟨by rfl,fun W' hS=>by subst hS;go_simp⟩) (qaa rfl) ?_;try simp only[zS]
    refine zP 9 28 (.slice LA n lc) rfl ?_;try simp only[zS]
    refine zL 10 29 (.string K2) rfl (Or.inl ⟨by rfl,fun W' hS=>by subst hS;go_simp⟩) (qaa rfl) ?_;try simp only[zS]
    refine zP 11 30 (.bool false) rfl ?_;try simp only[zS]
    refine zP 12 31 (.bool false) rfl ?_;try simp only[zS]
    refine zN 13 32 (qaa rfl) ?_;try simp only[zS]
    refine zN 14 33 (qaa rfl) ?_;try simp only[zS]
    refine zN 15 34 (qaa rfl) ?_;try simp only[zS]
    refine zN 16 35 (qaa rfl) ?_;try simp only[zS]
    refine zN 17 36 (qaa rfl) ?_;try simp only[zS]
    refine zN 18 37 (qaa rfl) ?_;try simp only[zS]
    refine zN 19 38 (qaa rfl) ?_;try simp only[zS]
    refine zN 20 39 (qaa rfl) ?_;try simp only[zS]
    refine zN 21 40 (qaa rfl) ?_;try simp only[zS]
    refine zN 22 41 (qaa rfl) ?_;try simp only[zS]
    refine zN 23 42 (qaa rfl) ?_;try simp only[zS]
    refine zN 24 43 (qaa rfl) ?_;try simp only[zS]
    refine zN 25 44 (qaa rfl) ?_;try simp only[zS]
    refine zN 26 45 (qaa rfl) ?_;try simp only[zS]
    refine zN 27 46 (qaa rfl) ?_;try simp only[zS]
    refine zN 28 47 (qaa rfl) ?_;try simp only[zS]
    refine zN 29 48 (qaa rfl) ?_;try simp only[zS]
    refine zP 30 49 (.bool false) rfl ?_;try simp only[zS]
    refine qad (by kernel_rfl) ?_ _;go_wp2;refine⟨⟨j+1,by go_num,by omega,Ho.o.skip HX.o (by simp[inR,geB,Hf.o]) Hb.o⟩,by simp[RowKit.intOf];omega⟩
   | false=>
    have HF:k≤1048575:=by
     have h5:=He.o;have h6:=zbJ (inR lo hi) (l.take j);rw[zag]at h6;omega
    by_cases hz:hn=0
    ·have z1:((hn:Int)==0)=true:=by simp;omega
     have z2:(hn:Int)=0:=by omega
     have Hg:=zH (show hi.isEmpty=true by rw[zcX,←zcg,hhn,hz]);clear hz;refine qac (S:=fun W'=>W'=wr.drew) [] (by kernel_rfl) rfl (fun _=>?_);generalize wr.drew=W0 at *;refine zP 0 19 (.pointer (some ⟨R,0,none⟩)) rfl ?_;try simp only[zS]
     refine zP 1 20 (.pointer (some ⟨R,0,none⟩)) rfl ?_;try simp only[zS]
     refine zP 2 21 (.pointer (some ⟨R,0,none⟩)) rfl ?_;try simp only[zS]
     refine zL 3 22 (.slice (some ⟨pb,po,none⟩) m c) rfl (Or.inl ⟨by rfl,fun W' hS=>by subst hS;go_simp⟩) (qaa rfl) ?_;try simp only[zS]
     refine zP 4 23 (.int .i64 (j:Int)) rfl ?_;try simp only[zS]
     refine zP 5 24 (.pointer (some ⟨pb,oj,none⟩)) rfl ?_;try simp only[zS]
     refine zP 6 25 (.pointer (some ⟨pb,oj,none⟩)) rfl ?_;try simp only[zS]
     refine zL 7 26 (.slice XA nx xc) rfl (Or.inl ⟨by rfl,fun W' hS=>by subst hS;go_simp⟩) (qaa rfl) ?_;try simp only[zS]
     refine zL 8 27 (.string K1) rfl (Or.inl ⟨by rfl,fun W' hS=>by subst hS;go_simp⟩) (qaa rfl) ?_;try simp only[zS]
     refine zP 9 28 (.slice LA n lc) rfl ?_;try simp only[zS]
     refine zL 10 29 (.string K2) rfl (Or.inl ⟨by rfl,fun W' hS=>by subst hS;go_simp⟩) (qaa rfl) ?_;try simp only[zS]
     refine zP 11 30 (.bool true) rfl ?_;try simp only[zS]
     refine zP 12 31 (.bool true) rfl ?_;try simp only[zS]
     refine zP 13 32 (.slice HA hn hc) rfl ?_;try simp only[zS]
     refine zP 14 33 (.int .i64 (hn:Int)) rfl ?_;try simp only[zS]
     refine zP 15 34 (.bool true) rfl ?_;try simp only[zS]
     refine zP 16 35 (.bool true) rfl ?_;try simp only[zS]
     refine zN 17 36 (qaa rfl) ?_;try simp only[zS]
     refine zN 18 37 (qaa rfl) ?_;try simp only[zS]
     refine zN 19 38 (qaa rfl) ?_;try simp only[zS]
     refine zN 20 39 (qaa rfl) ?_;try simp only[zS]
     refine zN 21 40 (qaa rfl) ?_;try simp only[zS]
     refine zN 22 41 (qaa rfl) ?_;try simp only[zS]
     refine zN 23 42 (qaa rfl) ?_;try simp only[zS]
     refine zN 24 43 (qaa rfl) ?_;try simp only[zS]
     refine zN 25 44 (qaa rfl) ?_;try simp only[zS]
     refine zN 26 45 (qaa rfl) ?_;try simp only[zS]
     refine zN 27 46 (qaa rfl) ?_;try simp only[zS]
     refine zN 28 47 (qaa rfl) ?_;try simp only[zS]
     refine zP 29 48 (.bool true) rfl ?_;try simp only[zS]
     refine zP 30 49 (.bool true) rfl ?_;try simp only[zS]
     refine qad (by kernel_rfl) ?_ _;have Hi:=zH (show ∀ o,Own (W0.alloc o) w.heap.size 48 2 (.slice Ao k co) k cs from fun o=>Ha.o.touch (F:=fun _=>False) (Touch.of_below (Hb.o.trans (((zai _ _).alloc (zac _) o).mono Hb.o.size))) (fun _ _ h=>h.elim));have Hk:=zH (zah HB.o.size Hb.o.size);go_wp2_with (at_builtin;refine qbl rfl (.tmp 50) (.tmp 58) 44 rfl w.heap.size 48 i0 _ 2 48 Tryz.underlying44 hi0 hz0 hz1 hz2 rfl (by decide) (.slice Ao k co) k cs rfl (Hi.o _) (some ⟨W0.heap.size,0,none⟩) 1 1 [.slice XA nx xc,.slice VA nv vc] rfl (qaE (zaf W0 _) rfl) (by simp[Value.oneCell']) (by unfold maxLen;omega) (by omega) (by have:=Hk.o;simp;omega) ?_;intro A6 c6 w6 ho6 hu6;have Hh:=zH ho6;have Hj:=zH hu6;clear ho6 hu6)
     refine⟨⟨j+1,by go_num,by omega,RlI.push Hp.o HX.o (by simp[inR,geB,ltB,Hf.o,Hg.o]) HB.o Hb.o He.o Ha.o Hc.o Ht.o Hu.o Hn.o Hm.o Hs.o Hr.o Hh.o Hj.o⟩,by simp[RowKit.intOf];omega⟩
    ·have z1:((hn:Int)==0)=false:=by simp;omega
     have z2:¬((hn:Int)=0):=by omega
     have Hg:=zH (show hi.isEmpty=false by
      cases hi with
      | nil=>simp at hhn;omega
      | cons _ _=>rfl)
     clear hz;cases t2 with
     | true=>
      refine qac (S:=fun W'=>W'=wr.drew) [] (by kernel_rfl) rfl (fun _=>?_);generalize wr.drew=W0 at *;refine zP 0 19 (.pointer (some ⟨R,0,none⟩)) rfl ?_;try simp only[zS]
      refine zP 1 20 (.pointer (some ⟨R,0,none⟩)) rfl ?_;try simp only[zS]
      refine zP 2 21 (.pointer (some ⟨R,0,none⟩)) rfl ?_;try simp only[zS]
      refine zL 3 22 (.slice (some ⟨pb,po,none⟩) m c) rfl (Or.inl ⟨by rfl,fun W' hS=>by subst hS;go_simp⟩) (qaa rfl) ?_;try simp only[zS]
      refine zP 4 23 (.int .i64 (j:Int)) rfl ?_;try simp only[zS]
      refine zP 5 24 (.pointer (some ⟨pb,oj,none⟩)) rfl ?_;try simp only[zS]
      refine zP 6 25 (.pointer (some ⟨pb,oj,none⟩)) rfl ?_;try simp only[zS]
      refine zL 7 26 (.slice XA nx xc) rfl (Or.inl ⟨by rfl,fun W' hS=>by subst hS;go_simp⟩) (qaa rfl) ?_;try simp only[zS]
      refine zL 8 27 (.string K1) rfl (Or.inl ⟨by rfl,fun W' hS=>by subst hS;go_simp⟩) (qaa rfl) ?_;try simp only[zS]
      refine zP 9 28 (.slice LA n lc) rfl ?_;try simp only[zS]
      refine zL 10 29 (.string K2) rfl (Or.inl ⟨by rfl,fun W' hS=>by subst hS;go_simp⟩) (qaa rfl) ?_;try simp only[zS]
      refine zP 11 30 (.bool true) rfl ?_;try simp only[zS]
      refine zP 12 31 (.bool true) rfl ?_;try simp only[zS]
      refine zP 13 32 (.slice HA hn hc) rfl ?_;try simp only[zS]
      refine zP 14 33 (.int .i64 (hn:Int)) rfl ?_;try simp only[zS]
      refine zP 15 34 (.bool false) rfl ?_;try simp only[zS]
      refine zP 16 35 (.bool false) rfl ?_;try simp only[zS]
      refine zP 17 36 (.pointer (some ⟨R,0,none⟩)) rfl ?_;try simp only[zS]
      refine zP 18 37 (.pointer (some ⟨R,0,none⟩)) rfl ?_;try simp only[zS]
      refine zP 19 38 (.pointer (some ⟨R,0,none⟩)) rfl ?_;try simp only[zS]
      refine zL 20 39 (.slice (some ⟨pb,po,none⟩) m c) rfl (Or.inl ⟨by rfl,fun W' hS=>by subst hS;go_simp⟩) (qaa rfl) ?_;try simp only[zS]
      refine zP 21 40 (.int .i64 (j:Int)) rfl ?_;try simp only[zS]
      refine zP 22 41 (.pointer (some ⟨pb,oj,none⟩)) rfl ?_;try simp only[zS]
      refine zP 23 42 (.pointer (some ⟨pb,oj,none⟩)) rfl ?_;try simp only[zS]
      refine zL 24 43 (.slice XA nx xc) rfl (Or.inl ⟨by rfl,fun W' hS=>by subst hS;go_simp⟩) (qaa rfl) ?_;try simp only[zS]
      refine zL 25 44 (.string K1) rfl (Or.inl ⟨by rfl,fun W' hS=>by subst hS;go_simp⟩) (qaa rfl) ?_;try simp only[zS]
      refine zP 26 45 (.slice HA hn hc) rfl ?_;try simp only[zS]
      refine zL 27 46 (.string K3) rfl (Or.inl ⟨by rfl,fun W' hS=>by subst hS;go_simp⟩) (qaa rfl) ?_;try simp only[zS]
      refine zP 28 47 (.bool true) rfl ?_;try simp only[zS]
      refine zP 29 48 (.bool true) rfl ?_;try simp only[zS]
      refine zP 30 49 (.bool true) rfl ?_;try simp only[zS]
      refine qad (by kernel_rfl) ?_ _;have Hi:=zH (show ∀ o,Own (W0.alloc o) w.heap.size 48 2 (.slice Ao k co) k cs from fun o=>Ha.o.touch (F:=fun _=>False) (Touch.of_below (Hb.o.trans (((zai _ _).alloc (zac _) o).mono Hb.o.size))) (fun _ _ h=>h.elim));have Hk:=zH (zah HB.o.size Hb.o.size);go_wp2_with (at_builtin;refine qbl rfl (.tmp 50) (.tmp 58) 44 rfl w.heap.size 48 i0 _ 2 48 Tryz.underlying44 hi0 hz0 hz1 hz2 rfl (by decide) (.slice Ao k co) k cs rfl (Hi.o _) (some ⟨W0.heap.size,0,none⟩) 1 1 [.slice XA nx xc,.slice VA nv vc] rfl (qaE (zaf W0 _) rfl) (by simp[Value.oneCell']) (by unfold maxLen;omega) (by omega) (by have:=Hk.o;simp;omega) ?_;intro A6 c6 w6 ho6 hu6;have Hh:=zH ho6;have Hj:=zH hu6;clear ho6 hu6)
      refine⟨⟨j+1,by go_num,by omega,RlI.push Hp.o HX.o (by simp[inR,geB,ltB,Hf.o,Hq.o]) HB.o Hb.o He.o Ha.o Hc.o Ht.o Hu.o Hn.o Hm.o Hs.o Hr.o Hh.o Hj.o⟩,by simp[RowKit.intOf];omega⟩
     | false=>
      refine qac (S:=fun W'=>W'=wr.drew) [] (by kernel_rfl) rfl (fun _=>?_);generalize wr.drew=W0 at *;refine zP 0 19 (.pointer (some ⟨R,0,none⟩)) rfl ?_;try simp only[zS]
      refine zP 1 20 (.pointer (some ⟨R,0,none⟩)) rfl ?_;try simp only[zS]
      refine zP 2 21 (.pointer (some ⟨R,0,none⟩)) rfl ?_;try simp only[zS]
      refine zL 3 22 (.slice (some ⟨pb,po,none⟩) m c) rfl (Or.inl ⟨by rfl,fun W' hS=>by subst hS;go_simp⟩) (qaa rfl) ?_;try simp only[zS]
      refine zP 4 23 (.int .i64 (j:Int)) rfl ?_;try simp only[zS]
      refine zP 5 24 (.pointer (some ⟨pb,oj,none⟩)) rfl ?_;try simp only[zS]
      refine zP 6 25 (.pointer (some ⟨pb,oj,none⟩)) rfl ?_;try simp only[zS]
      refine zL 7 26 (.slice XA nx xc) rfl (Or.inl ⟨by rfl,fun W' hS=>by subst hS;go_simp⟩) (qaa rfl) ?_;try simp only[zS]
      refine zL 8 27 (.string K1) rfl (Or.inl ⟨by rfl,fun W' hS=>by subst hS;go_simp⟩) (qaa rfl) ?_;try simp only[zS]
      refine zP 9 28 (.slice LA n lc) rfl ?_;try simp only[zS]
      refine zL 10 29 (.string K2) rfl (Or.inl ⟨by rfl,fun W' hS=>by subst hS;go_simp⟩) (qaa rfl) ?_;try simp only[zS]
      refine zP 11 30 (.bool true) rfl ?_;try simp only[zS]
      refine zP 12 31 (.bool true) rfl ?_;try simp only[zS]
      refine zP 13 32 (.slice HA hn hc) rfl ?_;try simp only[zS]
      refine zP 14 33 (.int .i64 (hn:Int)) rfl ?_;try simp only[zS]
      refine zP 15 34 (.bool false) rfl ?_;try simp only[zS]
      refine zP 16 35 (.bool false) rfl ?_;try simp only[zS]
      refine zP 17 36 (.pointer (some ⟨R,0,none⟩)) rfl ?_;try simp only[zS]
      refine zP 18 37 (.pointer (some ⟨R,0,none⟩)) rfl ?_;try simp only[zS]
      refine zP 19 38 (.pointer (some ⟨R,0,none⟩)) rfl ?_;try simp only[zS]
      refine zL 20 39 (.slice (some ⟨pb,po,none⟩) m c) rfl (Or.inl ⟨by rfl,fun W' hS=>by subst hS;go_simp⟩) (qaa rfl) ?_;try simp only[zS]
      refine zP 21 40 (.int .i64 (j:Int)) rfl ?_;try simp only[zS]
      refine zP 22 41 (.pointer (some ⟨pb,oj,none⟩)) rfl ?_;try simp only[zS]
      refine zP 23 42 (.pointer (some ⟨pb,oj,none⟩)) rfl ?_;try simp only[zS]
      refine zL 24 43 (.slice XA nx xc) rfl (Or.inl ⟨by rfl,fun W' hS=>by subst hS;go_simp⟩) (qaa rfl) ?_;try simp only[zS]
      refine zL 25 44 (.string K1) rfl (Or.inl ⟨by rfl,fun W' hS=>by subst hS;go_simp⟩) (qaa rfl) ?_;try simp only[zS]
      refine zP 26 45 (.slice HA hn hc) rfl ?_;try simp only[zS]
      refine zL 27 46 (.string K3) rfl (Or.inl ⟨by rfl,fun W' hS=>by subst hS;go_simp⟩) (qaa rfl) ?_;try simp only[zS]
      refine zP 28 47 (.bool false) rfl ?_;try simp only[zS]
      refine zP 29 48 (.bool false) rfl ?_;try simp only[zS]
      refine zP 30 49 (.bool false) rfl ?_;try simp only[zS]
      refine qad (by kernel_rfl) ?_ _;go_wp2;refine⟨⟨j+1,by go_num,by omega,Ho.o.skip HX.o (by simp[inR,geB,ltB,Hf.o,Hq.o,Hg.o]) Hb.o⟩,by simp[RowKit.intOf];omega⟩
  ·have HD:¬((j:Int)<(m:Int)):=by omega
   have HE:decide ((j:Int)<(m:Int))=false:=zal HD;have Hw:j=m:=by omega
   have Hy:=zH Hw;have HB:=zH hb;clear Hw hb hown hrow hk;go_wp2;go_ret;have e:(l.take j).filter (inR lo hi)=l.filter (inR lo hi):=by rw[Hy.o,zbe (by rw[HM.o];exact zac _)]
   have h5:=He.o;have h6:=Hc.o;have h7:=Ha.o;rw[e]at h5 h6;subst h5;exact⟨HB.o,Ao,co,cs,rfl,h7,h6⟩
end Go.Proofs.YtpmebcgmgfcmiaaGreatDoor
namespace Go.Proofs.YtpmebcgmgfcmiaaGreatDoor
open Go.RowKit BT
variable {a:PA}{d:Nat}{g:Pg}
def ComF (a:PA)(G d:Nat)(F:Nat→Prop)(p:Pl)(g:Pg)(root1:Nat)(w:World)(e:Ending)(w':World):Prop:=
 ∃ F',Ext (GF F G) (GF F' G) w w'∧
  (((commitP p d g.gen root1 g.use).1=true∧e=.returned (.int .i64 0)∧PgM w' a G d F' (commitP p d g.gen root1 g.use).2 { g with gen:=g.gen+1,root1:=root1,was:=g.use })∨
   ((commitP p d g.gen root1 g.use).1=false∧e=.returned (.int .i64 2)∧PgM w' a G d F' (commitP p d g.gen root1 g.use).2 g))
theorem qcd (p:Pl)(d:Nat):(p.flush d).2.most=p.most∧(p.flush d).2.tp=p.tp∧((p.flush d).1=true→(p.flush d).2.off=p.off)∧(p.flush d).2.waits.length≤p.waits.length:=by
 obtain⟨h1,h2,h3,h4,h5,h6⟩:=qcS p;unfold Pl.flush;split
 ·exact⟨rfl,rfl,fun _=>rfl,zac _⟩
 ·split
  ·rename_i hs;exact⟨h1,h2,fun _=>h5 hs,zbJ _ _⟩
  ·exact⟨h1,h2,(fun h=>by cases h),by rw[h4];exact zac _⟩
theorem qmp (p:Pl)(x:Wt):(wf p x).2.most=p.most:=by
 unfold wf;have g:=qbv p x;split
 ·rw[(qcd _ _).1,g.most]
 ·exact g.most
theorem qcf (hu:g.use.length=48)(hw:g.was.length=48):(gcells a d g).length=101:=by
 simp[gcells,bv_len,hu,hw]
theorem qgx (gn r1:Nat)(rt:Int)(hr:(r1:Int)-1=rt)(hu:g.use.length=48)(hw:g.was.length=48) :
  (((((gcells a d g).toArray.setIfInBounds 3 (.int .u64 (gn:Int))).setIfInBounds 4 (.int .i64 rt)).toList.take 53++bv g.use++(((gcells a d g).toArray.setIfInBounds 3 (.int .u64 (gn:Int))).setIfInBounds 4 (.int .i64 rt)).toList.drop (53+(bv g.use).length)).toArray) =
   (gcells a d { g with gen:=gn,root1:=r1,was:=g.use }).toArray:=by
 subst hr;unfold gcells;have l1:(bv g.use).length=48:=by rw[bv_len,hu]
 have l2:(bv g.was).length=48:=by rw[bv_len,hw]
 generalize bv g.use=U at *;generalize bv g.was=W at *;simp only[zaW,zaA,zcl,List.set_cons_succ,List.set_cons_zero];rw[l1,show 53=48+1+1+1+1+1 from rfl,show 48+1+1+1+1+1+48=96+1+1+1+1+1 from rfl];simp only[zbn,zbQ,zaW];rw[za8 l1,zbi (by rw[zad];omega),zaG]
theorem qlQ:(Tryz.prog.info? 34).map (fun i=>(i.zero,i.size,i.bytes))=some (some (.slice none 0 0),1,24):=by kernel_rfl
theorem PgM.commit_call {w:World}{G:Nat}{F:Nat→Prop}{p:Pl}(h:PgM w a G d F p g)(root1:Nat)(hr:root1=0∨inUseB g ((root1:Int)-1)=true)(hoff:p.off=false)(hw:p.waits.length≤1099511627776)(hg:g.gen+1<4611686018427387904) :
  Calls Tryz.prog 41 #[.pointer (some ⟨G,0,none⟩),.int .i64 ((root1:Int)-1)] w (ComF a G d F p g root1 w):=by
 have HI:=zH (qdV h ((root1:Int)-1));obtain⟨z0,z1,_⟩:=h.cells;have HC:=h.lt;obtain⟨m,hm,hpm,hp0⟩:=h.ok.m;have Hq:=zH h;have HM:=zH hm;have Hp:=zH hoff;have HQ:=zH hw;have Hz:=zH hg;have Hi:=zH ((zai w.heap.size w).drew);have Hy:=zH (qfI (Hq.o.below Hi.o).pl hm hoff);rw[qg7 p d hoff]at Hy;obtain⟨rt,hrt⟩:∃ r:Int,(root1:Int)-1=r:=⟨_,rfl⟩;rw[hrt]at hr HI⊢;have Hl:=zH hrt;have Hr:=zH hr;have Hg:w.drew.cell? ⟨G,0,none⟩=some (.pointer (some ⟨a.P,0,none⟩))∧w.drew.cell? ⟨G,1,none⟩=some (.int .i64 (d:Int)):=⟨(Hi.o.cell (p:=⟨G,0,none⟩) HC).trans z0,(Hi.o.cell (p:=⟨G,1,none⟩) HC).trans z1⟩;clear h hm hpm hp0 hoff hw hg hr hrt z0 z1;go_enter Tryz.func41,Tryz.ntmps41
 go_upto_region 1 with fail
 go_cut [4,15] (fun s4 s15 wx=>s15=.bool false∧wx=w)
 case first=>
  by_cases hm1:rt=-1
  ·have t0:(rt != -1)=false:=by rw[hm1];rfl
   clear hm1;go_wp2;go_meet
   case rel=>exact⟨rfl,rfl⟩
  ·have t0:(rt != -1)=true:=bne_iff_ne.2 hm1;have HE:=Hr.o;have Hm:inUseB g rt=true:=by
    rcases HE with e|e
    ·exact absurd (by have:=Hl.o;omega) hm1
    ·exact e
   rw[Hm]at HI;clear hm1 HE Hm;go_wp2_with (go_at_call 62;refine HI.o.mono ?_;rintro e w' ⟨rfl,rfl⟩)
   go_meet
   case rel=>exact⟨rfl,rfl⟩
 case rest=>
  obtain⟨rfl,rfl⟩:=hcut;go_upto_region 3 with fail
  refine wp_region_held_drew (S:=fun W=>W.cell? ⟨G,0,none⟩=some (.pointer (some ⟨a.P,0,none⟩))∧W.cell? ⟨G,1,none⟩=some (.int .i64 (d:Int))) (by kernel_rfl) Hg (fun hHeld=>?_);refine zU 0 16 (.pointer (some ⟨G,0,none⟩)) ?_;try simp only[zS]
  refine zU 1 17 (.pointer (some ⟨G,0,none⟩)) ?_;try simp only[zS]
  refine zU 2 18 (.pointer (some ⟨G,0,none⟩)) ?_;try simp only[zS]
  refine zT 3 19 (.pointer (some ⟨a.P,0,none⟩)) rfl (Or.inl ⟨by rfl,fun W hS=>by obtain⟨hS1,hS2⟩:=hS;go_simp⟩) ?_;try simp only[zS]
  refine zU 4 20 (.pointer (some ⟨G,0,none⟩)) ?_;try simp only[zS]
  refine zU 5 21 (.pointer (some ⟨G,0,none⟩)) ?_;try simp only[zS]
  refine zU 6 22 (.pointer (some ⟨G,1,none⟩)) ?_;try simp only[zS]
  refine zT 7 23 (.int .i64 (d:Int)) rfl (Or.inl ⟨by rfl,fun W hS=>by obtain⟨hS1,hS2⟩:=hS;go_simp⟩) ?_;try simp only[zS]
  refine wpAnyH_ready (rs:=[8]) (by kernel_rfl) (by simp) ?_;refine AllReadyH.cons rfl (fun K hK=>?_) AllReadyH.nil;go_simp;go_at_call 63
  refine Hy.o.mono ?_;rintro e w1 ⟨rfl,hp1,he1⟩;have Hc:=(Hq.o.below Hi.o).ext hp1 he1 (qcd p d).1;have Hb:=zH Hc.1;have Hw:=zH ((Ext.of (Touch.of_below Hi.o)).trans Hc.2);have Hn:=Hc.1.cells;clear hp1 he1 Hc;refine hK.out _ _ ⟨Hn.1,Hn.2.1⟩ (fun hHeld2=>?_);clear hK K;try simp only[zS]
  cases hfl:(p.flush d).1 with
  | false=>
   refine zU 9 5 (.int .i64 2) ?_;try simp only[zS]
   refine wpAnyH_done (by kernel_rfl) ?_ _;have He:=zH (show commitP p d g.gen root1 g.use=(false,(p.flush d).2)by unfold commitP;rw[hfl];rfl);clear hHeld hHeld2 Hg hfl Hn;go_wp2;go_ret;exact⟨F,Hw.o,.inr ⟨by rw[He.o],rfl,by rw[He.o];exact Hb.o⟩⟩
  | true=>
   refine zU 9 5 (.int .i64 0) ?_;try simp only[zS]
   refine wpAnyH_done (by kernel_rfl) ?_ _;have He:=zH (show commitP p d g.gen root1 g.use=wf (p.flush d).2 ⟨d,slot (g.gen+1),superB (g.gen+1) root1 g.use⟩by unfold commitP;rw[hfl];rfl);have HG:=zH (((qcd p d).2.2.1 hfl).trans Hp.o);have z3:=Hb.o.cells.2.2.2.1;clear hHeld hHeld2 Hg hfl Hn;obtain⟨gn,hgn⟩:∃ n,g.gen+1=n:=⟨_,rfl⟩;have HD:gn<4611686018427387904:=by have:=Hz.o;omega
   have e1:IntKind.u64.wrap ((g.gen:Int)+1)=(gn:Int):=by rw[zde _ (by omega)];omega
   rw[hgn]at He;have HJ:=zH hgn;have HK:=zH (show root1<1000 by
    rcases Hr.o with e|e
    ·omega
    ·have hi:=e;unfold inUseB at hi;simp only[zba,zbf]at hi;have:=Hb.o.pages_le.1;have:=Hl.o;omega)
   have HL:=zH (fun(V:World)=>qhG gn V (by omega));have HN:=zH (fun(V:World) (hn:Nib V)=>(by have:=qgg gn root1 g.use V hn Hb.o.ok.use (by omega) HK.o;rw[Hl.o]at this;exact this));clear hgn;go_upto_region 7 with fail
   clear e1;have Hj:=zH ((zai w1.heap.size w1).drew);have Hs:=zH (show ∀ V:World,Below w1.heap.size w1 V→V.cell? ⟨G,0,none⟩=some (.pointer (some ⟨a.P,0,none⟩))∧V.cell? ⟨G,1,none⟩=some (.int .i64 (d:Int))∧V.rangeAt G 5 (bv g.use)from fun V hb=>⟨(Hb.o.below hb).cells.1,(Hb.o.below hb).cells.2.1,(Hb.o.below hb).useR⟩);have Hh:=Hs.o _ Hj.o;refine wp_region_held_drew (S:=fun V=>V.cell? ⟨G,0,none⟩=some (.pointer (some ⟨a.P,0,none⟩))∧V.cell? ⟨G,1,none⟩=some (.int .i64 (d:Int))∧V.rangeAt G 5 (bv g.use)) (by kernel_rfl) Hh (fun hHeld=>?_);have HT:=zH (fun(V:World) (hV:V.rangeAt G 5 (bv g.use))=>run_loadVar_mid V G 5 113 (bv g.use) _ hV Tryz.underlying113 rfl (by rw[bv_len,Hb.o.ok.use];kernel_rfl));refine zU 0 33 (.pointer (some ⟨G,0,none⟩)) ?_;try simp only[zS]
   refine zU 1 34 (.pointer (some ⟨G,0,none⟩)) ?_;try simp only[zS]
   refine zU 2 35 (.pointer (some ⟨G,0,none⟩)) ?_;try simp only[zS]
   refine zT 3 36 (.pointer (some ⟨a.P,0,none⟩)) rfl (Or.inl ⟨by rfl,fun W hS=>by obtain⟨hS1,hS2,hS3⟩:=hS;clear hS3;go_simp⟩) ?_;try simp only[zS]
   refine zU 4 37 (.pointer (some ⟨G,0,none⟩)) ?_;try simp only[zS]
   refine zU 5 38 (.pointer (some ⟨G,0,none⟩)) ?_;try simp only[zS]
   refine zU 6 39 (.pointer (some ⟨G,1,none⟩)) ?_;try simp only[zS]
   refine zT 7 40 (.int .i64 (d:Int)) rfl (Or.inl ⟨by rfl,fun W hS=>by obtain⟨hS1,hS2,hS3⟩:=hS;clear hS3;go_simp⟩) ?_;try simp only[zS]
   refine zU 8 41 (.int .u64 (gn:Int)) ?_;try simp only[zS]
   refine zU 10 43 (.int .u64 (gn:Int)) ?_;try simp only[zS]
   refine zU 11 44 (.int .i64 rt) ?_;try simp only[zS]
   refine zU 12 45 (.pointer (some ⟨G,0,none⟩)) ?_;try simp only[zS]
   refine zU 13 46 (.pointer (some ⟨G,0,none⟩)) ?_;try simp only[zS]
   refine zU 14 47 (.pointer (some ⟨G,5,none⟩)) ?_;try simp only[zS]
   refine zT 15 48 (.agg (bv g.use).toArray) rfl (Or.inl ⟨by rfl,fun W hS=>qbK 113 (.tmp 47) rfl G 5 rfl (HT.o W hS.2.2)⟩) ?_;try simp only[zS]
   refine wpAnyH_ready (rs:=[9]) (by kernel_rfl) (by simp) ?_;refine AllReadyH.cons rfl (fun K hK=>?_) AllReadyH.nil;go_simp;go_at_call 49
   refine(HL.o _).mono ?_;rintro e w2 ⟨rfl,rfl⟩;refine hK.out _ _ hHeld (fun hHeld2=>?_);clear hK K;try simp only[zS]
   refine wpAnyH_ready (rs:=[16]) (by kernel_rfl) (by simp) ?_;refine AllReadyH.cons rfl (fun K hK=>?_) AllReadyH.nil;go_simp;go_at_call 50
   refine(HN.o _ (Hb.o.nib.below Hj.o)).mono ?_;rintro e w3 ⟨b,rfl,hs1,hs2,hs3⟩;have Hk:=zH (Hj.o.trans (hs3.mono Hj.o.size));have HA:=zH hs2;have HF:=zH (show w1.heap.size≤b from zah Hj.o.size hs1);clear hs1 hs2 hs3;refine hK.out _ _ (Hs.o _ Hk.o) (fun hHeld3=>?_);clear hK K;try simp only[zS]
   obtain⟨j0,hj0,hj1,hj2,hj3⟩:=zaT qlQ;refine wpAnyH_ready (rs:=[17]) (by kernel_rfl) (by simp) ?_;refine AllReadyH.cons rfl (fun K hK=>?_) AllReadyH.nil;refine qbG rfl 103 (.tmp 49) rfl Tryz.underlying103 hj0 hj1 hj2 (by decide) (by decide) (.slice (some ⟨b,0,none⟩) 64 64) rfl [.slice (some ⟨b,0,none⟩) 64 64] rfl rfl ?_;refine hK.out _ _ (Hs.o _ (Hk.o.alloc Hk.o.size _)) (fun hHeld4=>?_);clear hK K;try simp only[zS]
   have Ho:=zH (Hk.o.alloc Hk.o.size (.cells #[.slice (some ⟨b,0,none⟩) 64 64] 34));have Hv:b<w3.heap.size:=(zab.1 HA.o).1;have HV:=qb9 gn;have HU:10≤m:=by
    obtain⟨m',hm',h1,h2⟩:=Hq.o.ok.m;rw[HM.o]at hm';cases hm';omega
   have HS:=zH (qfn ((Hb.o.below Ho.o).pl) (d:=d) (m:=m) (k:=slot gn) (by rw[(qcd p d).1];exact HM.o) (by omega) (b:=b) (C:=w3.heap.size) (cc:=1) (l:=superB gn root1 g.use)
    (By.of_block ((((zai w3.heap.size w3).alloc (zac _) _).block _ Hv).trans HA.o) rfl) (qgf _ _ _ Hb.o.ok.use) (fun hf=>by have:=Hb.o.pl.hF _ hf;have:=HF.o;omega)
    (by show(World.alloc _ _).cell? _=_;rw[zan _ _ 0 _ _ _ (zaf w3 _)];rfl) (zah (qcd p d).2.2.2 HQ.o) HG.o)
   refine wpAnyH_ready (rs:=[18]) (by kernel_rfl) (by simp) ?_;refine AllReadyH.cons rfl (fun K hK=>?_) AllReadyH.nil;go_simp;go_at_call 48
   refine HS.o.mono ?_;rintro e w5 ⟨rfl,F5,hp5,he5⟩;have Hf:=(Hb.o.below Ho.o).ext hp5 he5 (qmp _ _);have Ha:=zH Hf.1;have Hx:=zH (Hw.o.trans ((Ext.of (Touch.of_below Ho.o)).trans Hf.2));clear hp5 he5 Hf;have HR:=zH (show wfOut (p.flush d).2 ⟨d,slot gn,superB gn root1 g.use⟩=if(wf (p.flush d).2 ⟨d,slot gn,superB gn root1 g.use⟩).1 then 0 else 2 from rfl);refine hK.out _ _ ⟨Ha.o.cells.1,Ha.o.cells.2.1,Ha.o.useR⟩ (fun hHeld5=>?_);clear hK K;try simp only[zS]
   rw[HR.o];cases hwf:(wf (p.flush d).2 ⟨d,slot gn,superB gn root1 g.use⟩).1 with
   | false=>
    simp only[zbM,zc8];refine zU 19 7 (.int .i64 2) ?_;try simp only[zS]
    refine wpAnyH_done (by kernel_rfl) ?_ _;clear hHeld hHeld2 hHeld3 hHeld4 hHeld5 Hh;have Hu:=zH hwf;clear hwf;go_wp2;go_ret;exact⟨F5,Hx.o,.inr ⟨by rw[He.o];exact Hu.o,rfl,by rw[He.o];exact Ha.o⟩⟩
   | true=>
    simp only[zcn];refine zU 19 7 (.int .i64 0) ?_;try simp only[zS]
    refine wpAnyH_done (by kernel_rfl) ?_ _;clear hHeld hHeld2 hHeld3 hHeld4 hHeld5 Hh;have Hu:=zH hwf;clear hwf;obtain⟨y0,y1,_,y3,y4⟩:=Ha.o.cells;have yz:∀ i,w5.frozen? ⟨G,i,none⟩=false:=fun i=>zaQ _ _ _ _ _ Ha.o.gb;have HW:=yz 3;have HX:=yz 4;have YU:=zH Ha.o.useR;have HH:=zH Ha.o.gb;clear yz;have HB:=zH (show(bv g.use).toArray.size=48 by rw[zaz,bv_len];exact Ha.o.ok.use);have HP:=zH (show ∀ u v:Value,((w5.setCell ⟨G,3,none⟩ u).setCell ⟨G,4,none⟩ v).there G 53 (bv g.use).toArray.size from fun u v=>there_of_block (qab (qab HH.o u) v) 53 (by
     rw[HB.o,zbt,zbt,zaz,qcf Ha.o.ok.use Ha.o.ok.was];exact zac _))
    have HO:=zH (show(Tryz.prog.info? 113).map (·.size)=some (bv g.use).toArray.size by rw[HB.o];kernel_rfl);go_wp2_with (first|((with_reducible show wpList _ _ _ (⟨some 63,_,_,_,_,_⟩::_) _ _);(refine wpList_load_mid rfl 113 (.tmp 62) rfl G 5 rfl (bv g.use) _ YU.o Tryz.underlying113 rfl (by rw[bv_len,Ha.o.ok.use];kernel_rfl) ?_))|((with_reducible show wpList _ _ _ (⟨none,.store 113 _ _,_,_,_,_⟩::_) _ _);refine wpList_store_mid rfl 113 (.tmp 69) (.tmp 63) rfl G 53 (bv g.use).toArray rfl rfl (HP.o _ _) HO.o (all_oneCell_toArray (qaw _)) ?_))
    go_ret;have Ht:=zH (show Touch (fun b=>b=G) w5 (((w5.setCell ⟨G,3,none⟩ (.int .u64 (gn:Int))).setCell ⟨G,4,none⟩ (.int .i64 rt)).setCells G 53 (bv g.use))from(((Touch.refl (fun b=>b=G) w5).setCell (p:=⟨G,3,none⟩) rfl _).setCell (p:=⟨G,4,none⟩) rfl _).trans (qau (F:=fun b=>b=G) (g:=G) rfl 53 _));refine⟨F5,Hx.o.trans (Ext.of (Ht.o.mono fun b _ hb=>.inr hb)),.inl ⟨by rw[He.o];exact Hu.o,rfl,?_⟩⟩;rw[He.o];refine⟨Ha.o.pl.touch Ht.o (fun b hb e=>Ha.o.nF (e▸hb)),Ha.o.nF,?_,⟨Ha.o.ok.m,Ha.o.ok.use,Ha.o.ok.use,?_,?_,Ha.o.ok.up⟩,Ha.o.nib.touch Ht.o (fun e=>Ha.o.n1.2 e.symm),Ha.o.n1⟩
    ·rw[heap_setCells (bv g.use) 53 _ _ (qab (qab Ha.o.gb _) _) (by rw[zbt,zbt,zaz,qcf Ha.o.ok.use Ha.o.ok.was,bv_len,Ha.o.ok.use];exact zac _),qgx gn root1 rt Hl.o Ha.o.ok.use Ha.o.ok.was,HJ.o]
    ·show g.gen+1<_;have:=Hz.o;omega
    ·show root1≤384;rcases Hr.o with e|e
     ·omega
     ·unfold inUseB at e;simp only[zba,zbf]at e;have:=Hb.o.pages_le.1;have:=Hl.o;omega
end Go.Proofs.YtpmebcgmgfcmiaaGreatDoor
