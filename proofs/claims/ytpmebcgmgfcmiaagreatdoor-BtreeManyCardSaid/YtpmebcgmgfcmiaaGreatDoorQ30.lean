/- Texts RrB RrC RrD. -/
import Derived.Test.YtpmebcgmgfcmiaaGreatDoorQ29
set_option linter.all false
set_option maxRecDepth 100000
set_option maxHeartbeats 16000000
namespace Go.Proofs.YtpmebcgmgfcmiaaGreatDoor
open Go.RowKit BT Go.Lib
variable {w:World}{R n kc m j:Nat}{S:Nat→Prop}{A KA VA:Option Addr}{l:List Pr}{key:Bs}{us:List Value}
theorem qhV {c:Nat}(h:RowM w R S A c l)(hk:By w KA key)(hn:key.length=n)(hl:l.length≤1048576) :
  Calls Tryz.prog 51 #[.pointer (some ⟨R,0,none⟩),.slice KA n kc] w fun e w'=>e=.returned (.tuple #[.int .i64 ((atR key l).1:Nat),.bool (atR key l).2])∧Below w.heap.size w w':=by
 obtain⟨m,hm⟩:∃ m,l.length=m:=⟨_,rfl⟩;obtain⟨i,hi⟩:∃ i,(atR key l).1=i:=⟨_,rfl⟩;obtain⟨th,hth⟩:∃ i,(atR key l).2=i:=⟨_,rfl⟩;have Hr:=qgY key l;rw[hi,hm]at Hr;have HM:=zH hm;have HI:=zH hi;have Hh:=zH hth;have HR:=zH h;have HK:=zH hk;rw[hi,hth];rw[hm]at hl;clear h hk hm hi hth;go_enter Tryz.func51,Tryz.ntmps51
 go_wp2;go_loopw [6] (fun s6 wr=>∃ j:Nat,s6=.int .i64 j∧j≤i∧Below w.heap.size w wr) (fun s6 _=>i-(RowKit.intOf s6).toNat)
 case atStart=>exact⟨0,rfl,za7 _,zai _ _⟩
 case round=>
  rename World=>wr;obtain⟨j,rfl,hj,hb⟩:=hrel;have HB:=zH hb;have Hc:=HR.o.below hb;have Hb:=HK.o.below hb;have c0:=Hc.c0;rw[HM.o]at c0;have He:=qbe (w:=wr.drew) kc (Hb.below ((zai _ _).drew)) hn;by_cases hji:j<m
  ·have Hk:j<l.length:=by rw[HM.o];exact hji
   obtain⟨x,hx⟩:∃ x,l[j]?=some x:=⟨_,zaa Hk⟩;obtain⟨pb,po,XA,xc,VA,vc,rfl,-,x0,-,xk,-,-,-⟩:=Hc.pr.get hx;obtain⟨nx,hnx⟩:∃ k,x.1.length=k:=⟨_,rfl⟩;rw[hnx]at x0;have Hj:=qbe (w:=wr.drew) xc (xk.by_.below ((zai _ _).drew)) hnx;obtain⟨oj,hoj⟩:∃ o,po+j*2=o:=⟨_,rfl⟩;rw[hoj]at x0;have h1:(j:Int)<(m:Int):=by omega
   have h0:(0:Int)≤(j:Int):=by omega
   have h2:decide ((j:Int)<(m:Int))=true:=zas h1;obtain⟨K1,hK1⟩:∃ k,bstr x.1=k:=⟨_,rfl⟩;obtain⟨K2,hK2⟩:∃ k,bstr key=k:=⟨_,rfl⟩;rw[hK1]at Hj;rw[hK2]at He;obtain⟨tl,htl⟩:∃ b,Op.bytesLess K1.toList K2.toList=b:=⟨_,rfl⟩;have Hi:=zH (show blt x.1 key=tl by rw[←htl,←hK1,←hK2,qa6,qa6,qbQ]);have HX:=zH hx;have Ha:=zH (show Below w.heap.size w wr.drew from hb.drew);have g0:wr.drew.cell? ⟨R,0,none⟩=some (.slice (some ⟨pb,po,none⟩) m c):=c0;have g1:wr.drew.cell? ⟨pb,oj,none⟩=some (.slice XA nx xc):=x0;have Hq:=qbe (w:=wr.drew.drew) xc (xk.by_.below ((zai _ _).drew.drew)) hnx;have Hn:=qbe (w:=wr.drew.drew) kc (Hb.below ((zai _ _).drew.drew)) hn;rw[hK1]at Hq;rw[hK2]at Hn;obtain⟨te,hte⟩:∃ b,(K1.toList==K2.toList)=b:=⟨_,rfl⟩;have Ho:=zH (show te=decide (x.1=key)by rw[←hte,←hK1,←hK2,qa6,qa6];exact Bool.beq_eq_decide_eq _ _);clear hb Hc Hb c0 x0 xk hx hK1 hK2 Hk hnx HB;go_upto_region 2 with fail
   refine qac (S:=fun W'=>W'=wr.drew) [] (by kernel_rfl) rfl (fun _=>?_);generalize wr.drew=W0 at *;refine zP 0 7 (.int .i64 (j:Int)) rfl ?_;try simp only[zS]
   refine zP 1 8 (.pointer (some ⟨R,0,none⟩)) rfl ?_;try simp only[zS]
   refine zP 2 9 (.pointer (some ⟨R,0,none⟩)) rfl ?_;try simp only[zS]
   refine zP 3 10 (.pointer (some ⟨R,0,none⟩)) rfl ?_;try simp only[zS]
   refine zL 4 11 (.slice (some ⟨pb,po,none⟩) m c) rfl (Or.inl ⟨by rfl,fun W' hS=>by subst hS;go_simp⟩) (qaa rfl) ?_;try simp only[zS]
   refine zP 5 12 (.int .i64 (m:Int)) rfl ?_;try simp only[zS]
   refine zP 6 13 (.bool true) rfl ?_;try simp only[zS]
   refine zP 7 14 (.bool true) rfl ?_;try simp only[zS]
   refine zP 8 15 (.pointer (some ⟨R,0,none⟩)) rfl ?_;try simp only[zS]
   refine zP 9 16 (.pointer (some ⟨R,0,none⟩)) rfl ?_;try simp only[zS]
   refine zP 10 17 (.pointer (some ⟨R,0,none⟩)) rfl ?_;try simp only[zS]
   refine zL 11 18 (.slice (some ⟨pb,po,none⟩) m c) rfl (Or.inl ⟨by rfl,fun W' hS=>by subst hS;go_simp⟩) (qaa rfl) ?_;try simp only[zS]
   refine zP 12 19 (.int .i64 (j:Int)) rfl ?_;try simp only[zS]
   refine zP 13 20 (.pointer (some ⟨pb,oj,none⟩)) rfl ?_;try simp only[zS]
   refine zP 14 21 (.pointer (some ⟨pb,oj,none⟩)) rfl ?_;try simp only[zS]
   refine zL 15 22 (.slice XA nx xc) rfl (Or.inl ⟨by rfl,fun W' hS=>by subst hS;go_simp⟩) (qaa rfl) ?_;try simp only[zS]
   refine zL 16 23 (.string K1) rfl (Or.inl ⟨by rfl,fun W' hS=>by subst hS;go_simp⟩) (qaa rfl) ?_;try simp only[zS]
   refine zP 17 24 (.slice KA n kc) rfl ?_;try simp only[zS]
   refine zL 18 25 (.string K2) rfl (Or.inl ⟨by rfl,fun W' hS=>by subst hS;go_simp⟩) (qaa rfl) ?_;try simp only[zS]
   refine zP 19 26 (.bool tl) rfl ?_;try simp only[zS]
   refine zP 20 27 (.bool tl) rfl ?_;try simp only[zS]
   refine qad (by kernel_rfl) ?_ _;cases tl with
   | true=>
    have Hs:j<i:=by
     rcases zbL j i with h|h
     ·exact h
     ·have e:(atR key l).1=j:=by rw[HI.o];omega
      have:=(qiu key l x (by rw[e];exact HX.o)).1;rw[Hi.o]at this;cases this
    go_wp2;exact⟨⟨j+1,by go_num,by omega,Ha.o⟩,by simp[RowKit.intOf];omega⟩
   | false=>
    have Hf:j=i:=by
     rcases zbL j i with h|h
     ·have:=qlM key l j x (by rw[HI.o];exact h) HX.o;rw[Hi.o]at this;cases this
     ·omega
    have Hp:=zH (show te=th by
     rw[Ho.o,←Hh.o];exact((qiu key l x (by rw[HI.o,←Hf];exact HX.o)).2).symm)
    have Hm:=zH Hf;have Hl:=zH (show Below w.heap.size w W0.drew from Ha.o.drew);have g2:W0.drew.cell? ⟨R,0,none⟩=some (.slice (some ⟨pb,po,none⟩) m c):=g0;have g3:W0.drew.cell? ⟨pb,oj,none⟩=some (.slice XA nx xc):=g1;clear Hf g0 g1 Hj He;go_upto_region 4 with fail
    refine qac (S:=fun W'=>W'=W0.drew) [] (by kernel_rfl) rfl (fun _=>?_);generalize W0.drew=W1 at *;refine zP 0 30 (.int .i64 (j:Int)) rfl ?_;try simp only[zS]
    refine zP 1 31 (.int .i64 (j:Int)) rfl ?_;try simp only[zS]
    refine zP 2 32 (.pointer (some ⟨R,0,none⟩)) rfl ?_;try simp only[zS]
    refine zP 3 33 (.pointer (some ⟨R,0,none⟩)) rfl ?_;try simp only[zS]
    refine zP 4 34 (.pointer (some ⟨R,0,none⟩)) rfl ?_;try simp only[zS]
    refine zL 5 35 (.slice (some ⟨pb,po,none⟩) m c) rfl (Or.inl ⟨by rfl,fun W' hS=>by subst hS;go_simp⟩) (qaa rfl) ?_;try simp only[zS]
    refine zP 6 36 (.int .i64 (m:Int)) rfl ?_;try simp only[zS]
    refine zP 7 37 (.bool true) rfl ?_;try simp only[zS]
    refine zP 8 38 (.bool true) rfl ?_;try simp only[zS]
    refine zP 9 39 (.pointer (some ⟨R,0,none⟩)) rfl ?_;try simp only[zS]
    refine zP 10 40 (.pointer (some ⟨R,0,none⟩)) rfl ?_;try simp only[zS]
    refine zP 11 41 (.pointer (some ⟨R,0,none⟩)) rfl ?_;try simp only[zS]
    refine zL 12 42 (.slice (some ⟨pb,po,none⟩) m c) rfl (Or.inl ⟨by rfl,fun W' hS=>by subst hS;go_simp⟩) (qaa rfl) ?_;try simp only[zS]
    refine zP 13 43 (.int .i64 (j:Int)) rfl ?_;try simp only[zS]
    refine zP 14 44 (.pointer (some ⟨pb,oj,none⟩)) rfl ?_;try simp only[zS]
    refine zP 15 45 (.pointer (some ⟨pb,oj,none⟩)) rfl ?_;try simp only[zS]
    refine zL 16 46 (.slice XA nx xc) rfl (Or.inl ⟨by rfl,fun W' hS=>by subst hS;go_simp⟩) (qaa rfl) ?_;try simp only[zS]
    refine zL 17 47 (.string K1) rfl (Or.inl ⟨by rfl,fun W' hS=>by subst hS;go_simp⟩) (qaa rfl) ?_;try simp only[zS]
    refine zP 18 48 (.slice KA n kc) rfl ?_;try simp only[zS]
    refine zL 19 49 (.string K2) rfl (Or.inl ⟨by rfl,fun W' hS=>by subst hS;go_simp⟩) (qaa rfl) ?_;try simp only[zS]
    refine zP 20 50 (.bool te) rfl ?_;try simp only[zS]
    refine zP 21 51 (.bool te) rfl ?_;try simp only[zS]
    refine zP 22 4 (.int .i64 (j:Int)) rfl ?_;try simp only[zS]
    refine zP 23 5 (.bool te) rfl ?_;try simp only[zS]
    refine qad (by kernel_rfl) ?_ _;go_wp2;go_returns;refine⟨?_,Hl.o⟩;rw[Hm.o,Hp.o];rfl
  ·have Ht:j=m:=by omega
   have Hg:¬((j:Int)<(m:Int)):=by omega
   have Hu:decide ((j:Int)<(m:Int))=false:=zal Hg;have HJ:=zH (show j=i∧th=false from⟨by omega,by rw[←Hh.o];exact qeC key l (by rw[HI.o,HM.o];omega)⟩);have Ha:=zH (show Below w.heap.size w wr.drew.drew from hb.drew.drew);have g0:wr.drew.cell? ⟨R,0,none⟩=some (.slice A m c):=c0;have g2:wr.drew.drew.cell? ⟨R,0,none⟩=some (.slice A m c):=c0;clear hb Hc Hb c0 HB He Ht;go_upto_region 2 with fail
   refine qac (S:=fun W'=>W'=wr.drew) [] (by kernel_rfl) rfl (fun _=>?_);generalize wr.drew=W0 at *;refine zP 0 7 (.int .i64 (j:Int)) rfl ?_;try simp only[zS]
   refine zP 1 8 (.pointer (some ⟨R,0,none⟩)) rfl ?_;try simp only[zS]
   refine zP 2 9 (.pointer (some ⟨R,0,none⟩)) rfl ?_;try simp only[zS]
   refine zP 3 10 (.pointer (some ⟨R,0,none⟩)) rfl ?_;try simp only[zS]
   refine zL 4 11 (.slice A m c) rfl (Or.inl ⟨by rfl,fun W' hS=>by subst hS;go_simp⟩) (qaa rfl) ?_;try simp only[zS]
   refine zP 5 12 (.int .i64 (m:Int)) rfl ?_;try simp only[zS]
   refine zP 6 13 (.bool false) rfl ?_;try simp only[zS]
   refine zP 7 14 (.bool false) rfl ?_;try simp only[zS]
   refine zN 8 15 (qaa rfl) ?_;try simp only[zS]
   refine zN 9 16 (qaa rfl) ?_;try simp only[zS]
   refine zN 10 17 (qaa rfl) ?_;try simp only[zS]
   refine zN 11 18 (qaa rfl) ?_;try simp only[zS]
   refine zN 12 19 (qaa rfl) ?_;try simp only[zS]
   refine zN 13 20 (qaa rfl) ?_;try simp only[zS]
   refine zN 14 21 (qaa rfl) ?_;try simp only[zS]
   refine zN 15 22 (qaa rfl) ?_;try simp only[zS]
   refine zN 16 23 (qaa rfl) ?_;try simp only[zS]
   refine zN 17 24 (qaa rfl) ?_;try simp only[zS]
   refine zN 18 25 (qaa rfl) ?_;try simp only[zS]
   refine zN 19 26 (qaa rfl) ?_;try simp only[zS]
   refine zP 20 27 (.bool false) rfl ?_;try simp only[zS]
   refine qad (by kernel_rfl) ?_ _;go_upto_region 4 with fail
   refine qac (S:=fun W'=>W'=W0.drew) [] (by kernel_rfl) rfl (fun _=>?_);generalize W0.drew=W1 at *;refine zP 0 30 (.int .i64 (j:Int)) rfl ?_;try simp only[zS]
   refine zP 1 31 (.int .i64 (j:Int)) rfl ?_;try simp only[zS]
   refine zP 2 32 (.pointer (some ⟨R,0,none⟩)) rfl ?_;try simp only[zS]
   refine zP 3 33 (.pointer (some ⟨R,0,none⟩)) rfl ?_;try simp only[zS]
   refine zP 4 34 (.pointer (some ⟨R,0,none⟩)) rfl ?_;try simp only[zS]
   refine zL 5 35 (.slice A m c) rfl (Or.inl ⟨by rfl,fun W' hS=>by subst hS;go_simp⟩) (qaa rfl) ?_;try simp only[zS]
   refine zP 6 36 (.int .i64 (m:Int)) rfl ?_;try simp only[zS]
   refine zP 7 37 (.bool false) rfl ?_;try simp only[zS]
   refine zP 8 38 (.bool false) rfl ?_;try simp only[zS]
   refine zN 9 39 (qaa rfl) ?_;try simp only[zS]
   refine zN 10 40 (qaa rfl) ?_;try simp only[zS]
   refine zN 11 41 (qaa rfl) ?_;try simp only[zS]
   refine zN 12 42 (qaa rfl) ?_;try simp only[zS]
   refine zN 13 43 (qaa rfl) ?_;try simp only[zS]
   refine zN 14 44 (qaa rfl) ?_;try simp only[zS]
   refine zN 15 45 (qaa rfl) ?_;try simp only[zS]
   refine zN 16 46 (qaa rfl) ?_;try simp only[zS]
   refine zN 17 47 (qaa rfl) ?_;try simp only[zS]
   refine zN 18 48 (qaa rfl) ?_;try simp only[zS]
   refine zN 19 49 (qaa rfl) ?_;try simp only[zS]
   refine zN 20 50 (qaa rfl) ?_;try simp only[zS]
   refine zP 21 51 (.bool false) rfl ?_;try simp only[zS]
   refine zP 22 4 (.int .i64 (j:Int)) rfl ?_;try simp only[zS]
   refine zP 23 5 (.bool false) rfl ?_;try simp only[zS]
   refine qad (by kernel_rfl) ?_ _;go_wp2;go_returns;refine⟨?_,Ha.o⟩;rw[HJ.o.1,HJ.o.2];rfl
theorem qcO {S1 S2:Nat→Prop}{B:Option Addr}{ca cb na nb:Nat}{m:List Pr}(h1:PrS w S1 A l)(h2:PrS w S2 B m)(hna:l.length=na)(hnb:m.length=nb)(hl:na≤1048576) :
  Calls Tryz.prog 14 #[.slice A na ca,.slice B nb cb] w fun e w'=>e=.returned (.bool (decide (l=m)))∧Below w.heap.size w w':=by
 have Hc:=zH hna;have He:=zH hnb;have H1:=zH h1;have H2:=zH h2;go_enter Tryz.func14,Tryz.ntmps14
 by_cases hlen:na=nb
 ·subst hlen;have t0:((na:Int) != (na:Int))=false:=by simp
  clear h1 h2 hna hnb;go_wp2;go_loopw [5] (fun s5 wr=>∃ j:Nat,s5=.int .i64 j∧j≤na∧l.take j=m.take j∧Below w.heap.size w wr) (fun s5 _=>na-(RowKit.intOf s5).toNat)
  case atStart=>exact⟨0,rfl,za7 _,by simp,zai _ _⟩
  case round=>
   rename World=>wr;obtain⟨j,rfl,hj,htk,hb⟩:=hrel;have Hh:=zH htk;by_cases hji:j<na
   ·have Hi:j<l.length:=by rw[Hc.o];exact hji
    have Hj:j<m.length:=by rw[He.o];exact hji
    obtain⟨x,hx⟩:∃ x,l[j]?=some x:=⟨_,zaa Hi⟩;obtain⟨y,hy⟩:∃ y,m[j]?=some y:=⟨_,zaa Hj⟩;obtain⟨pb,po,XA,xc,XV,xvc,rfl,-,x0,x1,xk,xv,-,-⟩:=(H1.o.below hb).get hx;obtain⟨qb,qo,YA,yc,YV,yvc,rfl,-,y0,y1,yk,yv,-,-⟩:=(H2.o.below hb).get hy;obtain⟨oj,hoj⟩:∃ o,po+j*2=o:=⟨_,rfl⟩;obtain⟨ok,hok⟩:∃ o,qo+j*2=o:=⟨_,rfl⟩;rw[hoj]at x0 x1;rw[hok]at y0 y1;obtain⟨nx,hnx⟩:∃ k,x.1.length=k:=⟨_,rfl⟩;obtain⟨ny,hny⟩:∃ k,y.1.length=k:=⟨_,rfl⟩;obtain⟨mx,hmx⟩:∃ k,x.2.length=k:=⟨_,rfl⟩;obtain⟨my,hmy⟩:∃ k,y.2.length=k:=⟨_,rfl⟩;rw[hnx]at x0;rw[hny]at y0;rw[hmx]at x1;rw[hmy]at y1;have bd:Below wr.heap.size wr wr.drew:=(zai _ _).drew;have C1:=qbe (w:=wr.drew) xc (xk.by_.below bd) hnx;have C2:=qbe (w:=wr.drew) yc (yk.by_.below bd) hny;have C3:=qbe (w:=wr.drew) xvc (xv.by_.below bd) hmx;have C4:=qbe (w:=wr.drew) yvc (yv.by_.below bd) hmy;obtain⟨K1,hK1⟩:∃ k,bstr x.1=k:=⟨_,rfl⟩;obtain⟨K2,hK2⟩:∃ k,bstr y.1=k:=⟨_,rfl⟩;obtain⟨K3,hK3⟩:∃ k,bstr x.2=k:=⟨_,rfl⟩;obtain⟨K4,hK4⟩:∃ k,bstr y.2=k:=⟨_,rfl⟩;rw[hK1]at C1;rw[hK2]at C2;rw[hK3]at C3;rw[hK4]at C4;obtain⟨t1,ht1⟩:∃ b,(!(K1.toList==K2.toList))=b:=⟨_,rfl⟩;obtain⟨t2,ht2⟩:∃ b,(!(K3.toList==K4.toList))=b:=⟨_,rfl⟩;have Hf:=zH (show t1=!(decide (x.1=y.1))by rw[←ht1,←hK1,←hK2,qa6,qa6,Bool.beq_eq_decide_eq]);have Hg:=zH (show t2=!(decide (x.2=y.2))by rw[←ht2,←hK3,←hK4,qa6,qa6,Bool.beq_eq_decide_eq]);have h1:(j:Int)<(na:Int):=by omega
    have h0:(0:Int)≤(j:Int):=by omega
    have HX:=zH hx;have HY:=zH hy;have Hb:=zH (show Below w.heap.size w wr.drew from hb.drew);have g1:wr.drew.cell? ⟨pb,oj,none⟩=some (.slice XA nx xc):=x0;have g2:wr.drew.cell? ⟨pb,oj+1,none⟩=some (.slice XV mx xvc):=x1;have g3:wr.drew.cell? ⟨qb,ok,none⟩=some (.slice YA ny yc):=y0;have g4:wr.drew.cell? ⟨qb,ok+1,none⟩=some (.slice YV my yvc):=y1;clear hb x0 x1 y0 y1 xk xv yk yv hx hy hK1 hK2 hK3 hK4 hnx hny hmx hmy bd htk Hi Hj;go_upto_region 6 with fail
    cases t1 with
    | true=>
     refine qac (S:=fun W'=>W'=wr.drew) [] (by kernel_rfl) rfl (fun _=>?_);generalize wr.drew=W0 at *;refine zP 0 17 (.slice (some ⟨pb,po,none⟩) na ca) rfl ?_;try simp only[zS]
     refine zP 1 18 (.int .i64 (j:Int)) rfl ?_;try simp only[zS]
     refine zP 2 19 (.pointer (some ⟨pb,oj,none⟩)) rfl ?_;try simp only[zS]
     refine zP 3 20 (.pointer (some ⟨pb,oj,none⟩)) rfl ?_;try simp only[zS]
     refine zL 4 21 (.slice XA nx xc) rfl (Or.inl ⟨by rfl,fun W' hS=>by subst hS;go_simp⟩) (qaa rfl) ?_;try simp only[zS]
     refine zL 5 22 (.string K1) rfl (Or.inl ⟨by rfl,fun W' hS=>by subst hS;go_simp⟩) (qaa rfl) ?_;try simp only[zS]
     refine zP 6 23 (.slice (some ⟨qb,qo,none⟩) na cb) rfl ?_;try simp only[zS]
     refine zP 7 24 (.int .i64 (j:Int)) rfl ?_;try simp only[zS]
     refine zP 8 25 (.pointer (some ⟨qb,ok,none⟩)) rfl ?_;try simp only[zS]
     refine zP 9 26 (.pointer (some ⟨qb,ok,none⟩)) rfl ?_;try simp only[zS]
     refine zL 10 27 (.slice YA ny yc) rfl (Or.inl ⟨by rfl,fun W' hS=>by subst hS;go_simp⟩) (qaa rfl) ?_;try simp only[zS]
     refine zL 11 28 (.string K2) rfl (Or.inl ⟨by rfl,fun W' hS=>by subst hS;go_simp⟩) (qaa rfl) ?_;try simp only[zS]
     refine zP 12 29 (.bool true) rfl ?_;try simp only[zS]
     refine zP 13 30 (.bool true) rfl ?_;try simp only[zS]
     refine zN 14 31 (qaa rfl) ?_;try simp only[zS]
     refine zN 15 32 (qaa rfl) ?_;try simp only[zS]
     refine zN 16 33 (qaa rfl) ?_;try simp only[zS]
     refine zN 17 34 (qaa rfl) ?_;try simp only[zS]
     refine zN 18 35 (qaa rfl) ?_;try simp only[zS]
     refine zN 19 36 (qaa rfl) ?_;try simp only[zS]
     refine zN 20 37 (qaa rfl) ?_;try simp only[zS]
     refine zN 21 38 (qaa rfl) ?_;try simp only[zS]
     refine zN 22 39 (qaa rfl) ?_;try simp only[zS]
     refine zN 23 40 (qaa rfl) ?_;try simp only[zS]
     refine zN 24 41 (qaa rfl) ?_;try simp only[zS]
     refine zN 25 42 (qaa rfl) ?_;try simp only[zS]
     refine zN 26 43 (qaa rfl) ?_;try simp only[zS]
     refine zP 27 44 (.bool true) rfl ?_;try simp only[zS]
     refine qad (by kernel_rfl) ?_ _;go_wp2;go_ret;refine⟨?_,Hb.o⟩;have Ha:¬l=m:=fun e=>by
      have h5:=Hf.o;have:x=y:=by have h6:=HX.o;rw[e,HY.o]at h6;exact(zaF h6).symm
      rw[this]at h5;simp at h5
     rw[zal Ha];rfl
    | false=>
     refine qac (S:=fun W'=>W'=wr.drew) [] (by kernel_rfl) rfl (fun _=>?_);generalize wr.drew=W0 at *;refine zP 0 17 (.slice (some ⟨pb,po,none⟩) na ca) rfl ?_;try simp only[zS]
     refine zP 1 18 (.int .i64 (j:Int)) rfl ?_;try simp only[zS]
     refine zP 2 19 (.pointer (some ⟨pb,oj,none⟩)) rfl ?_;try simp only[zS]
     refine zP 3 20 (.pointer (some ⟨pb,oj,none⟩)) rfl ?_;try simp only[zS]
     refine zL 4 21 (.slice XA nx xc) rfl (Or.inl ⟨by rfl,fun W' hS=>by subst hS;go_simp⟩) (qaa rfl) ?_;try simp only[zS]
     refine zL 5 22 (.string K1) rfl (Or.inl ⟨by rfl,fun W' hS=>by subst hS;go_simp⟩) (qaa rfl) ?_;try simp only[zS]
     refine zP 6 23 (.slice (some ⟨qb,qo,none⟩) na cb) rfl ?_;try simp only[zS]
     refine zP 7 24 (.int .i64 (j:Int)) rfl ?_;try simp only[zS]
     refine zP 8 25 (.pointer (some ⟨qb,ok,none⟩)) rfl ?_;try simp only[zS]
     refine zP 9 26 (.pointer (some ⟨qb,ok,none⟩)) rfl ?_;try simp only[zS]
     refine zL 10 27 (.slice YA ny yc) rfl (Or.inl ⟨by rfl,fun W' hS=>by subst hS;go_simp⟩) (qaa rfl) ?_;try simp only[zS]
     refine zL 11 28 (.string K2) rfl (Or.inl ⟨by rfl,fun W' hS=>by subst hS;go_simp⟩) (qaa rfl) ?_;try simp only[zS]
     refine zP 12 29 (.bool false) rfl ?_;try simp only[zS]
     refine zP 13 30 (.bool false) rfl ?_;try simp only[zS]
     refine zP 14 31 (.slice (some ⟨pb,po,none⟩) na ca) rfl ?_;try simp only[zS]
     refine zP 15 32 (.int .i64 (j:Int)) rfl ?_;try simp only[zS]
     refine zP 16 33 (.pointer (some ⟨pb,oj,none⟩)) rfl ?_;try simp only[zS]
     refine zP 17 34 (.pointer (some ⟨pb,oj+1,none⟩)) rfl ?_;try simp only[zS]
     refine zL 18 35 (.slice XV mx xvc) rfl (Or.inl ⟨by rfl,fun W' hS=>by subst hS;go_simp⟩) (qaa rfl) ?_;try simp only[zS]
     refine zL 19 36 (.string K3) rfl (Or.inl ⟨by rfl,fun W' hS=>by subst hS;go_simp⟩) (qaa rfl) ?_;try simp only[zS]
     refine zP 20 37 (.slice (some ⟨qb,qo,none⟩) na cb) rfl ?_;try simp only[zS]
     refine zP 21 38 (.int .i64 (j:Int)) rfl ?_;try simp only[zS]
     refine zP 22 39 (.pointer (some ⟨qb,ok,none⟩)) rfl ?_;try simp only[zS]
     refine zP 23 40 (.pointer (some ⟨qb,ok+1,none⟩)) rfl ?_;try simp only[zS]
     refine zL 24 41 (.slice YV my yvc) rfl (Or.inl ⟨by rfl,fun W' hS=>by subst hS;go_simp⟩) (qaa rfl) ?_;try simp only[zS]
     refine zL 25 42 (.string K4) rfl (Or.inl ⟨by rfl,fun W' hS=>by subst hS;go_simp⟩) (qaa rfl) ?_;try simp only[zS]
     refine zP 26 43 (.bool t2) rfl ?_;try simp only[zS]
     refine zP 27 44 (.bool t2) rfl ?_;try simp only[zS]
     refine qad (by kernel_rfl) ?_ _;cases t2 with
     | true=>
      go_wp2;go_ret;refine⟨?_,Hb.o⟩;have Ha:¬l=m:=fun e=>by
       have h5:=Hg.o;have:x=y:=by have h6:=HX.o;rw[e,HY.o]at h6;exact(zaF h6).symm
       rw[this]at h5;simp at h5
      rw[zal Ha];rfl
     | false=>
      go_wp2;refine⟨⟨j+1,by go_num,by omega,?_,Hb.o⟩,by simp[RowKit.intOf];omega⟩;have h5:=Hf.o;have h6:=Hg.o;simp at h5 h6;rw[zbK,zbK,Hh.o,HX.o,HY.o,Prod.ext h5 h6]
   ·have Hk:¬((j:Int)<(na:Int)):=by omega
    have Hl:decide ((j:Int)<(na:Int))=false:=zal Hk;have HE:=zH (show l=m by
     have h5:=Hh.o
     rwa [zbe (by rw[Hc.o];omega),zbe (by rw[He.o];omega)]at h5)
    go_wp2;go_ret;exact⟨by rw[zas HE.o];rfl,hb⟩
 ·have t0:((na:Int) != (nb:Int))=true:=by simp;omega
  have Ha:¬l=m:=fun e=>hlen (by rw[←hna,←hnb,e]);go_wp2;go_ret;exact⟨by rw[zal Ha];rfl,zai _ _⟩
theorem qlh (n c:Nat):Calls Tryz.prog 30 #[.slice A n c] w fun e w'=>e=.returned (.bool (decide (1≤n∧n≤24)))∧w=w':=by
 go_enter Tryz.func30,Tryz.ntmps30
 by_cases h1:1≤n
 ·have q1:(1:Int)≤(n:Int):=by omega
  have q2:decide ((n:Int)≥1)=true:=zas q1;have q3:decide ((1:Int)≤(n:Int))=true:=zas q1;by_cases h2:n≤24
  ·have q4:(n:Int)≤24:=by omega
   go_wp2;go_ret;simp[h1,h2]
  ·have q4:¬((n:Int)≤24):=by omega
   go_wp2;go_ret;simp[h1,h2]
 ·have q1:¬((1:Int)≤(n:Int)):=by omega
  have q2:decide ((n:Int)≥1)=false:=zal q1;have q3:decide ((1:Int)≤(n:Int))=false:=zal q1;go_wp2;go_ret;simp[h1]
theorem qjN (n c:Nat):Calls Tryz.prog 31 #[.slice A n c] w fun e w'=>e=.returned (.bool (decide (n≤160)))∧w=w':=by
 go_enter Tryz.func31,Tryz.ntmps31
 by_cases h2:n≤160
 ·have q4:(n:Int)≤160:=by omega
  go_wp2;go_ret;simp[h2]
 ·have q4:¬((n:Int)≤160):=by omega
  go_wp2;go_ret;simp[h2]
theorem qbl {P:Program}{ops:Array Oper}{rest:List Oper}{o:Oper}{a:Act}{Q:Exit→Act→World→Prop}(hgd:o.guard=none)(s x:Operand)(t:TypeId)
  (ho:o.op=.call { callee:=.builtin .append,args:=#[s,x],argTypes:=#[t,t] })
  (base:Nat)(e:TypeId)(i:TypeInfo)(z:Value)(size bytes:Nat)(ht:P.underlying t=some (.slice e))(hi:P.info? e=some i)(hz:i.zero=some z)
  (hsize:i.size=size)(hby:i.bytes=bytes)(hzs:z.cells.size=size)(hsz:0<size)
  (v:Value)(n:Nat)(xs:List Value)(hv:a.eval s=v)(hrow:Own w base e size v n xs)
  (A:Option Addr)(m c:Nat)(us:List Value)(hx:a.eval x=.slice A m c)(hs:Src w size A m us)(h1:∀ u∈us,u.oneCell'=true)
  (h63:n+m≤maxLen)(hb:(n+m)*bytes≤140737488355328)(hbase:base≤w.heap.size)
  (h:∀ A' cap w',Own w' base e size (.slice A' (n+m) cap) (n+m) (xs++us)→Upd w w' v (.slice A' (n+m) cap)→wpList P ops Q rest (a.put o.dst (.slice A' (n+m) cap)) w'):wpList P ops Q (o::rest) a w:=
 zcs hgd fun _ hK=>qaJ s x t ho base e i z size bytes ht hi hz hsize hby hzs hsz v n xs hv hrow.row A m c us hx hs h1 h63 hb hbase fun A' cap w' q1 q2 q3=>
  hK _ _ (h A' cap w' (qaz hrow hbase q1 (qao q2 q3)) (qao q2 q3))
def RgF (key:Bs)(l:List Pr)(w:World)(e:Ending)(w':World):Prop:=
 Below w.heap.size w w'∧match getR key l with
  | none=>e=.returned (.tuple #[.slice none 0 0,.bool false])
  | some v=>∃ A c,e=.returned (.tuple #[.slice A v.length c,.bool true])∧By w' A v
theorem qhB {c:Nat}(h:RowM w R S A c l)(hk:By w KA key)(hn:key.length=n)(hl:l.length≤1048576)(hvl:∀ x∈l,x.2.length≤1048576) :
  Calls Tryz.prog 23 #[.pointer (some ⟨R,0,none⟩),.slice KA n kc] w (RgF key l w):=by
 have HA:=zH (qhV (kc:=kc) h hk hn hl);have hg:=qj6 key l;have HR:=zH h;have Hf:=qgY key l;have Hk:=zH (qiu key l);have Ha:=zH (qeC key l);obtain⟨i,hi⟩:∃ i,(atR key l).1=i:=⟨_,rfl⟩;obtain⟨th,hth⟩:∃ i,(atR key l).2=i:=⟨_,rfl⟩;rw[hi,hth]at HA hg;rw[hi]at Hf Ha;rw[hth]at Ha;have HG:=zH hg;clear h hk hg hi hth;obtain⟨i0,hi0,hz0,hz1,hz2⟩:=zaT qdW;go_enter Tryz.func23,Tryz.ntmps23
 cases th with
 | false=>
  go_wp2_with (go_at_call 51;refine HA.o.mono ?_;rintro e w1 ⟨rfl,hb1⟩)
  go_returns;unfold RgF;rw[HG.o];exact⟨hb1,rfl⟩
 | true=>
  have He:i<l.length:=by
   rcases zbL i l.length with h|h
   ·exact h
   ·have:=Ha.o (by omega);cases this
  obtain⟨x,hx⟩:∃ x,l[i]?=some x:=⟨_,zaa He⟩;have HX:=zH hx;have Hg:=zH (show getR key l=some x.2 by have h:=HG.o;simp[hx]at h;exact h);obtain⟨m,hm⟩:∃ m,l.length=m:=⟨_,rfl⟩;have HM:=zH hm;obtain⟨mx,hmx⟩:∃ k,x.2.length=k:=⟨_,rfl⟩;have Hj:mx≤1048576:=by rw[←hmx];exact hvl x (zak hx)
  obtain⟨pb,po,XA,xc,XV,xvc,rfl,-,-,-,-,-,-,-⟩:=HR.o.pr.get hx;obtain⟨oj,hoj⟩:∃ o,po+i*2=o:=⟨_,rfl⟩;have Hl:(i:Int)<(m:Int):=by omega
  have Hi:(0:Int)≤(i:Int):=by omega
  rw[hm]at Hf He;clear hx hm;go_upto_region 4 with(go_at_call 51;refine HA.o.mono ?_;rintro e w1 ⟨rfl,hb1⟩)
  have Hb:=HR.o.below hb1;have c0:=Hb.c0;rw[HM.o]at c0;obtain⟨pb2,po2,XA,xc,XV,xvc,e2,-,-,x1,-,xv,-,-⟩:=Hb.pr.get HX.o;cases e2;rw[hoj,hmx]at x1;have Hm:=cell_lt c0;have Hn:=cell_lt x1;have Hh:=zH (show ∀ o,Src (w1.alloc o) 1 XV mx (bv x.2)from fun o=>by rw[←hmx];exact(xv.by_.below ((zai _ _).alloc (zac _) o)).src);have Hc:=zH hb1;clear Hb xv hb1;go_wp2_with (at_builtin;refine qai rfl (.tmp 16) (.tmp 24) 34 rfl w1.heap.size 5 i0 _ 1 1 Tryz.underlying34 hi0 hz0 hz1 hz2 rfl (by decide) _ 0 [] rfl (Own.empty _ _ _ _ w1.heap.size 0 (zac _) (by simp)) XV mx xvc (bv x.2) rfl (Hh.o _) (qaw _) (by unfold maxLen;omega) (by omega) (by first|(simp;done)|(simp;omega)) ?_;intro A6 cap6 w6 hown6 hb6)
  go_returns;simp only[zaO,zaA]at hown6;unfold RgF;rw[Hg.o];exact⟨Hc.o.trans (((zB _ _).trans hb6).mono Hc.o.size),A6,cap6,by rw[hmx];simp,hown6.byN hmx⟩
theorem qdk {c:Nat}(h:RowM w R S A c l)(hl:l.length≤1048576) :
  Calls Tryz.prog 26 #[.pointer (some ⟨R,0,none⟩)] w fun e w'=>Below w.heap.size w w'∧∃ R' A' c',e=.returned (.pointer (some ⟨R',0,none⟩))∧w.heap.size≤R'∧RowM w' R' (fun b=>S b∨(w.heap.size≤b∧b<R')) A' c' l:=by
 obtain⟨m,hm⟩:∃ m,l.length=m:=⟨_,rfl⟩;have HR:=zH h;have HM:=zH hm;have c0:=h.c0;rw[hm]at c0 hl;have Hg:=cell_lt c0;obtain⟨cs,hs,hr⟩:=h.pr;rw[hm]at hs;have HS:=zH hs;have HV:=zH hr;clear h hm hs hr;obtain⟨i0,hi0,hz0,hz1,hz2⟩:=zaT qcs;go_enter Tryz.func26,Tryz.ntmps26
 go_wp2_with (at_builtin;refine qai rfl (.tmp 3) (.tmp 7) 44 rfl w.heap.size 48 i0 _ 2 48 Tryz.underlying44 hi0 hz0 hz1 hz2 rfl (by decide) _ 0 [] rfl (Own.empty _ _ _ _ w.heap.size 0 (zac _) (by simp)) A m c cs rfl (HS.o.below (zB _ _)).src HV.o.one_cell (by unfold maxLen;omega) (by omega) (by first|(simp;done)|(simp;omega)) ?_;intro A6 cap6 w6 hown6 hb6)
 go_ret;simp only[zaO,zaA]at hown6;have Hb:Below w6.heap.size w6 (w6.alloc (.cells #[.slice A6 m cap6] 46)):=zB _ _;have Ha:Below w.heap.size w w6:=(zB _ _).trans hb6;have Hc:=Ha.trans (Hb.mono Ha.size);have He:Own (w6.alloc (.cells #[.slice A6 m cap6] 46)) w.heap.size 48 2 (.slice A6 m cap6) m cs:=hown6.touch (F:=fun _=>False) (Touch.of_below Hb) (fun _ _ h=>h.elim);have Hf:∀ b,(Value.slice A6 m cap6).ownBlock=some b→b<w6.heap.size:=fun b e=>(hown6.blk b e).2;refine⟨Hc,w6.heap.size,A6,cap6,rfl,Ha.size,⟨?_,⟨cs,?_,(HV.o.same (Same.of_below Hc)).mono (fun b hb=>.inl hb)⟩,?_⟩⟩
 ·rw[HM.o];exact zaf w6 _
 ·rw[HM.o];exact He.srcS (fun b e=>.inr ⟨(He.blk b e).1,Hf b e⟩)
 ·rw[HM.o];obtain⟨_,_,e,h⟩:=hown6.slice;cases e;exact h
theorem qku {c:Nat}(h:SrcS w S 2 A m us)(hj:j≤m)(hc:m≤c) :
  ∃ A2,(∀ w',SrcS w' S 2 A m us→SrcS w' S 2 A2 j (us.take (j*2)))∧∀ W,(Instr.slice 44 (.slice A m c) none (some (.int .i64 (j:Int))) none).run Tryz.prog W=.ok (.slice A2 j c) W:=by
 obtain⟨i0,hi0,hz0,hz1,hz2⟩:=zaT qcs;cases A with
 | none=>
  obtain rfl:m=0:=by
   rcases zbN m with h0|h0
   ·exact h0
   ·obtain⟨_,_,e,_⟩:=h.form h0;cases e
  obtain rfl:j=0:=by omega
  refine⟨none,fun w' h'=>h'.take (zac _),fun W=>?_⟩;simp[Instr.slice,Instr.sliceBounds,Instr.sliceBound,asIntOf,zaM Tryz.underlying44,sizeOf,typeInfo,hi0,go_sem]
 | some a=>
  refine⟨some a,fun w' h'=>h'.take hj,fun W=>?_⟩;have e1:(j:Int)≤(c:Int):=by omega
  simp[Instr.slice,Instr.sliceBounds,Instr.sliceBound,asIntOf,zaM Tryz.underlying44,sizeOf,typeInfo,hi0,e1,go_sem];try omega
theorem qkv {c:Nat}(h:SrcS w S 2 A m us)(hj:j≤m)(hc:m≤c) :
  ∃ A2,(∀ w',SrcS w' S 2 A m us→SrcS w' S 2 A2 (m-j) (us.drop (j*2)))∧∀ W,(Instr.slice 44 (.slice A m c) (some (.int .i64 (j:Int))) none none).run Tryz.prog W=.ok (.slice A2 (m-j) (c-j)) W:=by
 obtain⟨i0,hi0,hz0,hz1,hz2⟩:=zaT qcs;cases A with
 | none=>
  obtain rfl:m=0:=by
   rcases zbN m with h0|h0
   ·exact h0
   ·obtain⟨_,_,e,_⟩:=h.form h0;cases e
  obtain rfl:j=0:=by omega
  refine⟨none,fun w' h'=>by simpa using h',fun W=>?_⟩;simp[Instr.slice,Instr.sliceBounds,Instr.sliceBound,asIntOf,zaM Tryz.underlying44,sizeOf,typeInfo,hi0,go_sem]
 | some a=>
  by_cases h0:0<m
  ·obtain⟨b,off,e,_⟩:=h.form h0;cases e;obtain⟨A2,q1,q2⟩:=qcx (P:=Tryz.prog) (size:=2) Tryz.underlying44 hi0 hz1 b off m c j hj hc;exact⟨A2,fun w' h'=>h'.drop j q1,q2⟩
  ·obtain rfl:m=0:=by omega
   obtain rfl:j=0:=by omega
   obtain⟨XA,c2,SL⟩:=qge (P:=Tryz.prog) Tryz.underlying44 hi0 (some a) c;refine⟨some a,fun w' h'=>by simpa using h',fun W=>?_⟩;simp[Instr.slice,Instr.sliceBounds,Instr.sliceBound,asIntOf,zaM Tryz.underlying44,sizeOf,typeInfo,hi0,go_sem]
theorem qgw:∀ (l:List Pr) (i:Nat),(l.flatMap fl2).take (i*2)=(l.take i).flatMap fl2
 | [],i=>by simp
 | p::r,0=>by simp
 | p::r,i+1=>by
  have:=qgw r i;rw[show(i+1)*2=i*2+1+1 by omega];simp only[zaq,fl2,zaW,zaA,zbn];rw[this]
theorem qgv:∀ (l:List Pr) (i:Nat),(l.flatMap fl2).drop (i*2)=(l.drop i).flatMap fl2
 | [],i=>by simp
 | p::r,0=>by simp
 | p::r,i+1=>by
  have:=qgv r i;rw[show(i+1)*2=i*2+1+1 by omega];simp only[zaq,fl2,zaW,zaA,zbQ];rw[this]
def RzF (R:Nat)(S:Nat→Prop)(l:List Pr)(v:Value)(w:World)(e:Ending)(w':World):Prop:=
 e=.returned v∧Touch (fun b=>b=R) w w'∧∃ A' c',RowM w' R (fun b=>S b∨(w.heap.size≤b∧b<w'.heap.size)) A' c' l
theorem qb2 {w':World}{v v':Value}{N:Nat}(h:Upd w w' v v')(hN:∀ b,v.ownBlock=some b→N≤b)(hw:N≤w.heap.size):Below N w w':=
 ⟨h.touch.os,h.touch.tape,h.touch.output,h.touch.size,fun b hb=>h.touch.block b (by omega) (fun e=>by have:=hN b e;omega)⟩
theorem qi0 {w1 w2 w3 w4 w6 w7 w8:World}{A2 A3 A4 A6 A7:Option Addr}{c c2 c3 c4 c6 c7 i i' q:Nat}{l':List Pr}{val:Bs}{cs:List Value}(h:RowM w R S A c l)(hRS:¬S R)(hq:l.length=q)(hs:SrcS w S 2 A q cs)(hr:RowV w S cs (l.flatMap fl2))(_hk:By w KA key)(_hv:By w VA val)(hn:key.length=n)(hm:val.length=m)
  (hP:l'=l.take i++(key,val)::l.drop i')(hRl:R<w.heap.size)(hb1:Below w.heap.size w w1)(hz12:w1.heap.size≤w2.heap.size)(hbw2:Below w.heap.size w w2)(ho2:Own w2 w1.heap.size 48 2 (.slice A2 i c2) i (cs.take (i*2)))
  (ho3:Own w3 w2.heap.size 5 1 (.slice A3 (0+n) c3) (0+n) ([]++bv key))(hb3:Below w2.heap.size w2 w3)(ho4:Own w4 w3.heap.size 5 1 (.slice A4 (0+m) c4) (0+m) ([]++bv val))(hb4:Below w3.heap.size w3 w4)
  (ho6:Own w6 w1.heap.size 48 2 (.slice A6 (i+1) c6) (i+1) (cs.take (i*2)++[.slice A3 n c3,.slice A4 m c4]))(hu6:Upd (w4.alloc (.cells #[.slice A3 n c3,.slice A4 m c4] 48)) w6 (.slice A2 i c2) (.slice A6 (i+1) c6))
  (ho7:Own w7 w1.heap.size 48 2 (.slice A7 (i+1+(q-i')) c7) (i+1+(q-i')) (cs.take (i*2)++[.slice A3 n c3,.slice A4 m c4]++cs.drop (i' * 2)))(hu7:Upd w6 w7 (.slice A6 (i+1) c6) (.slice A7 (i+1+(q-i')) c7))
  (hT8:Touch (fun b=>b=R) w7 w8)(hbx:w8.heap[R]?=some (.cells #[.slice A7 (i+1+(q-i')) c7] 46 (0,0)))(hi':i'≤q)(hi:i≤q) :
  RzF R S l' (.tuple #[]) w (.returned (.tuple #[])) w8:=by
 simp only[zaO,zaA]at ho3 ho4;have z1:=hb1.size;have z3:=hb3.size;have z4:=hb4.size;have z6:=hu6.touch.size;have z7:=hu7.touch.size;have z8:=hT8.size;simp only[za2]at z6;have Hb:∀ b,(Value.slice A2 i c2).ownBlock=some b→w1.heap.size≤b∧b<w2.heap.size:=fun b e=>ho2.blk b e;have He:∀ b,(Value.slice A6 (i+1) c6).ownBlock=some b→(w1.heap.size≤b∧b<w2.heap.size)∨w4.heap.size<b:=fun b e=>by
  rcases hu6.own b e with h1|h1
  ·exact .inl (Hb b h1)
  ·simp only[za2]at h1;exact .inr (by omega)
 have Hf:Touch (fun b=>b<w2.heap.size) w4 w8:=by
  have t1:Touch (fun b=>b<w2.heap.size) w4 (w4.alloc (.cells #[.slice A3 n c3,.slice A4 m c4] 48)):=(Touch.refl _ _).alloc _;refine⟨?_,?_,?_,by omega,fun b hb hn=>?_⟩
  ·rw[hT8.os,hu7.touch.os,hu6.touch.os,t1.os]
  ·rw[hT8.tape,hu7.touch.tape,hu6.touch.tape,t1.tape]
  ·rw[hT8.output,hu7.touch.output,hu6.touch.output,t1.output]
  ·rw[hT8.block b (by omega) (by omega),hu7.touch.block b (by omega) (fun e=>by have:=He b e;omega),hu6.touch.block b (by simp only[za2];omega) (fun e=>by have:=Hb b e;omega),t1.block b hb hn]
 have Hg:Touch (fun b=>b=R) w w8:=by
  have t4:Below w.heap.size w w4:=hbw2.trans ((hb3.mono hbw2.size).trans (hb4.mono (zah hbw2.size hb3.size)));have t5:Below w.heap.size w (w4.alloc (.cells #[.slice A3 n c3,.slice A4 m c4] 48)):=t4.alloc t4.size _;have t6:Below w.heap.size w w6:=t5.trans (qb2 hu6 (fun b e=>by have:=Hb b e;omega) t5.size);have t7:Below w.heap.size w w7:=t6.trans (qb2 hu7 (fun b e=>by have:=He b e;have:=t4.size;omega) t6.size);exact(Touch.of_below t7).trans hT8
 have Ha:l'.length=i+1+(q-i'):=by rw[hP];simp;omega
 refine⟨rfl,Hg,A7,c7,⟨by rw[Ha];exact hbx,?_,?_⟩⟩
 ·rw[PrS,Ha];refine⟨_,(ho7.touch hT8 (fun b e hR=>by have:=(ho7.blk b e).1;omega)).srcS (fun b e=>.inr ⟨by have:=(ho7.blk b e).1;omega,by have:=(ho7.blk b e).2;omega⟩),?_⟩;have Hh:=(hr.same (Same.of_touch Hg (fun b hb e=>hRS (by rw[←e];exact hb)))).mono (S':=fun b=>S b∨(w.heap.size≤b∧b<w8.heap.size)) (fun b hb=>.inl hb);have Hc:∀ {X:Option Addr} {s:Bs},By w4 X s→(∀ ad,X=some ad→w2.heap.size≤ad.block∧ad.block<w4.heap.size)→ByS w8 (fun b=>S b∨(w.heap.size≤b∧b<w8.heap.size)) X s:=fun {X s} hb hX=>
   ⟨hb.touch Hf (fun ad e hl=>by have:=hX ad e;omega),fun ad e _=>.inr ⟨by have:=hX ad e;omega,by have:=hX ad e;omega⟩⟩
  have Hi:key.length≤c3:=by obtain⟨_,_,e,h⟩:=ho3.slice;cases e;omega
  have Hj:val.length≤c4:=by obtain⟨_,_,e,h⟩:=ho4.slice;cases e;omega
  have r1:=(Hh.split (i*2)).1;have r2:=(Hh.split (i' * 2)).2;rw[qgw]at r1;rw[qgv]at r2;rw[hP,zat,zaq];have e1:=RowV.one Hi (Hc ((ho3.byN hn).below hb4) (fun ad e=>by subst e;have:=ho3.blk _ rfl;omega));have e2:=RowV.one Hj (Hc (ho4.byN hm) (fun ad e=>by subst e;have:=ho4.blk _ rfl;omega));rw[hn]at e1;rw[hm]at e2;have:=RowV.append (RowV.append r1 (RowV.append e1 e2)) r2;simpa [fl2] using this
 ·rw[Ha];obtain⟨_,_,e,h⟩:=ho7.slice;cases e;exact h
theorem qkI {c vc:Nat}{val:Bs}(h:RowM w R S A c l)(hRS:¬S R)(hk:By w KA key)(hn:key.length=n)(hv:By w VA val)(hm:val.length=m)(hl:l.length≤1048575)(hn2:n≤1048576)(hm2:m≤1048576) :
  Calls Tryz.prog 32 #[.pointer (some ⟨R,0,none⟩),.slice KA n kc,.slice VA m vc] w (RzF R S (putR key val l) (.tuple #[]) w):=by
 have HA:=zH (qhV (kc:=kc) h hk hn (by omega));have HP:=zH (qkw key val l);have Hu:=qgY key l;obtain⟨i,hi⟩:∃ i,(atR key l).1=i:=⟨_,rfl⟩;obtain⟨th,hth⟩:∃ i,(atR key l).2=i:=⟨_,rfl⟩;have Hk:th=true→i<l.length:=fun h=>by
  rcases zbL i l.length with h' | h'
  ·exact h'
  ·have:=qeC key l (by omega);rw[hth,h]at this;cases this
 rw[hi,hth]at HA HP;rw[hi]at Hu;obtain⟨q,hq⟩:∃ q,l.length=q:=⟨_,rfl⟩;have HQ:=zH hq;have HR:=zH h;have HK:=zH hk;have HV:=zH hv;obtain⟨cs,hs,hr⟩:=h.pr;rw[hq]at hs hl Hu Hk;have Hj:=h.cap;rw[hq]at Hj;have HS:=zH hs;have Hq:=zH hr;obtain⟨AH,hAH,SLH⟩:=qku hs Hu Hj;have HL:=zH hAH;obtain⟨i',hi'⟩:∃ k,i+(if th=true then 1 else 0)=k:=⟨_,rfl⟩;have hi'q:i'≤q:=by
  rw[←hi'];cases th with
  | true=>have:=Hk rfl;simp;omega
  | false=>simp;omega
 obtain⟨AT,hAT,SLT⟩:=qkv hs hi'q Hj;have HG:=zH hAT;have HN:=zH hi';have HJ:=zH hRS;clear h hk hv hi hth hs hr hAH hAT hi' hRS hq Hk;obtain⟨i0,hi0,hz0,hz1,Hl⟩:=zaT qcs;obtain⟨j0,hj0,jz0,jz1,jz2⟩:=zaT qdW;go_enter Tryz.func32,Tryz.ntmps32
 go_upto_region 1 with(go_at_call 51;refine HA.o.mono ?_;rintro e w1 ⟨rfl,hb1⟩)
 have c0:=(HR.o.below hb1).c0;rw[HQ.o]at c0;have H1:=cell_lt c0;have Hm:=zH hb1;have Hx:=zH (hb1.alloc hb1.size (.cells #[] 48));have H3:(i:Int)≤(q:Int):=by omega
 have H0:(0:Int)≤(i:Int):=by omega
 clear hb1;go_upto_region 2 with(at_builtin;refine qai rfl (.tmp 15) (.tmp 21) 44 rfl w1.heap.size 48 i0 _ 2 48 Tryz.underlying44 hi0 hz0 hz1 Hl rfl (by decide) _ 0 [] rfl (Own.empty _ _ _ _ w1.heap.size 0 (zac _) (by simp)) AH i c (cs.take (i*2)) rfl (HL.o _ (HS.o.below Hx.o)).src (fun u hu=>Hq.o.one_cell u (zaY hu)) (by unfold maxLen;omega) (by omega) (by first|(simp;done)|(simp;omega)) ?_;intro A2 c2 w2 ho2 hb2)
 simp only[zaO,zaA]at ho2;have Hc:Below w.heap.size w w2:=Hm.o.trans (((zB _ _).trans hb2).mono Hm.o.size);have Ha:=zH Hc;have Hv:=zH ho2;have Hl:=hb2.size;have Hh:=zH (show w1.heap.size≤w2.heap.size by simp at Hl;omega);have HT:=zH (show ∀ o,Src (w2.alloc o) 1 KA n (bv key)from fun o=>by rw[←hn];exact((HK.o.below Hc).below ((zai _ _).alloc (zac _) o)).src);have HW:=zH (show ∀ W o,Below w2.heap.size w2 W→Src (W.alloc o) 1 VA m (bv val)from fun W o hb=>by rw[←hm];exact(((HV.o.below Hc).below hb).below ((zai _ _).alloc (zac _) o)).src);clear ho2 hb2 Hc Hl SLH;go_upto_region 3 with(first
  | (at_builtin;refine qai rfl (.tmp 24) (.tmp 25) 34 rfl w2.heap.size 5 j0 _ 1 1 Tryz.underlying34 hj0 jz0 jz1 jz2 rfl (by decide) _ 0 [] rfl (Own.empty _ _ _ _ w2.heap.size 0 (zac _) (by simp)) KA n kc (bv key) rfl (HT.o _) (qaw _) (by unfold maxLen;omega) (by omega) (by first|(simp;done)|(simp;omega)) ?_;intro A3 c3 w3 ho3 hb3;have HH:=zH ho3;have Hb:=zH (show Below w2.heap.size w2 w3 from(zB _ _).trans hb3);clear ho3 hb3)
  | (at_builtin;refine qai rfl (.tmp 27) (.tmp 28) 34 rfl w3.heap.size 5 j0 _ 1 1 Tryz.underlying34 hj0 jz0 jz1 jz2 rfl (by decide) _ 0 [] rfl (Own.empty _ _ _ _ w3.heap.size 0 (zac _) (by simp)) VA m vc (bv val) rfl (HW.o _ _ Hb.o) (qaw _) (by unfold maxLen;omega) (by omega) (by first|(simp;done)|(simp;omega)) ?_;intro A4 c4 w4 ho4 hb4;have HI:=zH ho4;have Hf:=zH (show Below w3.heap.size w3 w4 from(zB _ _).trans hb4);clear ho4 hb4;have HU:=zH (show ∀ o,Own (w4.alloc o) w1.heap.size 48 2 (.slice A2 i c2) i (cs.take (i*2))from fun o=>Hv.o.touch (F:=fun _=>False) (Touch.of_below (Hb.o.trans ((Hf.o.trans (((zai _ _).alloc (zac _) o).mono Hf.o.size)).mono Hb.o.size))) (fun _ _ h=>h.elim));have HD:=zH (show w1.heap.size≤w4.heap.size from zah Hh.o (zah Hb.o.size Hf.o.size)))
  | (at_builtin;refine qbl rfl (.tmp 23) (.tmp 31) 44 rfl w1.heap.size 48 i0 _ 2 48 Tryz.underlying44 hi0 hz0 hz1 Hl rfl (by decide) _ i (cs.take (i*2)) rfl (HU.o _) (some ⟨w4.heap.size,0,none⟩) 1 1 [.slice A3 n c3,.slice A4 m c4] rfl (qaE (zaf w4 _) rfl) (by simp[Value.oneCell']) (by unfold maxLen;omega) (by omega) (by have:=HD.o;simp;omega) ?_;intro A6 c6 w6 ho6 hu6;have Hp:=zH ho6;have Hz:=zH hu6;clear ho6 hu6))
 have HF:R<w.heap.size:=(zab.1 HR.o.box).1;have Hi:Below w1.heap.size (w4.alloc (.cells #[.slice A3 n c3,.slice A4 m c4] 48)) w6:=qb2 Hz.o (fun b e=>(Hv.o.blk b e).1) (by have:=HD.o;simp;omega);have Hg:=zH (show Below w.heap.size w w6 from Ha.o.trans ((Hb.o.mono Ha.o.size).trans ((Hf.o.mono (zah Ha.o.size Hb.o.size)).trans (((zB _ _).mono (zah Ha.o.size (zah Hb.o.size Hf.o.size))).trans (Hi.mono Hm.o.size)))));have HE:=zH (show w1.heap.size≤w6.heap.size by have h1:=Hi.size;have h2:=HD.o;simp at h1;omega);have Hw:=zH ((Hg.o.block R HF).trans HR.o.box);have Hn:=zH (show ∀ w7 v',Upd w6 w7 (.slice A6 (i+1) c6) v'→w7.heap[R]?=w6.heap[R]? from fun w7 v' hu=>(qb2 hu (N:=w1.heap.size) (fun b e=>(Hp.o.blk b e).1) HE.o).block R (by have:=Hm.o.size;omega));have HX:w6.cell? ⟨R,0,none⟩=some (.slice A q c):=by rw[zan _ _ _ _ _ _ Hw.o,HQ.o];rfl
 have H4:=cell_lt HX;have Ho:=HN.o;rw[HQ.o]at Hw;clear c0 H1 Hi;go_upto_if 33 with fail
 cases th with
 | true=>
  have Ht:i+1=i':=by simpa using Ho
  have h1:(i:Int)+1=(i':Int):=by clear Ho;omega
  have HM:=zH h1;have HO:=zH Ht;clear Ht Ho h1;go_upto_region 5 with fail
  rw[HM.o];have H2:(i':Int)≤(q:Int):=by omega
  go_wp2_with (at_builtin;refine qbl rfl (.tmp 37) (.tmp 43) 44 rfl w1.heap.size 48 i0 _ 2 48 Tryz.underlying44 hi0 hz0 hz1 Hl rfl (by decide) (.slice A6 (i+1) c6) (i+1) (cs.take (i*2)++[.slice A3 n c3,.slice A4 m c4]) rfl Hp.o AT (q-i') (c-i') (cs.drop (i' * 2)) rfl (HG.o _ (HS.o.below Hg.o)).src (fun u hu=>Hq.o.one_cell u (zaU hu)) (by unfold maxLen;omega) (by omega) (by have:=HE.o;omega) ?_;intro A7 c7 w7 ho7 hu7;have Hy:=zH ho7;have HB:=zH hu7;have He:=(Hn.o w7 _ hu7).trans Hw.o;have HY:w7.cell? ⟨R,0,none⟩=some (.slice A q c):=(zC He);have HZ:w7.frozen? ⟨R,0,none⟩=false:=(by exact zaQ _ _ _ _ _ He);have HC:=zH He;clear ho7 hu7 He)
  have Hr:Touch (fun b=>b=R) w7 (w7.setCell ⟨R,0,none⟩ (.slice A7 (i+1+(q-i')) c7)):=Touch.setCell (F:=fun b=>b=R) (Touch.refl _ _) (p:=⟨R,0,none⟩) rfl _;have Hs:(w7.setCell ⟨R,0,none⟩ (.slice A7 (i+1+(q-i')) c7)).heap[R]?=some (.cells #[.slice A7 (i+1+(q-i')) c7] 46 (0,0)):=qab HC.o _;generalize w7.setCell ⟨R,0,none⟩ (.slice A7 (i+1+(q-i')) c7)=w8 at Hr Hs⊢
  go_end0
  exact qi0 HR.o HJ.o HQ.o HS.o Hq.o HK.o HV.o hn hm (by rw[HP.o,←HO.o];simp) HF Hm.o Hh.o Ha.o Hv.o HH.o Hb.o HI.o Hf.o Hp.o Hz.o Hy.o HB.o Hr Hs (by omega) Hu
 | false=>
  obtain rfl:i=i':=by simpa using Ho
  clear Ho;go_wp2_with (at_builtin;refine qbl rfl (.tmp 37) (.tmp 43) 44 rfl w1.heap.size 48 i0 _ 2 48 Tryz.underlying44 hi0 hz0 hz1 Hl rfl (by decide) (.slice A6 (i+1) c6) (i+1) (cs.take (i*2)++[.slice A3 n c3,.slice A4 m c4]) rfl Hp.o AT (q-i) (c-i) (cs.drop (i*2)) rfl (HG.o _ (HS.o.below Hg.o)).src (fun u hu=>Hq.o.one_cell u (zaU hu)) (by unfold maxLen;omega) (by omega) (by have:=HE.o;omega) ?_;intro A7 c7 w7 ho7 hu7;have Hy:=zH ho7;have HB:=zH hu7;have He:=(Hn.o w7 _ hu7).trans Hw.o;have HY:w7.cell? ⟨R,0,none⟩=some (.slice A q c):=(zC He);have HZ:w7.frozen? ⟨R,0,none⟩=false:=(by exact zaQ _ _ _ _ _ He);have HC:=zH He;clear ho7 hu7 He)
  have Hr:Touch (fun b=>b=R) w7 (w7.setCell ⟨R,0,none⟩ (.slice A7 (i+1+(q-i)) c7)):=Touch.setCell (F:=fun b=>b=R) (Touch.refl _ _) (p:=⟨R,0,none⟩) rfl _;have Hs:(w7.setCell ⟨R,0,none⟩ (.slice A7 (i+1+(q-i)) c7)).heap[R]?=some (.cells #[.slice A7 (i+1+(q-i)) c7] 46 (0,0)):=qab HC.o _;generalize w7.setCell ⟨R,0,none⟩ (.slice A7 (i+1+(q-i)) c7)=w8 at Hr Hs⊢
  go_end0
  exact qi0 HR.o HJ.o HQ.o HS.o Hq.o HK.o HV.o hn hm (by rw[HP.o];simp) HF Hm.o Hh.o Ha.o Hv.o HH.o Hb.o HI.o Hf.o Hp.o Hz.o Hy.o HB.o Hr Hs (by omega) Hu
end Go.Proofs.YtpmebcgmgfcmiaaGreatDoor
