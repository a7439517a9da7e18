/- Texts PgPut PgE PgF PgG. -/
import Derived.Test.YtpmebcgmgfcmiaaGreatDoorQ04
import Derived.Test.YtpmebcgmgfcmiaaGreatDoorQ10
set_option linter.all false
set_option maxRecDepth 100000
set_option maxHeartbeats 16000000
namespace Go.Proofs.YtpmebcgmgfcmiaaGreatDoor
open Go.RowKit BT
variable {w:World}{A:Option Addr}{n k m G d:Nat}{l:Bs}{a:PA}{F:Nat→Prop}{p:Pl}{g:Pg}
theorem qie (A:Option Addr)(c:Nat)(l:Bs)(m r n k:Nat)(w:World)(h:By w A l)(hm:l.length=m)(hr:m+k=r)(hl:m≤1000000)(hn:n<18446744073709551616)(h1:1≤k)(h8:k≤8) :
  Calls Tryz.prog 70 #[.slice A m c,.int .u64 n,.int .i64 k] w fun e w'=>∃ A' cap,e=.returned (.slice A' r cap)∧Own w' w.heap.size 5 1 (.slice A' r cap) r (bv (l++numB n k))∧Below w.heap.size w w':=by
 subst hm;subst hr;exact qif A c l n k w h hl hn h1 h8
theorem qiP (A:Option Addr)(c:Nat)(l:Bs)(m r n:Nat)(w:World)(h:By w A l)(hm:l.length=m)(hr:m+2=r)(hl:m≤1000000)(hn:n<18446744073709551616) :
  Calls Tryz.prog 70 #[.slice A m c,.int .u64 n,.int .i64 2] w fun e w'=>∃ A' cap,e=.returned (.slice A' r cap)∧Own w' w.heap.size 5 1 (.slice A' r cap) r (bv (l++numB n 2))∧Below w.heap.size w w':=
 qie A c l m r n 2 w h hm hr hl hn (by omega) (by omega)
theorem qiQ (A:Option Addr)(c:Nat)(l:Bs)(m r n:Nat)(w:World)(h:By w A l)(hm:l.length=m)(hr:m+4=r)(hl:m≤1000000)(hn:n<18446744073709551616) :
  Calls Tryz.prog 70 #[.slice A m c,.int .u64 n,.int .i64 4] w fun e w'=>∃ A' cap,e=.returned (.slice A' r cap)∧Own w' w.heap.size 5 1 (.slice A' r cap) r (bv (l++numB n 4))∧Below w.heap.size w w':=
 qie A c l m r n 4 w h hm hr hl hn (by omega) (by omega)
theorem qlo (A:Option Addr)(c:Nat)(l:Bs)(m r n:Nat)(w:World)(h:By w A l)(hm:l.length=m)(hr:m+8=r)(hl:m≤1000000)(hn:n<18446744073709551616) :
  Calls Tryz.prog 70 #[.slice A m c,.int .u64 n,.int .i64 8] w fun e w'=>∃ A' cap,e=.returned (.slice A' r cap)∧Own w' w.heap.size 5 1 (.slice A' r cap) r (bv (l++numB n 8))∧Below w.heap.size w w':=
 qie A c l m r n 8 w h hm hr hl hn (by omega) (by omega)
theorem Own.byN {base:Nat}{e:TypeId}{cap:Nat}(h:Own w base e 1 (.slice A n cap) n (bv l))(hn:l.length=n):By w A l:=By.of_own h.row hn
theorem qhr:(madeCells (Value.int .u8 0).cells (64*1)).toList=bv (zeros 64):=by kernel_rfl
theorem qdX (h:k=Nat.min m 64):0+k≤(madeCells (Value.int .u8 0).cells (64*1)).toList.length:=by
 have e:(madeCells (Value.int .u8 0).cells (64*1)).toList.length=64:=by kernel_rfl
 rw[e,h,zaO];exact Nat.min_le_right _ _
theorem qeu (n k:Nat):(bv (zeros n)).drop k=bv (zeros (n-k)):=by
 unfold bv zeros;rw[←zb6,List.drop_replicate]
theorem PgM.put_none (h:PgM w a G d F p g){c:Nat}(hn:n≤500)(hf:qaC g.pages g.use g.was=none) :
  Calls Tryz.prog 102 #[.pointer (some ⟨G,0,none⟩),.slice A n c] w fun e w'=>e=.returned (.tuple #[.int .i64 0,.int .i64 3])∧w=w':=by
 have HC:=zH (fun(i:Nat) (hi:i<384)=>qdS h hi);obtain⟨_,_,c2,_⟩:=h.cells;have hp:=h.pages_le.1;have Hb:=zH (show ∀ i,i<g.pages→qbJ g.use g.was i=false from fun i hi=>by
  unfold qaC at hf;rw[List.find?_eq_none]at hf;simpa using hf i (zbb.2 hi))
 obtain⟨q,hq⟩:∃ q,g.pages=q:=⟨_,rfl⟩;rw[hq]at c2 hp Hb;have t0:decide (500<n)=false:=zal (by omega);clear h hf hq;go_enter Tryz.func102,Tryz.ntmps102
 go_wp2;go_loopw [6] (fun i wr=>∃ j:Nat,i=.int .i64 j∧j≤q∧w=wr) (fun i _=>q-(intOf i).toNat)
 case atStart=>exact⟨0,rfl,by omega,rfl⟩
 case round=>
  obtain⟨j,rfl,hj,rfl⟩:=hrel;by_cases hlt:j<q
  ·have Ha:=HC.o j (by omega);rw[Hb.o j hlt]at Ha;have Ha:=zH Ha;have t1:decide (j<q)=true:=zas hlt;go_wp2_with (go_at_call 52;refine Ha.o.mono ?_;rintro e w' ⟨rfl,rfl⟩)
   exact⟨⟨j+1,by go_num,by omega,trivial⟩,by simp[intOf];omega⟩
  ·obtain rfl:j=q:=by omega
   have t1:decide (j<j)=false:=zal (by omega);go_wp2
   go_ret2
   exact⟨rfl,rfl⟩
def PutF (a:PA)(G d:Nat)(F:Nat→Prop)(p:Pl)(g:Pg)(n:Nat)(b:Bs)(w:World)(e:Ending)(w':World):Prop:=
 ∃ F',Ext (GF F G) (GF F' G) w w'∧(((qax p (qaj d n b)).1=true∧e=.returned (.tuple #[.int .i64 (n:Nat),.int .i64 0])∧PgM w' a G d F' (qax p (qaj d n b)).2 { g with use:=setB g.use n true })∨
  ((qax p (qaj d n b)).1=false∧e=.returned (.tuple #[.int .i64 0,.int .i64 2])∧PgM w' a G d F' (qax p (qaj d n b)).2 g))
theorem PgM.put_call (h:PgM w a G d F p g){c:Nat}(hb:By w A l)(hn:l.length=n)(hn5:n≤500)(hA:∀ ad,A=some ad→¬GF F G ad.block)(hoff:p.off=false)(hw:p.waits.length+8≤1099511627776)
 (hf:qaC g.pages g.use g.was=some k) :
  Calls Tryz.prog 102 #[.pointer (some ⟨G,0,none⟩),.slice A n c] w (PutF a G d F p g k l w):=by
 have HC:=zH (fun(i:Nat) (hi:i<384)=>qdS h hi);obtain⟨g0,g1,c2,_⟩:=h.cells;have hp:=h.pages_le.1;obtain⟨hkp,hku,hkw⟩:=qaT hf;have H7:=zH (show ∀ i,i<k→qbJ g.use g.was i=false from fun i hi=>by
  unfold qaC at hf;rw[List.find?_range_eq_some]at hf;simpa using hf.2.2 i hi)
 have HS:=zH (show qbJ g.use g.was k=true by unfold qbJ;rw[hku,hkw];rfl);have HO:=zH h;have H0:=zH hb;have HN:=zH hn;have HA:=zH hA;obtain⟨m,hm,hpm,_⟩:=h.ok.m;have HM:=zH hm;have hQ:=h.pl.ok.most m (zak hm);obtain⟨q,hq⟩:∃ q,g.pages=q:=⟨_,rfl⟩;rw[hq]at c2 hp hkp hpm;have HQ:=zH hq;have hR:2+q*8≤m:=by omega
 clear hpm;have t0:decide (500<n)=false:=zal (by omega);have hJ:=zH h.lt;have hO:=h.lt;have Ho:k<384:=by omega
 clear h hf hq hku hkw hb hn hA hm;obtain⟨i0,hi0,hz0,hz1,hz2⟩:=zaT qdW;go_enter Tryz.func102,Tryz.ntmps102
 go_wp2;go_loopw [6] (fun i wr=>∃ j:Nat,i=.int .i64 j∧j≤k∧w=wr) (fun i _=>q-(intOf i).toNat)
 case atStart=>exact⟨0,rfl,by omega,rfl⟩
 case round=>
  obtain⟨j,rfl,hj,rfl⟩:=hrel;have t1:decide (j<q)=true:=zas (by omega);by_cases hlt:j<k
  ·have Hl:=HC.o j (by omega);rw[H7.o j hlt]at Hl;have Hl:=zH Hl;go_wp2_with (go_at_call 52;refine Hl.o.mono ?_;rintro e w' ⟨rfl,rfl⟩)
   exact⟨⟨j+1,by go_num,by omega,trivial⟩,by simp[intOf];omega⟩
  ·obtain rfl:j=k:=by omega
   have Hl:=HC.o j (by omega);rw[HS.o]at Hl;have Hl:=zH Hl;have t2:((j:Int)==(q:Int))=false:=by rw[zaI];omega
   have H5:=zH (fun(W:World)=>qiP none 0 [] 0 2 n W (By.nil _ _) rfl rfl (by omega) (by omega));obtain⟨cr,hcr⟩:∃ cr,crcN l=cr:=⟨_,rfl⟩;have H3:cr<4294967296:=by rw[←hcr];exact qeI _
   have HP:=zH (fun(W:World) (hb:Below w.heap.size w W)=>(by have:=sumN A c n l W (H0.o.below hb) HN.o (HO.o.nib.below hb) (by omega);rw[hcr]at this;exact this:Calls Tryz.prog 67 #[.slice A n c] W fun e w'=>e=.returned (.int .u32 (cr:Nat))∧W=w'));have H4:=zH hcr;have hz:n<18446744073709551616:=by omega
   clear hcr;go_upto_region 10 with(first
    | (go_at_call 52;((with_reducible refine Hl.o.mono ?_);rintro e w' ⟨rfl,rfl⟩))
    | (go_at_call 67;((with_reducible refine(HP.o _ HD.o).mono ?_);rintro e w2 ⟨rfl,rfl⟩))
    | (go_at_call 70;((with_reducible refine(H5.o _).mono ?_);rintro e w1 ⟨A1,k1,rfl,ho1,hb1⟩;have HD:=zH hb1;have H6:=zH (qiQ A1 k1 _ 2 6 cr w1 (ho1.byN rfl) rfl rfl (by omega) (by omega));clear ho1 hb1))
    | (go_at_call 70;((with_reducible refine H6.o.mono ?_);rintro e w3 ⟨A2,k2,rfl,ho2,Hf⟩;have H8:=zH ho2;have HK:=zH (HD.o.trans (Hf.mono HD.o.size));clear ho2 Hf))
    | (at_builtin;refine qai rfl (.tmp 43) (.tmp 44) 34 rfl w.heap.size 5 i0 _ 1 1 Tryz.underlying34 hi0 hz0 hz1 hz2 rfl (by decide) (.slice A2 6 k2) 6 _ rfl (H8.o.base HD.o.size) A n c (bv l) rfl (by have:=(H0.o.below HK.o).src;rwa [HN.o]at this) (qaw _) (by unfold maxLen;omega) (by omega) HK.o.size ?_;intro A7 c7 w7 hrow7 hgrow7))
   have Hi:Own w7 w.heap.size 5 1 (.slice A7 (6+n) c7) (6+n) (bv (qaH l)):=by
    have e:bv (qaH l)=bv (([]++numB n 2)++numB cr 4)++bv l:=by
     unfold qaH;rw[qa7,HN.o,H4.o];rfl
    rw[e];exact hrow7
   have HT:(qaH l).length=6+n:=by rw[qe7,HN.o]
   have Hy:∃ g7,A7=some ⟨g7,0,none⟩∧6+n≤c7∧w.heap.size≤g7∧g7<w7.heap.size:=by
    rcases Hi.row with ho|⟨_,_,h0,_⟩
    ·rcases ho.2 with⟨_,h0⟩|⟨gA,cap',cs,e,_,_,h1,_⟩
     ·omega
     ·cases e;have:=Hi.blk gA rfl;exact⟨gA,rfl,h1,this.1,this.2⟩
    ·omega
   obtain⟨g7,rfl,hc7,hg7,hg7l⟩:=Hy;have HJ:=zH (Hi.byN HT);have Hw:=zH (HK.o.trans hgrow7);have ht:c7≤9223372036854775807:=by
    rcases Hi.row with ho|⟨_,_,h0,_⟩
    ·rcases ho.2 with⟨_,h0⟩|⟨gA,cap',cs,e,_,_,_,h2,_⟩
     ·omega
     ·cases e;unfold maxLen at h2;omega
    ·omega
   have Hv:=zH HT;clear Hi HT hrow7 hgrow7;obtain⟨N,hN⟩:∃ N,6+n=N:=⟨_,rfl⟩;rw[hN]at Hv hc7⊢;have hL:=zH hN;have hP:6≤N∧N≤506:=by omega
   clear hN;have H9:=zH (HO.o.below Hw.o);have hM:=Hw.o.size;have hl:=zH (HO.o.pl.hF);have hg:=zH hw;have HL:=zH hoff;have e1:IntKind.i64.wrap ((j:Int)*8)=((j*8:Nat):Int):=by rw[zaJ _ (by omega)];omega
   have e2:IntKind.i64.wrap (2+((j*8:Nat):Int))=((2+j*8:Nat):Int):=by rw[zaJ _ (by omega)];omega
   obtain⟨q1,hq1⟩:∃ q,j*8=q:=⟨_,rfl⟩;obtain⟨q2,hq2⟩:∃ q,2+q1=q:=⟨_,rfl⟩;rw[hq1]at e1 e2;rw[hq2]at e2;have ha:=zH (show 2+j*8=q2 by rw[hq1,hq2]);have hC:q2+8≤m:=by omega
   have HE:=zH e1;have HF:=zH e2;clear hq1 hq2 e1 e2 hw hoff;go_upto_region 10 with fail
   go_wp2;go_loopw [8,9,10,11,46] (fun _ _ _ _ i wr=>∃ (r:Nat) (F1:Nat→Prop),i=.int .i64 r∧r≤8∧(qax p ((qaj d j l).take r)).1=true∧PgM wr a G d F1 (qax p ((qaj d j l).take r)).2 g∧Ext (GF F G) (GF F1 G) w7 wr) (fun _ _ _ _ i _=>8-(intOf i).toNat)
   case atStart=>exact⟨0,F,rfl,by omega,rfl,H9.o,Ext.refl _ _⟩
   case round=>
    rename World=>wr;obtain⟨r,F1,rfl,hr,hok,hpm,hext⟩:=hrel;have Hg:=zH hpm;have Hu:=zH hext;have H1:=zH hok;have hE:=hext.touch.size;obtain⟨z0,z1,_⟩:=hpm.cells;have Hn:=hpm.lt;have HU:=qbW ((qaj d j l).take r) p;rw[hok]at HU;have HH:=zH HU;clear hpm hext hok HU;by_cases hlt:r<8
    ·have r1:(r:Int)<8:=by omega
     have r0:(0:Int)≤(r:Int):=by omega
     have HZ:=zH (HJ.o.touch Hu.o.touch (fun ad e=>by
      cases e;rintro(e|e)
      ·have:g7<w.heap.size:=hl.o _ e;omega
      ·simp only at e;omega))
     obtain⟨xw,hxw⟩:∃ xw:Wt,⟨d,2+j*8+r,qaU l r⟩=xw:=⟨_,rfl⟩;have Hm:=zH (show qax p ((qaj d j l).take (r+1))=(qax p ((qaj d j l).take r)).2.give xw by
      rw[qhu _ _ _ _ hlt,qfP,zaw H1.o,hxw])
     obtain⟨pr,hpr⟩:∃ pr,(qax p ((qaj d j l).take r)).2=pr:=⟨_,rfl⟩;rw[hpr]at Hg HH Hm;have hh:=zH hxw;clear hxw hpr;have hD:pr.waits.length≤1099511627776:=by
      obtain⟨kk,k1,k2,_⟩:=HH.o.waits;have k3:((List.take r (qaj d j l)).take kk).length≤8:=by rw[zbY,zag];exact zah (Nat.min_le_left _ _) (zah (Nat.min_le_right _ _) (by omega))
      rw[k2,zad];have:=hg.o;omega
     have HB:pr.off=false:=(HH.o.on rfl).trans HL.o;have HW:pr.most[d]?=some m:=by rw[HH.o.most];exact HM.o
     have e3:IntKind.i64.wrap ((q2:Int)+(r:Int))=((q2+r:Nat):Int):=by rw[zaJ _ (by omega)];omega
     have e5:IntKind.i64.wrap ((r:Int)*64)=((r*64:Nat):Int):=by rw[zaJ _ (by omega)];omega
     obtain⟨q3,hq3⟩:∃ q,q2+r=q:=⟨_,rfl⟩;rw[hq3]at e3;have H2:=zH (show 2+j*8+r=q3 by rw[ha.o,hq3]);have HG:=zH e3;have HX:q3<m:=by omega
     clear hq3 e3;have HI:=zH (fun(W:World) (hb:Below wr.heap.size wr W) (hs:W.heap[wr.heap.size]?=some (.cells (bv (qaU l r)).toArray 5 (0,0)))=>
      (by
       have hB:=(Hg.o.below hb).pl;have:=qgi hB HW HX (A:=some ⟨wr.heap.size,0,none⟩) (c:=64) (l:=qaU l r) (By.of_block hs rfl) (qii l r) (fun ad e hf=>by cases e;exact zb9 _ (Hg.o.pl.hF _ hf)) hD HB;rw[←H2.o,hh.o,H2.o]at this;exact this:Calls Tryz.prog 69 #[.pointer (some ⟨a.P,0,none⟩),.int .i64 d,.int .i64 q3,.slice (some ⟨wr.heap.size,0,none⟩) 64 64] W _))
     cases hgt:(pr.give xw).1 with
     | true=>
      have Hq:=zH hgt;have Hx:=zH (show qet pr xw=0 by unfold qet;rw[hgt];rfl);clear hgt;by_cases hmany:r*64<N
      ·obtain⟨A',hA',hsl⟩:=qgd (P:=Tryz.prog) Tryz.underlying34 hi0 hz1 g7 0 N c7 (r*64) (by omega) hc7;have Hp:=zH (show(bv (((qaH l).drop (r*64)).take 64)).length=Nat.min (N-r*64) 64 by rw[bv_len,zag,zap,Hv.o,Nat.min_comm]);obtain rfl:=hA' (by omega);rw[zaO]at hsl;have Hs:=zH (show ∀ W,Below wr.heap.size wr W→∃ ad,(some ⟨g7,r*64,none⟩:Option Addr)=some ad∧∀ i v,(bv (((qaH l).drop (r*64)).take 64))[i]?=some v→W.cell? (ad.add i)=some v from fun W hW=>by
        refine⟨⟨g7,r*64,none⟩,rfl,fun i v hv=>?_⟩;have:=HZ.o.dropCells (r*64) hW i v;try simp only[zaO]at this
        refine this ?_;unfold bv at hv⊢;rw[zb7,zaV]at hv;split at hv
        ·exact hv
        ·cases hv)
       have q0:(0:Int)≤((r*64:Nat):Int):=by omega
       have hH:((r*64:Nat):Int)≤(N:Int):=by omega
       have hI:((r*64:Nat):Int)≤(c7:Int):=by omega
       have t3:decide (r*64<N)=true:=zas hmany;have HY:decide ((r:Int)*64<(N:Int))=true:=zas (by omega);go_upto_region 17 with(first
        | ((with_reducible show wpList _ _ _ (⟨some 49,_,_,_,_,_⟩::_) _ _);(refine zcd _ rfl (.const (.int .i64 64)) (.const (.int .i64 64)) 34 rfl wr.heap.size 5 i0 _ 1 Tryz.underlying34 hi0 hz0 hz1 .i64 .i64 _ _ 64 rfl rfl (by omega) (by omega) (by rw[hz2];omega) (by unfold maxLen;omega) (zac _) ?_;intro w2 hown2 hg2;have Hf:Below wr.heap.size wr w2:=zct (zai _ _) hg2 (zac _) (fun b e=>by cases e)))
        | ((with_reducible show wpList _ _ _ (⟨some 60,_,_,_,_,_⟩::_) _ _);(refine wpList_copy_splice rfl (.tmp 56) (.tmp 59) 34 34 rfl 5 Tryz.underlying34 (by kernel_rfl) (some ⟨wr.heap.size,0,none⟩) (some ⟨g7,r*64,none⟩) 64 64 (N-r*64) (c7-r*64) rfl rfl wr.heap.size 0 _ 5 (qct hown2) (bv (((qaH l).drop (r*64)).take 64)) Hp.o (fun h0=>⟨rfl,Hs.o w2 Hf⟩) (qdX Hp.o) (qaw _) wr.heap.size wr Hf (zac _) ?_;intro w5 hg5 hb5)))
       have Hb:=zH hb5;have Hr:=zH (show w5.drew.heap[wr.heap.size]?=some (.cells (bv (qaU l r)).toArray 5 (0,0))by
        have:=hg5.out;show w5.heap[_]?=_;rw[this];have hu:=Hp.o;unfold qaU;rw[qa7];rw[qhr];have HV:(bv (((qaH l).drop (r*64)).take 64)).length=(((qaH l).drop (r*64)).take 64).length:=bv_len _;simp only[splice,zb8,zaA,zaO,qeu,HV];rw[show 64-(((qaH l).drop (r*64)).take 64).length=64-((qaH l).drop (r*64)).length by rw[zag];omega])
       clear hg5 hb5;have He:=zH (HI.o w5.drew (Hb.o.drew) Hr.o);have Hc:(w5.drew).cell? ⟨G,0,none⟩=some (.pointer (some ⟨a.P,0,none⟩))∧(w5.drew).cell? ⟨G,1,none⟩=some (.int .i64 (d:Int)):=⟨(Hb.o.cell (p:=⟨G,0,none⟩) Hn).trans z0,(Hb.o.cell (p:=⟨G,1,none⟩) Hn).trans z1⟩;refine wp_region_held_drew (S:=fun W=>W.cell? ⟨G,0,none⟩=some (.pointer (some ⟨a.P,0,none⟩))∧W.cell? ⟨G,1,none⟩=some (.int .i64 (d:Int))) (by kernel_rfl) Hc (fun hHeld=>?_);refine zU 0 61 (.pointer (some ⟨G,0,none⟩)) ?_;try simp only[zS]
       refine zU 1 62 (.pointer (some ⟨G,0,none⟩)) ?_;try simp only[zS]
       refine zU 2 63 (.pointer (some ⟨G,0,none⟩)) ?_;try simp only[zS]
       refine zT 3 64 (.pointer (some ⟨a.P,0,none⟩)) rfl (Or.inl ⟨by rfl,fun W hS=>by obtain⟨hS1,hS2⟩:=hS;go_simp⟩) ?_;try simp only[zS]
       refine zU 4 65 (.pointer (some ⟨G,0,none⟩)) ?_;try simp only[zS]
       refine zU 5 66 (.pointer (some ⟨G,0,none⟩)) ?_;try simp only[zS]
       refine zU 6 67 (.pointer (some ⟨G,1,none⟩)) ?_;try simp only[zS]
       refine zT 7 68 (.int .i64 (d:Int)) rfl (Or.inl ⟨by rfl,fun W hS=>by obtain⟨hS1,hS2⟩:=hS;go_simp⟩) ?_;try simp only[zS]
       refine zU 8 69 (.int .i64 (j:Int)) ?_;try simp only[zS]
       refine zT 9 70 (.int .i64 (q1:Int)) rfl (Or.inl ⟨by rfl,fun W hS=>by have e1:=HE.o;go_simp⟩) ?_;try simp only[zS]
       refine zT 10 71 (.int .i64 (q2:Int)) rfl (Or.inl ⟨by rfl,fun W hS=>by have e2:=HF.o;go_simp⟩) ?_;try simp only[zS]
       refine zU 11 72 (.int .i64 (r:Int)) ?_;try simp only[zS]
       refine zT 12 73 (.int .i64 (q3:Int)) rfl (Or.inl ⟨by rfl,fun W hS=>by have e3:=HG.o;go_simp⟩) ?_;try simp only[zS]
       refine zU 13 74 (.slice (some ⟨wr.heap.size,0,none⟩) 64 64) ?_;try simp only[zS]
       refine wpAnyH_ready (rs:=[14]) (by kernel_rfl) (by simp) ?_;refine AllReadyH.cons rfl (fun K hK=>?_) AllReadyH.nil;go_simp;go_at_call 69
       refine He.o.mono ?_;rintro e wn ⟨rfl,F2,hq2p,hext2⟩;have Ha:=(Hg.o.below Hb.o.drew).ext hq2p hext2 (qbv pr xw).most;have Hh:=zH Ha;have Hj:=Ha.1.cells;rw[Hx.o];clear hq2p hext2 Ha;refine hK.out _ _ ⟨Hj.1,Hj.2.1⟩ (fun hHeld2=>?_);clear hK K;try simp only[zS]
       refine zU 15 11 (.int .i64 0) ?_;try simp only[zS]
       refine wpAnyH_done (by kernel_rfl) ?_ _;clear hHeld hHeld2 Hc;go_wp2;refine⟨⟨r+1,F2,by go_num,by omega,?_,?_,?_⟩,by simp[intOf];omega⟩
       ·rw[Hm.o];exact Hq.o
       ·rw[Hm.o];exact Hh.o.1
       ·exact(Hu.o.trans (Ext.of (Touch.of_below Hb.o.drew))).trans Hh.o.2
      ·have t3:decide (r*64<N)=false:=zal hmany;have HY:decide ((r:Int)*64<(N:Int))=false:=zal (by omega);go_upto_region 17 with((with_reducible show wpList _ _ _ (⟨some 49,_,_,_,_,_⟩::_) _ _);(refine zcd _ rfl (.const (.int .i64 64)) (.const (.int .i64 64)) 34 rfl wr.heap.size 5 i0 _ 1 Tryz.underlying34 hi0 hz0 hz1 .i64 .i64 _ _ 64 rfl rfl (by omega) (by omega) (by rw[hz2];omega) (by unfold maxLen;omega) (zac _) ?_;intro w2 hown2 hg2;have Hf:Below wr.heap.size wr w2:=zct (zai _ _) hg2 (zac _) (fun b e=>by cases e)))
       have Hb:=zH Hf;have Hr:=zH (show w2.drew.heap[wr.heap.size]?=some (.cells (bv (qaU l r)).toArray 5 (0,0))by
        have:=qct hown2;show w2.heap[_]?=_;rw[this];unfold qaU;rw[zbi (by rw[Hv.o];omega),qhr];rfl)
       clear hown2 hg2 Hf;have He:=zH (HI.o w2.drew (Hb.o.drew) Hr.o);have Hc:(w2.drew).cell? ⟨G,0,none⟩=some (.pointer (some ⟨a.P,0,none⟩))∧(w2.drew).cell? ⟨G,1,none⟩=some (.int .i64 (d:Int)):=⟨(Hb.o.cell (p:=⟨G,0,none⟩) Hn).trans z0,(Hb.o.cell (p:=⟨G,1,none⟩) Hn).trans z1⟩;refine wp_region_held_drew (S:=fun W=>W.cell? ⟨G,0,none⟩=some (.pointer (some ⟨a.P,0,none⟩))∧W.cell? ⟨G,1,none⟩=some (.int .i64 (d:Int))) (by kernel_rfl) Hc (fun hHeld=>?_);refine zU 0 61 (.pointer (some ⟨G,0,none⟩)) ?_;try simp only[zS]
       refine zU 1 62 (.pointer (some ⟨G,0,none⟩)) ?_;try simp only[zS]
       refine zU 2 63 (.pointer (some ⟨G,0,none⟩)) ?_;try simp only[zS]
       refine zT 3 64 (.pointer (some ⟨a.P,0,none⟩)) rfl (Or.inl ⟨by rfl,fun W hS=>by obtain⟨hS1,hS2⟩:=hS;go_simp⟩) ?_;try simp only[zS]
       refine zU 4 65 (.pointer (some ⟨G,0,none⟩)) ?_;try simp only[zS]
       refine zU 5 66 (.pointer (some ⟨G,0,none⟩)) ?_;try simp only[zS]
       refine zU 6 67 (.pointer (some ⟨G,1,none⟩)) ?_;try simp only[zS]
       refine zT 7 68 (.int .i64 (d:Int)) rfl (Or.inl ⟨by rfl,fun W hS=>by obtain⟨hS1,hS2⟩:=hS;go_simp⟩) ?_;try simp only[zS]
       refine zU 8 69 (.int .i64 (j:Int)) ?_;try simp only[zS]
       refine zT 9 70 (.int .i64 (q1:Int)) rfl (Or.inl ⟨by rfl,fun W hS=>by have e1:=HE.o;go_simp⟩) ?_;try simp only[zS]
       refine zT 10 71 (.int .i64 (q2:Int)) rfl (Or.inl ⟨by rfl,fun W hS=>by have e2:=HF.o;go_simp⟩) ?_;try simp only[zS]
       refine zU 11 72 (.int .i64 (r:Int)) ?_;try simp only[zS]
       refine zT 12 73 (.int .i64 (q3:Int)) rfl (Or.inl ⟨by rfl,fun W hS=>by have e3:=HG.o;go_simp⟩) ?_;try simp only[zS]
       refine zU 13 74 (.slice (some ⟨wr.heap.size,0,none⟩) 64 64) ?_;try simp only[zS]
       refine wpAnyH_ready (rs:=[14]) (by kernel_rfl) (by simp) ?_;refine AllReadyH.cons rfl (fun K hK=>?_) AllReadyH.nil;go_simp;go_at_call 69
       refine He.o.mono ?_;rintro e wn ⟨rfl,F2,hq2p,hext2⟩;have Ha:=(Hg.o.below Hb.o.drew).ext hq2p hext2 (qbv pr xw).most;have Hh:=zH Ha;have Hj:=Ha.1.cells;rw[Hx.o];clear hq2p hext2 Ha;refine hK.out _ _ ⟨Hj.1,Hj.2.1⟩ (fun hHeld2=>?_);clear hK K;try simp only[zS]
       refine zU 15 11 (.int .i64 0) ?_;try simp only[zS]
       refine wpAnyH_done (by kernel_rfl) ?_ _;clear hHeld hHeld2 Hc;go_wp2;refine⟨⟨r+1,F2,by go_num,by omega,?_,?_,?_⟩,by simp[intOf];omega⟩
       ·rw[Hm.o];exact Hq.o
       ·rw[Hm.o];exact Hh.o.1
       ·exact(Hu.o.trans (Ext.of (Touch.of_below Hb.o.drew))).trans Hh.o.2
     | false=>
      have Hq:=zH hgt;have Hx:=zH (show qet pr xw=2 by unfold qet;rw[hgt];rfl);clear hgt;by_cases hmany:r*64<N
      ·obtain⟨A',hA',hsl⟩:=qgd (P:=Tryz.prog) Tryz.underlying34 hi0 hz1 g7 0 N c7 (r*64) (by omega) hc7;have Hp:=zH (show(bv (((qaH l).drop (r*64)).take 64)).length=Nat.min (N-r*64) 64 by rw[bv_len,zag,zap,Hv.o,Nat.min_comm]);obtain rfl:=hA' (by omega);rw[zaO]at hsl;have Hs:=zH (show ∀ W,Below wr.heap.size wr W→∃ ad,(some ⟨g7,r*64,none⟩:Option Addr)=some ad∧∀ i v,(bv (((qaH l).drop (r*64)).take 64))[i]?=some v→W.cell? (ad.add i)=some v from fun W hW=>by
        refine⟨⟨g7,r*64,none⟩,rfl,fun i v hv=>?_⟩;have:=HZ.o.dropCells (r*64) hW i v;try simp only[zaO]at this
        refine this ?_;unfold bv at hv⊢;rw[zb7,zaV]at hv;split at hv
        ·exact hv
        ·cases hv)
       have q0:(0:Int)≤((r*64:Nat):Int):=by omega
       have hH:((r*64:Nat):Int)≤(N:Int):=by omega
       have hI:((r*64:Nat):Int)≤(c7:Int):=by omega
       have t3:decide (r*64<N)=true:=zas hmany;have HY:decide ((r:Int)*64<(N:Int))=true:=zas (by omega);go_upto_region 17 with(first
        | ((with_reducible show wpList _ _ _ (⟨some 49,_,_,_,_,_⟩::_) _ _);(refine zcd _ rfl (.const (.int .i64 64)) (.const (.int .i64 64)) 34 rfl wr.heap.size 5 i0 _ 1 Tryz.underlying34 hi0 hz0 hz1 .i64 .i64 _ _ 64 rfl rfl (by omega) (by omega) (by rw[hz2];omega) (by unfold maxLen;omega) (zac _) ?_;intro w2 hown2 hg2;have Hf:Below wr.heap.size wr w2:=zct (zai _ _) hg2 (zac _) (fun b e=>by cases e)))
        | ((with_reducible show wpList _ _ _ (⟨some 60,_,_,_,_,_⟩::_) _ _);(refine wpList_copy_splice rfl (.tmp 56) (.tmp 59) 34 34 rfl 5 Tryz.underlying34 (by kernel_rfl) (some ⟨wr.heap.size,0,none⟩) (some ⟨g7,r*64,none⟩) 64 64 (N-r*64) (c7-r*64) rfl rfl wr.heap.size 0 _ 5 (qct hown2) (bv (((qaH l).drop (r*64)).take 64)) Hp.o (fun h0=>⟨rfl,Hs.o w2 Hf⟩) (qdX Hp.o) (qaw _) wr.heap.size wr Hf (zac _) ?_;intro w5 hg5 hb5)))
       have Hb:=zH hb5;have Hr:=zH (show w5.drew.heap[wr.heap.size]?=some (.cells (bv (qaU l r)).toArray 5 (0,0))by
        have:=hg5.out;show w5.heap[_]?=_;rw[this];have hu:=Hp.o;unfold qaU;rw[qa7];rw[qhr];have HV:(bv (((qaH l).drop (r*64)).take 64)).length=(((qaH l).drop (r*64)).take 64).length:=bv_len _;simp only[splice,zb8,zaA,zaO,qeu,HV];rw[show 64-(((qaH l).drop (r*64)).take 64).length=64-((qaH l).drop (r*64)).length by rw[zag];omega])
       clear hg5 hb5;have He:=zH (HI.o w5.drew (Hb.o.drew) Hr.o);have Hc:(w5.drew).cell? ⟨G,0,none⟩=some (.pointer (some ⟨a.P,0,none⟩))∧(w5.drew).cell? ⟨G,1,none⟩=some (.int .i64 (d:Int)):=⟨(Hb.o.cell (p:=⟨G,0,none⟩) Hn).trans z0,(Hb.o.cell (p:=⟨G,1,none⟩) Hn).trans z1⟩;refine wp_region_held_drew (S:=fun W=>W.cell? ⟨G,0,none⟩=some (.pointer (some ⟨a.P,0,none⟩))∧W.cell? ⟨G,1,none⟩=some (.int .i64 (d:Int))) (by kernel_rfl) Hc (fun hHeld=>?_);refine zU 0 61 (.pointer (some ⟨G,0,none⟩)) ?_;try simp only[zS]
       refine zU 1 62 (.pointer (some ⟨G,0,none⟩)) ?_;try simp only[zS]
       refine zU 2 63 (.pointer (some ⟨G,0,none⟩)) ?_;try simp only[zS]
       refine zT 3 64 (.pointer (some ⟨a.P,0,none⟩)) rfl (Or.inl ⟨by rfl,fun W hS=>by obtain⟨hS1,hS2⟩:=hS;go_simp⟩) ?_;try simp only[zS]
       refine zU 4 65 (.pointer (some ⟨G,0,none⟩)) ?_;try simp only[zS]
       refine zU 5 66 (.pointer (some ⟨G,0,none⟩)) ?_;try simp only[zS]
       refine zU 6 67 (.pointer (some ⟨G,1,none⟩)) ?_;try simp only[zS]
       refine zT 7 68 (.int .i64 (d:Int)) rfl (Or.inl ⟨by rfl,fun W hS=>by obtain⟨hS1,hS2⟩:=hS;go_simp⟩) ?_;try simp only[zS]
       refine zU 8 69 (.int .i64 (j:Int)) ?_;try simp only[zS]
       refine zT 9 70 (.int .i64 (q1:Int)) rfl (Or.inl ⟨by rfl,fun W hS=>by have e1:=HE.o;go_simp⟩) ?_;try simp only[zS]
       refine zT 10 71 (.int .i64 (q2:Int)) rfl (Or.inl ⟨by rfl,fun W hS=>by have e2:=HF.o;go_simp⟩) ?_;try simp only[zS]
       refine zU 11 72 (.int .i64 (r:Int)) ?_;try simp only[zS]
       refine zT 12 73 (.int .i64 (q3:Int)) rfl (Or.inl ⟨by rfl,fun W hS=>by have e3:=HG.o;go_simp⟩) ?_;try simp only[zS]
       refine zU 13 74 (.slice (some ⟨wr.heap.size,0,none⟩) 64 64) ?_;try simp only[zS]
       refine wpAnyH_ready (rs:=[14]) (by kernel_rfl) (by simp) ?_;refine AllReadyH.cons rfl (fun K hK=>?_) AllReadyH.nil;go_simp;go_at_call 69
       refine He.o.mono ?_;rintro e wn ⟨rfl,F2,hq2p,hext2⟩;have Ha:=(Hg.o.below Hb.o.drew).ext hq2p hext2 (qbv pr xw).most;have Hh:=zH Ha;have Hj:=Ha.1.cells;rw[Hx.o];clear hq2p hext2 Ha;refine hK.out _ _ ⟨Hj.1,Hj.2.1⟩ (fun hHeld2=>?_);clear hK K;try simp only[zS]
       refine zU 15 11 (.int .i64 2) ?_;try simp only[zS]
       refine wpAnyH_done (by kernel_rfl) ?_ _;clear hHeld hHeld2 Hc;go_wp2
       go_ret2
       have Hk:qax p (qaj d j l)=(pr.give xw):=by
        have e0:=qdT p (qaj d j l) (r+1) (by rw[Hm.o];exact Hq.o);rw[e0,Hm.o]
       refine⟨F2,?_,.inr ⟨by rw[Hk];exact Hq.o,rfl,by rw[Hk];exact Hh.o.1⟩⟩;exact((Ext.of (Touch.of_below Hw.o)).trans Hu.o).trans ((Ext.of (Touch.of_below Hb.o.drew)).trans Hh.o.2)
      ·have t3:decide (r*64<N)=false:=zal hmany;have HY:decide ((r:Int)*64<(N:Int))=false:=zal (by omega);go_upto_region 17 with((with_reducible show wpList _ _ _ (⟨some 49,_,_,_,_,_⟩::_) _ _);(refine zcd _ rfl (.const (.int .i64 64)) (.const (.int .i64 64)) 34 rfl wr.heap.size 5 i0 _ 1 Tryz.underlying34 hi0 hz0 hz1 .i64 .i64 _ _ 64 rfl rfl (by omega) (by omega) (by rw[hz2];omega) (by unfold maxLen;omega) (zac _) ?_;intro w2 hown2 hg2;have Hf:Below wr.heap.size wr w2:=zct (zai _ _) hg2 (zac _) (fun b e=>by cases e)))
       have Hb:=zH Hf;have Hr:=zH (show w2.drew.heap[wr.heap.size]?=some (.cells (bv (qaU l r)).toArray 5 (0,0))by
        have:=qct hown2;show w2.heap[_]?=_;rw[this];unfold qaU;rw[zbi (by rw[Hv.o];omega),qhr];rfl)
       clear hown2 hg2 Hf;have He:=zH (HI.o w2.drew (Hb.o.drew) Hr.o);have Hc:(w2.drew).cell? ⟨G,0,none⟩=some (.pointer (some ⟨a.P,0,none⟩))∧(w2.drew).cell? ⟨G,1,none⟩=some (.int .i64 (d:Int)):=⟨(Hb.o.cell (p:=⟨G,0,none⟩) Hn).trans z0,(Hb.o.cell (p:=⟨G,1,none⟩) Hn).trans z1⟩;refine wp_region_held_drew (S:=fun W=>W.cell? ⟨G,0,none⟩=some (.pointer (some ⟨a.P,0,none⟩))∧W.cell? ⟨G,1,none⟩=some (.int .i64 (d:Int))) (by kernel_rfl) Hc (fun hHeld=>?_);refine zU 0 61 (.pointer (some ⟨G,0,none⟩)) ?_;try simp only[zS]
       refine zU 1 62 (.pointer (some ⟨G,0,none⟩)) ?_;try simp only[zS]
       refine zU 2 63 (.pointer (some ⟨G,0,none⟩)) ?_;try simp only[zS]
       refine zT 3 64 (.pointer (some ⟨a.P,0,none⟩)) rfl (Or.inl ⟨by rfl,fun W hS=>by obtain⟨hS1,hS2⟩:=hS;go_simp⟩) ?_;try simp only[zS]
       refine zU 4 65 (.pointer (some ⟨G,0,none⟩)) ?_;try simp only[zS]
       refine zU 5 66 (.pointer (some ⟨G,0,none⟩)) ?_;try simp only[zS]
       refine zU 6 67 (.pointer (some ⟨G,1,none⟩)) ?_;try simp only[zS]
       refine zT 7 68 (.int .i64 (d:Int)) rfl (Or.inl ⟨by rfl,fun W hS=>by obtain⟨hS1,hS2⟩:=hS;go_simp⟩) ?_;try simp only[zS]
       refine zU 8 69 (.int .i64 (j:Int)) ?_;try simp only[zS]
       refine zT 9 70 (.int .i64 (q1:Int)) rfl (Or.inl ⟨by rfl,fun W hS=>by have e1:=HE.o;go_simp⟩) ?_;try simp only[zS]
       refine zT 10 71 (.int .i64 (q2:Int)) rfl (Or.inl ⟨by rfl,fun W hS=>by have e2:=HF.o;go_simp⟩) ?_;try simp only[zS]
       refine zU 11 72 (.int .i64 (r:Int)) ?_;try simp only[zS]
       refine zT 12 73 (.int .i64 (q3:Int)) rfl (Or.inl ⟨by rfl,fun W hS=>by have e3:=HG.o;go_simp⟩) ?_;try simp only[zS]
       refine zU 13 74 (.slice (some ⟨wr.heap.size,0,none⟩) 64 64) ?_;try simp only[zS]
       refine wpAnyH_ready (rs:=[14]) (by kernel_rfl) (by simp) ?_;refine AllReadyH.cons rfl (fun K hK=>?_) AllReadyH.nil;go_simp;go_at_call 69
       refine He.o.mono ?_;rintro e wn ⟨rfl,F2,hq2p,hext2⟩;have Ha:=(Hg.o.below Hb.o.drew).ext hq2p hext2 (qbv pr xw).most;have Hh:=zH Ha;have Hj:=Ha.1.cells;rw[Hx.o];clear hq2p hext2 Ha;refine hK.out _ _ ⟨Hj.1,Hj.2.1⟩ (fun hHeld2=>?_);clear hK K;try simp only[zS]
       refine zU 15 11 (.int .i64 2) ?_;try simp only[zS]
       refine wpAnyH_done (by kernel_rfl) ?_ _;clear hHeld hHeld2 Hc;go_wp2
       go_ret2
       have Hk:qax p (qaj d j l)=(pr.give xw):=by
        have e0:=qdT p (qaj d j l) (r+1) (by rw[Hm.o];exact Hq.o);rw[e0,Hm.o]
       refine⟨F2,?_,.inr ⟨by rw[Hk];exact Hq.o,rfl,by rw[Hk];exact Hh.o.1⟩⟩;exact((Ext.of (Touch.of_below Hw.o)).trans Hu.o).trans ((Ext.of (Touch.of_below Hb.o.drew)).trans Hh.o.2)
    ·obtain rfl:r=8:=by omega
     have hd:=zH (show(qaj d j l).take 8=qaj d j l from zbe (by rw[qcu];omega));have HR:=zH (fun(W:World) (hb:Below wr.heap.size wr W)=>qi1 G 5 g.use j true W (gcells a d g).toArray 115 (Hg.o.below hb).gb (Hg.o.below hb).useR Ho Hg.o.ok.use);go_wp2_with (go_at_call 104;(with_reducible refine(HR.o _ (zai _ _)).mono ?_);rintro e w9 ⟨rfl,hs9,ht9⟩;have hc:=zH hs9;have he:=zH ht9)
     go_ret2
     have Ht:=Hg.o.setUse (i:=j) (y:=true) Ho (fun _=>by rw[HQ.o];exact hkp) hc.o he.o;have hy:qax p ((qaj d j l).take 8)=qax p (qaj d j l):=by rw[hd.o]
     have Hz:=H1.o;rw[hy]at Ht Hz;exact⟨F1,((Ext.of (Touch.of_below Hw.o)).trans Hu.o).trans Ht.2,.inl ⟨Hz,rfl,Ht.1⟩⟩
theorem qhG (n:Nat)(w:World)(h:n<9223372036854775808) :
  Calls Tryz.prog 49 #[.int .u64 n] w fun e w'=>e=.returned (.int .i64 (slot n:Nat))∧w=w':=by
 have e1:IntKind.u64.wrap ((n:Int)+1)=((n+1:Nat):Int):=by rw[zde _ (by omega)];omega
 have e2:IntKind.u64.wrap (Int.tmod ((n+1:Nat):Int) 2)=((slot n:Nat):Int):=by
  have:Int.tmod ((n+1:Nat):Int) 2=((slot n:Nat):Int):=by
   unfold slot;rw[zb3 (by omega)];omega
  rw[this,zde _ (by have:=qb9 n;omega)]
 have e3:IntKind.i64.wrap ((slot n:Nat):Int)=((slot n:Nat):Int):=by rw[zaJ _ (by have:=qb9 n;omega)]
 obtain⟨s,hs⟩:∃ s,slot n=s:=⟨_,rfl⟩;rw[hs]at e2 e3⊢;have e4:((n+1:Nat):Int) % 2=(s:Int):=by rw[←hs];unfold slot;omega
 obtain⟨q,hq⟩:∃ q,n+1=q:=⟨_,rfl⟩;rw[hq]at e1 e2 e4;have Ha:=zH e4;clear e4;go_enter Tryz.func49,Tryz.ntmps49
 go_wp2;go_ret;exact⟨qgQ Ha.o,rfl⟩
def qmI (a:PA)(G d:Nat)(F:Nat→Prop)(p:Pl)(g:Pg)(i:Int)(w:World)(e:Ending)(w':World):Prop:=
 (inUseB g i=false∧e=.returned (.int .i64 90)∧w=w')∨
 (inUseB g i=true∧e=.returned (.int .i64 0)∧PgM w' a G d F p { g with use:=setB g.use i.toNat false }∧Ext (GF F G) (GF F G) w w')
theorem PgM.free_call (h:PgM w a G d F p g)(i:Int) :
  Calls Tryz.prog 78 #[.pointer (some ⟨G,0,none⟩),.int .i64 i] w (qmI a G d F p g i w):=by
 have HI:=zH (qdV h i);cases hu:inUseB g i with
 | false=>
  rw[hu]at HI;have HU:=zH hu;clear h hu;go_enter Tryz.func78,Tryz.ntmps78
  go_wp2_with (go_at_call 62;refine HI.o.mono ?_;rintro e w' ⟨rfl,rfl⟩)
  go_ret;exact .inl ⟨HU.o,rfl,rfl⟩
 | true=>
  rw[hu]at HI;have HU:=zH hu;have hp:=h.pages_le.1;obtain⟨j,rfl,hj⟩:∃ j:Nat,i=(j:Int)∧j<g.pages:=by
   unfold inUseB at hu;simp only[zba,zbf]at hu;exact⟨i.toNat,by omega,by omega⟩
  have Hc:=zH h;have Hb:=zH (qi1 G 5 g.use j false w _ 115 h.gb h.useR (by omega) h.ok.use);clear h hu;go_enter Tryz.func78,Tryz.ntmps78
  go_wp2_with (first
   | (go_at_call 62;refine HI.o.mono ?_;rintro e w' ⟨rfl,rfl⟩)
   | (go_at_call 104;refine Hb.o.mono ?_;rintro e w9 ⟨rfl,hs9,ht9⟩;have He:=zH hs9;have Hf:=zH ht9))
  go_ret;have Ha:=Hc.o.setUse (i:=j) (y:=false) (by omega) (fun e=>by cases e) He.o Hf.o;exact .inr ⟨HU.o,rfl,Ha.1,Ha.2⟩
def qe8 (most:List Nat)(d:Int):Nat:=if d<0∨most.length≤d then 0 else min ((most.getD d.toNat 0-2) / 8) 384
theorem quo8 (m:Nat):max (0:Int) (min (Int.tdiv ((m:Int)-2) 8) 384)=((min ((m-2) / 8) 384:Nat):Int):=by
 by_cases h:2≤m
 ·have e:(m:Int)-2=((m-2:Nat):Int):=by omega
  rw[e,Int.tdiv_eq_ediv_of_nonneg (by omega)];omega
 ·have:m=0∨m=1:=by omega
  rcases this with rfl|rfl<;>decide
theorem qeg (h:PlM w a F p)(d:Nat)(hd:d<p.most.length) :
  Calls Tryz.prog 42 #[.pointer (some ⟨a.P,0,none⟩),.int .i64 d] w fun e w'=>e=.returned (.int .i64 (qe8 p.most d:Nat))∧Below w.heap.size w w':=by
 have HS:=zH (qjA h);obtain⟨m,hm⟩:∃ m,p.most[d]?=some m:=⟨_,zaa hd⟩;have Hj:=h.ok.most m (zak hm);have HR:=zH (show((min ((m-2) / 8) 384:Nat):Int)=(qe8 p.most d:Nat)by
  unfold qe8;rw[zaB (by omega)];simp[hm])
 obtain⟨n,hn⟩:∃ n,p.most.length=n:=⟨_,rfl⟩;have HN:=zH hn;have HM:=zH hm;have He:d<n:=by omega
 have e1:IntKind.i64.wrap ((m:Int)-2)=(m:Int)-2:=zaJ _ (by omega);have Ha:=zH (show ∀ (W:World) (A:Option Addr),Ints W A (p.most.map fun(m:Nat)=>(m:Int))→∃ b off,A=some ⟨b,off,none⟩∧b<W.heap.size∧W.cell? ⟨b,off+d,none⟩=some (.int .i64 (m:Int))from fun W A hi=>by
  obtain⟨b,off,e,h1,h2⟩:=hi.at_ (by simp only[zaE];omega);refine⟨b,off,e,h1,(h2 d (by simp only[zaE];omega)).trans ?_⟩;simp[el,hm])
 have Hi:=zas He;have Hh:=show(d:Int)<n by omega
 clear h hd hn hm;go_enter Tryz.func42,Tryz.ntmps42
 go_wp2_with (go_at_call 64;refine HS.o.mono ?_;rintro e w' ⟨A1,c1,A2,c2,rfl,hi1,hi2,hbl,hbw⟩;have Hc:=zH hi1;have Hf:=zH hbl;have Hb:=zH hbw;clear hi1 hi2 hbl hbw;rw[HN.o];obtain⟨b,off,rfl,hb1,hc1⟩:=Ha.o _ _ Hc.o;have Hg:(w'.alloc (.cells #[.slice (some ⟨b,off,none⟩) n c1,.slice A2 p.tp.length c2] 66)).cell? ⟨b,off+d,none⟩=some (.int .i64 (m:Int)):=((zB _ _).cell (p:=⟨b,off+d,none⟩) hb1).trans hc1;clear hb1 hc1)
 all_goals go_ret
 all_goals refine⟨qgQ ?_,(Hb.o.trans ((zB _ _).mono Hb.o.size))⟩
 all_goals (have hq:=(quo8 m).trans HR.o;omega)
theorem l8 (n:Nat):([]++numB n 8).length=8:=by simp[qa3]
theorem l58 (n m:Nat)(u:Bs)(h:u.length=48):((([]++numB n 8)++numB m 2)++u).length=58:=by simp[qa3,h]
theorem l62 (n m:Nat)(u:Bs)(k:Nat)(h:u.length=48):(((([]++numB n 8)++numB m 2)++u)++numB k 4).length=62:=by simp[qa3,h]
theorem qhK (gen r1:Nat)(ub:Bs)(cr:Nat)(hcr:crcN ((([]++numB gen 8)++numB r1 2)++ub)=cr)(hu:ub.length=48) :
  splice (madeCells (Value.int .u8 0).cells (64*1)).toList 0 (bv (((([]++numB gen 8)++numB r1 2)++ub)++numB cr 4))=bv (superB gen r1 ub):=by
 have e:superB gen r1 ub=(((([]++numB gen 8)++numB r1 2)++ub)++numB cr 4)++zeros 2:=by rw[←hcr];rfl
 have hl:=l62 gen r1 ub cr hu;rw[e,qhr];generalize ((([]++numB gen 8)++numB r1 2)++ub)++numB cr 4=L at hl⊢;have Ha:(bv L).length=62:=by rw[bv_len,hl]
 rw[qa7];simp only[splice,zb8,zaA,zaO,Ha,qeu]
theorem qgg (gen r1:Nat)(ub:Bs)(w:World)(hn:Nib w)(hu:ub.length=48)(hg:gen<18446744073709551616)(hr:r1<1000) :
  Calls Tryz.prog 50 #[.int .u64 gen,.int .i64 ((r1:Int)-1),.agg (bv ub).toArray] w fun e w'=>∃ b,e=.returned (.slice (some ⟨b,0,none⟩) 64 64)∧w.heap.size≤b∧w'.heap[b]?=some (.cells (bv (superB gen r1 ub)).toArray 5 (0,0))∧Below w.heap.size w w':=by
 obtain⟨i0,hi0,hz0,hz1,hz2⟩:=zaT qdW;have e1:IntKind.i64.wrap ((r1:Int)-1+1)=(r1:Int):=by rw[zaJ _ (by omega)];omega
 have e2:IntKind.u64.wrap (r1:Int)=(r1:Int):=by rw[zde _ (by omega)]
 have Hq:=zH (fun(W:World)=>qlo none 0 [] 0 8 gen W (By.nil _ _) rfl rfl (by omega) hg);have HU:=zH hu;have Hk:r1<18446744073709551616:=by omega
 obtain⟨cr,hcr⟩:∃ cr,crcN ((([]++numB gen 8)++numB r1 2)++ub)=cr:=⟨_,rfl⟩;have Hn:cr<4294967296:=by rw[←hcr];exact qeI _
 have Hm:=zH hcr;obtain⟨W0,hW0⟩:∃ W0,w.alloc (.cells (bv ub).toArray 113)=W0:=⟨_,rfl⟩;have Hx:=zH hW0;have Hc:=zH (show Below w.heap.size w W0 by rw[←hW0];exact zB _ _);have Hi:=zH (show By W0 (some ⟨w.heap.size,0,none⟩) ub by
  refine By.of_block (t:=113) (fr:=(0,0)) ?_ rfl;rw[←hW0];show(w.heap.push _)[w.heap.size]?=_;rw[Array.getElem?_push_size])
 have Ht:=zH (hn.below Hc.o);clear hn hu hcr;go_enter Tryz.func50,Tryz.ntmps50
 go_wp2_with (first
  | (go_at_call 70;((with_reducible refine(Hq.o _).mono ?_);go_loud (rintro e wa ⟨A1,k1,rfl,ho1,hb1⟩;have He:=zH hb1;have Hr:=zH (qiP A1 k1 _ 8 10 r1 wa (ho1.byN (l8 _)) (l8 _) rfl (by omega) Hk);clear ho1 hb1)))
  | (go_at_call 70;((with_reducible refine Hr.o.mono ?_);go_loud (rintro e wb ⟨A2,k2,rfl,ho2,hb2⟩;have Hu:=zH ho2;have Hf:=zH (He.o.trans (hb2.mono He.o.size));clear ho2 hb2)))
  | (at_builtin;go_loud (refine qai rfl (.tmp 16) (.tmp 17) 34 rfl W0.heap.size 5 i0 _ 1 1 Tryz.underlying34 hi0 hz0 hz1 hz2 rfl (by decide) (.slice A2 10 k2) 10 _ rfl (Hu.o.base He.o.size) (some ⟨w.heap.size,0,none⟩) 48 48 (bv ub) rfl (by have:=(Hi.o.below Hf.o).src;rwa [HU.o]at this) (qaw _) (by unfold maxLen;omega) (by omega) Hf.o.size ?_;intro A3 k3 wc ho3 hb3;have Hv:=zH ho3;have Hg:=zH (Hf.o.trans hb3);have Ha:=zH (show By wc A3 ((([]++numB gen 8)++numB r1 2)++ub)from Own.byN (by have:=Hv.o;rw[←qa7]at this;exact this) (l58 _ _ _ HU.o));have Hb:=zH (sumN A3 k3 58 _ wc Ha.o (l58 _ _ _ HU.o) (Ht.o.below Hg.o) (by omega));rw[Hm.o]at Hb;have Hs:=zH (qiQ A3 k3 _ 58 62 cr wc Ha.o (l58 _ _ _ HU.o) rfl (by omega) (by omega));clear ho3 hb3))
  | (go_at_call 67;((with_reducible refine Hb.o.mono ?_);rintro e wd ⟨rfl,rfl⟩))
  | (go_at_call 70;((with_reducible refine Hs.o.mono ?_);go_loud (rintro e we ⟨A4,k4,rfl,ho4,hb4⟩;have Hh:=zH (Hg.o.trans (hb4.mono Hg.o.size));have Hj:=zH (ho4.byN (l62 _ _ _ _ HU.o));clear ho4 hb4)))
  | ((with_reducible show wpList _ _ _ (⟨some 24,_,_,_,_,_⟩::_) _ _);go_loud (refine zcd _ rfl (.const (.int .i64 64)) (.const (.int .i64 64)) 34 rfl we.heap.size 5 i0 _ 1 Tryz.underlying34 hi0 hz0 hz1 .i64 .i64 _ _ 64 rfl rfl (by omega) (by omega) (by rw[hz2];omega) (by unfold maxLen;omega) (zac _) ?_;intro w5 hown5 hg5;have Hl:=zH (zct (zai we.heap.size we) hg5 (zac _) (fun b e=>by cases e));have Hw:=zH (qct hown5);clear hown5 hg5))
  | ((with_reducible show wpList _ _ _ (⟨some 27,_,_,_,_,_⟩::_) _ _);go_loud (refine wpList_copy_splice rfl (.tmp 25) (.tmp 26) 34 34 rfl 5 Tryz.underlying34 (by kernel_rfl) (some ⟨we.heap.size,0,none⟩) A4 64 64 62 k4 rfl rfl we.heap.size 0 _ 5 Hw.o (bv (((([]++numB gen 8)++numB r1 2)++ub)++numB cr 4)) (by rw[bv_len,l62 _ _ _ _ HU.o];rfl) (fun h0=>⟨rfl,(Hj.o.below Hl.o).src.at_ (by rw[l62 _ _ _ _ HU.o];omega)⟩) (qdX (m:=62) (by rw[bv_len,l62 _ _ _ _ HU.o];rfl)) (qaw _) we.heap.size we Hl.o (zac _) ?_;intro w6 hg6 hb6;have Hp:=zH (show w6.heap[we.heap.size]?=some (.cells (bv (superB gen r1 ub)).toArray 5 (0,0))by have:=hg6.out;rw[qhK _ _ _ _ Hm.o HU.o]at this;exact this);have Ho:=zH (Hh.o.trans (hb6.mono Hh.o.size));clear hg6 hb6)))
 go_ret;exact⟨we.heap.size,rfl,zah Hc.o.size Hh.o.size,Hp.o,Hc.o.trans (Ho.o.mono Hc.o.size)⟩
def wfOut (p:Pl)(x:Wt):Int:=if(wf p x).1 then 0 else 2
theorem qg7 (p:Pl)(d:Nat)(h:p.off=false):qk6 p=if(p.flush d).1 then 0 else 2:=by
 unfold qk6 Pl.flush;rw[h];cases p.step.1<;>rfl
def WfF (a:PA)(F:Nat→Prop)(p:Pl)(x:Wt)(w:World)(e:Ending)(w':World):Prop:=
 e=.returned (.int .i64 (wfOut p x))∧∃ F',PlM w' a F' (wf p x).2∧Ext F F' w w'
theorem qfn (h:PlM w a F p)(hd:p.most[d]?=some m)(hk:k<m){b C cc:Nat}
  (hb:By w (some ⟨b,0,none⟩) l)(hl:l.length=64)(hbF:¬F b)(hC:w.cell? ⟨C,0,none⟩=some (.slice (some ⟨b,0,none⟩) 64 64))(hw:p.waits.length≤1099511627776)(hoff:p.off=false) :
  Calls Tryz.prog 48 #[.pointer (some ⟨a.P,0,none⟩),.int .i64 d,.int .i64 k,.slice (some ⟨C,0,none⟩) 1 cc] w (WfF a F p ⟨d,k,l⟩ w):=by
 have HW:=zH (qgi h hd hk hb hl (fun ad e hf=>by cases e;exact hbF hf) hw hoff (c:=64));have Hk:=h.ok.most m (zak hd);obtain⟨x,hx⟩:∃ x:Wt,⟨d,k,l⟩=x:=⟨_,rfl⟩;have Hj:=zH (show x.dev=d by rw[←hx]);rw[hx]at HW⊢;have Ha:=qbv p x;have HM:=zH hd;have Hb:=zH hoff;clear h hd hb hl hbF hw hoff hx;cases hg:(p.give x).1 with
 | false=>
  have HO:=zH (show qet p x=2 by unfold qet;rw[hg];rfl);have Hh:=zH (show wfOut p x=2 by unfold wfOut wf;rw[hg];rfl);have Hc:=zH (show(wf p x).2=(p.give x).2 by unfold wf;rw[hg];rfl);rw[HO.o]at HW;clear hg Ha;go_enter Tryz.func48,Tryz.ntmps48
  go_wp2;go_loopw [9,10,11,14] (fun _ _ _ i wr=>i=.int .i64 0∧w=wr) (fun _ _ _ i _=>1-(intOf i).toNat)
  case atStart=>exact⟨rfl,rfl⟩
  case round=>
   obtain⟨rfl,rfl⟩:=hrel;go_wp2_with (go_at_call 69;refine HW.o.mono ?_;rintro e w' ⟨rfl,F',hp',he'⟩;have HP:=zH hp';have HE:=zH he';clear hp' he')
   go_ret;exact⟨qgQ Hh.o.symm,F',by rw[Hc.o];exact HP.o,HE.o⟩
 | true=>
  have HO:=zH (show qet p x=0 by unfold qet;rw[hg];rfl);have Hc:=zH (show wf p x=(p.give x).2.flush d by unfold wf;rw[hg,Hj.o];rfl);rw[HO.o]at HW;rw[hg]at Ha;have Hg:=zH (fun(W:World) (F':Nat→Prop) (hp:PlM W a F' (p.give x).2)=>(by
   have:=qfI hp (d:=d) (m:=m) (by rw[Ha.most];exact HM.o) ((Ha.on rfl).trans Hb.o);rw[qg7 _ d ((Ha.on rfl).trans Hb.o),←Hc.o]at this;exact this:Calls Tryz.prog 63 #[.pointer (some ⟨a.P,0,none⟩),.int .i64 d] W fun e w'=>e=.returned (.int .i64 (wfOut p x))∧PlM w' a F' (wf p x).2∧Ext F' F' W w'))
  clear hg Ha;go_enter Tryz.func48,Tryz.ntmps48
  go_wp2;go_loopw [9,10,11,14] (fun _ _ _ i wr=>(i=.int .i64 0∧w=wr)∨(i=.int .i64 1∧∃ F',PlM wr a F' (p.give x).2∧Ext F F' w wr)) (fun _ _ _ i _=>1-(intOf i).toNat)
  case atStart=>exact .inl ⟨rfl,rfl⟩
  case round=>
   rename World=>wr;rcases hrel with⟨rfl,rfl⟩|⟨rfl,F',hp',he'⟩
   ·go_wp2_with (go_at_call 69;refine HW.o.mono ?_;rintro e w' ⟨rfl,F',hp',he'⟩;have HP:=zH hp';have HE:=zH he';clear hp' he')
    exact⟨.inr ⟨rfl,F',HP.o,HE.o⟩,by decide⟩
   ·have HP:=zH hp';have HE:=zH he';clear hp' he';have Hf:=zH (Hg.o _ _ HP.o);go_wp2_with (go_at_call 63;refine Hf.o.mono ?_;rintro e w' ⟨rfl,hp2,he2⟩;have Hi:=zH hp2;have He:=zH he2;clear hp2 he2)
    go_ret;exact⟨rfl,F',Hi.o,HE.o.trans He.o⟩
end Go.Proofs.YtpmebcgmgfcmiaaGreatDoor
