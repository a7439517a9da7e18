/- Texts WlF WlG ShA HeldG. -/
import Derived.Test.YtfcknhbmeofniaaGreatDoorR10
set_option linter.all false
set_option maxRecDepth 100000
set_option maxHeartbeats 16000000
namespace Go.Proofs.YtfcknhbmeofniaaGreatDoor
open Go.RowKit BT
variable {w:World}
def LayF (a:PA)(F:Nat→Prop)(r:Bool×Pl)(w:World)(e:Ending)(w':World):Prop:=
 e=.returned (.int .i64 (if r.1 then 0 else 2))∧∃ F',PlM w' a F' r.2∧Ext F F' w w'
theorem qfo (g e:Nat):(([]++numB 1463897137 4)++numB g 4).length=8∧((([]++numB 1463897137 4)++numB g 4)++numB e 4).length=12:=by simp[qan]
theorem qlQ (g e cr:Nat)(h:crcN (((([]++numB 1463897137 4)++numB g 4)++numB e 4))=cr):((((([]++numB 1463897137 4)++numB g 4)++numB e 4)++numB cr 4)++zeros (64-16))=hdrB g e:=by
 subst h;rfl
theorem Own.pos {base n c:Nat}{t:TypeId}{A:Option Addr}{xs:List Value}(h:Own w base t 1 (.slice A n c) n xs)(h0:0<n):∃ g,A=some ⟨g,0,none⟩∧base≤g∧g<w.heap.size:=by
 obtain⟨g,e,h1,h2,_⟩:=h.row.own h0;exact⟨g,e,h1,h2⟩
theorem qiy {a:PA}{F:Nat→Prop}{p:Pl}(h:PlM w a F p)(hn:Nib w){d m gen ep:Nat}(hd:p.most[d]?=some m)(h2:2≤m)(hoff:p.off=false)(hw:p.waits.length≤1099511627776)(hg:gen<4611686018427387904)(he:ep<4611686018427387904) :
  Calls Tryz.prog 75 #[.pointer (some ⟨a.P,0,none⟩),.int .i64 d,.int .u64 gen,.int .u64 ep] w (LayF a F (layH p d gen ep) w):=by
 obtain⟨g2,hg2⟩:∃ g2,gen % 2=g2:=⟨_,rfl⟩;have Hu:g2<m:=by omega
 have e1:((gen:Int) % 2)=(g2:Int):=by omega
 have e2:IntKind.i64.wrap (g2:Int)=(g2:Int):=zaA _ (by omega);obtain⟨cr,hcr⟩:∃ cr,crcN ((([]++numB 1463897137 4)++numB gen 4)++numB ep 4)=cr:=⟨_,rfl⟩;have Hx:cr<4294967296:=by rw[←hcr];exact qc8 _
 have Hm:=zH hcr;have e3:IntKind.u64.wrap (cr:Int)=(cr:Int):=zbL _ (by omega);obtain⟨x,hx⟩:∃ x:Wt,⟨d,g2,hdrB gen ep⟩=x:=⟨_,rfl⟩;have HX:=zH (show layH p d gen ep=wf p x by rw[←hx,←hg2];rfl);have HE:=zH (show x.dev=d by rw[←hx]);have Hl:=qdr p x;have HF:=zH h.hF;have Hn:=zH (show ∀ (W:World) (A:Option Addr) (c:Nat),Below w.heap.size w W→By W A (hdrB gen ep)→(∀ ad,A=some ad→w.heap.size≤ad.block)→
   Calls Tryz.prog 73 #[.pointer (some ⟨a.P,0,none⟩),.int .i64 d,.int .i64 g2,.slice A 64 c] W (fun e w'=>e=.returned (.int .i64 (wrOut p x))∧∃ F',PlM w' a F' (p.give x).2∧Ext F F' W w')from fun W A c hb hby hA=>by
  rw[←hx];exact qed (h.below hb) hd Hu hby (qgc _ _) (fun ad e hf=>by have:=HF.o _ hf;have:=hA ad e;omega) hw hoff)
 have HN:=zH hn;have HM:=zH hd;have Hi:=zH hoff;have Hv:=zH (show ∀ W,Calls Tryz.prog 55 #[.slice none 0 0,.int .u64 1463897137,.int .i64 4] W _ from fun(W:World)=>qbK none 0 [] 0 4 1463897137 W (By.nil _ _) rfl rfl (by omega) (by omega));have HB:=zH (fun(W:World) (F':Nat→Prop) (hp:PlM W a F' (p.give x).2) (hg:(p.give x).1=true)=>(by
   rw[hg]at Hl;have:=qdO hp (d:=d) (m:=m) (by rw[Hl.most];exact HM.o) ((Hl.on rfl).trans Hi.o);rw[qeP _ d ((Hl.on rfl).trans Hi.o)]at this;have e:wf p x=(p.give x).2.flush d:=by unfold wf;rw[hg,HE.o];rfl
   rw[←e]at this;exact this:Calls Tryz.prog 74 #[.pointer (some ⟨a.P,0,none⟩),.int .i64 d] W fun e w'=>e=.returned (.int .i64 (qkS p x))∧PlM w' a F' (wf p x).2∧Ext F' F' W w'))
 have Hk:gen<18446744073709551616:=by omega
 have Hj:ep<18446744073709551616:=by omega
 rw[HX.o];have Hy:(p.give x).1=false→wf p x=(false,(p.give x).2):=fun h=>by unfold wf;rw[h];rfl
 have HC:=zH Hy;clear h hn hd hoff hw hx Hl hcr hg2 Hy;cases hgt:(p.give x).1 with
 | false=>
  have HO:wrOut p x=2:=by unfold wrOut;rw[hgt];rfl
  rw[HO]at Hn;have HG:=zH (HC.o hgt);clear hgt HO;go_enter Tryz.func75,Tryz.ntmps75
  go_wp2_with (first
   | (go_at_call 55;((with_reducible refine(Hv.o _).mono ?_);go_loud (rintro e wa ⟨A1,k1,rfl,ho1,hb1⟩;have He:=zH hb1;have Hq:=zH (qbK A1 k1 _ 4 8 gen wa (ho1.byN (by simp[qan])) (by simp[qan]) rfl (by omega) Hk);clear ho1 hb1)))
   | (go_at_call 55;((with_reducible refine Hq.o.mono ?_);go_loud (rintro e wb ⟨A2,k2,rfl,ho2,hb2⟩;have Hf:=zH (He.o.trans (hb2.mono He.o.size));have Hr:=zH (qbK A2 k2 _ 8 12 ep wb (ho2.byN (qfo _ 0).1) (qfo _ 0).1 rfl (by omega) Hj);clear ho2 hb2)))
   | (go_at_call 55;((with_reducible refine Hr.o.mono ?_);go_loud (rintro e wc ⟨A3,k3,rfl,ho3,hb3⟩;have Hc:=zH (Hf.o.trans (hb3.mono Hf.o.size));have Ha:=zH (ho3.byN (qfo _ _).2);have Hb:=zH (sumN A3 k3 12 _ wc Ha.o (qfo _ _).2 (HN.o.below Hc.o) (by omega));rw[Hm.o]at Hb;have Hs:=zH (qbK A3 k3 _ 12 16 cr wc Ha.o (qfo _ _).2 rfl (by omega) (by omega));clear ho3 hb3)))
   | (go_at_call 108;((with_reducible refine Hb.o.mono ?_);rintro e wd ⟨rfl,rfl⟩))
   | (go_at_call 55;((with_reducible refine Hs.o.mono ?_);go_loud (rintro e we ⟨A4,k4,rfl,ho4,hb4⟩;have Hg:=zH (Hc.o.trans (hb4.mono Hc.o.size));have Hp:=zH (qgN A4 k4 _ we (ho4.base Hc.o.size) (by omega) (by omega) Hg.o.size);clear ho4 hb4)))
   | (go_at_call 109;((with_reducible refine Hp.o.mono ?_);go_loud (rintro e wf5 ⟨A5,k5,rfl,ho5,hb5⟩;rw[qlQ _ _ _ Hm.o]at ho5;obtain⟨g5,rfl,hg5,_⟩:=ho5.pos (by omega);have Hh:=zH (Hg.o.trans hb5);have Ht:=zH (Hn.o wf5 _ k5 Hh.o (ho5.byN (qgc _ _)) (fun ad e=>by cases e;exact hg5));clear ho5 hb5 hg5)))
   | (go_at_call 73;((with_reducible refine Ht.o.mono ?_);go_loud (rintro e w6 ⟨rfl,F6,hp6,he6⟩;have Hw:=zH hp6;have Ho:=zH he6;clear hp6 he6))))
  go_ret;rw[HG.o];exact⟨rfl,F6,Hw.o,(Ext.of (Touch.of_below Hh.o)).trans Ho.o⟩
 | true=>
  have HO:wrOut p x=0:=by unfold wrOut;rw[hgt];rfl
  rw[HO]at Hn;have HG:=zH hgt;clear hgt HO;go_enter Tryz.func75,Tryz.ntmps75
  go_wp2_with (first
   | (go_at_call 55;((with_reducible refine(Hv.o _).mono ?_);go_loud (rintro e wa ⟨A1,k1,rfl,ho1,hb1⟩;have He:=zH hb1;have Hq:=zH (qbK A1 k1 _ 4 8 gen wa (ho1.byN (by simp[qan])) (by simp[qan]) rfl (by omega) Hk);clear ho1 hb1)))
   | (go_at_call 55;((with_reducible refine Hq.o.mono ?_);go_loud (rintro e wb ⟨A2,k2,rfl,ho2,hb2⟩;have Hf:=zH (He.o.trans (hb2.mono He.o.size));have Hr:=zH (qbK A2 k2 _ 8 12 ep wb (ho2.byN (qfo _ 0).1) (qfo _ 0).1 rfl (by omega) Hj);clear ho2 hb2)))
   | (go_at_call 55;((with_reducible refine Hr.o.mono ?_);go_loud (rintro e wc ⟨A3,k3,rfl,ho3,hb3⟩;have Hc:=zH (Hf.o.trans (hb3.mono Hf.o.size));have Ha:=zH (ho3.byN (qfo _ _).2);have Hb:=zH (sumN A3 k3 12 _ wc Ha.o (qfo _ _).2 (HN.o.below Hc.o) (by omega));rw[Hm.o]at Hb;have Hs:=zH (qbK A3 k3 _ 12 16 cr wc Ha.o (qfo _ _).2 rfl (by omega) (by omega));clear ho3 hb3)))
   | (go_at_call 108;((with_reducible refine Hb.o.mono ?_);rintro e wd ⟨rfl,rfl⟩))
   | (go_at_call 55;((with_reducible refine Hs.o.mono ?_);go_loud (rintro e we ⟨A4,k4,rfl,ho4,hb4⟩;have Hg:=zH (Hc.o.trans (hb4.mono Hc.o.size));have Hp:=zH (qgN A4 k4 _ we (ho4.base Hc.o.size) (by omega) (by omega) Hg.o.size);clear ho4 hb4)))
   | (go_at_call 109;((with_reducible refine Hp.o.mono ?_);go_loud (rintro e wf5 ⟨A5,k5,rfl,ho5,hb5⟩;rw[qlQ _ _ _ Hm.o]at ho5;obtain⟨g5,rfl,hg5,_⟩:=ho5.pos (by omega);have Hh:=zH (Hg.o.trans hb5);have Ht:=zH (Hn.o wf5 _ k5 Hh.o (ho5.byN (qgc _ _)) (fun ad e=>by cases e;exact hg5));clear ho5 hb5 hg5)))
   | (go_at_call 73;((with_reducible refine Ht.o.mono ?_);go_loud (rintro e w6 ⟨rfl,F6,hp6,he6⟩;have Hw:=zH hp6;have Ho:=zH he6;have HA:=zH (HB.o _ _ hp6 HG.o);clear hp6 he6)))
   | (go_at_call 74;((with_reducible refine HA.o.mono ?_);go_loud (rintro e w7 ⟨rfl,hp7,he7⟩;have HD:=zH hp7;have Hz:=zH he7;clear hp7 he7))))
  go_ret;exact⟨rfl,F6,HD.o,((Ext.of (Touch.of_below Hh.o)).trans Ho.o).trans Hz.o⟩
end Go.Proofs.YtfcknhbmeofniaaGreatDoor
set_option linter.all false
namespace Go.Proofs.YtfcknhbmeofniaaGreatDoor
open Go.RowKit BT
def natv (l:List Nat):List Value:=l.map fun(n:Nat)=>Value.int .i64 (n:Int)
theorem natv_snoc (l:List Nat)(n:Nat):natv l++[Value.int .i64 (n:Int)]=natv (l++[n]):=by simp[natv]
theorem qlu {l:List Nat}{k n:Nat}(h:l[k]?=some n):(natv l)[k]?=some (Value.int .i64 (n:Int)):=by simp[natv,h]
def ordL (t i:Nat):List Nat:=[1-t,t]++(List.range (i-2)).map (·+2)
theorem qlz (t i:Nat)(h:2≤i):(ordL t i).length=i:=by simp[ordL];omega
theorem qks (t i:Nat)(h:2≤i):ordL t i++[i]=ordL t (i+1):=by
 unfold ordL;rw[show i+1-2=(i-2)+1 by omega,List.range_succ,zbz,zah];simp;omega
theorem qji (t m k:Nat)(hk:k<m)(hm:2≤m)(ht:t≤1):∃ x,x<m∧(ordL t m)[k]?=some x∧(qbs t m)[k]?=some (x,decide (k<2∨k+1=m)):=by
 unfold ordL qbs;rcases zcc k 2 with h|h
 ·rcases(by omega:k=0∨k=1)with rfl|rfl
  ·exact⟨1-t,by omega,rfl,by simp⟩
  ·exact⟨t,by omega,rfl,by simp⟩
 ·refine⟨k,hk,?_,?_⟩
  ·rw[zaz (by simpa using h),zaD,zb4 (by simp;omega)];simp;omega
  ·rw[zaz (by simpa using h),zaD,zb4 (by simp;omega)];have e:(k-2+3=m)↔(k<2∨k+1=m):=by omega
   have e2:k-2+2=k:=by omega
   simp[e,e2]
theorem qdU (t m:Nat)(h:2≤m):(qbs t m).length=m:=by simp[qbs];omega
theorem qlM (d k:Nat)(f:Bool)(p:Pl):qbV d [(k,f)] p=if f then((p.give ⟨d,k,zeros 64⟩).2.flush d).2 else(p.give ⟨d,k,zeros 64⟩).2:=rfl
theorem qea {d:Nat}:∀ (l:List (Nat×Bool)) {p:Pl},Sure p→(qbV d l p).waits.length≤p.waits.length+l.length
 | [],_,_=>by simp[qbV]
 | (k,f)::l,p,h=>by
  have a:=qhx (d:=d) (k:=k) (f:=f) h;have b:=qea (d:=d) l a.sure;have e:qbV d ((k,f)::l) p=qbV d l (qbV d [(k,f)] p):=rfl;rw[e];have c:(qbV d [(k,f)] p).waits.length≤p.waits.length+1:=by
   rw[qlM,qbO h];cases f
   ·simp
   ·simp only[zb5];have h2:Sure { p with waits:=p.waits++[⟨d,k,zeros 64⟩] }:=h;rw[qdP h2];have:=zcq (fun x:Wt=>decide (x.dev≠d)) (p.waits++[⟨d,k,zeros 64⟩]);simp at this⊢;omega
  simp;omega
structure FoL (w W1 wr:World) (a:PA) (F:Nat→Prop) (p:Pl) (d:Nat) (L:List (Nat×Bool)):Prop where
 ex:∃ F',PlM wr a F' (qbV d L p)∧Ext F F' W1 wr
theorem qhv {w:World}{a:PA}{F:Nat→Prop}{p:Pl}(h:PlM w a F p)(hs:Sure p)(hn:Nib w)(hnF:¬F 2){d m:Nat}(hd:p.most[d]?=some m)(h8:8≤m)(hm:m≤100000)(hw:p.waits.length≤1000000) :
  Calls Tryz.prog 43 #[.pointer (some ⟨a.P,0,none⟩),.int .i64 d] w fun e w'=>e=.returned (.int .i64 0)∧∃ F',PlM w' a F' (qa2 p d m).2∧Ext F F' w w':=by
 obtain⟨I0,hi0,hz0,hz1,hz2⟩:=zaY qlh;obtain⟨J0,hj0,hy0,hy1,hy2⟩:=zaY qcu;have HV:=zH (qgL h hd h8);have Hx:=zH (fun(W:World) (hb:Below w.heap.size w W)=>qe0 (h.below hb) (hn.below hb) hd (by omega) hs.1);have HF:=zH h;have HS:=zH hs;have HN:=zH hn;have H1:=zH hnF;have HD:=zH hd;have HW:=zH hw;have HE:=zH (show qa2 p d m=layH (qbV d (qbs (newH (p.seen d 0) (p.seen d 1)).2.2 m) p) d 1 1 from rfl);have HT:=zH (newH_at (p.seen d 0) (p.seen d 1));obtain⟨g0,hg0⟩:∃ x,(newH (p.seen d 0) (p.seen d 1)).1=x:=⟨_,rfl⟩;obtain⟨x0,hx0⟩:∃ x,(newH (p.seen d 0) (p.seen d 1)).2.1=x:=⟨_,rfl⟩;obtain⟨t,ht0⟩:∃ x,(newH (p.seen d 0) (p.seen d 1)).2.2=x:=⟨_,rfl⟩;unfold NewF at Hx;rw[hg0,hx0,ht0]at Hx;rw[ht0]at HE HT;clear h hs hn hnF hd hg0 hx0 ht0 hw;have t1:t≤1:=by rcases HT.o with e|e<;>omega
 obtain⟨t',ht'⟩:∃ x,1-t=x:=⟨_,rfl⟩;have et:1-(t:Int)=(t':Int):=by omega
 have Hy:=zH (show ordL t 2=[t',t]by rw[←ht'];rfl);have m5:(m:Int)≤100000:=by omega
 clear ht';go_enter Tryz.func43,Tryz.ntmps43
 go_wp2_with (first
  | (go_at_call 71;refine HV.o.mono ?_;rintro e w1 ⟨rfl,hb1⟩;have Hu:=zH hb1;clear hb1)
  | (go_at_call 72;go_loud (refine(Hx.o _ Hu.o).mono ?_;rintro e w2 ⟨rfl,hb2⟩;have Hv:=zH (Hu.o.trans (hb2.mono Hu.o.size));clear hb2)))
 obtain⟨B0,hB0⟩:∃ x,w2.heap.size=x:=⟨_,rfl⟩;have HM:Own (w2.alloc (.cells #[.int .i64 (t':Int),.int .i64 (t:Int)] 3)) B0 3 1 (.slice (some ⟨B0,0,none⟩) 2 2) 2 (natv (ordL t 2)):=by
  rw[Hy.o,←hB0];exact Own.of_own (qbQ (zad _) rfl (by decide) (zae w2 _))
 have HK:Below B0 w2 (w2.alloc (.cells #[.int .i64 (t':Int),.int .i64 (t:Int)] 3)):=(zai _ _).alloc (by omega) _;have HP:=zH hB0;rw[hB0];go_loopw [10,11] (fun s i Y=>∃ (k:Nat) (A:Option Addr) (c:Nat),i=.int .i64 k∧2≤k∧k≤m∧s=.slice A k c∧Own Y B0 3 1 (.slice A k c) k (natv (ordL t k))∧Below B0 w2 Y) (fun _ i _=>m-(intOf i).toNat)
 case atStart=>exact⟨2,_,2,rfl,by omega,by omega,rfl,HM,HK⟩
 case round=>
  rename World=>Y;obtain⟨k,A,c,rfl,hk2,Hn,rfl,ho,hbl⟩:=hrel;clear HM HK;by_cases Hc:k<m
  ·have k0:(k:Int)<(m:Int):=by omega
   have HO:=zH ho;have HR:=zH hbl;have HJ:=zH (And.intro Hc hk2);have HY:=zH (show B0≤Y.heap.size by have:=hbl.size;omega);clear ho hbl Hc hk2 Hn hB0;go_wp2_with ((with_reducible show wpList _ _ _ (⟨some 48,_,_,_,_,_⟩::_) _ _);go_loud (refine qai rfl (.tmp 45) (.tmp 47) 59 rfl B0 3 I0 _ 1 8 Tryz.underlying59 hi0 hz0 hz1 hz2 rfl (by decide) (.slice A k c) k _ rfl (HO.o.below (zad _) (zB _ _)) (some ⟨Y.heap.size,0,none⟩) 1 1 [.int .i64 (k:Int)] rfl (qas (zae Y _) rfl) (by simp[Value.oneCell']) (by unfold maxLen;omega) (by omega) (by have:=HY.o;simp;omega) ?_;intro A4 c4 w4 ho4 hb4;rw[natv_snoc,qks _ _ HJ.o.2]at ho4;have H2:=zH ho4;have HQ:=zH hb4;clear ho4 hb4))
   have hj:=HJ.o;refine⟨⟨k+1,A4,c4,by go_num,by omega,by omega,rfl,H2.o,(HR.o.alloc HY.o _).trans HQ.o⟩,by simp[intOf];omega⟩
  ·have k0:¬((k:Int)<(m:Int)):=by omega
   have ek:k=m:=by omega
   rw[ek]at ho;obtain⟨g,rfl,hg,hgl⟩:=ho.pos (by omega);have Hf:=zH ek;have HG:=zH (And.intro hg hgl);have HC:=zH (show Below w.heap.size w Y from Hv.o.trans (hbl.mono (by have:=Hv.o.size;omega)));have HU:=zH (show ∀ (k x:Nat),(ordL t m)[k]?=some x→Y.cell? ⟨g,k,none⟩=some (.int .i64 (x:Int))from fun k x hx=>by
    obtain⟨A',c',e1,_,hf⟩:=ho.row.form;cases e1;obtain⟨g',e2,_,_,hc⟩:=hf (by omega);cases e2;have h1:=(zac.1 hx).1;rw[qlz _ _ (by omega)]at h1;rw[hc k (by omega),qlu hx])
   clear ho hbl Hc hk2 Hn hB0 ek hg hgl;go_wp2;go_loopw [51] (fun i wr=>∃ k:Nat,i=.int .i64 k∧k≤m∧FoL w Y wr a F p d ((qbs t m).take k)) (fun i _=>m-(intOf i).toNat)
   case atStart=>exact⟨0,rfl,by omega,⟨F,HF.o.below HC.o,Ext.refl _ _⟩⟩
   case round=>
    rename World=>wr;obtain⟨k2,rfl,hk,⟨⟨F1,hp1,he1⟩⟩⟩:=hrel;by_cases Hc:k2<m
    ·have k0:(k2:Int)<(k:Int):=by have:=Hf.o;omega
     have H4:k2<k:=by have:=Hf.o;omega
     have k5:(k:Int)≤100000:=by have:=Hf.o;omega
     obtain⟨x,hxm,hx,hox⟩:=qji t m k2 Hc (by omega) t1;have HI:=(he1.touch.block g HG.o.2 (fun hF=>by have:=HF.o.hF _ hF;have:=HG.o.1;have:=Hv.o.size;have:=HP.o;omega));have f0:wr.cell? ⟨g,k2,none⟩=some (.int .i64 (x:Int)):=by
      rw[←HU.o k2 x hx];unfold World.cell?;rw[HI]
     have Ha:=qdG (d:=d) ((qbs t m).take k2) HS.o;have Hh:=qea (d:=d) ((qbs t m).take k2) HS.o;obtain⟨q,hq⟩:∃ q,qbV d ((qbs t m).take k2) p=q:=⟨_,rfl⟩;rw[hq]at Ha Hh hp1;have HA:=zH (show ∀ f,decide (k2<2∨k2+1=m)=f→qbV d ((qbs t m).take (k2+1)) p=if f then((q.give ⟨d,x,zeros 64⟩).2.flush d).2 else(q.give ⟨d,x,zeros 64⟩).2 from fun f hf=>by
      obtain⟨h1,h2⟩:=zac.1 hox;rw[zaw h1,h2,qf0,hq,hf];rfl)
     have HH:∀ b,F1 b→b<wr.heap.size:=hp1.hF;have Hr:=zH (show ∀ (W:World) (b:Nat),Below wr.heap.size wr W→By W (some ⟨b,0,none⟩) (zeros 64)→wr.heap.size≤b→
       Calls Tryz.prog 73 #[.pointer (some ⟨a.P,0,none⟩),.int .i64 d,.int .i64 x,.slice (some ⟨b,0,none⟩) 64 64] W (fun e w'=>e=.returned (.int .i64 (wrOut q ⟨d,x,zeros 64⟩))∧∃ F',PlM w' a F' (q.give ⟨d,x,zeros 64⟩).2∧Ext F1 F' W w')from fun W b hb hby hA=>
      qed (hp1.below hb) (by rw[Ha.most];exact HD.o) hxm hby (zeros_len 64) (fun ad e hf=>by cases e;exact absurd (HH b hf) (by omega)) (by have:=HW.o;rw[zaj,qdU _ _ (by omega)]at Hh;omega) Ha.sure.1)
     rw[show wrOut q ⟨d,x,zeros 64⟩=0 by unfold wrOut;rw[qbO Ha.sure];rfl]at Hr;have Ht:Sure (q.give ⟨d,x,zeros 64⟩).2:=by rw[qbO Ha.sure];exact Ha.sure
     have HL:(q.give ⟨d,x,zeros 64⟩).2.most[d]?=some m:=by rw[qbO Ha.sure];show q.most[d]?=_;rw[Ha.most];exact HD.o
     have Hp:=zH (fun(W:World) (F':Nat→Prop) (hp:PlM W a F' (q.give ⟨d,x,zeros 64⟩).2)=>qdO hp (d:=d) (m:=m) HL Ht.1);rw[show flOut (q.give ⟨d,x,zeros 64⟩).2=0 by rw[qeP _ d Ht.1,qdP Ht];rfl]at Hp;have Hw:=zH he1;have HJ:=zH Hc;clear hp1 he1 Hc hx hox HI Ha Hh hq HH Ht HL hk hxm;by_cases hk2:k2<2
     ·have q0:(k2:Int)<2:=by omega
      have Hl:=zH (show decide (k2<2∨k2+1=m)=true by simp[hk2]);clear hk2;go_wp2_with (first
       | ((with_reducible show wpList _ _ _ (⟨some 59,_,_,_,_,_⟩::_) _ _);go_loud (refine zci _ rfl (.const (.int .i64 64)) (.const (.int .i64 64)) 40 rfl wr.heap.size 5 J0 _ 1 Tryz.underlying40 hj0 hy0 hy1 .i64 .i64 _ _ 64 rfl rfl (by omega) (by omega) (by rw[hy2];omega) (by unfold maxLen;omega) (zad _) ?_;intro w5 hown5 hg5;have Hb:Below wr.heap.size wr w5:=zb0 (zai wr.heap.size wr) hg5 (zad _) (fun b e=>by cases e);have He:=qcT hown5;rw[Array.toArray_toList]at He;have Hi:=zH Hb;have Hm:=zH (Hr.o w5 wr.heap.size Hb (By.of_block (t:=5) (fr:=(0,0)) (by rw[←qiz,Array.toArray_toList];exact He) rfl) (zad _));clear hown5 hg5 Hb He))
       | (go_at_call 73;((with_reducible refine Hm.o.mono ?_);go_loud (rintro e w6 ⟨rfl,F6,hp6,he6⟩;have Hz:=zH hp6;have Hj:=zH he6;have Hk:=zH (Hp.o _ _ hp6);clear hp6 he6)))
       | (go_at_call 74;((with_reducible refine Hk.o.mono ?_);go_loud (rintro e w7 ⟨rfl,hp7,he7⟩;have Hq:=zH hp7;have Ho:=zH he7;clear hp7 he7))))
      have Hc:=HJ.o;have Hn:=Hf.o;refine⟨⟨k2+1,by go_num,by omega,⟨⟨F6,by rw[HA.o true Hl.o];exact Hq.o,((Hw.o.trans (Ext.of (Touch.of_below Hi.o))).trans Hj.o).trans Ho.o⟩⟩⟩,by simp[intOf];omega⟩
     ·have q0:¬((k2:Int)<2):=by omega
      by_cases hkl:k2+1=k
      ·have q1:((k2:Int)==(k:Int)-1)=true:=by rw[zbZ];omega
       have Hl:=zH (show decide (k2<2∨k2+1=m)=true by have:=Hf.o;simp;omega);clear hk2 hkl;go_wp2_with (first
        | ((with_reducible show wpList _ _ _ (⟨some 59,_,_,_,_,_⟩::_) _ _);go_loud (refine zci _ rfl (.const (.int .i64 64)) (.const (.int .i64 64)) 40 rfl wr.heap.size 5 J0 _ 1 Tryz.underlying40 hj0 hy0 hy1 .i64 .i64 _ _ 64 rfl rfl (by omega) (by omega) (by rw[hy2];omega) (by unfold maxLen;omega) (zad _) ?_;intro w5 hown5 hg5;have Hb:Below wr.heap.size wr w5:=zb0 (zai wr.heap.size wr) hg5 (zad _) (fun b e=>by cases e);have He:=qcT hown5;rw[Array.toArray_toList]at He;have Hi:=zH Hb;have Hm:=zH (Hr.o w5 wr.heap.size Hb (By.of_block (t:=5) (fr:=(0,0)) (by rw[←qiz,Array.toArray_toList];exact He) rfl) (zad _));clear hown5 hg5 Hb He))
        | (go_at_call 73;((with_reducible refine Hm.o.mono ?_);go_loud (rintro e w6 ⟨rfl,F6,hp6,he6⟩;have Hz:=zH hp6;have Hj:=zH he6;have Hk:=zH (Hp.o _ _ hp6);clear hp6 he6)))
        | (go_at_call 74;((with_reducible refine Hk.o.mono ?_);go_loud (rintro e w7 ⟨rfl,hp7,he7⟩;have Hq:=zH hp7;have Ho:=zH he7;clear hp7 he7))))
       have Hc:=HJ.o;have Hn:=Hf.o;refine⟨⟨k2+1,by go_num,by omega,⟨⟨F6,by rw[HA.o true Hl.o];exact Hq.o,((Hw.o.trans (Ext.of (Touch.of_below Hi.o))).trans Hj.o).trans Ho.o⟩⟩⟩,by simp[intOf];omega⟩
      ·have q1:((k2:Int)==(k:Int)-1)=false:=by rw[zaN];omega
       have Hl:=zH (show decide (k2<2∨k2+1=m)=false by have:=Hf.o;simp;omega);clear hk2 hkl;go_wp2_with (first
        | ((with_reducible show wpList _ _ _ (⟨some 59,_,_,_,_,_⟩::_) _ _);go_loud (refine zci _ rfl (.const (.int .i64 64)) (.const (.int .i64 64)) 40 rfl wr.heap.size 5 J0 _ 1 Tryz.underlying40 hj0 hy0 hy1 .i64 .i64 _ _ 64 rfl rfl (by omega) (by omega) (by rw[hy2];omega) (by unfold maxLen;omega) (zad _) ?_;intro w5 hown5 hg5;have Hb:Below wr.heap.size wr w5:=zb0 (zai wr.heap.size wr) hg5 (zad _) (fun b e=>by cases e);have He:=qcT hown5;rw[Array.toArray_toList]at He;have Hi:=zH Hb;have Hm:=zH (Hr.o w5 wr.heap.size Hb (By.of_block (t:=5) (fr:=(0,0)) (by rw[←qiz,Array.toArray_toList];exact He) rfl) (zad _));clear hown5 hg5 Hb He))
        | (go_at_call 73;((with_reducible refine Hm.o.mono ?_);go_loud (rintro e w6 ⟨rfl,F6,hp6,he6⟩;have Hz:=zH hp6;have Hj:=zH he6;have Hk:=zH (Hp.o _ _ hp6);clear hp6 he6)))
        | (go_at_call 74;((with_reducible refine Hk.o.mono ?_);go_loud (rintro e w7 ⟨rfl,hp7,he7⟩;have Hq:=zH hp7;have Ho:=zH he7;clear hp7 he7))))
       have Hc:=HJ.o;have Hn:=Hf.o;refine⟨⟨k2+1,by go_num,by omega,⟨⟨F6,by rw[HA.o false Hl.o];exact Hz.o,(Hw.o.trans (Ext.of (Touch.of_below Hi.o))).trans Hj.o⟩⟩⟩,by simp[intOf];omega⟩
    ·have k0:¬((k2:Int)<(k:Int)):=by have:=Hf.o;omega
     have Hg:(qbs t m).take k2=qbs t m:=zaL (by rw[qdU _ _ (by omega)];omega);rw[Hg]at hp1;have Ha:=qdG (d:=d) (qbs t m) HS.o;have Hh:=qea (d:=d) (qbs t m) HS.o;have HB:Ext F F1 w wr:=(Ext.of (Touch.of_below HC.o)).trans he1;have Hs:=qiy hp1 (HN.o.touch HB.touch H1.o) (d:=d) (m:=m) (gen:=1) (ep:=1) (by rw[Ha.most];exact HD.o) (by omega) Ha.sure.1 (by have:=HW.o;rw[qdU _ _ (by omega)]at Hh;omega) (by omega) (by omega);unfold LayF at Hs;rw[zax (show(layH (qbV d (qbs t m) p) d 1 1).1=true from(qcq Ha.sure _).1)]at Hs;have H0:=zH Hs;have HZ:=zH HB;clear hp1 he1 Hc Hg Ha Hh HB hk Hs;go_wp2_with (go_at_call 75;refine H0.o.mono ?_;rintro e w9 ⟨rfl,F9,hp9,he9⟩;have H3:=zH hp9;have HX:=zH he9;clear hp9 he9)
     go_ret;exact⟨rfl,F9,by rw[HE.o];exact H3.o,HZ.o.trans HX.o⟩
end Go.Proofs.YtfcknhbmeofniaaGreatDoor
namespace Go.Proofs.YtfcknhbmeofniaaGreatDoor
open Go.RowKit BT
theorem bv32 (x:W32):BitVec.ofInt 32 (x.toNat:Int)=x:=by rw[zbC];simp
theorem qcN (x:W32):IntKind.u32.wrap (x.toNat:Int)=(x.toNat:Int):=by
 have:=x.isLt;rw[IntKind.wrap_u32];omega
theorem qbT (x y:W32):bits .xor .u32 (x.toNat:Int) (y.toNat:Int)=((x ^^^ y).toNat:Int):=by
 show IntKind.u32.wrap ((BitVec.ofInt 32 (x.toNat:Int) ^^^ BitVec.ofInt 32 (y.toNat:Int)).toNat:Int)=_;rw[bv32,bv32,qcN]
theorem qfm (x y:W32):bits .and .u32 (x.toNat:Int) (y.toNat:Int)=((x &&& y).toNat:Int):=by
 show IntKind.u32.wrap ((BitVec.ofInt 32 (x.toNat:Int) &&& BitVec.ofInt 32 (y.toNat:Int)).toNat:Int)=_;rw[bv32,bv32,qcN]
theorem or32 (x y:W32):bits .or .u32 (x.toNat:Int) (y.toNat:Int)=((x ||| y).toNat:Int):=by
 show IntKind.u32.wrap ((BitVec.ofInt 32 (x.toNat:Int) ||| BitVec.ofInt 32 (y.toNat:Int)).toNat:Int)=_;rw[bv32,bv32,qcN]
theorem qbU (x y:W32):IntKind.u32.wrap ((x.toNat:Int)+(y.toNat:Int))=((x+y).toNat:Int):=by
 rw[IntKind.wrap_u32,BitVec.toNat_add];omega
theorem qmw (x:W32)(n:Nat):(x.toNat:Int) / 2 ^ n=((x >>> n).toNat:Int):=by
 rw[BitVec.toNat_ushiftRight,Nat.shiftRight_eq_div_pow];simp
theorem qmv (x:W32)(n:Nat):(x.toNat:Int)*2 ^ n % 4294967296=((x <<< n).toNat:Int):=by
 rw[BitVec.toNat_shiftLeft,Nat.shiftLeft_eq];simp
theorem shlw (x:W32)(n:Nat)(m:Int)(hm:m=2 ^ n):IntKind.u32.wrap ((x.toNat:Int)*m)=((x <<< n).toNat:Int):=by
 rw[←qmv,←hm,IntKind.wrap_u32]
theorem shrw (x:W32)(n:Nat)(m:Int)(hm:m=2 ^ n):(x.toNat:Int) / m=((x >>> n).toNat:Int):=by
 rw[←qmw,←hm]
theorem qmo (x:W32):bits .xor .u32 IntKind.u32.max (x.toNat:Int)=((~~~ x).toNat:Int):=by
 have e:IntKind.u32.max=((BitVec.allOnes 32).toNat:Int):=by decide
 rw[e,qbT,BitVec.allOnes_xor]
theorem qlW (x:W32):bits .xor .u32 (if IntKind.u32.signed=true then -1 else IntKind.u32.max) (x.toNat:Int)=((~~~ x).toNat:Int):=qmo x
theorem qgE (c:UInt8):(b8 c).toNat=c.toNat:=by
 have:=c.toNat_lt;unfold b8;rw[zbu];omega
theorem qbD (x:W32)(k:Nat)(m:Int)(w:World)(hm:m=-(k:Int))(h1:1≤k)(h31:k≤31) :
  Calls Tryz.prog 133 #[.int .u32 (x.toNat:Int),.int .i64 m] w fun e w'=>e=.returned (.int .u32 ((rr x k).toNat:Int))∧w=w':=by
 obtain⟨s,hs⟩:∃ s,32-k=s:=⟨_,rfl⟩;obtain⟨c,hc⟩:∃ c,IntKind.u64.wrap m=c:=⟨_,rfl⟩;have e2:bits .and .u64 c 31=(s:Int):=by
  have e:c=((18446744073709551616-k:Nat):Int):=by rw[←hc,hm,IntKind.wrap_u64];omega
  have h:(18446744073709551616-k) &&& 31=(18446744073709551616-k) % 32:=zbW _ 5;rw[e];show IntKind.u64.wrap ((BitVec.ofInt 64 ((18446744073709551616-k:Nat):Int) &&& BitVec.ofInt 64 31).toNat:Int)=_;rw[zbC,BitVec.toNat_and,zbu,zbs (by omega),show(BitVec.ofInt 64 31).toNat=31 from rfl,h,IntKind.wrap_u64];omega
 have e3:IntKind.u64.wrap (32-(s:Int))=(k:Int):=by rw[IntKind.wrap_u64];omega
 have s0:s≤31:=by omega
 have HM:=zH (And.intro hm hs);clear hm hs;go_enter Tryz.func133,Tryz.ntmps133
 go_wp2;go_ret;refine⟨qcH ?_,rfl⟩;rw[qmv,qmw,or32,BitVec.or_comm,←HM.o.2];rfl
end Go.Proofs.YtfcknhbmeofniaaGreatDoor
namespace Go.Proofs.YtfcknhbmeofniaaGreatDoor
section
section
variable {P:Program} {ops:Array Oper} {Q:Exit→Act→World→Prop} {md:Region.Mode} {S:World→Prop}
def Gate (st:List Nat)(l:Array Bool)(S:World→Prop)(w:World):Prop:=(∀ s∈st,l.getD s true=false)→S w
def qaN (P:Program)(md:Region.Mode)(ops:Array Oper)(Q:Exit→Act→World→Prop)(S:World→Prop)(st:List Nat):Nat→Array Bool→Act→World→Prop
 | 0,l,a,w=>Region.ready md ops l=[]∧Q .normal a w
 | f+1,l,a,w=>(Region.ready md ops l=[]→Q .normal a w)∧∀ i∈Region.ready md ops l,wpOp P ops Q i (fun a' w'=>Gate st (l.setIfInBounds i true) S w'∧qaN P md ops Q S st f (l.setIfInBounds i true) a' w') a w
theorem qaF (st:List Nat):∀ (f:Nat) (l:Array Bool) (a:Act) (w:World),qaN P md ops Q S st f l a w→wpAny P md ops Q f l a w
 | 0,_,_,_,h=>h
 | f+1,_,_,_,h=>⟨h.1,fun i hi=>wpOp_mono (fun a' w' h'=>qaF st f _ a' w' h'.2) (h.2 i hi)⟩
theorem qfD {st:List Nat}{l:Array Bool}{i:Nat}{w:World}(hi:i∉st)(h:Gate st (l.setIfInBounds i true) S w):Gate st l S w:=fun h0=>h fun s hs=>by
 rw[zcg true (fun e=>hi (by rw[e];exact hs))];exact h0 s hs
theorem qfC {st:List Nat}{S':World→Prop}{Good:Array Bool→Prop}{i:Nat}{oi:Oper}{v:Value}(hi:ops[i]?=some oi)(hns:Region.noSelect ops=true)(hist:i∉st)
  (hQ:∀ c a w,Q (.panic c) (a.put oi.dst v) w→Q (.panic c) a w)
  (hup:∀ l w,Good l→Gate st l S w→S' w)(hgood:∀ l j,Good l→i∈Region.ready md ops l→j∈Region.ready md ops l→j≠i→Good (l.setIfInBounds j true)) :
  ∀ (f:Nat) (l:Array Bool) (a:Act) (w:World),Region.free md ops l i=true→i∈Region.ready md ops l→Good l→YieldsIf P ops S' oi v a→Gate st l S w→qaN P md ops Q S st f (l.setIfInBounds i true) (a.put oi.dst v) w→qaN P md ops Q S st (f+1) l a w:=by
 have Hb:=Region.noSelect_spec hns;have Ha:∀ {l:Array Bool} {w:World},Gate st l S w→Gate st (l.setIfInBounds i true) S w:=fun {l w} h h0=>h fun s hs=>by
  have:=h0 s hs
  rwa [zcg true (fun e=>hist (by rw[e];exact hs))]at this
 intro f
 induction f with
 | zero=>
  intro l a w hf hr hg hy hS H;refine⟨fun h=>(by rw[h]at hr;cases hr),fun j hj=>?_⟩;by_cases e:j=i
  ·subst e;exact hy.wpOp hi (hup _ _ hg hS) ⟨Ha hS,H⟩
  ·have h2:=ready_mono hj e;rw[H.1]at h2;cases h2
 | succ f ih=>
  intro l a w hf hr hg hy hS H;refine⟨fun h=>(by rw[h]at hr;cases hr),fun j hj=>?_⟩;by_cases e:j=i
  ·subst e;exact hy.wpOp hi (hup _ _ hg hS) ⟨Ha hS,H⟩
  ·obtain⟨hju,oj,hoj,hall⟩:=zcv.1 hj;have Hf:∀ x∈oj.after,Region.binds md x=true→x.on≠i:=fun x hx hb he=>by
    have h1:=hall x hx hb;have h0:=(zcv.1 hr).1;rw[he]at h1;rcases zcc i l.size with h3|h3
    ·simp[h3]at h0 h1;rw[h0]at h1;cases h1
    ·simp[zaZ h3]at h1
   have h1:=H.2 j (ready_mono hj e);have h2:=wpOp_putIf hoj (Region.free_spec hi hf j oj hoj e hju Hf) (fun cs b=>Hb i oi cs b hi) (fun cs b=>Hb j oj cs b hoj) hQ hy h1;refine wpOp_mono (fun a' w' h3=>?_) h2;rw[Array.setIfInBounds_comm _ _ (fun h=>e h.symm)]at h3;have hG:Gate st (l.setIfInBounds j true) S w':=qfD hist h3.2.1;refine⟨hG,ih _ a' w' ?_ (ready_mono hr (Ne.symm e)) (hgood l j hg hr hj e) h3.1 hG h3.2.2⟩;have Hc:∀ k,k<ops.size→(k==i||(l.setIfInBounds j true).getD k true||match ops[k]? with
     | some ok=>ok.after.any (fun e=>Region.binds md e&&e.on==i)||oi.apart ops ok
     | none=>true)=true:=fun k hk=>by
    have h4:=hf;simp only[Region.free,hi,zbq,za9]at h4;have h5:=h4 k hk;by_cases ek:j=k
    ·subst ek;have He:j<l.size:=by
      rcases zcc j l.size with h6|h6
      ·exact h6
      ·simp[zaZ h6]at hju
     simp[zck,He]
    ·rw[zcg true ek];exact h5
   simp only[Region.free,hi,zbq,za9];exact Hc
def qgQ (md:Region.Mode)(ops:Array Oper)(l:Array Bool)(st:List Nat)(i:Nat):Bool:=
 st.all fun s=>s != i&&!(l.getD s true)&&match ops[s]? with
  | some os=>os.after.toList.any fun e=>Region.binds md e&&e.on==i
  | none=>false
theorem qaW {st:List Nat}{i:Nat}{oi:Oper}(dd:Option Nat){v:Value}{f:Nat}{l:Array Bool}{a:Act}{w:World}(hi:ops[i]?=some oi)(hd:oi.dst=dd)
  (hs:Region.noSelect ops=true)(hf:Region.free md ops l i=true)(hr:(Region.ready md ops l).contains i=true)(hg:qgQ md ops l st i=true)
  (hQ:∀ c a w,Q (.panic c) (a.put dd v) w→Q (.panic c) a w)(hy:YieldsIf P ops S oi v a)(hS:Gate st l S w)
  (h:qaN P md ops Q S st f (l.setIfInBounds i true) (a.put dd v) w):qaN P md ops Q S st (f+1) l a w:=by
 subst hd;simp only[qgQ,zbq,zaQ,bne_iff_ne,zb3]at hg;refine qfC (S':=S) (Good:=fun l=>∀ s∈st,l.getD s true=false) hi hs (fun h0=>(hg i h0).1.1 rfl) hQ (fun l w h0 h1=>h1 h0) (fun l j h0 hri hrj hji s hs2=>?_) f l a w hf (by simpa using hr) (fun s hs2=>(hg s hs2).1.2) hy hS h;by_cases e:j=s
 ·subst e;exfalso;have h3:=(hg j hs2).2;obtain⟨_,oj,hoj,hall⟩:=zcv.1 hrj;rw[hoj]at h3;simp only[List.any_eq_true,zaQ,zbZ]at h3;obtain⟨x,hx,hb,hxi⟩:=h3;have h1:=hall x (Array.mem_toList_iff.1 hx) hb;have h2:=(zcv.1 hri).1;rw[hxi]at h1;rcases zcc i l.size with h4|h4
  ·simp[h4]at h1 h2;rw[h2]at h1;cases h1
  ·simp[zaZ h4]at h1
 ·rw[zcg true e];exact h0 s hs2
theorem qeT {st:List Nat}{i:Nat}{oi:Oper}(dd:Option Nat){v:Value}{f:Nat}{l:Array Bool}{a:Act}{w:World}(hi:ops[i]?=some oi)(hd:oi.dst=dd)
  (hs:Region.noSelect ops=true)(hf:Region.free md ops l i=true)(hr:(Region.ready md ops l).contains i=true)(hg:st.contains i=false)
  (hQ:∀ c a w,Q (.panic c) (a.put dd v) w→Q (.panic c) a w)(hy:YieldsIf P ops (fun _=>True) oi v a)(hS:Gate st l S w)
  (h:qaN P md ops Q S st f (l.setIfInBounds i true) (a.put dd v) w):qaN P md ops Q S st (f+1) l a w:=by
 subst hd;exact qfC (S':=fun _=>True) (Good:=fun _=>True) hi hs (by simpa using hg) hQ (fun _ _ _ _=>trivial) (fun _ _ _ _ _ _=>trivial) f l a w hf (by simpa using hr) trivial hy hS h
def AllReadyG (P:Program)(md:Region.Mode)(ops:Array Oper)(Q:Exit→Act→World→Prop)(S:World→Prop)(st:List Nat)(f:Nat)(l:Array Bool)(a:Act)(w:World)(rs:List Nat):Prop:=
 ∀ i∈rs,wpOp P ops Q i (fun a' w'=>Gate st (l.setIfInBounds i true) S w'∧qaN P md ops Q S st f (l.setIfInBounds i true) a' w') a w
theorem AllReadyG.nil {st:List Nat}{f:Nat}{l:Array Bool}{a:Act}{w:World}:AllReadyG P md ops Q S st f l a w []:=fun _ h=>by cases h
theorem AllReadyG.cons {st:List Nat}{f:Nat}{l:Array Bool}{a:Act}{w:World}{i:Nat}{o:Oper}{rs:List Nat}(ho:ops[i]?=some o)
  (h:∀ K':Act→World→Prop,Shut (∀ a w,Gate st (l.setIfInBounds i true) S w→(Gate st (l.setIfInBounds i true) S w→qaN P md ops Q S st f (l.setIfInBounds i true) a w)→K' a w)→if Region.wanted o (yielded ops a.tmps)=true then Oper.wp P o a w K' Q else K' (a.put o.dst undef) w)
  (hs:AllReadyG P md ops Q S st f l a w rs):AllReadyG P md ops Q S st f l a w (i::rs):=fun j hj=>by
 rcases zaB.1 hj with rfl|hj
 ·exact wpOp_step ho (fun K' hK=>h K' (fun a w hS hW=>hK a w ⟨hS,hW hS⟩))
 ·exact hs j hj
theorem qam {st:List Nat}{rs:List Nat}{f:Nat}{l:Array Bool}{a:Act}{w:World}(hr:Region.ready md ops l=rs)(hne:rs≠[])(h:AllReadyG P md ops Q S st f l a w rs):qaN P md ops Q S st (f+1) l a w:=
 ⟨fun h0=>absurd (hr▸h0) hne,hr▸h⟩
theorem qaf {st:List Nat}{l:Array Bool}{a:Act}{w:World}(hr:Region.ready md ops l=[])(h:Q .normal a w):∀ f,qaN P md ops Q S st f l a w
 | 0=>⟨hr,h⟩
 | _+1=>⟨fun _=>h,by rw[hr];simp⟩
theorem qad (st:List Nat){id:Nat}{a:Act}{w:World}(hm:P.follows .mixedOrders=true)(hS:S w.drew)
  (h:Gate st (Array.replicate ops.size false) S w.drew→qaN P .any ops Q S st ops.size (Array.replicate ops.size false) a w.drew):(Code.region id ops true).wp P Q a w:=
 wp_region_any hm (qaF st _ _ _ _ (h fun _=>hS))
theorem qaD {st:List Nat}{l:Array Bool}{w:World}(s:Nat)(h:st.contains s=true)(h2:l.getD s true=true):Gate st l S w:=fun h0=>by
 have:=h0 s (by simpa using h);rw[h2]at this;cases this
theorem qab {st:List Nat}{l:Array Bool}{w:World}(h:S w):Gate st l S w:=fun _=>h
end
end
end Go.Proofs.YtfcknhbmeofniaaGreatDoor
