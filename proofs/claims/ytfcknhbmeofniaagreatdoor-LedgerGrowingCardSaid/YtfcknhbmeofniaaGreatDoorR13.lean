/- Texts ShD ShE. -/
import Derived.Test.YtfcknhbmeofniaaGreatDoorR12
import Derived.Deep.CutBlock
set_option linter.all false
set_option maxRecDepth 100000
set_option maxHeartbeats 16000000
namespace Go.Proofs.YtfcknhbmeofniaaGreatDoor
open Go.RowKit BT
variable {w:World}{B s n:Nat}{t e:TypeId}{A:Option Addr}{P:Program}{i:TypeInfo}
def stC (h:V8)(rv:Value)(n:Nat):List Value:=wsv h.l++[rv,.int .u64 (n:Int)]
structure StO (w:World) (B s:Nat) (l:Bs):Prop where
 lo:B≤s
 len:l.length<64
 ex:∃ A c,w.heap[s]?=some (.cells (stC startS (.slice A l.length c) l.length).toArray 181 (0,0))∧Own w B 5 1 (.slice A l.length c) l.length (bv l)∧∀ b,(Value.slice A l.length c).ownBlock=some b→b≠s
structure StR (w:World) (B s:Nat) (l:Bs):Prop where
 lo:B≤s
 ex:∃ A c,w.heap[s]?=some (.cells (stC (qap startS l) (.slice A (tailS l).length c) l.length).toArray 181 (0,0))∧By w A (tailS l)
theorem Kon.below {w':World}(h:Kon w)(hB:1<B)(hb:Below B w w'):Kon w':=fun t ht=>(hb.cell (p:=⟨1,t,none⟩) hB).trans (h t ht)
theorem Kon.lt (h:Kon w):1<w.heap.size:=zav w ⟨1,0,none⟩ (h 0 (by omega))
theorem qd6 (w:World):Calls Tryz.prog 59 #[] w fun e w'=>∃ s,e=.returned (.pointer (some ⟨s,0,none⟩))∧StO w' w.heap.size s []∧Below w.heap.size w w':=by
 have HS:=zH (qhm w);go_enter Tryz.func59,Tryz.ntmps59
 go_wp2_with (go_at_call 94;refine HS.o.mono ?_;rintro e w1 ⟨rfl,hb1⟩;have Ha:=zH hb1;clear hb1)
 go_ret;refine⟨w1.heap.size,rfl,⟨Ha.o.size,by simp,none,0,?_,Own.nil ..,fun b e=>by cases e⟩,Ha.o.alloc Ha.o.size _⟩;rw[zae];rfl
theorem qa8 {h:V8}{rv:Value}(hb:w.heap[s]?=some (.cells (stC h rv n).toArray t (0,0))) :
  w.cell? ⟨s,8,none⟩=some rv∧w.cell? ⟨s,9,none⟩=some (.int .u64 (n:Int))∧w.rangeAt s 0 (wsv h.l)∧(∀ j,w.frozen? ⟨s,j,none⟩=false)∧w.there s 0 8:=by
 refine⟨zC hb,zC hb,fun j v hv=>?_,fun j=>zbk _ _ _ _ _ hb,there_of_block hb 0 (by simp[stC,wsv,qa9])⟩;rw[zaF,zao _ _ _ _ _ _ hb];simp only[zbg];unfold stC;rw[zaH (zac.1 hv).1];exact hv
structure ShWr (w wr:World) (B s N:Nat) (L:Bs) (A:Option Addr) (c q:Nat) (h:V8) (r:Bs):Prop where
 box:wr.heap[s]?=some (.cells (stC h (.slice A q c) N).toArray 181 (0,0))
 hq:r.length=q
 hc:q≤c
 by_:By wr A r
 ap:∀ ad,A=some ad→0<q→ad.block≠s
 bk:qap h r=qap startS L
 tl:tailS r=tailS L
 bl:Below B w wr
 own:L.length<64→h=startS∧r=L∧Own wr B 5 1 (.slice A q c) q (bv r)∧∀ b,(Value.slice A q c).ownBlock=some b→b≠s
theorem Row.capn {base c:Nat}{size:Nat}{xs:List Value}(h:Row w base e size (.slice A n c) n xs):n≤c:=by
 rcases h with h|⟨_,e,h0,_⟩
 ·rcases h.2 with⟨_,h0⟩|⟨g,cap,cur,e,_,_,hnc,_⟩
  ·omega
  ·cases e;exact hnc
 ·omega
def lenOf:Option Value→Nat
 | some (.slice _ n _)=>n
 | _=>0
theorem qeI (ht:P.underlying t=some (.slice e))(hi:P.info? e=some i)(b off n c k:Nat)(h2:k≤c)(W:World) :
  (Instr.slice t (.slice (some ⟨b,off,none⟩) n c) none (some (.int .i64 (k:Int))) none).run P W=.ok (.slice (some ⟨b,off,none⟩) k c) W:=by
 have e1:(k:Int)≤(c:Int):=by omega
 simp[Instr.slice,Instr.sliceBounds,Instr.sliceBound,asIntOf,zaU ht,sizeOf,typeInfo,hi,go_sem];intro h;omega
theorem qif (ht:P.underlying t=some (.slice e))(hi:P.info? e=some i)(b off n c lo:Nat)(h1:lo≤n)(h2:n≤c) :
  ∃ A:Option Addr,(lo<n→A=some ⟨b,off+lo*i.size,none⟩)∧∀ W,(Instr.slice t (.slice (some ⟨b,off,none⟩) n c) (some (.int .i64 (lo:Int))) none none).run P W=.ok (.slice A (n-lo) (c-lo)) W:=by
 by_cases hc:c=lo
 ·refine⟨some ⟨b,off,none⟩,fun h=>by omega,fun W=>?_⟩;have e1:(lo:Int)≤(n:Int):=by omega
  subst hc;simp[Instr.slice,Instr.sliceBounds,Instr.sliceBound,asIntOf,zaU ht,sizeOf,typeInfo,hi,go_sem];intro h;omega
 ·refine⟨some ⟨b,off+lo*i.size,none⟩,fun _=>rfl,fun W=>?_⟩;have e1:(lo:Int)≤(n:Int):=by omega
  simp[Instr.slice,Instr.sliceBounds,Instr.sliceBound,asIntOf,zaU ht,sizeOf,typeInfo,hi,hc,go_sem];intro h;omega
theorem qc1 (b off n c:Nat)(hn:64≤c)(W:World):(Instr.slice 40 (.slice (some ⟨b,off,none⟩) n c) none (some (.int .i64 64)) none).run Tryz.prog W=.ok (.slice (some ⟨b,off,none⟩) 64 c) W:=by
 obtain⟨i0,hi0,_⟩:=zaY qcu;exact qeI Tryz.underlying40 hi0 b off n c 64 hn W
theorem qeo (b off n c:Nat)(h1:64≤n)(h2:n≤c):∃ A:Option Addr,(64<n→A=some ⟨b,off+64,none⟩)∧∀ W,(Instr.slice 40 (.slice (some ⟨b,off,none⟩) n c) (some (.int .i64 64)) none none).run Tryz.prog W=.ok (.slice A (n-64) (c-64)) W:=by
 obtain⟨i0,hi0,hz0,hz1,hz2⟩:=zaY qcu;exact qjr Tryz.underlying40 hi0 hz1 b off n c 64 h1 h2
theorem qbo {l b:Bs}(h:StO w B s l)(A:Option Addr)(n c:Nat)(hb:By w A b)(hn:b.length=n)(hk:Kon w)(hkB:1<B)(hBw:B≤w.heap.size)(hlen:l.length+n≤140737488355328)(hA:∀ ad,A=some ad→0<n→ad.block≠s) :
  Calls Tryz.prog 60 #[.pointer (some ⟨s,0,none⟩),.slice A n c] w fun e w'=>e=.returned (.tuple #[])∧StR w' B s (l++b)∧(l.length+n<64→StO w' B s (l++b))∧Below B w w':=by
 obtain⟨i0,hi0,hz0,hz1,hz2⟩:=zaY qcu;obtain⟨A0,c0,hbox,hown,hne⟩:=h.ex;obtain⟨ln,hln⟩:∃ n,l.length=n:=⟨_,rfl⟩;rw[hln]at hbox hown hne hlen;obtain⟨m8,m9,_,mf,_⟩:=qa8 hbox;obtain⟨N,hN⟩:∃ N,ln+n=N:=⟨_,rfl⟩;have eN:(ln:Int)+(n:Int)=(N:Int):=by omega
 have H4:(N:Int)≤140737488355328:=by omega
 have wN:IntKind.u64.wrap (n:Int)=(n:Int):=zbL _ (by omega);have H8:=mf 9;have Hp:s<w.heap.size:=(zaa.1 hbox).1;have Hi:=zH h.lo;obtain⟨w1,hw1⟩:∃ w1,w.setCell ⟨s,9,none⟩ (.int .u64 (N:Int))=w1:=⟨_,rfl⟩;have Hq:=zH (show Below B w w1 by rw[←hw1];exact(zai _ _).setCell Hi.o _);have Hb:w1.heap[s]?=some (.cells (stC startS (.slice A0 ln c0) N).toArray 181 (0,0)):=by rw[←hw1];exact qac hbox _
 have Hh:Touch (fun x=>x=s) w w1:=by rw[←hw1];exact(Touch.refl (fun x=>x=s) w).setCell (p:=⟨s,9,none⟩) rfl _
 have Hr:=zH (show Own w1 B 5 1 (.slice A0 ln c0) ln (bv l)from⟨hown.row.keep fun b hb hl=>Hh.block b hl (hne b hb),fun b hb=>⟨(hown.blk b hb).1,zag (hown.blk b hb).2 Hh.size⟩⟩);have HZ:=zH (show Src w1 1 A n (bv b)by
  have:By w1 A b:=⟨fun h0=>by
   obtain⟨bb,off,e,h1,h2⟩:=hb.at_ h0;refine⟨bb,off,e,zag h1 Hh.size,fun k x hx=>?_⟩;rw[←h2 k x hx];unfold World.cell?;rw[Hh.block bb h1 (hA _ e (by omega))]⟩
  have:=this.src
  rwa [hn]at this)
 obtain⟨k8,_,_,kf,_⟩:=qa8 Hb;have HO:=kf 8;have Hx:=zH (show B≤w1.heap.size from zam hBw Hh.size);have HG:=zH (show s<w1.heap.size from zag Hp Hh.size);have Hj:=zH Hb;have HF:=zH hne;have HK:=zH hk;have HR:=zH hBw;have HU:=zH hkB;have He:=zH (And.intro hln (And.intro hn hN));clear h hb hn hk hkB hBw hlen hA hbox hown hne hln hN mf kf Hp Hb Hh;go_enter Tryz.func60,Tryz.ntmps60
 go_upto_region 1 with fail
 have ha:=zH hw1;clear hw1 m8 m9 H8;go_wp2_with (first
  | (at_builtin;go_loud (refine qba rfl (.tmp 18) (.tmp 19) 40 rfl B 5 i0 _ 1 1 Tryz.underlying40 hi0 hz0 hz1 hz2 rfl (by decide) (.slice A0 ln c0) ln (bv l) rfl Hr.o.row A n c (bv b) rfl HZ.o (qak _) (by unfold maxLen;omega) (by omega) Hx.o ?_;intro A4 c4 w4 ho4 hg4 hn4;have Hc:=(hg4.block s HG.o (fun e=>HF.o s e.symm rfl)).trans Hj.o;obtain⟨k8,_,_,kf,_⟩:=qa8 Hc;have HO:=kf 8;have HW:=zH ho4;have HD:=zH hg4;have HE:=zH hn4;have Hk:=zH Hc;clear ho4 hg4 hn4 Hc kf)))
 go_loopw [] (fun wr=>∃ A c q h r,ShWr w wr B s N (l++b) A c q h r) (fun wr=>lenOf (wr.cell? ⟨s,8,none⟩))
 case atStart=>
  have H7:Below B w1 w4:=zb0 (zai B w1) HD.o Hx.o (fun b hb=>(Hr.o.blk b hb).1);have H6:Touch (fun x=>x=s) w4 (w4.setCell ⟨s,8,none⟩ (.slice A4 (ln+n) c4)):=(Touch.refl (fun x=>x=s) w4).setCell (p:=⟨s,8,none⟩) rfl _;have Hs:=HW.o;rw[←qao]at Hs;have Hg:∀ b,(Value.slice A4 (ln+n) c4).ownBlock=some b→b≠s:=fun x hx=>by
   rcases HE.o x hx with h1|h1
   ·exact HF.o x h1
   ·have:=HG.o;omega
  have HI:∀ b,(Value.slice A4 (ln+n) c4).ownBlock=some b→B≤b∧b<w4.heap.size:=fun x hx=>by
   rcases HE.o x hx with h1|h1
   ·exact⟨(Hr.o.blk x h1).1,zag (Hr.o.blk x h1).2 HD.o.size⟩
   ·exact⟨zam Hx.o h1.1,h1.2⟩
  have Ho:Row (w4.setCell ⟨s,8,none⟩ (.slice A4 (ln+n) c4)) B 5 1 (.slice A4 (ln+n) c4) (ln+n) (bv (l++b)):=Hs.keep fun x hx hl=>H6.block x hl (Hg x hx);have hlen:(l++b).length=ln+n:=by rw[zaf,He.o.1,He.o.2.1]
  refine⟨A4,c4,ln+n,startS,l++b,?_,hlen,?_,By.of_own Ho hlen,fun ad e h0=>?_,rfl,rfl,(Hq.o.trans H7).setCell Hi.o _,fun _=>⟨rfl,rfl,⟨Ho,fun x hx=>⟨(HI x hx).1,by have:=(HI x hx).2;simpa using this⟩⟩,Hg⟩⟩
  ·exact qac Hk.o _
  ·exact Hs.capn
  ·obtain⟨g,e2,_⟩:=Hs.own h0;rw[e2]at e;cases e;exact Hg g (by rw[e2];rfl)
 case round=>
  rename World=>wr;obtain⟨A5,c5,q,h,r,hm⟩:=hrel;obtain⟨g8,g9,gR,gf,gT⟩:=qa8 hm.box;by_cases hlt:64≤q
  ·have Hz:(64≤(q:Int)):=by omega
   obtain⟨b5,o5,rfl,hb5,hc5⟩:=hm.by_.at_ (by rw[hm.hq];omega);have HJ:=hm.hc;have hd:=qc1 b5 o5 q c5 (by omega);obtain⟨A6,hA6,hs6⟩:=qeo b5 o5 q c5 hlt HJ;obtain⟨W0,hW0⟩:∃ W0,wr.drew=W0:=⟨_,rfl⟩;have Ha:=zH (show W0.cell? ⟨s,8,none⟩=some (.slice (some ⟨b5,o5,none⟩) q c5)∧W0.rangeAt s 0 (wsv h.l)by rw[←hW0];exact⟨g8,gR⟩);have HC:=zH (show W0.heap[s]?=some (.cells (stC h (.slice (some ⟨b5,o5,none⟩) q c5) N).toArray 181 (0,0))by rw[←hW0];exact hm.box);have Ht:=zH (show Below B w W0 by rw[←hW0];exact hm.bl.drew);have HY:=zH (show By W0 (some ⟨b5,o5,none⟩) r by rw[←hW0];exact hm.by_.below (zai _ _).drew);have Hw:=zH (qfO h (some ⟨b5,o5,none⟩) c5 (r.take 64) W0 (HY.o.take 64) (by rw[zaj,hm.hq];omega) (HK.o.below HU.o Ht.o) (by omega));have H2:=zH (show(wsv h.l).length=8 from rfl);obtain⟨h2,hh2⟩:∃ x,pieceS h (r.take 64)=x:=⟨_,rfl⟩;rw[hh2]at Hw;have HT:=zH hh2;obtain⟨L2,hL2⟩:∃ x,wsv h2.l=x:=⟨_,rfl⟩;rw[hL2]at Hw;have HV:=zH hL2;have HH:=zH (show L2.toArray.size=8 by rw[←hL2];rfl);have HX:=zH (show ∀ v∈L2,v.oneCell'=true by rw[←hL2];exact wsv_one _);have HM:=zH hm;have HL:=zH hlt;clear hm hlt gR gT g9 gf hb5 hc5 HJ hh2 hL2;go_upto_region 3 with fail
   clear g8;refine qad (S:=fun W'=>W'.cell? ⟨s,8,none⟩=some (.slice (some ⟨b5,o5,none⟩) q c5)∧W'.rangeAt s 0 (wsv h.l)) [13] (by kernel_rfl) (by rw[hW0];exact Ha.o) (fun _=>?_);rw[hW0];have H9:=zH hW0;clear hW0;refine zP 0 29 (.pointer (some ⟨s,0,none⟩)) Ha.o ?_;try simp only[zS]
   refine zP 1 30 (.pointer (some ⟨s,0,none⟩)) Ha.o ?_;try simp only[zS]
   refine zP 2 31 (.pointer (some ⟨s,0,none⟩)) Ha.o ?_;try simp only[zS]
   refine zP 3 32 (.pointer (some ⟨s,0,none⟩)) Ha.o ?_;try simp only[zS]
   refine qaW (i:=4) (some 33) (v:=.agg (wsv h.l).toArray) rfl rfl (by kernel_rfl) (by kernel_rfl) (by kernel_rfl) (by kernel_rfl) (fun _ _ _ h=>h) (yieldsIf_load_mid (by rfl) 178 (.tmp 32) rfl s 0 rfl (wsv h.l) _ (fun W' hS=>hS.2) Tryz.underlying178 rfl (by rw[H2.o];kernel_rfl)) (qab Ha.o) ?_;try simp only[zS]
   refine zP 5 34 (.pointer (some ⟨s,0,none⟩)) Ha.o ?_;try simp only[zS]
   refine zP 6 35 (.pointer (some ⟨s,0,none⟩)) Ha.o ?_;try simp only[zS]
   refine zP 7 36 (.pointer (some ⟨s,8,none⟩)) Ha.o ?_;try simp only[zS]
   refine zL 8 37 (.slice (some ⟨b5,o5,none⟩) q c5) rfl (Or.inl ⟨by rfl,fun W' hS=>by obtain⟨hS1,hS2⟩:=hS;go_simp⟩) (qab Ha.o) ?_;try simp only[zS]
   refine zP 9 38 (.slice (some ⟨b5,o5,none⟩) 64 c5) Ha.o ?_;try simp only[zS]
   refine zE 10 39 rfl (fun Kr hKr=>?_);go_simp;go_at_call 95
   refine Hw.o.mono ?_;rintro e W1 ⟨rfl,hb1⟩;have Hq:=zH hb1;have Hf:=(hb1.block s (zaa.1 HC.o).1).trans HC.o;obtain⟨k8,k9,kR,kf,kT⟩:=qa8 Hf;have Hv:=zH (show W1.cell? ⟨s,8,none⟩=some (.slice (some ⟨b5,o5,none⟩) q c5)∧W1.rangeAt s 0 (wsv h.l)from⟨k8,kR⟩);have H0:=zH kT;have Hu:=zH Hf;clear hb1 Hf k8 k9 kR kf kT;refine hKr.out (.agg L2.toArray) _ (qab Hv.o) (fun _=>?_);clear hKr Kr;try simp only[zS]
   refine zP 11 40 (.pointer (some ⟨s,0,none⟩)) Hv.o ?_;try simp only[zS]
   refine zP 12 41 (.pointer (some ⟨s,0,none⟩)) Hv.o ?_;try simp only[zS]
   refine qam (rs:=[13]) (by kernel_rfl) (by simp) ?_;refine AllReadyG.ev none rfl rfl (fun Kr hKr=>?_) AllReadyG.nil;refine Eq.mpr (zax (by rfl)) ?_;refine wp_store_mid 178 (.tmp 41) (.tmp 39) rfl s 0 L2.toArray rfl rfl (by rw[HH.o];exact H0.o) (by rw[HH.o];kernel_rfl) (all_oneCell_toArray HX.o) ?_;obtain⟨W2,hW2⟩:∃ W2,W1.setCells s 0 L2.toArray.toList=W2:=⟨_,rfl⟩;have Hm:W2.heap[s]?=some (.cells (stC h2 (.slice (some ⟨b5,o5,none⟩) q c5) N).toArray 181 (0,0)):=by
    rw[←hW2,←HV.o];exact heap_setCells (wsv h2.l) 0 W1 _ Hu.o (by simp[stC,wsv,qa9])
   have Hl:=zH Hm;have H1:=zH (show Touch (fun x=>x=s) W1 W2 by rw[←hW2];exact qaB (F:=fun x=>x=s) rfl _ _);have HP:=zH (show Below B w W2 by rw[←hW2];exact below_setCells (Ht.o.trans (Hq.o.mono (zam HR.o Ht.o.size))) Hi.o _ _);rw[hW2];clear Hm hW2;refine hKr.out _ _ (qaD 13 (by rfl) (by kernel_rfl)) (fun _=>?_);clear hKr Kr;try simp only[zS]
   refine qaf (by kernel_rfl) ?_ _;obtain⟨k8,k9,kR,kf,kT⟩:=qa8 Hl.o;have HO:=kf 8;clear k9 kR kT kf;have Hy:=HM.o.ap ⟨b5,o5,none⟩ rfl (by have:=HL.o;omega);have HB:=zH Hy;have HN:By W2 (some ⟨b5,o5,none⟩) r:=(HY.o.below Hq.o).touch H1.o (fun ad e=>by cases e;exact Hy);have H3:=zH HN;have HQ:=zH HM.o.hq;have HA:=zH hA6;have HS:=zH HM.o.hc;clear Hy HN hA6;go_wp2;have hq:=HL.o;have H5:Touch (fun x=>x=s) W2 (W2.setCell ⟨s,8,none⟩ (.slice A6 (q-64) (c5-64))):=(Touch.refl (fun x=>x=s) W2).setCell (p:=⟨s,8,none⟩) rfl _;have Hn:(W2.setCell ⟨s,8,none⟩ (.slice A6 (q-64) (c5-64))).heap[s]?=some (.cells (stC h2 (.slice A6 (q-64) (c5-64)) N).toArray 181 (0,0)):=qac Hl.o _;refine⟨⟨A6,c5-64,q-64,h2,r.drop 64,Hn,by rw[zap,HQ.o],by have:=HS.o;omega,?_,fun ad e h0=>?_,?_,?_,HP.o.setCell Hi.o _,fun hl=>?_⟩,?_⟩
   ·by_cases h0:64<q
    ·have:=(H3.o.drop 64).touch (F:=fun x=>x=s) H5 (fun ad e=>by cases e;exact HB.o)
     rwa [←HA.o h0]at this
    ·have:r.drop 64=[]:=za0 (by rw[HQ.o];omega);rw[this];exact By.nil _ _
   ·rw[HA.o (by omega)]at e;cases e;exact HB.o
   ·rw[←HM.o.bk,qbN (v:=h) (l:=r) (by rw[HQ.o];exact hq),HT.o]
   ·rw[←HM.o.tl]
    conv=>rhs;rw[←zay 64 r]
    rw[qlK 1 _ _ (by rw[zaj,HQ.o];omega)]
   ·obtain⟨_,e,_⟩:=HM.o.own hl;rw[←e,HQ.o]at hl;omega
   ·rw[(qa8 Hn).1,(qa8 HM.o.box).1];simp[lenOf];omega
  ·have Hz:¬(64≤(q:Int)):=by omega
   have HM:=zH hm;have HL:=zH hlt;clear hm hlt gR gT;go_wp2;go_returns;have hr:r.length<64:=by have:=HM.o.hq;have:=HL.o;omega
   have e1:qap startS (l++b)=h:=by rw[←HM.o.bk,qbF hr]
   have e2:tailS (l++b)=r:=by rw[←HM.o.tl,qjB hr]
   have hN:(l++b).length=N:=by rw[zaf,He.o.1,He.o.2.1];exact He.o.2.2
   refine⟨rfl,⟨Hi.o,A5,c5,?_,by rw[e2];exact HM.o.by_⟩,fun hl=>?_,HM.o.bl⟩
   ·rw[e1,e2,HM.o.hq,hN];exact HM.o.box
   ·obtain⟨k1,k2,k3,k4⟩:=HM.o.own (by rw[zaf];have:=He.o;omega);have hq:(l++b).length=q:=by rw[←k2];exact HM.o.hq
    refine⟨Hi.o,by rw[zaf];have:=He.o;omega,A5,c5,?_,by rw[hq,←k2];exact k3,by rw[hq];exact k4⟩;have:=HM.o.box;rw[k1]at this;rw[hq];rw[show N=q by omega]at this;exact this
structure SmL (w W0 wr:World) (A:Option Addr) (n c:Nat) (bs:Bs):Prop where
 own:Own wr (w.heap.size+1) 5 1 (.slice A n c) n (bv bs)
 hn:bs.length=n
 bl:Below (w.heap.size+1) W0 wr
theorem SmL.size {W0 wr:World}{c:Nat}{bs:Bs}(h:SmL w W0 wr A n c bs)(h0:W0.heap.size=w.heap.size+1):w.heap.size+1≤wr.heap.size:=by have:=h.bl.size;omega
theorem qcS (M i:Nat)(h:i<8):(numB M 8).take (i+1)=(numB M 8).take i++[qbI M i]:=by
 have hl:=qan M 8 (zad _);rw[zaw (by omega)];congr 2;simp[numB]
structure SmP (w W0 wr:World) (H:Nat) (A:Option Addr) (n c:Nat) (h:V8) (r:Bs) (fin:V8):Prop where
 by_:By wr A r
 hn:r.length=n
 hc:n≤c
 m64:n % 64=0
 ap:∀ ad,A=some ad→0<n→ad.block≠H
 box:wr.heap[H]?=some (.cells (wsv h.l).toArray 178 (0,0))
 bk:qap h r=fin
 bl:Below (w.heap.size+1) W0 wr
theorem qd7 {l:Bs}(h:StR w B s l)(hk:Kon w)(hlen:l.length≤140737488355328) :
  Calls Tryz.prog 61 #[.pointer (some ⟨s,0,none⟩)] w fun e w'=>e=.returned (.agg (bv (shaS l)).toArray)∧Below w.heap.size w w':=by
 obtain⟨I0,hi0,hz0,hz1,hz2⟩:=zaY qcu;obtain⟨A0,c0,hbox,hby⟩:=h.ex;obtain⟨q,hq⟩:∃ q,(tailS l).length=q:=⟨_,rfl⟩;obtain⟨N,hN⟩:∃ N,l.length=N:=⟨_,rfl⟩;have ha:q=N % 64:=by rw[←hq,←hN,qgA]
 have Hk:s<w.heap.size:=(zaa.1 hbox).1;rw[hq,hN]at hbox;rw[hN]at hlen;obtain⟨W0,hW0⟩:∃ W0,w.alloc (.cells #[Value.int .u8 0,Value.int .u8 0,Value.int .u8 0,Value.int .u8 0,Value.int .u8 0,Value.int .u8 0,Value.int .u8 0,Value.int .u8 0,Value.int .u8 0,Value.int .u8 0,Value.int .u8 0,Value.int .u8 0,Value.int .u8 0,Value.int .u8 0,Value.int .u8 0,Value.int .u8 0,Value.int .u8 0,Value.int .u8 0,Value.int .u8 0,Value.int .u8 0,Value.int .u8 0,Value.int .u8 0,Value.int .u8 0,Value.int .u8 0,Value.int .u8 0,Value.int .u8 0,Value.int .u8 0,Value.int .u8 0,Value.int .u8 0,Value.int .u8 0,Value.int .u8 0,Value.int .u8 0] 34)=W0:=⟨_,rfl⟩;have Ht:W0.heap.size=w.heap.size+1:=by rw[←hW0];simp
 have Hq:Below w.heap.size w W0:=by rw[←hW0];exact zB _ _
 have Hs:W0.heap[w.heap.size]?=some (.cells (List.replicate 32 (Value.int .u8 0)).toArray 34 (0,0)):=by rw[←hW0];exact zae w _
 have Hc:W0.heap[s]?=some (.cells (stC (qap startS l) (.slice A0 q c0) N).toArray 181 (0,0)):=(Hq.block s Hk).trans hbox;obtain⟨m8,m9,mR,_,_⟩:=qa8 Hc;have Hu:=zH Hc;have HH:=zH Hs;have hf:=zH Hq;have Hb:=zH Ht;have Hv:=zH Hk;have HK:=zH (hk.below hk.lt Hq);have HY:=zH (show Src W0 1 A0 q (bv (tailS l))by have:=(hby.below Hq).src;rwa [hq]at this);have HQ:=zH (And.intro hq (And.intro hN ha));have hU:=zH (qlG l);have Kb:q≤63:=by omega
 have a0:Own (W0.alloc (.cells #[] 5)) (w.heap.size+1) 5 1 (.slice (some ⟨W0.heap.size,0,none⟩) 0 0) 0 []:=Own.empty _ _ _ _ W0.heap.size 0 (by omega) (by simp);have hd:=zH a0;clear h hk hbox hby Hk Hq Hs Hc mR hq hN ha a0 Ht;go_enter Tryz.func61,Tryz.ntmps61
 go_upto_region 1 with fail
 clear hW0;have hY:s<W0.heap.size:=by have:=Hv.o;have:=Hb.o;omega
 go_wp2_with (first
  | (at_builtin;go_loud (refine qai rfl (.tmp 6) (.tmp 10) 40 rfl (w.heap.size+1) 5 I0 _ 1 1 Tryz.underlying40 hi0 hz0 hz1 hz2 rfl (by decide) (.slice (some ⟨W0.heap.size,0,none⟩) 0 0) 0 [] rfl hd.o A0 q c0 (bv (tailS l)) rfl (HY.o.below (fun ad e h0=>HY.o.lt ad e h0) (zB _ _)) (qak _) (by unfold maxLen;omega) (by omega) (by have:=Hb.o;simp;omega) ?_;intro A1 c1 w1 ho1 hb1;rw[zaF,zaI]at ho1;rw[zaF];have hA:=zH ho1;have Hm:=zH hb1;clear ho1 hb1))
  | (at_builtin;go_loud (refine qai rfl (.tmp 12) (.tmp 13) 40 rfl (w.heap.size+1) 5 I0 _ 1 1 Tryz.underlying40 hi0 hz0 hz1 hz2 rfl (by decide) (.slice A1 q c1) q _ rfl (hA.o.below (zad _) (zB _ _)) (some ⟨w1.heap.size,0,none⟩) 1 1 [.int .u8 128] rfl (qas (zae w1 _) rfl) (by simp[Value.oneCell']) (by unfold maxLen;omega) (by omega) (by have:=Hb.o;have:=Hm.o.size;simp at this⊢;omega) ?_;intro A2 c2 w2 ho2 hb2;have hB:=zH ho2;have Hw:=zH hb2;clear ho2 hb2)))
 obtain⟨z,hz⟩:∃ z,(119-N % 64) % 64=z:=⟨_,rfl⟩;have HU:(q+1+z) % 64=56∧z≤63∧∀ j,j<z→(q+1+j) % 64≠56:=by have:=HQ.o.2.2;exact⟨by omega,by omega,fun j hj=>by omega⟩
 have hD:=zH HU;have HZ:=zH hz;have Kc:z≤63:=HU.2.1;clear hz HU;have hb:SmL w W0 w2 A2 (q+1) c2 (tailS l++128::zeros 0):=⟨by
  have:=hB.o;rw[show bv (tailS l)++[Value.int .u8 128]=bv (tailS l++128::zeros 0)by rw[qao];rfl]at this;exact this,by rw[zaf,HQ.o.1];rfl,by
  have h1:Below (w.heap.size+1) W0 (W0.alloc (.cells #[] 5)):=(zai _ _).alloc (by have:=Hb.o;omega) _;have h2:=h1.trans Hm.o;exact(h2.alloc (by have:=h2.size;have:=Hb.o;omega) _).trans Hw.o⟩
 go_loopw [3] (fun v wr=>∃ (j n:Nat) (A:Option Addr) (c:Nat),v=.slice A n c∧n=q+1+j∧j≤z∧SmL w W0 wr A n c (tailS l++128::zeros j)) (fun v _=>200-lenOf (some v))
 case atStart=>exact⟨0,q+1,A2,c2,rfl,rfl,by omega,hb⟩
 case round=>
  rename World=>wr;obtain⟨j,n,A3,c3,rfl,hn,hj,hm⟩:=hrel;clear hb;have hZ:(n:Int)≤200:=by omega
  have Hh:=hD.o;by_cases Ha:j<z
  ·have ht:=Hh.2.2 j Ha;rw[←hn]at ht;have t1:((n:Int) % 64 != 56)=true:=by rw[bne,show((n:Int) % 64==56)=false by rw[zaN];omega];rfl
   have HM:=zH hm;have HJ:=zH (And.intro Ha hn);have He:=zH (hm.size Hb.o);clear hm Ha hj hn Hh ht;go_wp2_with (at_builtin;go_loud (refine qai rfl (.tmp 19) (.tmp 20) 40 rfl (w.heap.size+1) 5 I0 _ 1 1 Tryz.underlying40 hi0 hz0 hz1 hz2 rfl (by decide) (.slice A3 n c3) n _ rfl (HM.o.own.below (zad _) (zB _ _)) (some ⟨wr.heap.size,0,none⟩) 1 1 [.int .u8 0] rfl (qas (zae wr _) rfl) (by simp[Value.oneCell']) (by unfold maxLen;omega) (by omega) (by have:=He.o;simp;omega) ?_;intro A4 c4 w4 ho4 hb4;have HE:=zH ho4;have Hx:=zH hb4;clear ho4 hb4))
   have HT:=HJ.o;refine⟨⟨j+1,n+1,A4,c4,rfl,by omega,by omega,⟨?_,?_,(HM.o.bl.alloc He.o _).trans Hx.o⟩⟩,by simp[lenOf];omega⟩
   ·have:=HE.o;rw[show bv (tailS l++128::zeros j)++[Value.int .u8 0]=bv (tailS l++128::zeros (j+1))by
     rw[show zeros (j+1)=zeros j++[0]by unfold zeros;rw[List.replicate_succ'],qao,qao];simp[bv]]at this
    exact this
   ·have:=HM.o.hn;simp only[zaf,zal,zeros_len]at this⊢;omega
  ·have ht:n % 64=56:=by
    have e:j=z:=by omega
    rw[hn,e];exact Hh.1
   have t1:((n:Int) % 64 != 56)=false:=by rw[bne,show((n:Int) % 64==56)=true by rw[zbZ];omega];rfl
   have H7:SmL w W0 wr A3 n c3 (tailS l++128::zeros z):=by
    have e:j=z:=by omega
    rwa [e]at hm
   have hy:=zH ht;clear hm Ha hj hn Hh ht;obtain⟨n0,hn0⟩:∃ x,n=x:=⟨_,rfl⟩;have H9:n0≤200:=by omega
   obtain⟨M,hM⟩:∃ M,8*N=M:=⟨_,rfl⟩;have e8:8*(N:Int)=(M:Int):=by omega
   have M0:(M:Int)≤1125899906842624:=by omega
   have hu:=zH hM;have H8:SmL w W0 wr A3 n c3 ((tailS l++128::zeros z)++(numB M 8).take 0):=by simpa using H7
   have hw:=zH hn0;clear H7 hn0 hM;go_wp2;go_loopw [3,22] (fun v i wr=>∃ (i' n:Nat) (A:Option Addr) (c:Nat),i=.int .i64 i'∧i'≤8∧v=.slice A n c∧n=n0+i'∧SmL w W0 wr A n c ((tailS l++128::zeros z)++(numB M 8).take i')) (fun _ i _=>8-(intOf i).toNat)
   case atStart=>exact⟨0,n,A3,c3,rfl,by omega,rfl,hw.o,H8⟩
   case round=>
    rename World=>wr;obtain⟨i,n,A3,c3,rfl,hi,rfl,hn,hm⟩:=hrel;clear H8;by_cases Ha:i<8
    ·have i0:(i:Int)<8:=by omega
     obtain⟨m,hm56⟩:∃ m,56-8*i=m:=⟨_,rfl⟩;have e6:56-8*(i:Int)=(m:Int):=by omega
     have m0:(m:Int)≤56:=by omega
     have Ka:n≤300:=by omega
     have k9:wr.cell? ⟨s,9,none⟩=some (.int .u64 (N:Int)):=(hm.bl.cell (p:=⟨s,9,none⟩) (by have:=Hv.o;show s<_;omega)).trans m9;have HB:=zH (show(M:Int) / 2 ^ m % 256=((qbI M i).toNat:Int)by unfold qbI;rw[hm56];exact qdk M m);have HM:=zH hm;have HJ:=zH (And.intro Ha hn);have He:=zH (hm.size Hb.o);have h9:s<wr.heap.size:=by have:=He.o;have:=Hv.o;omega
     clear hm Ha hi hn hm56;go_wp2_with (at_builtin;go_loud (refine qai rfl (.tmp 25) (.tmp 36) 40 rfl (w.heap.size+1) 5 I0 _ 1 1 Tryz.underlying40 hi0 hz0 hz1 hz2 rfl (by decide) (.slice A3 n c3) n _ rfl (HM.o.own.below (zad _) (zB _ _)) (some ⟨wr.heap.size,0,none⟩) 1 1 [.int .u8 ((M:Int) / 2 ^ m % 256)] rfl (qas (zae wr _) rfl) (by simp[Value.oneCell']) (by unfold maxLen;omega) (by omega) (by have:=He.o;simp;omega) ?_;intro A4 c4 w4 ho4 hb4;have HE:=zH ho4;have Hx:=zH hb4;clear ho4 hb4))
     have HT:=HJ.o;refine⟨⟨i+1,n+1,A4,c4,by go_num,by omega,rfl,by omega,⟨?_,?_,(HM.o.bl.alloc He.o _).trans Hx.o⟩⟩,by simp[intOf];omega⟩
     ·have:=HE.o;rw[HB.o,show bv ((tailS l++128::zeros z)++(numB M 8).take i)++[Value.int .u8 ((qbI M i).toNat:Int)]=bv ((tailS l++128::zeros z)++(numB M 8).take (i+1))by
       rw[qcS M i HT.1,←zah,qao _ [qbI M i]];rfl]at this
      exact this
     ·have:=HM.o.hn;rw[qcS M i HT.1];simp only[zaf,zal,zbl]at this⊢;omega
    ·have i8:¬((i:Int)<8):=by omega
     have Hi:(numB M 8).take i=numB M 8:=zaL (by rw[qan _ 8 (zad _)];omega);rw[Hi]at hm;have H5:(tailS l++128::zeros z)++numB M 8=tailS l++padT l.length:=by
      rw[←hu.o,←HZ.o,HQ.o.2.1];unfold padT;rw[zah]
     rw[H5]at hm;have hr:=qmr l;rw[hm.hn]at hr;have HS:wr.heap[s]?=some (.cells (stC (qap startS l) (.slice A0 q c0) N).toArray 181 (0,0)):=(hm.bl.block s (by have:=Hv.o;omega)).trans Hu.o;have hJ:=zH (show ∀ o,(wr.alloc o).rangeAt s 0 (wsv (qap startS l).l)from fun o=>World.rangeAt_alloc (qa8 HS).2.2.1 o);have Ho:=zH (qa8 HS).2.2.1;have HM:=zH hm;have HR:=zH hr;have He:=zH (hm.size Hb.o);have HC:=zH (hU.o);obtain⟨fin,Hg⟩:∃ f,qap (qap startS l) (tailS l++padT l.length)=f:=⟨_,rfl⟩;have HF:=zH Hg;obtain⟨L,hL⟩:∃ L,wsv (qap startS l).l=L:=⟨_,rfl⟩;rw[hL]at hJ Ho;have HL:=zH hL;have HD:=zH (show L.length=8 by rw[←hL];rfl);have hC:=zH (show ∀ v∈L,v.oneCell'=true by rw[←hL];exact wsv_one _);clear hm hr Hi H5 HS hi hn Ha Hg hL;go_wp2_with (first
      | ((with_reducible show wpList _ _ _ (⟨some 42,_,_,_,_,_⟩::_) _ _);go_loud (refine wpList_load_mid rfl 178 (.tmp 41) rfl s 0 rfl L _ Ho.o Tryz.underlying178 rfl (by rw[HD.o];kernel_rfl) ?_))
      | ((with_reducible show wpList _ _ _ (⟨none,.store 178 _ _,_,_,_,_⟩::_) _ _);go_loud (refine qag rfl 178 (.tmp 5) (.tmp 42) rfl _ 178 (w1:=wr) rfl rfl L rfl (by rw[HD.o];kernel_rfl) (by rw[HD.o];rfl) hC.o ?_)))
     obtain⟨H,hH⟩:∃ x,wr.heap.size=x:=⟨_,rfl⟩;have hP:SmP w W0 (wr.alloc (.cells L.toArray 178)) H A3 n c3 (qap startS l) (tailS l++padT l.length) fin:=by
      have hW:Below wr.heap.size wr (wr.alloc (.cells L.toArray 178)):=zB _ _;refine⟨(HM.o.own.byN HM.o.hn).below hW,HM.o.hn,HM.o.own.row.capn,HR.o,fun ad e h0=>?_,?_,HF.o,HM.o.bl.alloc He.o _⟩
      ·subst e;obtain⟨g,e2,h1,h2,_⟩:=HM.o.own.row.own h0;cases e2;rw[←hH];show g≠_;omega
      ·rw[HL.o,←hH];exact zae wr _
     have hp:=zH (show w.heap.size+1≤H by rw[←hH];exact He.o);rw[hH];clear hH;go_loopw [3] (fun v wr=>∃ (A:Option Addr) (n c:Nat) (h:V8) (r:Bs),v=.slice A n c∧SmP w W0 wr H A n c h r fin) (fun v _=>lenOf (some v))
     case atStart=>exact⟨A3,n,c3,_,_,rfl,hP⟩
     case round=>
      rename World=>wr;obtain⟨A5,q5,c5,h,r,rfl,hm⟩:=hrel;clear hP;by_cases h0:0<q5
      ·have h6:(0:Int)<(q5:Int):=by omega
       have hX:decide (0<q5)=true:=zaT h0;have Ha:64≤q5:=by have:=hm.m64;omega
       obtain⟨b5,o5,rfl,hb5,hc5⟩:=hm.by_.at_ (by rw[hm.hn];omega);have H4:=hm.hc;have h8:=qc1 b5 o5 q5 c5 (by omega);obtain⟨A6,hA6,hs6⟩:=qeo b5 o5 q5 c5 Ha H4;obtain⟨W1,hW1⟩:∃ W0,wr.drew=W0:=⟨_,rfl⟩;have Hl:=zH (show W1.rangeAt H 0 (wsv h.l)by rw[←hW1];exact rangeAt_whole hm.box);have Hu:=zH (show W1.heap[H]?=some (.cells (wsv h.l).toArray 178 (0,0))by rw[←hW1];exact hm.box);have Hy:=zH (show Below (w.heap.size+1) W0 W1 by rw[←hW1];exact hm.bl.drew);have HN:=zH (show w.heap.size+1≤W1.heap.size by have:=Hy.o.size;have:=Hb.o;omega);have H3:=zH (show By W1 (some ⟨b5,o5,none⟩) r by rw[←hW1];exact hm.by_.below (zai _ _).drew);have HG:=zH (qfO h (some ⟨b5,o5,none⟩) c5 (r.take 64) W1 (H3.o.take 64) (by rw[zaj,hm.hn];omega) (HK.o.below (by have:=HK.o.lt;have:=Hb.o;omega) Hy.o) (by omega));have HI:=zH (show(wsv h.l).length=8 from rfl);obtain⟨h2,hh2⟩:∃ x,pieceS h (r.take 64)=x:=⟨_,rfl⟩;rw[hh2]at HG;have ho:=zH hh2;obtain⟨L2,hL2⟩:∃ x,wsv h2.l=x:=⟨_,rfl⟩;rw[hL2]at HG;have hs:=zH hL2;have Hp:=zH (show L2.toArray.size=8 by rw[←hL2];rfl);have Hj:=zH (show ∀ v∈L2,v.oneCell'=true by rw[←hL2];exact wsv_one _);have HM:=zH hm;have HX:=zH Ha;clear hm Ha hb5 hc5 H4 hh2 hL2 h0;go_upto_region 12 with fail
       refine qad (S:=fun W'=>W'.rangeAt H 0 (wsv h.l)) [4] (by kernel_rfl) (by rw[hW1];exact Hl.o) (fun _=>?_);rw[hW1];have h4:=zH hW1;clear hW1;refine qaW (i:=0) (some 46) (v:=.agg (wsv h.l).toArray) rfl rfl (by kernel_rfl) (by kernel_rfl) (by kernel_rfl) (by kernel_rfl) (fun _ _ _ h=>h) (yieldsIf_load_mid (by rfl) 178 (.tmp 5) rfl H 0 rfl (wsv h.l) _ (fun W' hS=>hS) Tryz.underlying178 rfl (by rw[HI.o];kernel_rfl)) (qab Hl.o) ?_;try simp only[zS]
       refine zP 1 47 (.slice (some ⟨b5,o5,none⟩) q5 c5) Hl.o ?_;try simp only[zS]
       refine zP 2 48 (.slice (some ⟨b5,o5,none⟩) 64 c5) Hl.o ?_;try simp only[zS]
       refine zE 3 49 rfl (fun Kr hKr=>?_);go_simp;go_at_call 95
       refine HG.o.mono ?_;rintro e W2 ⟨rfl,hb1⟩;have Hm:=zH hb1;have Hf:=(hb1.block H (zaa.1 Hu.o).1).trans Hu.o;have hh:=zH (show W2.rangeAt H 0 (wsv h.l)from rangeAt_whole Hf);have hK:=zH (show W2.there H 0 8 from there_of_block Hf 0 (by simp[wsv,qa9]));have Hz:=zH Hf;clear hb1 Hf;refine hKr.out (.agg L2.toArray) _ (qab hh.o) (fun _=>?_);clear hKr Kr;try simp only[zS]
       refine qam (rs:=[4]) (by kernel_rfl) (by simp) ?_;refine AllReadyG.ev none rfl rfl (fun Kr hKr=>?_) AllReadyG.nil;refine Eq.mpr (zax (by rfl)) ?_;refine wp_store_mid 178 (.tmp 5) (.tmp 49) rfl H 0 L2.toArray rfl rfl (by rw[Hp.o];exact hK.o) (by rw[Hp.o];kernel_rfl) (all_oneCell_toArray Hj.o) ?_;obtain⟨W3,hW3⟩:∃ W3,W2.setCells H 0 L2.toArray.toList=W3:=⟨_,rfl⟩;have Hr:W3.heap[H]?=some (.cells (wsv h2.l).toArray 178 (0,0)):=by
        rw[←hW3,←hs.o];exact qae Hz.o (wsv h2.l) (by simp[wsv,qa9])
       have HA:=zH Hr;have hQ:=zH (show Touch (fun x=>x=H) W2 W3 by rw[←hW3];exact qaB (F:=fun x=>x=H) rfl _ _);have Hw:=zH (show Below (w.heap.size+1) W0 W3 by rw[←hW3];exact below_setCells (Hy.o.trans (Hm.o.mono HN.o)) hp.o _ _);rw[hW3];clear Hr hW3;refine hKr.out _ _ (qaD 4 (by rfl) (by kernel_rfl)) (fun _=>?_);clear hKr Kr;try simp only[zS]
       refine qaf (by kernel_rfl) ?_ _;have HP:=HM.o.ap ⟨b5,o5,none⟩ rfl (by have:=HX.o;omega);have hV:=zH (show By W3 (some ⟨b5,o5,none⟩) r from(H3.o.below Hm.o).touch hQ.o (fun ad e=>by cases e;exact HP));have he:=zH HP;have HW:=zH hA6;clear HP hA6;go_wp2;have hq:=HX.o;have hn:=HM.o.hn;have h7:=HM.o.m64;refine⟨⟨A6,q5-64,c5-64,h2,r.drop 64,rfl,?_,by rw[zap,hn],by have:=HM.o.hc;omega,by omega,fun ad e h0=>?_,HA.o,?_,Hw.o⟩,by simp[lenOf];omega⟩
       ·by_cases h0:64<q5
        ·have:=hV.o.drop 64
         rwa [←HW.o h0]at this
        ·have:r.drop 64=[]:=za0 (by omega);rw[this];exact By.nil _ _
       ·rw[HW.o (by omega)]at e;cases e;exact he.o
       ·rw[←HM.o.bk,qbN (v:=h) (l:=r) (by omega),ho.o]
      ·have h5:¬((0:Int)<(q5:Int)):=by omega
       have hX:decide (0<q5)=false:=zan h0;have H6:h=fin:=by
        have:=hm.bk
        rwa [qbF (by rw[hm.hn];omega)]at this
       have Hl:=zH (rangeAt_whole hm.box);have H2:=zH (qkO h wr);have HM:=zH hm;have HI:=zH (show(wsv h.l).length=8 from rfl);obtain⟨O,hO⟩:∃ O,bv (qdh h)=O:=⟨_,rfl⟩;rw[hO]at H2;have HO:=zH (show O=bv (shaS l)by rw[←hO,H6,HC.o,HF.o]);have H1:=zH (show O.toArray.size=32 by rw[←hO,zas,bv_len,qby]);have H0:=zH (show O.length=32 by rw[←hO,bv_len,qby]);have Hj:=zH (show ∀ v∈O,v.oneCell'=true by rw[←hO];exact qak _);have hI:=zH (show wr.heap[w.heap.size]?=_ from(hm.bl.block _ (Nat.lt_succ_self _)).trans HH.o);have Hn:=zH (show Below w.heap.size w wr from hf.o.trans (hm.bl.mono (Nat.le_succ _)));have HN:=zH (show w.heap.size<wr.heap.size by have:=hm.bl.size;have:=Hb.o;omega);clear hm hO H6 h0;go_wp2_with (first
        | ((with_reducible show wpList _ _ _ (⟨some 52,_,_,_,_,_⟩::_) _ _);go_loud (refine wpList_load_mid rfl 178 (.tmp 5) rfl H 0 rfl (wsv h.l) _ Hl.o Tryz.underlying178 rfl (by rw[HI.o];kernel_rfl) ?_))
        | (go_at_call 96;refine H2.o.mono ?_;rintro e w9 ⟨rfl,hb9⟩;have hg:=zH hb9;have HV:=(hb9.block _ HN.o).trans hI.o;have hR:=zH (show w9.there w.heap.size 0 32 from there_of_block HV 0 (by simp));have hE:=zH HV;clear hb9 HV)
        | ((with_reducible show wpList _ _ _ (⟨none,.store 34 _ _,_,_,_,_⟩::_) _ _);go_loud (refine wpList_store_mid rfl 34 (.tmp 2) (.tmp 53) rfl w.heap.size 0 O.toArray rfl rfl (by rw[H1.o];exact hR.o) (by rw[H1.o];kernel_rfl) (all_oneCell_toArray Hj.o) ?_)))
       have Hg:=qae hE.o O (by simp[H0.o]);refine za7 (v:=.agg O.toArray) ?_ rfl ?_
       ·exact qbn rfl _ _ _ ⟨w.heap.size,0,none⟩ rfl (run_loadVar_mid _ _ _ _ _ _ (rangeAt_whole Hg) Tryz.underlying34 rfl (by rw[H0.o];kernel_rfl))
       ·exact⟨by rw[HO.o],below_setCells (Hn.o.trans (hg.o.mono Hn.o.size)) (zad _) _ _⟩
end Go.Proofs.YtfcknhbmeofniaaGreatDoor
