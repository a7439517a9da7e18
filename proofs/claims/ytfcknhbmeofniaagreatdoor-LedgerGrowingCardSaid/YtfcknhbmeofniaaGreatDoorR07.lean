/- Texts PlW PlRd PlF. -/
import Derived.Test.YtfcknhbmeofniaaGreatDoorR06
set_option linter.all false
set_option maxRecDepth 100000
set_option maxHeartbeats 16000000
namespace Go.Proofs.YtfcknhbmeofniaaGreatDoor
open Go.RowKit BT
variable {w w':World}{F:Nat→Prop}{A:Option Addr}{a:PA}{p:Pl}{vw:Value}{st now:Int}{d m k i:Nat}{most:List Nat}{tp:List Tp}{x:Wt}
theorem zero_wt:Tryz.zeroCells195.toList=[.int .i64 0,.int .i64 0]++bv (zeros 64):=by kernel_rfl
theorem qaH:(Tryz.prog.info? 195).map (fun i=>(i.zero,i.size,i.bytes))=some (some (.agg Tryz.zeroCells195),66,80):=by kernel_rfl
theorem qhq (p:Pl):p.step.2.most=p.most:=by unfold Pl.step;split<;>rfl
theorem step_waits (p:Pl):p.step.2.waits=p.waits:=by unfold Pl.step;split<;>rfl
theorem qau (x:Wt)(h:x.b.length=64):(wv x).length=66:=by simp[wv,bv,h]
theorem qdI (x:Wt):∀ u∈wv x,u.oneCell'=true:=by
 intro u hu;unfold wv at hu;rcases zar.1 hu with hu|hu
 ·simp only[zaB,zch,or_false]at hu;rcases hu with rfl|rfl<;>rfl
 ·exact qak _ u hu
theorem By.touch {l:Bs}(h:By w A l)(ht:Touch F w w')(hA:∀ ad,A=some ad→¬F ad.block):By w' A l:=
 ⟨fun h0=>by
  obtain⟨b,off,e,hl,hc⟩:=h.at_ h0;refine⟨b,off,e,zag hl ht.size,fun k c hk=>?_⟩;rw[←hc k c hk];unfold World.cell?;rw[ht.block b hl (hA _ e)]⟩
theorem PlM.app {w1 w5:World}(h1:w1.heap[a.P]?=some (.cells (qcZ a vw p st now) 90 (0,0)))(h2:PlR w1 a F vw p.most p.tp p.disk p.waits)(h3:p.Ok)
  (x:Wt)(hx:x.b.length=64∧∃ m,p.most[x.dev]?=some m∧x.place<m){A5:Option Addr}{cap5:Nat}(hrow:Row w5 0 195 66 (.slice A5 (p.waits.length+1) cap5) (p.waits.length+1) (p.waits.flatMap wv++wv x))
  (hv:∀ b,(Value.slice A5 (p.waits.length+1) cap5).ownBlock=some b→vw.ownBlock=some b∨(w1.heap.size≤b∧b<w5.heap.size))(hT:Touch (fun b=>vw.ownBlock=some b) w1 w5) :
  ∃ F',PlM (w5.setCell ⟨a.P,3,none⟩ (.slice A5 (p.waits.length+1) cap5)) a F' { p with waits:=p.waits++[x] }∧Ext F F' w1 (w5.setCell ⟨a.P,3,none⟩ (.slice A5 (p.waits.length+1) cap5)):=by
 have Ha:∀ b,vw.ownBlock=some b→b<w1.heap.size:=fun b e=>(h2.wrow.blk b e).2;have Hb:w5.heap[a.P]?=w1.heap[a.P]?:=hT.block _ (h2.hF _ h2.fP) (fun e=>(h2.fw _ e).2.1 rfl);have hs:=hT.size;have Hc:∀ b,(Value.slice A5 (p.waits.length+1) cap5).ownBlock=some b→b≠a.P:=fun b e=>by
  rcases hv b e with h|h
  ·exact(h2.fw b h).2.1
  ·have:=h2.hF _ h2.fP;omega
 have hk:∀ b,F b→b≠a.P→vw.ownBlock≠some b→(w5.setCell ⟨a.P,3,none⟩ (.slice A5 (p.waits.length+1) cap5)).heap[b]?=w1.heap[b]?:=fun b hb hn hvn=>
  (zaV w5 _ _ b hn).trans (hT.block b (h2.hF b hb) hvn)
 refine⟨fun b=>F b∨(Value.slice A5 (p.waits.length+1) cap5).ownBlock=some b,⟨⟨.slice A5 (p.waits.length+1) cap5,st,now,?_,?_⟩,?_⟩,?_,?_⟩
 ·rw[qac (Hb.trans h1)];simp[qcZ]
 ·refine⟨.inl h2.fP,?_,?_,⟨.inl h2.fDV.1,h2.fDV.2⟩,h2.mlen,h2.tlen,h2.mnd,fun M hM=>⟨.inl (h2.fM M hM).1,(h2.fM M hM).2⟩,?_,?_,?_,?_,?_,?_⟩
  ·intro b hb;simp only[zbE];rcases hb with hb|hb
   ·have:=h2.hF b hb;omega
   ·rcases hv b hb with h|h
    ·have:=Ha b h;omega
    ·exact h.2
  ·exact qbG h2.dv (hk _ h2.fDV.1 h2.fDV.2 (fun e=>(h2.fw _ e).2.2.1 rfl))
  ·intro d M hd;obtain⟨l,i1,i2⟩:=h2.maps d M hd;have hM:=zak hd;have:=h2.fM M hM;exact⟨l,i1.of_heap (hk M this.1 this.2.1 (fun e=>(h2.fw _ e).2.2.2.1 hM)),i2⟩
  ·have hl:(p.waits++[x]).length=p.waits.length+1:=by simp
   have hf:(p.waits++[x]).flatMap wv=p.waits.flatMap wv++wv x:=by simp
   show Own _ 0 _ 66 _ (p.waits++[x]).length ((p.waits++[x]).flatMap wv);rw[hl,hf];refine⟨hrow.keep fun b hb hlt=>zaV w5 _ _ b (Hc b hb),fun b e=>⟨zbO _,?_⟩⟩;simp only[zbE];rcases hv b e with h|h
   ·have:=Ha b h;omega
   ·exact h.2
  ·intro b e;rcases hv b e with h|h
   ·obtain⟨f1,f2,f3,f4,f5,f6⟩:=h2.fw b h;exact⟨.inl f1,f2,f3,f4,f5,f6⟩
   ·have hF:=h2.hF;refine⟨.inr e,?_,?_,?_,?_,?_⟩
    ·have:=hF _ h2.fP;omega
    ·have:=hF _ h2.fDV.1;omega
    ·intro hm;have:=hF _ (h2.fM b hm).1;omega
    ·intro ad hA e2;have:=hF _ (h2.sh ad (.inl hA)).1;omega
    ·intro ad hA e2;have:=hF _ (h2.sh ad (.inr hA)).1;omega
  ·intro ad e;obtain⟨f1,f2,f3,f4⟩:=h2.sh ad e;exact⟨.inl f1,f2,f3,f4⟩
  ·refine qbg h2.shape (by simp only[zbE];omega) fun b off e=>?_;have:=h2.sh _ (.inl e);exact hk b this.1 this.2.1 (fun e2=>(h2.fw _ e2).2.2.2.2.1 _ e rfl)
  ·refine qbg h2.shapeT (by simp only[zbE];omega) fun b off e=>?_;have:=h2.sh _ (.inr e);exact hk b this.1 this.2.1 (fun e2=>(h2.fw _ e2).2.2.2.2.2 _ e rfl)
 ·refine⟨fun y hy=>?_,h3.disk,h3.most,h3.devs,h3.fuse⟩;rcases zar.1 hy with hy|hy
  ·exact h3.waits y hy
  ·obtain rfl:y=x:=by simpa using hy
   exact hx
 ·refine⟨hT.os,hT.tape,hT.output,by simp only[zbE];exact hs,fun b hb hn=>?_⟩;exact(zaV w5 _ _ b (fun e=>hn (e▸h2.fP))).trans (hT.block b hb (fun e=>hn (h2.fw b e).1))
 ·intro b hb;rcases hb with hb|hb
  ·exact .inl hb
  ·rcases hv b hb with h|h
   ·exact .inl (h2.fw b h).1
   ·exact .inr h.1
theorem qjW (h:PlM w a F p)(hd:p.most[d]?=some m)(hk:k<m){c:Nat}{l:Bs}(hb:By w A l)(hl:l.length=64)(hbF:∀ ad,A=some ad→¬F ad.block)(hst:p.step.1=true)(hw:p.waits.length≤1099511627776) :
  Calls Tryz.prog 103 #[.pointer (some ⟨a.P,0,none⟩),.int .i64 d,.int .i64 k,.slice A 64 c] w fun e w'=>e=.returned (.int .i64 0)∧∃ F',PlM w' a F' (p.give ⟨d,k,l⟩).2∧Ext F F' w w':=by
 have hs:=qdC h;rw[hst]at hs;go_enter Tryz.func103,Tryz.ntmps103
 have E0:=zH (show(Tryz.zeroCells195.setIfInBounds 0 (Value.int IntKind.i64 ↑d)).setIfInBounds 1 (Value.int IntKind.i64 ↑k)=(wv ⟨d,k,zeros 64⟩).toArray by rw[←Array.toArray_toList (xs:=Tryz.zeroCells195),zero_wt];rfl);have HB:=zH hb;clear hb;go_upto_region 3 with(go_at_call 104;refine hs.mono ?_;rintro e w1 ⟨rfl,hp1,ht1,hz1⟩;have HC:=zH hz1;clear hz1)
 have HP:=zH (show ∀ (W:World),Below w1.heap.size w1 W→∃ ad,A=some ad∧∀ j v,(bv l)[j]?=some v→W.cell? (ad.add j)=some v from fun W hW=>by
  have hq:=((HB.o.touch ht1 (fun ad e=>hbF ad e)).below hW).src.at_ (by rw[hl];decide);exact hq)
 have HX:=zH (show l.length=64∧∃ m,p.step.2.most[d]?=some m∧k<m from⟨hl,m,by rw[qhq];exact hd,hk⟩);have HG:=zH (show(p.give ⟨d,k,l⟩).2={ p.step.2 with waits:=p.step.2.waits++[⟨d,k,l⟩] }by unfold Pl.give;rw[zax hst,step_waits]);have HN:=zH (show p.step.2.waits.length+1≤maxLen∧(p.step.2.waits.length+1)*80≤140737488355328 by rw[step_waits];unfold maxLen;omega);obtain⟨⟨vw,st,now,h1,h2⟩,h3⟩:=hp1;have Hk:=zH h1;have Hc:=zH h2;have Hq:=zH h3;clear h1 h2 h3;go_wp2_with (first|((with_reducible show wpList _ _ _ (⟨none,.store _ _ _,_,_,_,_⟩::_) _ _);go_loud (refine qag (w1:=w1) rfl 195 (.tmp 9) (.tmp 15) rfl _ _ rfl rfl (wv ⟨d,k,zeros 64⟩) (congrArg Value.agg E0.o) (by kernel_rfl) (by kernel_rfl) (qdI _) ?_))|((with_reducible show wpList _ _ _ (⟨some 19,_,_,_,_,_⟩::_) _ _);go_loud (refine wpList_copy_splice rfl (.tmp 17) (.tmp 18) 40 40 rfl 5 Tryz.underlying40 (by kernel_rfl) (some ⟨w1.heap.size,2,none⟩) A 64 64 64 c rfl rfl w1.heap.size 2 (wv ⟨d,k,zeros 64⟩) 195 (zae w1 _) (bv l) (by rw[bv_len,hl];rfl) (fun _=>⟨rfl,HP.o _ (zB _ _)⟩) (by rw[qau _ (zeros_len 64),bv_len,hl];exact zad _) (qak _) w1.heap.size w1 (zB _ _) (zad _) ?_);intro w4 HG4 hb4))
 have Hg:=zH (show w4.heap[w1.heap.size]?=some (.cells (wv ⟨d,k,l⟩).toArray 195 (0,0))by
  rw[HG4.out];have:=qjw [Value.int .i64 (d:Int),Value.int .i64 (k:Int)] (bv (zeros 64)) (bv l) (by rw[bv_len,bv_len,hl,zeros_len]);exact congrArg (fun x=>some (Obj.cells (List.toArray x) 195 (0,0))) this)
 have Hy:=hb4.size;have Hw:a.P<w1.heap.size:=Hc.o.hF _ Hc.o.fP;have Hh:a.P<w4.heap.size:=by omega
 have Hx:a.P≠w4.heap.size:=by omega
 have Hr:=zH (show w1.heap.size<w4.heap.size from(zaa.1 Hg.o).1);have Hm:=zH ((hb4.block a.P Hw).trans Hk.o);have c3:w4.cell? ⟨a.P,3,none⟩=some vw:=by rw[zao w4 _ 3 _ _ _ Hm.o];rfl
 have HE:(Instr.loadAt 195 (.pointer (some ⟨w1.heap.size,0,none⟩))).run Tryz.prog w4.drew=.ok (.agg (wv ⟨d,k,l⟩).toArray) w4.drew:=
  run_loadAt_mid w4.drew _ 0 _ _ _ (fun j v hv=>by
   rw[World.cell?_drew,zaF,zao w4 _ j _ _ _ Hg.o];simpa using hv) Tryz.underlying195 rfl (by rw[qau _ hl];exact qal qaH)
 obtain⟨i0,hi0,hz0,hz1,hz2⟩:=zaY qaH;have Hs:=zH (show ∀ o,Row (w4.drew.alloc o) 0 195 66 vw p.step.2.waits.length (p.step.2.waits.flatMap wv)from fun o=>Hc.o.wrow.row.below (zad _) (hb4.trans (((zai _ _).drew).alloc (by simpa using Hy) o)));have Hu:=Hc.o.fw;have Ht:=zH Hu;clear Hu;clear HG4;have Hj:=zH (show w4.drew.rangeAt w1.heap.size 0 (wv ⟨d,k,l⟩)from fun j v hv=>by rw[World.cell?_drew,zaF,zao w4 _ j _ _ _ Hg.o];simpa using hv);refine wp_region_held_drew (S:=fun W=>W.rangeAt w1.heap.size 0 (wv ⟨d,k,l⟩)) (by kernel_rfl) Hj.o (fun hHeld=>?_);refine zT 0 20 (.pointer (some ⟨a.P,0,none⟩)) rfl (Or.inl ⟨by rfl,fun W _=>by go_simp⟩) ?_;refine zT 1 21 (.pointer (some ⟨a.P,0,none⟩)) rfl (Or.inl ⟨by rfl,fun W _=>by go_simp⟩) ?_;try simp only[zS]
 refine zT 2 22 (.pointer (some ⟨a.P,0,none⟩)) rfl (Or.inl ⟨by rfl,fun W _=>by go_simp⟩) ?_;try simp only[zS]
 refine zT 3 23 (.pointer (some ⟨a.P,3,none⟩)) rfl (Or.inl ⟨by rfl,fun W _=>by go_simp⟩) ?_;try simp only[zS]
 refine qeD (i:=5) (some 25) (v:=.agg (wv ⟨d,k,l⟩).toArray) rfl rfl (by kernel_rfl) (by kernel_rfl) (by kernel_rfl) (fun _ _ _ h=>h) (yieldsIf_load_mid (by rfl) 195 (.tmp 9) rfl w1.heap.size 0 rfl (wv ⟨d,k,l⟩) _ (fun _ h=>h) Tryz.underlying195 rfl (by rw[qau _ hl];exact qal qaH)) (by assumption) ?_;try simp only[zS]
 have Ho:=zH (show(w4.drew.alloc (.cells (wv ⟨d,k,l⟩).toArray 195)).rangeAt w1.heap.size 0 (wv ⟨d,k,l⟩)from fun j v hv=>by rw[World.cell?_alloc_some _ _ _ (by rw[Hj.o j v hv];rfl)];exact Hj.o j v hv);have HD:(w4.drew.alloc (.cells (wv ⟨d,k,l⟩).toArray 195)).cell? ⟨a.P,3,none⟩=some vw:=by rw[World.cell?_alloc_some _ _ _ (by rw[World.cell?_drew,c3];rfl)];exact c3
 refine wpAnyH_ready (rs:=[4,6]) (by kernel_rfl) (by simp) ?_;refine AllReadyH.cons rfl (fun K hK=>?_) (AllReadyH.cons rfl (fun K hK=>?_) AllReadyH.nil)
 ·go_simp;refine hK.out _ _ Hj.o (fun _=>?_);clear hK K;try simp only[zS]
  refine wpAnyH_ready (rs:=[6]) (by kernel_rfl) (by simp) ?_;refine AllReadyH.cons rfl (fun K hK=>?_) AllReadyH.nil;refine qbS rfl 88 (.tmp 25) rfl Tryz.underlying88 hi0 hz0 hz1 (by decide) (by decide) (.agg (wv ⟨d,k,l⟩).toArray) rfl (wv ⟨d,k,l⟩) rfl (qau _ hl) ?_;refine hK.out _ _ Ho.o (fun _=>?_);clear hK K;try simp only[zS]
  refine wpAnyH_ready (rs:=[7]) (by kernel_rfl) (by simp) ?_;refine AllReadyH.cons rfl (fun K hK=>?_) AllReadyH.nil;refine qbx rfl (.tmp 24) (.tmp 26) 88 rfl 0 195 i0 _ 66 80 Tryz.underlying88 hi0 hz0 hz1 hz2 (by kernel_rfl) (by decide) vw _ _ rfl (Hs.o _) (some ⟨w4.heap.size,0,none⟩) 1 1 (wv ⟨d,k,l⟩) rfl (qas (zae w4.drew _) (by rw[qau _ hl])) (qdI _) HN.o.1 HN.o.2 (zbO _) ?_;intro A5 cap5 w5 hrow5 hgrow5 hown5;have Ha:Touch (fun b=>vw.ownBlock=some b) w4 w5:=(((Touch.refl _ w4).drew).alloc _).trans (Touch.of_grown hgrow5 (fun b e=>e));have Hz:=Ha.size;have Hi:w5.heap[w1.heap.size]?=some (.cells (wv ⟨d,k,l⟩).toArray 195 (0,0)):=(Ha.block _ (by have:=Hr.o;omega) (fun e=>by have:=(Hc.o.wrow.blk _ e).2;omega)).trans Hg.o;have Hf:w5.heap[a.P]?=_:=(Ha.block _ Hh (fun e=>(Ht.o _ e).2.1 rfl)).trans Hm.o;have Hb:=zH (show w5.rangeAt w1.heap.size 0 (wv ⟨d,k,l⟩)from fun j v hv=>by rw[zaF,zao w5 _ j _ _ _ Hi];simpa using hv);have Hn:=zH (show ∀ u,(w5.setCell ⟨a.P,3,none⟩ u).rangeAt w1.heap.size 0 (wv ⟨d,k,l⟩)from fun u j v hv=>(World.cell?_setCell_far w5 ⟨a.P,3,none⟩ _ u (by simp only;omega)).trans (Hb.o j v hv));have Hv:w5.cell? ⟨a.P,3,none⟩=some vw:=by rw[zao w5 _ 3 _ _ _ Hf];rfl
  have HA:w5.frozen? ⟨a.P,3,none⟩=false:=by simp[World.frozen?,Hf]
  have Hp:=zH Ha;have Hl:=zH hown5;have He:=zH hrow5;clear Ha hown5 hrow5 Hi Hf hgrow5;refine hK.out _ _ Hb.o (fun _=>?_);clear hK K;try simp only[zS]
  refine wpAnyH_ready (rs:=[8]) (by kernel_rfl) (by simp) ?_;refine AllReadyH.cons rfl (fun K hK=>?_) AllReadyH.nil;go_simp;refine hK.out _ _ Hb.o (fun _=>?_);clear hK K;try simp only[zS]
  refine wpAnyH_ready (rs:=[9]) (by kernel_rfl) (by simp) ?_;refine AllReadyH.cons rfl (fun K hK=>?_) AllReadyH.nil;go_simp;refine hK.out _ _ Hb.o (fun _=>?_);clear hK K;try simp only[zS]
  refine wpAnyH_ready (rs:=[10]) (by kernel_rfl) (by simp) ?_;refine AllReadyH.cons rfl (fun K hK=>?_) AllReadyH.nil;go_simp;refine hK.out _ _ (Hn.o _) (fun _=>?_);clear hK K;try simp only[zS]
  refine wpAnyH_done (by kernel_rfl) ?_ _;go_wp2;go_ret;refine⟨rfl,?_⟩;obtain⟨F',f1,f2⟩:=PlM.app Hk.o Hc.o Hq.o ⟨d,k,l⟩ HX.o He.o (fun b e=>by
   rcases Hl.o b e with h|h
   ·exact .inl h
   ·simp only[za5,zcr]at h;exact .inr ⟨by omega,h.2⟩) ((Touch.of_below hb4).trans Hp.o)
  refine⟨F',?_,(Ext.of ht1).trans f2⟩;rw[HG.o];exact f1
 ·refine qbS rfl 88 (.tmp 25) rfl Tryz.underlying88 hi0 hz0 hz1 (by decide) (by decide) (.agg (wv ⟨d,k,l⟩).toArray) rfl (wv ⟨d,k,l⟩) rfl (qau _ hl) ?_;refine hK.out _ _ Ho.o (fun _=>?_);clear hK K;try simp only[zS]
  refine wpAnyH_ready (rs:=[4]) (by kernel_rfl) (by simp) ?_;refine AllReadyH.cons rfl (fun K hK=>?_) AllReadyH.nil;go_simp;refine hK.out _ _ Ho.o (fun _=>?_);clear hK K;try simp only[zS]
  refine wpAnyH_ready (rs:=[7]) (by kernel_rfl) (by simp) ?_;refine AllReadyH.cons rfl (fun K hK=>?_) AllReadyH.nil;refine qbx rfl (.tmp 24) (.tmp 26) 88 rfl 0 195 i0 _ 66 80 Tryz.underlying88 hi0 hz0 hz1 hz2 (by kernel_rfl) (by decide) vw _ _ rfl (Hs.o _) (some ⟨w4.heap.size,0,none⟩) 1 1 (wv ⟨d,k,l⟩) rfl (qas (zae w4.drew _) (by rw[qau _ hl])) (qdI _) HN.o.1 HN.o.2 (zbO _) ?_;intro A5 cap5 w5 hrow5 hgrow5 hown5;have Ha:Touch (fun b=>vw.ownBlock=some b) w4 w5:=(((Touch.refl _ w4).drew).alloc _).trans (Touch.of_grown hgrow5 (fun b e=>e));have Hz:=Ha.size;have Hi:w5.heap[w1.heap.size]?=some (.cells (wv ⟨d,k,l⟩).toArray 195 (0,0)):=(Ha.block _ (by have:=Hr.o;omega) (fun e=>by have:=(Hc.o.wrow.blk _ e).2;omega)).trans Hg.o;have Hf:w5.heap[a.P]?=_:=(Ha.block _ Hh (fun e=>(Ht.o _ e).2.1 rfl)).trans Hm.o;have Hb:=zH (show w5.rangeAt w1.heap.size 0 (wv ⟨d,k,l⟩)from fun j v hv=>by rw[zaF,zao w5 _ j _ _ _ Hi];simpa using hv);have Hn:=zH (show ∀ u,(w5.setCell ⟨a.P,3,none⟩ u).rangeAt w1.heap.size 0 (wv ⟨d,k,l⟩)from fun u j v hv=>(World.cell?_setCell_far w5 ⟨a.P,3,none⟩ _ u (by simp only;omega)).trans (Hb.o j v hv));have Hv:w5.cell? ⟨a.P,3,none⟩=some vw:=by rw[zao w5 _ 3 _ _ _ Hf];rfl
  have HA:w5.frozen? ⟨a.P,3,none⟩=false:=by simp[World.frozen?,Hf]
  have Hp:=zH Ha;have Hl:=zH hown5;have He:=zH hrow5;clear Ha hown5 hrow5 Hi Hf hgrow5;refine hK.out _ _ Hb.o (fun _=>?_);clear hK K;try simp only[zS]
  refine wpAnyH_ready (rs:=[8]) (by kernel_rfl) (by simp) ?_;refine AllReadyH.cons rfl (fun K hK=>?_) AllReadyH.nil;go_simp;refine hK.out _ _ Hb.o (fun _=>?_);clear hK K;try simp only[zS]
  refine wpAnyH_ready (rs:=[9]) (by kernel_rfl) (by simp) ?_;refine AllReadyH.cons rfl (fun K hK=>?_) AllReadyH.nil;go_simp;refine hK.out _ _ Hb.o (fun _=>?_);clear hK K;try simp only[zS]
  refine wpAnyH_ready (rs:=[10]) (by kernel_rfl) (by simp) ?_;refine AllReadyH.cons rfl (fun K hK=>?_) AllReadyH.nil;go_simp;refine hK.out _ _ (Hn.o _) (fun _=>?_);clear hK K;try simp only[zS]
  refine wpAnyH_done (by kernel_rfl) ?_ _;go_wp2;go_ret;refine⟨rfl,?_⟩;obtain⟨F',f1,f2⟩:=PlM.app Hk.o Hc.o Hq.o ⟨d,k,l⟩ HX.o He.o (fun b e=>by
   rcases Hl.o b e with h|h
   ·exact .inl h
   ·simp only[za5,zcr]at h;exact .inr ⟨by omega,h.2⟩) ((Touch.of_below hb4).trans Hp.o)
  refine⟨F',?_,(Ext.of ht1).trans f2⟩;rw[HG.o];exact f1
theorem qk5 (h:PlM w a F p){c:Nat}(hst:p.step.1=false) :
  Calls Tryz.prog 103 #[.pointer (some ⟨a.P,0,none⟩),.int .i64 d,.int .i64 k,.slice A 64 c] w fun e w'=>e=.returned (.int .i64 2)∧PlM w' a F p.step.2∧Ext F F w w':=by
 have hs:=qdC h;rw[hst]at hs;have HP:=zH h;clear h;go_enter Tryz.func103,Tryz.ntmps103
 go_wp2_with (go_at_call 104;refine hs.mono ?_;rintro e w1 ⟨rfl,hp1,ht1,hz1⟩;have Ha:=zH hz1;clear hz1)
 go_ret;exact⟨rfl,hp1,Ext.of ht1⟩
def wrOut (p:Pl)(x:Wt):Int:=if(p.give x).1 then 0 else 2
theorem qk4 (h:PlM w a F p)(hd:p.most[d]?=some m)(hk:k<m){c:Nat}{l:Bs}(hb:By w A l)(hl:l.length=64)(hbF:∀ ad,A=some ad→¬F ad.block)(hw:p.waits.length≤1099511627776) :
  Calls Tryz.prog 103 #[.pointer (some ⟨a.P,0,none⟩),.int .i64 d,.int .i64 k,.slice A 64 c] w fun e w'=>e=.returned (.int .i64 (wrOut p ⟨d,k,l⟩))∧∃ F',PlM w' a F' (p.give ⟨d,k,l⟩).2∧Ext F F' w w':=by
 cases hst:p.step.1 with
 | true=>
  refine(qjW h hd hk hb hl hbF hst hw).mono ?_;rintro e w' ⟨rfl,h2⟩;refine⟨?_,h2⟩;unfold wrOut Pl.give;rw[zax hst];rfl
 | false=>
  refine(qk5 h hst).mono ?_;rintro e w' ⟨rfl,h2,h3⟩;refine⟨?_,F,?_,h3⟩
  ·unfold wrOut Pl.give;rw[hst];rfl
  ·unfold Pl.give;rw[zaC (by rw[hst];decide)];exact h2
theorem qed (h:PlM w a F p)(hd:p.most[d]?=some m)(hk:k<m){c:Nat}{l:Bs}(hb:By w A l)(hl:l.length=64)(hbF:∀ ad,A=some ad→¬F ad.block)(hw:p.waits.length≤1099511627776)(hoff:p.off=false) :
  Calls Tryz.prog 73 #[.pointer (some ⟨a.P,0,none⟩),.int .i64 d,.int .i64 k,.slice A 64 c] w fun e w'=>e=.returned (.int .i64 (wrOut p ⟨d,k,l⟩))∧∃ F',PlM w' a F' (p.give ⟨d,k,l⟩).2∧Ext F F' w w':=by
 obtain⟨M,_,c0,c1,_⟩:=h.dev_at hd;have Ha:=qdp h hd;have Hb:=qk4 h hd hk hb hl hbF hw (c:=c);obtain⟨⟨vw,st,now,h1,h2⟩,h3⟩:=h;have hm:=h3.most m (zak hd);have c4:w.cell? ⟨a.P,4,none⟩=some (.bool false):=by rw[zao w _ 4 _ _ _ h1,←hoff];rfl
 have t1:decide ((k:Int)<0)=false:=zan (by omega);have t2:decide (m≤k)=false:=zan (by omega);have HD:=zH Ha;have HG:=zH Hb;clear Ha Hb h1 h2 h3 hd hl hoff hb;go_enter Tryz.func73,Tryz.ntmps73
 go_wp2_with (first|(go_at_call 102;refine HD.o.mono ?_;rintro e w1 ⟨rfl,rfl⟩)|(go_at_call 103;refine HG.o.mono ?_;rintro e w2 ⟨rfl,F',hp2,ht2⟩))
 go_ret;exact⟨rfl,F',hp2,ht2⟩
theorem qlm (D:qaZ)(l:List Wt)(x:Wt)(d k:Nat):lay D (l++[x]) d k=if x.dev=d∧x.place=k then x.b else lay D l d k:=by
 rw[qbm];show setD (lay D l) x.dev x.place x.b d k=_;unfold setD;by_cases h:x.dev=d∧x.place=k
 ·rw[zax h,zax ⟨h.1.symm,h.2.symm⟩]
 ·rw[zaC h,zaC (fun e=>h ⟨e.1.symm,e.2.symm⟩)]
theorem qgh {D:qaZ}(hD:∀ d k,(D d k).length=64):∀ {l:List Wt},(∀ x∈l,x.b.length=64)→∀ d k,(lay D l d k).length=64
 | [],_,d,k=>hD d k
 | x::l,h,d,k=>by
  refine qgh (D:=setD D x.dev x.place x.b) (fun d' k'=>?_) (fun y hy=>h y (by simp[hy])) d k;unfold setD;split
  ·exact h x (by simp)
  ·exact hD d' k'
theorem Pl.Ok.seen (h:p.Ok)(d k:Nat):(p.seen d k).length=64:=qgh h.disk (fun x hx=>(h.waits x hx).1) d k
theorem zero_sec (w:World):(zeroValue 193).run Tryz.prog w=.ok (.agg (bv (zeros 64)).toArray) w:=by kernel_rfl
theorem qbX:(Tryz.prog.info? 193).map (·.size)=some 64:=by kernel_rfl
theorem qdw (h:PlM w a F p)(hd:p.most[d]?=some m)(hk:k<m)(hoff:p.off=false) :
  Calls Tryz.prog 110 #[.pointer (some ⟨a.P,0,none⟩),.int .i64 d,.int .i64 k] w fun e w'=>∃ g,e=.returned (.tuple #[.slice (some ⟨g,0,none⟩) 64 64,.int .i64 0])∧w.heap.size≤g∧w'.heap[g]?=some (.cells (bv (p.seen d k)).toArray 5 (0,0))∧Below w.heap.size w w':=by
 obtain⟨M,hM,c0,c1,cM,_⟩:=h.dev_at hd;have Hq:=qdp h hd;have HA:=qhn h hd;obtain⟨⟨vw,st,now,h1,h2⟩,h3⟩:=h;have hm:=h3.most m (zak hd);have c4:w.cell? ⟨a.P,4,none⟩=some (.bool false):=by rw[zao w _ 4 _ _ _ h1,←hoff];rfl
 have c3:w.cell? ⟨a.P,3,none⟩=some vw:=by rw[zao w _ 3 _ _ _ h1];rfl
 have t1:decide ((k:Int)<0)=false:=zan (by omega);have t2:decide (m≤k)=false:=zan (by omega);have HD:=zH Hq;have Hy:=zH HA;obtain⟨l,hl1,hl2⟩:=h2.maps d M hM;have Hu:=hl2 k;go_enter Tryz.func110,Tryz.ntmps110
 go_upto_region 6 with(first|(go_at_call 102;refine HD.o.mono ?_;rintro e w1 ⟨rfl,rfl⟩)|(go_at_call 134;refine Hy.o.mono ?_;rintro e w1 ⟨rfl,rfl⟩))
 have Hj:=h3.disk d k;have He:(Instr.lookup 92 (.map (some M)) (.int .i64 (k:Int)) false).run Tryz.prog w=.ok (.agg (bv (p.disk d k)).toArray) w:=by
  rw[qhk Tryz.underlying92 Tryz.underlying3 hl1 k _ (zero_sec w)];rcases Hu with e|⟨e1,e2⟩
  ·rw[e];rfl
  ·rw[e1,e2];rfl
 have Hh:=zH He;have Hg:=zH (show(bv (p.disk d k)).length=64 by rw[bv_len];exact Hj);have H1:=zH h1;have H2:=zH h2;have H3:=zH h3;clear He Hj h1 h2 h3 Hu hl2 hl1;go_upto_region 7 with(first|((with_reducible show wpList _ _ _ (⟨some 37,_,_,_,_,_⟩::_) _ _);(refine qec rfl 92 (.tmp 35) (.tmp 36) false rfl _ _ _ rfl rfl Hh.o ?_))|((with_reducible show wpList _ _ _ (⟨none,.store _ _ _,_,_,_,_⟩::_) _ _);(refine qag (w1:=w) rfl 193 (.tmp 9) (.tmp 37) rfl _ _ rfl rfl (bv (p.disk d k)) rfl (by rw[Hg.o];exact qbX) (by rw[Hg.o];kernel_rfl) (qak _) ?_)))
 obtain⟨A,cap,rfl,hfl,hform⟩:=H2.o.wrow.row.form;have Hc:=zH hform;have hn:p.waits.length≤9223372036854775807:=by
  have:=H2.o.wrow.row;have:=Row.max this;unfold maxLen at this;omega
 obtain⟨n,hnn⟩:∃ n,p.waits.length=n:=⟨_,rfl⟩;rw[hnn]at c3 hn;have Hi:=zH hnn;clear hform hfl hnn;have Hz:a.P<w.heap.size:=H2.o.hF _ H2.o.fP;go_wp2;go_loopw [11,43] (fun b i wr=>∃ j:Nat,i=.int .i64 j∧j≤n∧Below w.heap.size w wr∧wr.heap[w.heap.size]?=some (.cells (bv (lay p.disk (p.waits.take j) d k)).toArray 193 (0,0))) (fun _ i _=>n-(intOf i).toNat)
 case atStart=>exact⟨0,rfl,by omega,zB _ _,zae w _⟩
 case round=>
  rename_i wr;obtain⟨j,rfl,hj,hb,hblk⟩:=hrel;have hz:=hb.size;have Hb:=zH hblk;clear hblk;by_cases hlt:j<n
  ·obtain⟨x,hx⟩:∃ x,p.waits[j]?=some x:=⟨_,zab (by rw[Hi.o];exact hlt)⟩;obtain⟨g,rfl,_,hg,hc⟩:=Hc.o (by rw[Hi.o];omega);have HB:=zak hx;have Hr:x.b.length=64:=(H3.o.waits x HB).1;have Hk:∀ y∈p.waits,(wv y).length=66:=fun y hy=>qau y (H3.o.waits y hy).1;have Hv:wr.rangeAt g (j*66) (wv x):=fun i v hv=>by
    have hi:i<66:=by rw[←qau x Hr];exact(zac.1 hv).1
    rw[hb.cell (p:=⟨g,j*66+i,none⟩) hg,hc (j*66+i) (by rw[Hi.o];omega),flat_at Hk hx i hi];exact hv
   have Ho:=zH Hv;have Ha:=zH Hr;have HX:=zH hx;have e0:(wr.alloc (.cells (wv x).toArray 195)).cell? ⟨wr.heap.size,0,none⟩=some (.int .i64 (x.dev:Int)):=by
    rw[zao _ _ 0 _ _ _ (zae wr _)];rfl
   have e1:(wr.alloc (.cells (wv x).toArray 195)).cell? ⟨wr.heap.size,1,none⟩=some (.int .i64 (x.place:Int)):=by
    rw[zao _ _ 1 _ _ _ (zae wr _)];rfl
   have Hp:=zH (show(wr.alloc (.cells (wv x).toArray 195)).rangeAt wr.heap.size 2 (bv x.b)from fun i v hv=>by
    rw[zao _ _ (2+i) _ _ _ (zae wr _),zbg];unfold wv;rw[zaz (by simp)];simpa using hv)
   have Hn:=zH (show lay p.disk (p.waits.take (j+1)) d k=if x.dev=d∧x.place=k then x.b else lay p.disk (p.waits.take j) d k by
    have Ht:j<p.waits.length:=by rw[Hi.o];exact hlt
    have ex:p.waits[j]=x:=by rw[zab Ht]at hx;exact zaG hx
    rw[zaw Ht,qlm,ex])
   have Hf:=zH (show(wr.alloc (.cells (wv x).toArray 195)).heap[w.heap.size]?=_ from(zaW wr _ _ (zaa.1 Hb.o).1).trans Hb.o);have j1:(j:Int)<(n:Int):=by omega
   have j0:(0:Int)≤(j:Int):=by omega
   have Hs:(lay p.disk (p.waits.take j) d k).length=64:=by
    exact qgh H3.o.disk (fun y hy=>(H3.o.waits y (zbb hy)).1) d k
   have Hl:=zH Hs;clear Hs Hv hx Hr Hk hc Hc;by_cases hm2:x.dev=d∧x.place=k
   ·have u1:((x.dev:Int)==(d:Int))=true:=by rw[hm2.1];exact beq_self_eq_true _
    have u2:((x.place:Int)==(k:Int))=true:=by rw[hm2.2];exact beq_self_eq_true _
    go_wp2_with (first
     | ((with_reducible show wpList _ _ _ (⟨some 46,_,_,_,_,_⟩::_) _ _);(refine wpList_load_mid rfl 195 (.tmp 45) rfl g (j*66) rfl (wv x) _ Ho.o Tryz.underlying195 rfl (by rw[qau _ Ha.o];exact qal qaH) ?_))
     | ((with_reducible show wpList _ _ _ (⟨none,.store 195 _ _,_,_,_,_⟩::_) _ _);(refine qag (w1:=wr) rfl 195 (.tmp 11) (.tmp 46) rfl _ _ rfl rfl (wv x) rfl (by rw[qau _ Ha.o];exact qal qaH) (by rw[qau _ Ha.o];kernel_rfl) (qdI _) ?_))
     | ((with_reducible show wpList _ _ _ (⟨some 58,_,_,_,_,_⟩::_) _ _);(refine wpList_load_mid rfl 193 (.tmp 57) rfl wr.heap.size 2 rfl (bv x.b) _ Hp.o Tryz.underlying193 rfl (by rw[bv_len,Ha.o];exact qbX) ?_))
     | ((with_reducible show wpList _ _ _ (⟨none,.store 193 _ _,_,_,_,_⟩::_) _ _);(refine wpList_store_mid rfl 193 (.tmp 9) (.tmp 58) rfl w.heap.size 0 (bv x.b).toArray rfl rfl (there_of_block Hf.o 0 (by simp[bv_len,Ha.o,Hl.o])) (by simp only[zas];rw[bv_len,Ha.o];exact qbX) (all_oneCell_toArray (qak _)) ?_)))
    refine⟨⟨j+1,by go_num,by omega,below_setCells (hb.alloc (by omega) _) (zad _) _ _,?_⟩,by simp[intOf];omega⟩;rw[qae Hf.o _ (by simp[bv_len,Ha.o,Hl.o]),Hn.o,zax hm2]
   ·by_cases hd1:x.dev=d
    ·have HC:¬x.place=k:=fun e=>hm2 ⟨hd1,e⟩;have u1:((x.dev:Int)==(d:Int))=true:=by rw[hd1];exact beq_self_eq_true _
     have u2:((x.place:Int)==(k:Int))=false:=by rw[zaN];omega
     go_wp2_with (first
      | ((with_reducible show wpList _ _ _ (⟨some 46,_,_,_,_,_⟩::_) _ _);(refine wpList_load_mid rfl 195 (.tmp 45) rfl g (j*66) rfl (wv x) _ Ho.o Tryz.underlying195 rfl (by rw[qau _ Ha.o];exact qal qaH) ?_))
      | ((with_reducible show wpList _ _ _ (⟨none,.store 195 _ _,_,_,_,_⟩::_) _ _);(refine qag (w1:=wr) rfl 195 (.tmp 11) (.tmp 46) rfl _ _ rfl rfl (wv x) rfl (by rw[qau _ Ha.o];exact qal qaH) (by rw[qau _ Ha.o];kernel_rfl) (qdI _) ?_))
      | ((with_reducible show wpList _ _ _ (⟨some 58,_,_,_,_,_⟩::_) _ _);(refine wpList_load_mid rfl 193 (.tmp 57) rfl wr.heap.size 2 rfl (bv x.b) _ Hp.o Tryz.underlying193 rfl (by rw[bv_len,Ha.o];exact qbX) ?_))
      | ((with_reducible show wpList _ _ _ (⟨none,.store 193 _ _,_,_,_,_⟩::_) _ _);(refine wpList_store_mid rfl 193 (.tmp 9) (.tmp 58) rfl w.heap.size 0 (bv x.b).toArray rfl rfl (there_of_block Hf.o 0 (by simp[bv_len,Ha.o,Hl.o])) (by simp only[zas];rw[bv_len,Ha.o];exact qbX) (all_oneCell_toArray (qak _)) ?_)))
     refine⟨⟨j+1,by go_num,by omega,hb.alloc (by omega) _,?_⟩,by simp[intOf];omega⟩;rw[Hf.o,Hn.o,zaC hm2]
    ·have u1:((x.dev:Int)==(d:Int))=false:=by rw[zaN];omega
     go_wp2_with (first
      | ((with_reducible show wpList _ _ _ (⟨some 46,_,_,_,_,_⟩::_) _ _);(refine wpList_load_mid rfl 195 (.tmp 45) rfl g (j*66) rfl (wv x) _ Ho.o Tryz.underlying195 rfl (by rw[qau _ Ha.o];exact qal qaH) ?_))
      | ((with_reducible show wpList _ _ _ (⟨none,.store 195 _ _,_,_,_,_⟩::_) _ _);(refine qag (w1:=wr) rfl 195 (.tmp 11) (.tmp 46) rfl _ _ rfl rfl (wv x) rfl (by rw[qau _ Ha.o];exact qal qaH) (by rw[qau _ Ha.o];kernel_rfl) (qdI _) ?_))
      | ((with_reducible show wpList _ _ _ (⟨some 58,_,_,_,_,_⟩::_) _ _);(refine wpList_load_mid rfl 193 (.tmp 57) rfl wr.heap.size 2 rfl (bv x.b) _ Hp.o Tryz.underlying193 rfl (by rw[bv_len,Ha.o];exact qbX) ?_))
      | ((with_reducible show wpList _ _ _ (⟨none,.store 193 _ _,_,_,_,_⟩::_) _ _);(refine wpList_store_mid rfl 193 (.tmp 9) (.tmp 58) rfl w.heap.size 0 (bv x.b).toArray rfl rfl (there_of_block Hf.o 0 (by simp[bv_len,Ha.o,Hl.o])) (by simp only[zas];rw[bv_len,Ha.o];exact qbX) (all_oneCell_toArray (qak _)) ?_)))
     refine⟨⟨j+1,by go_num,by omega,hb.alloc (by omega) _,?_⟩,by simp[intOf];omega⟩;rw[Hf.o,Hn.o,zaC hm2]
  ·obtain rfl:j=n:=by omega
   have HT:=zH (show lay p.disk (p.waits.take j)=p.seen by rw[←Hi.o,zbA];rfl);have Hm:=zH (show(p.seen d k).length=64 from Pl.Ok.seen H3.o d k);have Hw:=zH (show wr.heap[w.heap.size]?=some (.cells (bv (p.seen d k)).toArray 193 (0,0))by rw[Hb.o,HT.o]);have Hx:=zH (show w.heap.size<wr.heap.size from(zaa.1 Hb.o).1);clear Hb HT;obtain⟨i0,hi0,hz0,hz1,hz2⟩:=zaY qcu;go_wp2_with (first
    | ((with_reducible show wpList _ _ _ (⟨some 60,_,_,_,_,_⟩::_) _ _);(refine zci _ rfl (.const (.int .i64 64)) (.const (.int .i64 64)) 40 rfl wr.heap.size 5 i0 _ 1 Tryz.underlying40 hi0 hz0 hz1 .i64 .i64 _ _ 64 rfl rfl (by omega) (by omega) (by rw[hz2];omega) (by unfold maxLen;omega) (zad _) ?_;intro w2 hown2 hg2))
    | ((with_reducible show wpList _ _ _ (⟨some 63,_,_,_,_,_⟩::_) _ _);(refine wpList_copy_splice rfl (.tmp 61) (.tmp 62) 40 40 rfl 5 Tryz.underlying40 (by kernel_rfl) (some ⟨wr.heap.size,0,none⟩) (some ⟨w.heap.size,0,none⟩) 64 64 64 64 rfl rfl wr.heap.size 0 _ 5 (qcT hown2) (bv (p.seen d k)) (by rw[bv_len,Hm.o];rfl) (fun _=>⟨rfl,_,rfl,(qas (((zb0 (zai _ _) hg2 (zad _) (fun b e=>by cases e)).block _ Hx.o).trans Hw.o) (m:=64) (size:=1) (by rw[bv_len,Hm.o])).at_ (by decide) |>.elim fun ad h=>by cases h.1;exact h.2⟩) (by rw[bv_len,Hm.o];simp[madeCells]) (qak _) wr.heap.size wr (zb0 (zai _ _) hg2 (zad _) (fun b e=>by cases e)) (zad _) ?_;intro w4 HG4 hb4)))
   go_ret2
   refine⟨wr.heap.size,rfl,hz,?_,hb.trans (hb4.mono hz)⟩;rw[HG4.out];simp[splice,bv_len,Hm.o,madeCells]
structure PlD (w:World) (a:PA) (most:List Nat) (tp:List Tp) (disk:qaZ):Prop where
 c2:w.cell? ⟨a.P,2,none⟩=some (.slice (some ⟨a.DV,0,none⟩) (most.length+tp.length) a.dcap)
 dv:w.ownsRow 0 94 5 (.slice (some ⟨a.DV,0,none⟩) (most.length+tp.length) a.dcap) (most.length+tp.length) (qdo most a.maps tp a.tmaps)
 mlen:a.maps.length=most.length
 mnd:(a.maps++a.tmaps).Nodup
 mne:∀ M∈a.maps++a.tmaps,M≠a.P∧M≠a.DV
 maps:∀ d M,(a.maps++a.tmaps)[d]?=some M→∃ l,IMap w M l∧∀ k:Nat,(qaV (k:Int) l 0).map (·.2)=some (.agg (bv (disk d k)).toArray)∨(qaV (k:Int) l 0=none∧disk d k=List.replicate 64 0)
theorem PlR.toD (h1:w.heap[a.P]?=some (.cells (qcZ a vw p st now) 90 (0,0)))(h2:PlR w a F vw p.most p.tp p.disk p.waits):PlD w a p.most p.tp p.disk:=
 ⟨by rw[zao w _ 2 _ _ _ h1];rfl,h2.dv,h2.mlen,h2.mnd,fun M hM=>(h2.fM M hM).2,h2.maps⟩
theorem PlD.keep {disk:qaZ}(h:PlD w a most tp disk)(hk:∀ b,b=a.P∨b=a.DV∨b∈a.maps++a.tmaps→w'.heap[b]?=w.heap[b]?):PlD w' a most tp disk:=
 ⟨by rw[←h.c2];unfold World.cell?;rw[hk _ (.inl rfl)],qbG h.dv (hk _ (.inr (.inl rfl))),h.mlen,h.mnd,h.mne,fun d M hd=>by
  obtain⟨l,i1,i2⟩:=h.maps d M hd;exact⟨l,i1.of_heap (hk M (.inr (.inr (zak hd)))),i2⟩⟩
theorem PlD.dev_at {disk:qaZ}(h:PlD w a most tp disk)(hd:most[d]?=some m):∃ M,(a.maps++a.tmaps)[d]?=some M∧
  w.cell? ⟨a.DV,d*5,none⟩=some (.bool false)∧w.cell? ⟨a.DV,d*5+2,none⟩=some (.map (some M)):=by
 have hl:=(zac.1 hd).1;have hM:a.maps[d]?=some (a.maps[d]'(by rw[h.mlen];exact hl)):=zab _;have hz:(List.zip most a.maps)[d]?=some (m,a.maps[d]'(by rw[h.mlen];exact hl)):=by
  rw[List.getElem?_zip_eq_some];exact⟨hd,hM⟩
 have hc:∀ j,j<5→w.cell? ⟨a.DV,d*5+j,none⟩=(qcx m (a.maps[d]'(by rw[h.mlen];exact hl)))[j]?:=by
  intro j hj;rw[h.dv.cellAt (d*5+j) (by omega)];unfold qdo;have Ha:∀ y∈List.zip most a.maps,(qcx y.1 y.2).length=5:=fun _ _=>rfl;have Hb:d<(List.zip most a.maps).length:=(zac.1 hz).1;rw[zaH (by rw[qeC Ha];omega),flat_at Ha hz j hj]
 refine⟨_,by rw[zaH (by rw[h.mlen];exact hl)];exact hM,?_,?_⟩
 ·rw[show d*5=d*5+0 from rfl,hc 0 (by omega)];rfl
 ·rw[hc 2 (by omega)];rfl
theorem qfz (k:Int)(v:Value)(k':Int):∀ (l:List (Int×Value)) (i:Nat),(qaV k' (qew k v l) i).map (·.2)=if k'=k then some v else(qaV k' l i).map (·.2)
 | [],i=>by
  unfold qew qaV;by_cases h:k'=k
  ·simp[h]
  ·simp[h,qaV]
 | p::r,i=>by
  unfold qew;by_cases hk:k=p.1
  ·rw[zax hk];unfold qaV;by_cases h:k'=k
   ·simp[h]
   ·have h2:¬k'=p.1:=by rw[←hk];exact h
    simp[h,h2]
  ·rw[zaC hk];unfold qaV;by_cases h:k'=p.1
   ·have:¬k'=k:=fun e=>hk (e▸h);simp[h];intro e;exact absurd e.symm hk
   ·rw[zaC h,zaC h];exact qfz k v k' r (i+1)
theorem qkj {α:Type}{l:List α}(h:l.Nodup){j:Nat}{x:α}(hi:l[i]?=some x)(hj:l[j]?=some x):i=j:=by
 rcases Nat.lt_trichotomy i j with hlt|rfl|hlt
 ·exfalso;have:=zcu.1 h i j (zac.1 hi).1 (zac.1 hj).1 hlt;exact this ((zac.1 hi).2.trans (zac.1 hj).2.symm)
 ·rfl
 ·exfalso;have:=zcu.1 h j i (zac.1 hj).1 (zac.1 hi).1 hlt;exact this ((zac.1 hj).2.trans (zac.1 hi).2.symm)
theorem PlD.settle {disk:qaZ}(h:PlD w a most tp disk){M:Nat}(hM:(a.maps++a.tmaps)[x.dev]?=some M){l:List (Int×Value)}(hl:IMap w M l)
  (hlk:∀ k:Nat,(qaV (k:Int) l 0).map (·.2)=some (.agg (bv (disk x.dev k)).toArray)∨(qaV (k:Int) l 0=none∧disk x.dev k=List.replicate 64 0))
  (hl':IMap w' M (qew (x.place:Int) (.agg (bv x.b).toArray) l))(hk:∀ b,b<w.heap.size→b≠M→w'.heap[b]?=w.heap[b]?):PlD w' a most tp (setD disk x.dev x.place x.b):=by
 have Hc:=zak hM;have Hf:∀ {b v},w.heap[b]?=some v→b<w.heap.size:=fun h=>(zaa.1 h).1;have hP:a.P<w.heap.size:=by
  have:=zav w ⟨a.P,2,none⟩ h.c2;exact this
 have He:a.DV<w.heap.size:=by
  rcases h.dv.2 with⟨h0,_⟩|⟨g,_,_,e,_,hh,_⟩
  ·cases h0
  ·cases e;exact Hf hh
 refine⟨by rw[←h.c2];unfold World.cell?;rw[hk _ hP (h.mne M Hc).1.symm],qbG h.dv (hk _ He (h.mne M Hc).2.symm),h.mlen,h.mnd,h.mne,fun d N hd=>?_⟩;by_cases hdx:d=x.dev
 ·subst hdx;have Ha:N=M:=by rw[hM]at hd;exact(zaG hd).symm
  subst Ha;refine⟨_,hl',fun k=>?_⟩;have h1:=qfz (x.place:Int) (.agg (bv x.b).toArray) (k:Int) l 0;by_cases hkx:k=x.place
  ·subst hkx;left;rw[h1,zax rfl];unfold setD;rw[zax ⟨rfl,rfl⟩]
  ·have Hb:¬(k:Int)=(x.place:Int):=fun e=>hkx (by omega);rw[zaC Hb]at h1;unfold setD;rw[zaC (fun e=>hkx e.2)];rcases hlk k with h2|⟨h2,h3⟩
   ·left;rw[h1];exact h2
   ·right;refine⟨?_,h3⟩;rw[h2]at h1;cases hf:qaV (k:Int) (qew (x.place:Int) (Value.agg (bv x.b).toArray) l) 0 with
    | none=>rfl
    | some r=>rw[hf]at h1;cases h1
 ·obtain⟨l2,i1,i2⟩:=h.maps d N hd;have Ha:N≠M:=by
   intro e;subst e;have e1:=(zac.1 hd);have e2:=(zac.1 hM);exact hdx (qkj h.mnd hd hM)
  refine⟨l2,i1.of_heap (hk N i1.lt Ha),fun k=>?_⟩;unfold setD;rw[zaC (fun e=>hdx e.1)];exact i2 k
def MB (a:PA)(b:Nat):Prop:=b∈a.maps++a.tmaps
def fset (disk:qaZ)(d:Nat)(x:Wt):qaZ:=if x.dev=d then setD disk x.dev x.place x.b else disk
theorem qaj (h:Touch F w w'){b:Nat}(hl:b<w.heap.size)(hn:¬F b):w'.cell? ⟨b,i,none⟩=w.cell? ⟨b,i,none⟩:=by
 unfold World.cell?;rw[h.block b hl hn]
theorem qcW {P:Program}{ops:Array Oper}{rest:List Oper}{o:Oper}{a:Act}{Q:Exit→Act→World→Prop}(hgd:o.guard=none)(t:TypeId)(m k v:Operand)(ho:o.op=.mapUpdate t m k v)
  (mv kv vv:Value)(hm:a.eval m=mv)(hk:a.eval k=kv)(hv:a.eval v=vv)(hr:(Instr.mapUpdate t mv kv vv).run P w=.ok () w')
  (h:wpList P ops Q rest (a.put o.dst undef) w'):wpList P ops Q (o::rest) a w:=by
 refine zce hgd fun K hK=>?_;unfold Oper.wp execOp;simp only[ho,hm,hk,hv,zbw,hr,zaO,zbK];exact hK _ _ h
theorem qic {disk:qaZ}(h:PlD w a most tp disk)(hd:most[x.dev]?=some m)(hx:x.b.length=64) :
  Calls Tryz.prog 107 #[.pointer (some ⟨a.P,0,none⟩),.agg (wv x).toArray] w fun e w'=>e=.returned (.tuple #[])∧PlD w' a most tp (setD disk x.dev x.place x.b)∧Touch (MB a) w w':=by
 obtain⟨M,hM,c0,cM⟩:=h.dev_at hd;have Hm:=(zac.1 hd).1;obtain⟨l,hl1,hl2⟩:=h.maps x.dev M hM;have c2:=h.c2;have H:=zH h;have Hc:=zH hl1;have Hf:=zH hl2;have d0:(0:Int)≤(x.dev:Int):=by omega
 obtain⟨n,hn⟩:∃ n,most.length+tp.length=n:=⟨_,rfl⟩;rw[hn]at c2;have d1:(x.dev:Int)<(n:Int):=by omega
 have d2:x.dev<n:=by omega
 clear h hl1 hl2 hn;have hP:a.P<w.heap.size:=zav w ⟨a.P,2,none⟩ c2;have He:a.DV<w.heap.size:=zav w ⟨a.DV,x.dev*5,none⟩ c0;have Hl:a.P≠w.heap.size:=by omega
 have Hk:a.DV≠w.heap.size:=by omega
 have e0:(w.alloc (.cells (wv x).toArray 195)).cell? ⟨w.heap.size,0,none⟩=some (.int .i64 (x.dev:Int)):=by
  rw[zao _ _ 0 _ _ _ (zae w _)];rfl
 have e1:(w.alloc (.cells (wv x).toArray 195)).cell? ⟨w.heap.size,1,none⟩=some (.int .i64 (x.place:Int)):=by
  rw[zao _ _ 1 _ _ _ (zae w _)];rfl
 have Hj:=zH (show ∀ n,((w.alloc (.cells (wv x).toArray 195)).drewN n).rangeAt w.heap.size 2 (bv x.b)from fun n i v hv=>by
  have:((w.alloc (.cells (wv x).toArray 195)).drewN n).cell? ⟨w.heap.size,2+i,none⟩=(w.alloc (.cells (wv x).toArray 195)).cell? ⟨w.heap.size,2+i,none⟩:=rfl;rw[this,zao _ _ (2+i) _ _ _ (zae w _),zbg];unfold wv;rw[zaz (by simp)];simpa using hv)
 have Hg:=zH (show M<w.heap.size from Hc.o.lt);go_enter Tryz.func107,Tryz.ntmps107
 go_wp2
 go_quiet (fail)
 go_wp2;rename Nat=>nq;obtain⟨W,hW⟩:∃ W,((w.alloc (.cells (wv x).toArray 195)).drewN nq).drew=W:=⟨_,rfl⟩;have Ha:Below w.heap.size w W:=by rw[←hW];exact(((zB _ _)).trans ⟨rfl,rfl,rfl,zad _,fun _ _=>rfl⟩)
 have Hb:=zH Ha;have q0:W.cell? ⟨w.heap.size,1,none⟩=some (.int .i64 (x.place:Int)):=by rw[←hW];exact e1
 have q1:W.cell? ⟨a.DV,x.dev*5+2,none⟩=some (.map (some M)):=(Ha.cell (p:=⟨a.DV,x.dev*5+2,none⟩) He).trans cM;have q2:W.cell? ⟨a.DV,x.dev*5,none⟩=some (.bool false):=(Ha.cell (p:=⟨a.DV,x.dev*5,none⟩) He).trans c0;have Hi:=zH (show W.rangeAt w.heap.size 2 (bv x.b)by rw[←hW];exact Hj.o nq);obtain⟨o,hr,hm⟩:=qib (P:=Tryz.prog) Tryz.underlying92 Tryz.underlying3 (w:=W) (Hc.o.of_heap (Ha.block M Hg.o)) (x.place:Int) (.agg (bv x.b).toArray);have HR:=zH hr;have Hh:=zH hm;clear hr hm Ha e0 e1;refine wp_region_still_tail 8 (by kernel_rfl) (by kernel_rfl) ?_;simp only[World.drew_eq,zbt,zbT,zbI,zbS];rw[hW];have HW:=zH hW;clear hW
 iterate 7 still_step
 refine qeB rfl 193 (.tmp 18) rfl w.heap.size 2 rfl (bv x.b) _ Hi.o Tryz.underlying193 rfl (by rw[bv_len,hx];exact qbX) (some 19) rfl ?_;refine wpStill_nil ?_;simp only[Act.put,zaM,List.set_cons_zero,List.set_cons_succ];refine qcW rfl 92 (.tmp 15) (.tmp 17) (.tmp 19) rfl _ _ _ rfl rfl rfl HR.o ?_;have r2:(qcI W M o).cell? ⟨a.DV,x.dev*5,none⟩=some (.bool false):=by
  rw[←q2];unfold World.cell?;rw[(qcJ W M o).block a.DV (zag He Hb.o.size) (fun e=>(H.o.mne M (zak hM)).2 (by cases e;rfl))]
 go_wp2;go_returns;have hT:Touch (MB a) w (qcI W M o):=(Touch.of_below Hb.o).trans (Touch.of_grown (qcJ W M o) (fun k e=>by cases e;exact zak hM));refine⟨rfl,H.o.settle hM Hc.o Hf.o Hh.o (fun b hb hne=>?_),hT⟩;exact((qcJ W M o).block b (zag hb Hb.o.size) (fun e=>hne (by cases e;rfl))).trans (Hb.o.block b hb)
theorem qiO (w:World)(x:Wt):(w.alloc (.cells (wv x).toArray 195)).rangeAt w.heap.size 0 (wv x):=fun j v hv=>by
 rw[zaF,zao _ _ j _ _ _ (zae w _)];simpa using hv
theorem qdE {disk:qaZ}(h:PlD w a most tp disk)(hb:Below w.heap.size w w'):PlD w' a most tp disk:=by
 have hP:a.P<w.heap.size:=zav w ⟨a.P,2,none⟩ h.c2;have Ha:a.DV<w.heap.size:=by
  rcases h.dv.2 with⟨h0,_⟩|⟨g,_,_,e,_,hh,_⟩
  ·cases h0
  ·cases e;exact(zaa.1 hh).1
 refine h.keep fun b hbb=>hb.block b ?_;rcases hbb with rfl|rfl|hbb
 ·exact hP
 ·exact Ha
 ·obtain⟨i,hi⟩:=zca hbb;obtain⟨l,hl,_⟩:=h.maps i b hi;exact hl.lt
theorem qeQ {disk:qaZ}(h:PlD w a most tp disk)(hd:most[x.dev]?=some m)(hx:x.b.length=64){B3 B2:Nat}
  (c3:w.cell? ⟨B3,0,none⟩=some (.int .i64 (d:Int)))(cp:w.cell? ⟨B2,0,none⟩=some (.pointer (some ⟨a.P,0,none⟩)))(h3:B3∉a.maps++a.tmaps)(h2:B2∉a.maps++a.tmaps) :
  Calls Tryz.prog 106 #[.agg (wv x).toArray,.pointer (some ⟨B3,0,none⟩),.pointer (some ⟨B2,0,none⟩)] w fun e w'=>
   e=.returned (.bool (decide (x.dev=d)))∧PlD w' a most tp (fset disk d x)∧Touch (MB a) w w':=by
 have l3:B3<w.heap.size:=zav w _ c3;have l2:B2<w.heap.size:=zav w _ cp;have n3:B3≠w.heap.size:=by omega
 have n2:B2≠w.heap.size:=by omega
 have e0:(w.alloc (.cells (wv x).toArray 195)).cell? ⟨w.heap.size,0,none⟩=some (.int .i64 (x.dev:Int)):=by
  rw[zao _ _ 0 _ _ _ (zae w _)];rfl
 have He:=zH (qiO w x);have Hb:Below w.heap.size w (w.alloc (.cells (wv x).toArray 195)):=zB _ _;have HD:=zH (qdE h Hb);have HS:=zH (qic HD.o hd hx);have Hg:=zH Hb;clear Hb;have H3:=zH (show ¬MB a B3 from h3);have Hc:=zH (show ¬MB a w.heap.size from fun e=>by
  obtain⟨i,hi⟩:=zca e;obtain⟨l,hl,_⟩:=h.maps i _ hi;exact zb9 _ hl.lt)
 have Hf:(w.alloc (.cells (wv x).toArray 195)).cell? ⟨B3,0,none⟩=some (.int .i64 (d:Int)):=by rw[World.cell?_alloc_some _ _ _ (by rw[c3];rfl)];exact c3
 clear h3 h2;by_cases hdd:x.dev=d
 ·have t1:((x.dev:Int)==(d:Int))=true:=by rw[hdd];exact beq_self_eq_true _
  have Ha:=zH hdd;clear h hdd;go_enter Tryz.func106,Tryz.ntmps106
  go_wp2_with (first
   | ((with_reducible show wpList _ _ _ (⟨some 10,_,_,_,_,_⟩::_) _ _);(refine wpList_load_mid rfl 195 (.tmp 3) rfl w.heap.size 0 rfl (wv x) _ He.o Tryz.underlying195 rfl (by rw[qau _ hx];exact qal qaH) ?_))
   | (go_at_call 107;refine HS.o.mono ?_;rintro e w2 ⟨rfl,hD2,hT2⟩;have f0:w2.cell? ⟨w.heap.size,0,none⟩=some (.int .i64 (x.dev:Int)):=(qaj hT2 (by simp) Hc.o).trans e0;have f3:w2.cell? ⟨B3,0,none⟩=some (.int .i64 (d:Int)):=(qaj hT2 (by simp;omega) H3.o).trans Hf))
  go_ret;refine⟨by rw[zaT Ha.o];rfl,?_,((Touch.refl _ w).alloc _).trans hT2⟩;unfold fset;rw[zax Ha.o];exact hD2
 ·have t1:((x.dev:Int)==(d:Int))=false:=by rw[zaN];omega
  have Ha:=zH hdd;clear h hdd;go_enter Tryz.func106,Tryz.ntmps106
  go_wp2;go_ret;refine⟨by rw[zan Ha.o];rfl,?_,(Touch.refl _ w).alloc _⟩;unfold fset;rw[zaC Ha.o];exact HD.o
end Go.Proofs.YtfcknhbmeofniaaGreatDoor
