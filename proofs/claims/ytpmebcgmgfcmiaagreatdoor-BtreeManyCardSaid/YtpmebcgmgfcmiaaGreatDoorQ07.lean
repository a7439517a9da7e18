/- Texts HeldY PlW PlRd. -/
import Derived.Test.YtpmebcgmgfcmiaaGreatDoorQ06
set_option linter.all false
set_option maxRecDepth 100000
set_option maxHeartbeats 16000000
namespace Go.Proofs.YtpmebcgmgfcmiaaGreatDoor
open Go.RowKit
variable {P:Program}{ops:Array Oper}{Q:Exit→Act→World→Prop}{oi:Oper}{f:Nat}{l:Array Bool}{a:Act}{w:World}
theorem zS:(∀ (t:Array Value) (ds) (d:Nat) (v:Value),Act.put ⟨t,ds⟩ (some d) v=⟨t.setIfInBounds d v,ds⟩)∧(∀ (a:Act) (v:Value),Act.put a none v=a)∧(∀ (α:Type) (l:List α) (i:Nat) (v:α),l.toArray.setIfInBounds i v=(l.set i v).toArray)∧
  (∀ (α:Type) (x y:α) (l:List α),(x::l).set 0 y=y::l)∧(∀ (α:Type) (x y:α) (l:List α) (n:Nat),(x::l).set (n+1) y=x::l.set n y):=
 ⟨fun _ _ _ _=>rfl,fun _ _=>rfl,fun _ l i v=>List.setIfInBounds_toArray ..,fun _ _ _ _=>rfl,fun _ _ _ _ _=>rfl⟩
theorem zT {md:Region.Mode}{S:World→Prop}(i d:Nat)(v:Value)(hi:ops[i]?=some oi)(hy:YieldsIf P ops S oi v a)
  (h:wpAnyH P md ops Q S f (l.setIfInBounds i true) (a.put (some d) v) w)
  (hd:oi.dst=some d:=by rfl)(hs:Region.noSelect ops=true:=by kernel_rfl)(hf:Region.free md ops l i=true:=by kernel_rfl)(hr:(Region.ready md ops l).contains i=true:=by kernel_rfl)
  (hQ:∀ c a w,Q (.panic c) (a.put (some d) v) w→Q (.panic c) a w:=by exact fun _ _ _ h=>h)(hS:S w:=by assumption):wpAnyH P md ops Q S (f+1) l a w:=
 qey (some d) hi hd hs hf hr hQ hy hS h
theorem zU {md:Region.Mode}{S:World→Prop}(i d:Nat)(v:Value)
  (h:wpAnyH P md ops Q S f (l.setIfInBounds i true) (a.put (some d) v) w)(hi:ops[i]?=some oi:=by rfl)
  (hd:oi.dst=some d:=by rfl)(hs:Region.noSelect ops=true:=by kernel_rfl)(hf:Region.free md ops l i=true:=by kernel_rfl)(hr:(Region.ready md ops l).contains i=true:=by kernel_rfl)
  (hQ:∀ c a w,Q (.panic c) (a.put (some d) v) w→Q (.panic c) a w:=by exact fun _ _ _ h=>h)(hy:YieldsIf P ops S oi v a:=by exact Or.inl ⟨by rfl,fun W hS=>by go_simp⟩)(hS:S w:=by assumption):wpAnyH P md ops Q S (f+1) l a w:=
 qey (some d) hi hd hs hf hr hQ hy hS h
theorem zV {md:Region.Mode}{S:World→Prop}(i d:Nat)(v:Value)
  (h:wpAnyH P md ops Q S f (l.setIfInBounds i true) (a.put (some d) v) w)(hi:ops[i]?=some oi:=by rfl)
  (hd:oi.dst=some d:=by rfl)(hs:Region.noSelect ops=true:=by kernel_rfl)(hf:Region.free md ops l i=true:=by kernel_rfl)(hr:(Region.ready md ops l).contains i=true:=by kernel_rfl)
  (hQ:∀ c a w,Q (.panic c) (a.put (some d) v) w→Q (.panic c) a w:=by exact fun _ _ _ h=>h)(hy:YieldsIf P ops S oi v a:=by exact Or.inl ⟨by rfl,fun W hS=>by clear hS;go_simp⟩)(hS:S w:=by assumption):wpAnyH P md ops Q S (f+1) l a w:=
 qey (some d) hi hd hs hf hr hQ hy hS h
end Go.Proofs.YtpmebcgmgfcmiaaGreatDoor
namespace Go.Proofs.YtpmebcgmgfcmiaaGreatDoor
open Go.RowKit BT
variable {w:World}{F:Nat→Prop}{A:Option Addr}{l:Bs}{a:PA}{p:Pl}{d m k:Nat}
theorem zero_wt:Tryz.zeroCells81.toList=[.int .i64 0,.int .i64 0]++bv (zeros 64):=by kernel_rfl
theorem qaF:(Tryz.prog.info? 81).map (fun i=>(i.zero,i.size,i.bytes))=some (some (.agg Tryz.zeroCells81),66,80):=by kernel_rfl
theorem qhI (p:Pl):p.step.2.most=p.most:=by unfold Pl.step;split<;>rfl
theorem step_waits (p:Pl):p.step.2.waits=p.waits:=by unfold Pl.step;split<;>rfl
theorem qar (x:Wt)(h:x.b.length=64):(wv x).length=66:=by simp[wv,bv,h]
theorem qcX (x:Wt):∀ u∈wv x,u.oneCell'=true:=by
 intro u hu;unfold wv at hu;rcases zar.1 hu with hu|hu
 ·simp only[za0,zcD,or_false]at hu;rcases hu with rfl|rfl<;>rfl
 ·exact qaw _ u hu
theorem By.touch {w':World}(h:By w A l)(ht:Touch F w w')(hA:∀ ad,A=some ad→¬F ad.block):By w' A l:=
 ⟨fun h0=>by
  obtain⟨b,off,e,hl,hc⟩:=h.at_ h0;refine⟨b,off,e,zam hl ht.size,fun k c hk=>?_⟩;rw[←hc k c hk];unfold World.cell?;rw[ht.block b hl (hA _ e)]⟩
theorem PlM.app {w1 w5:World}{vw:Value}{st now:Int}(h1:w1.heap[a.P]?=some (.cells (qcA a vw p st now) 71 (0,0)))(h2:PlR w1 a F vw p.most p.tp p.disk p.waits)(h3:p.Ok)
  (x:Wt)(hx:x.b.length=64∧∃ m,p.most[x.dev]?=some m∧x.place<m){A5:Option Addr}{cap5:Nat}(hrow:Row w5 0 81 66 (.slice A5 (p.waits.length+1) cap5) (p.waits.length+1) (p.waits.flatMap wv++wv x))
  (hv:∀ b,(Value.slice A5 (p.waits.length+1) cap5).ownBlock=some b→vw.ownBlock=some b∨(w1.heap.size≤b∧b<w5.heap.size))(hT:Touch (fun b=>vw.ownBlock=some b) w1 w5) :
  ∃ F',PlM (w5.setCell ⟨a.P,3,none⟩ (.slice A5 (p.waits.length+1) cap5)) a F' { p with waits:=p.waits++[x] }∧Ext F F' w1 (w5.setCell ⟨a.P,3,none⟩ (.slice A5 (p.waits.length+1) cap5)):=by
 have Ha:∀ b,vw.ownBlock=some b→b<w1.heap.size:=fun b e=>(h2.wrow.blk b e).2;have Hb:w5.heap[a.P]?=w1.heap[a.P]?:=hT.block _ (h2.hF _ h2.fP) (fun e=>(h2.fw _ e).2.1 rfl);have hs:=hT.size;have Hc:∀ b,(Value.slice A5 (p.waits.length+1) cap5).ownBlock=some b→b≠a.P:=fun b e=>by
  rcases hv b e with h|h
  ·exact(h2.fw b h).2.1
  ·have:=h2.hF _ h2.fP;omega
 have hk:∀ b,F b→b≠a.P→vw.ownBlock≠some b→(w5.setCell ⟨a.P,3,none⟩ (.slice A5 (p.waits.length+1) cap5)).heap[b]?=w1.heap[b]?:=fun b hb hn hvn=>
  (za5 w5 _ _ b hn).trans (hT.block b (h2.hF b hb) hvn)
 refine⟨fun b=>F b∨(Value.slice A5 (p.waits.length+1) cap5).ownBlock=some b,⟨⟨.slice A5 (p.waits.length+1) cap5,st,now,?_,?_⟩,?_⟩,?_,?_⟩
 ·rw[qab (Hb.trans h1)];simp[qcA]
 ·refine⟨.inl h2.fP,?_,?_,⟨.inl h2.fDV.1,h2.fDV.2⟩,h2.mlen,h2.tlen,h2.mnd,fun M hM=>⟨.inl (h2.fM M hM).1,(h2.fM M hM).2⟩,?_,?_,?_,?_,?_,?_⟩
  ·intro b hb;simp only[zbP];rcases hb with hb|hb
   ·have:=h2.hF b hb;omega
   ·rcases hv b hb with h|h
    ·have:=Ha b h;omega
    ·exact h.2
  ·exact qbq h2.dv (hk _ h2.fDV.1 h2.fDV.2 (fun e=>(h2.fw _ e).2.2.1 rfl))
  ·intro d M hd;obtain⟨l,i1,i2⟩:=h2.maps d M hd;have hM:=zak hd;have:=h2.fM M hM;exact⟨l,i1.of_heap (hk M this.1 this.2.1 (fun e=>(h2.fw _ e).2.2.2.1 hM)),i2⟩
  ·have hl:(p.waits++[x]).length=p.waits.length+1:=by simp
   have hf:(p.waits++[x]).flatMap wv=p.waits.flatMap wv++wv x:=by simp
   show Own _ 0 _ 66 _ (p.waits++[x]).length ((p.waits++[x]).flatMap wv);rw[hl,hf];refine⟨hrow.keep fun b hb hlt=>za5 w5 _ _ b (Hc b hb),fun b e=>⟨za7 _,?_⟩⟩;simp only[zbP];rcases hv b e with h|h
   ·have:=Ha b h;omega
   ·exact h.2
  ·intro b e;rcases hv b e with h|h
   ·obtain⟨f1,f2,f3,f4,f5,f6⟩:=h2.fw b h;exact⟨.inl f1,f2,f3,f4,f5,f6⟩
   ·have hF:=h2.hF;refine⟨.inr e,?_,?_,?_,?_,?_⟩
    ·have:=hF _ h2.fP;omega
    ·have:=hF _ h2.fDV.1;omega
    ·intro hm;have:=hF _ (h2.fM b hm).1;omega
    ·intro ad hA e2;have:=hF _ (h2.sh ad (.inl hA)).1;omega
    ·intro ad hA e2;have:=hF _ (h2.sh ad (.inr hA)).1;omega
  ·intro ad e;obtain⟨f1,f2,f3,f4⟩:=h2.sh ad e;exact⟨.inl f1,f2,f3,f4⟩
  ·refine qaM h2.shape (by simp only[zbP];omega) fun b off e=>?_;have:=h2.sh _ (.inl e);exact hk b this.1 this.2.1 (fun e2=>(h2.fw _ e2).2.2.2.2.1 _ e rfl)
  ·refine qaM h2.shapeT (by simp only[zbP];omega) fun b off e=>?_;have:=h2.sh _ (.inr e);exact hk b this.1 this.2.1 (fun e2=>(h2.fw _ e2).2.2.2.2.2 _ e rfl)
 ·refine⟨fun y hy=>?_,h3.disk,h3.most,h3.devs,h3.fuse⟩;rcases zar.1 hy with hy|hy
  ·exact h3.waits y hy
  ·obtain rfl:y=x:=by simpa using hy
   exact hx
 ·refine⟨hT.os,hT.tape,hT.output,by simp only[zbP];exact hs,fun b hb hn=>?_⟩;exact(za5 w5 _ _ b (fun e=>hn (e▸h2.fP))).trans (hT.block b hb (fun e=>hn (h2.fw b e).1))
 ·intro b hb;rcases hb with hb|hb
  ·exact .inl hb
  ·rcases hv b hb with h|h
   ·exact .inl (h2.fw b h).1
   ·exact .inr h.1
theorem qj7 (h:PlM w a F p)(hd:p.most[d]?=some m)(hk:k<m){c:Nat}(hb:By w A l)(hl:l.length=64)(hbF:∀ ad,A=some ad→¬F ad.block)(hst:p.step.1=true)(hw:p.waits.length≤1099511627776) :
  Calls Tryz.prog 88 #[.pointer (some ⟨a.P,0,none⟩),.int .i64 d,.int .i64 k,.slice A 64 c] w fun e w'=>e=.returned (.int .i64 0)∧∃ F',PlM w' a F' (p.give ⟨d,k,l⟩).2∧Ext F F' w w':=by
 have hs:=qdG h;rw[hst]at hs;go_enter Tryz.func88,Tryz.ntmps88
 have E0:=zH (show(Tryz.zeroCells81.setIfInBounds 0 (Value.int IntKind.i64 ↑d)).setIfInBounds 1 (Value.int IntKind.i64 ↑k)=(wv ⟨d,k,zeros 64⟩).toArray by rw[←Array.toArray_toList (xs:=Tryz.zeroCells81),zero_wt];rfl);have HB:=zH hb;clear hb;go_upto_region 3 with(go_at_call 82;refine hs.mono ?_;rintro e w1 ⟨rfl,hp1,ht1,hz1⟩;have HC:=zH hz1;clear hz1)
 have HP:=zH (show ∀ (W:World),Below w1.heap.size w1 W→∃ ad,A=some ad∧∀ j v,(bv l)[j]?=some v→W.cell? (ad.add j)=some v from fun W hW=>by
  have hq:=((HB.o.touch ht1 (fun ad e=>hbF ad e)).below hW).src.at_ (by rw[hl];decide);exact hq)
 have HX:=zH (show l.length=64∧∃ m,p.step.2.most[d]?=some m∧k<m from⟨hl,m,by rw[qhI];exact hd,hk⟩);have HG:=zH (show(p.give ⟨d,k,l⟩).2={ p.step.2 with waits:=p.step.2.waits++[⟨d,k,l⟩] }by unfold Pl.give;rw[zaw hst,step_waits]);have HN:=zH (show p.step.2.waits.length+1≤maxLen∧(p.step.2.waits.length+1)*80≤140737488355328 by rw[step_waits];unfold maxLen;omega);obtain⟨⟨vw,st,now,h1,h2⟩,h3⟩:=hp1;have Hk:=zH h1;have Hc:=zH h2;have Hq:=zH h3;clear h1 h2 h3;go_wp2_with (first|((with_reducible show wpList _ _ _ (⟨none,.store _ _ _,_,_,_,_⟩::_) _ _);go_loud (refine qav (w1:=w1) rfl 81 (.tmp 9) (.tmp 15) rfl _ _ rfl rfl (wv ⟨d,k,zeros 64⟩) (congrArg Value.agg E0.o) (by kernel_rfl) (by kernel_rfl) (qcX _) ?_))|((with_reducible show wpList _ _ _ (⟨some 19,_,_,_,_,_⟩::_) _ _);go_loud (refine wpList_copy_splice rfl (.tmp 17) (.tmp 18) 34 34 rfl 5 Tryz.underlying34 (by kernel_rfl) (some ⟨w1.heap.size,2,none⟩) A 64 64 64 c rfl rfl w1.heap.size 2 (wv ⟨d,k,zeros 64⟩) 81 (zaf w1 _) (bv l) (by rw[bv_len,hl];rfl) (fun _=>⟨rfl,HP.o _ (zB _ _)⟩) (by rw[qar _ (zeros_len 64),bv_len,hl];exact zac _) (qaw _) w1.heap.size w1 (zB _ _) (zac _) ?_);intro w4 HG4 hb4))
 have Hg:=zH (show w4.heap[w1.heap.size]?=some (.cells (wv ⟨d,k,l⟩).toArray 81 (0,0))by
  rw[HG4.out];have:=qjI [Value.int .i64 (d:Int),Value.int .i64 (k:Int)] (bv (zeros 64)) (bv l) (by rw[bv_len,bv_len,hl,zeros_len]);exact congrArg (fun x=>some (Obj.cells (List.toArray x) 81 (0,0))) this)
 have Hy:=hb4.size;have Hw:a.P<w1.heap.size:=Hc.o.hF _ Hc.o.fP;have Hh:a.P<w4.heap.size:=by omega
 have Hx:a.P≠w4.heap.size:=by omega
 have Hr:=zH (show w1.heap.size<w4.heap.size from(zab.1 Hg.o).1);have Hm:=zH ((hb4.block a.P Hw).trans Hk.o);have c3:w4.cell? ⟨a.P,3,none⟩=some vw:=by rw[zan w4 _ 3 _ _ _ Hm.o];rfl
 have HE:(Instr.loadAt 81 (.pointer (some ⟨w1.heap.size,0,none⟩))).run Tryz.prog w4.drew=.ok (.agg (wv ⟨d,k,l⟩).toArray) w4.drew:=
  run_loadAt_mid w4.drew _ 0 _ _ _ (fun j v hv=>by
   rw[World.cell?_drew,zaO,zan w4 _ j _ _ _ Hg.o];simpa using hv) Tryz.underlying81 rfl (by rw[qar _ hl];exact qak qaF)
 obtain⟨i0,hi0,hz0,hz1,hz2⟩:=zaT qaF;have Hs:=zH (show ∀ o,Row (w4.drew.alloc o) 0 81 66 vw p.step.2.waits.length (p.step.2.waits.flatMap wv)from fun o=>Hc.o.wrow.row.below (zac _) (hb4.trans (((zai _ _).drew).alloc (by simpa using Hy) o)));have Hu:=Hc.o.fw;have Ht:=zH Hu;clear Hu;clear HG4;have Hj:=zH (show w4.drew.rangeAt w1.heap.size 0 (wv ⟨d,k,l⟩)from fun j v hv=>by rw[World.cell?_drew,zaO,zan w4 _ j _ _ _ Hg.o];simpa using hv);refine wp_region_held_drew (S:=fun W=>W.rangeAt w1.heap.size 0 (wv ⟨d,k,l⟩)) (by kernel_rfl) Hj.o (fun hHeld=>?_);refine zT 0 20 (.pointer (some ⟨a.P,0,none⟩)) rfl (Or.inl ⟨by rfl,fun W _=>by go_simp⟩) ?_;refine zT 1 21 (.pointer (some ⟨a.P,0,none⟩)) rfl (Or.inl ⟨by rfl,fun W _=>by go_simp⟩) ?_;try simp only[zS]
 refine zT 2 22 (.pointer (some ⟨a.P,0,none⟩)) rfl (Or.inl ⟨by rfl,fun W _=>by go_simp⟩) ?_;try simp only[zS]
 refine zT 3 23 (.pointer (some ⟨a.P,3,none⟩)) rfl (Or.inl ⟨by rfl,fun W _=>by go_simp⟩) ?_;try simp only[zS]
 refine qey (i:=5) (some 25) (v:=.agg (wv ⟨d,k,l⟩).toArray) rfl rfl (by kernel_rfl) (by kernel_rfl) (by kernel_rfl) (fun _ _ _ h=>h) (yieldsIf_load_mid (by rfl) 81 (.tmp 9) rfl w1.heap.size 0 rfl (wv ⟨d,k,l⟩) _ (fun _ h=>h) Tryz.underlying81 rfl (by rw[qar _ hl];exact qak qaF)) (by assumption) ?_;try simp only[zS]
 have Ho:=zH (show(w4.drew.alloc (.cells (wv ⟨d,k,l⟩).toArray 81)).rangeAt w1.heap.size 0 (wv ⟨d,k,l⟩)from fun j v hv=>by rw[World.cell?_alloc_some _ _ _ (by rw[Hj.o j v hv];rfl)];exact Hj.o j v hv);have HD:(w4.drew.alloc (.cells (wv ⟨d,k,l⟩).toArray 81)).cell? ⟨a.P,3,none⟩=some vw:=by rw[World.cell?_alloc_some _ _ _ (by rw[World.cell?_drew,c3];rfl)];exact c3
 refine wpAnyH_ready (rs:=[4,6]) (by kernel_rfl) (by simp) ?_;refine AllReadyH.cons rfl (fun K hK=>?_) (AllReadyH.cons rfl (fun K hK=>?_) AllReadyH.nil)
 ·go_simp;refine hK.out _ _ Hj.o (fun _=>?_);clear hK K;try simp only[zS]
  refine wpAnyH_ready (rs:=[6]) (by kernel_rfl) (by simp) ?_;refine AllReadyH.cons rfl (fun K hK=>?_) AllReadyH.nil;refine qbG rfl 69 (.tmp 25) rfl Tryz.underlying69 hi0 hz0 hz1 (by decide) (by decide) (.agg (wv ⟨d,k,l⟩).toArray) rfl (wv ⟨d,k,l⟩) rfl (qar _ hl) ?_;refine hK.out _ _ Ho.o (fun _=>?_);clear hK K;try simp only[zS]
  refine wpAnyH_ready (rs:=[7]) (by kernel_rfl) (by simp) ?_;refine AllReadyH.cons rfl (fun K hK=>?_) AllReadyH.nil;refine qbA rfl (.tmp 24) (.tmp 26) 69 rfl 0 81 i0 _ 66 80 Tryz.underlying69 hi0 hz0 hz1 hz2 (by kernel_rfl) (by decide) vw _ _ rfl (Hs.o _) (some ⟨w4.heap.size,0,none⟩) 1 1 (wv ⟨d,k,l⟩) rfl (qaE (zaf w4.drew _) (by rw[qar _ hl])) (qcX _) HN.o.1 HN.o.2 (za7 _) ?_;intro A5 cap5 w5 hrow5 hgrow5 hown5;have Ha:Touch (fun b=>vw.ownBlock=some b) w4 w5:=(((Touch.refl _ w4).drew).alloc _).trans (Touch.of_grown hgrow5 (fun b e=>e));have Hz:=Ha.size;have Hi:w5.heap[w1.heap.size]?=some (.cells (wv ⟨d,k,l⟩).toArray 81 (0,0)):=(Ha.block _ (by have:=Hr.o;omega) (fun e=>by have:=(Hc.o.wrow.blk _ e).2;omega)).trans Hg.o;have Hf:w5.heap[a.P]?=_:=(Ha.block _ Hh (fun e=>(Ht.o _ e).2.1 rfl)).trans Hm.o;have Hb:=zH (show w5.rangeAt w1.heap.size 0 (wv ⟨d,k,l⟩)from fun j v hv=>by rw[zaO,zan w5 _ j _ _ _ Hi];simpa using hv);have Hn:=zH (show ∀ u,(w5.setCell ⟨a.P,3,none⟩ u).rangeAt w1.heap.size 0 (wv ⟨d,k,l⟩)from fun u j v hv=>(World.cell?_setCell_far w5 ⟨a.P,3,none⟩ _ u (by simp only;omega)).trans (Hb.o j v hv));have Hv:w5.cell? ⟨a.P,3,none⟩=some vw:=by rw[zan w5 _ 3 _ _ _ Hf];rfl
  have HA:w5.frozen? ⟨a.P,3,none⟩=false:=by simp[World.frozen?,Hf]
  have Hp:=zH Ha;have Hl:=zH hown5;have He:=zH hrow5;clear Ha hown5 hrow5 Hi Hf hgrow5;refine hK.out _ _ Hb.o (fun _=>?_);clear hK K;try simp only[zS]
  refine wpAnyH_ready (rs:=[8]) (by kernel_rfl) (by simp) ?_;refine AllReadyH.cons rfl (fun K hK=>?_) AllReadyH.nil;go_simp;refine hK.out _ _ Hb.o (fun _=>?_);clear hK K;try simp only[zS]
  refine wpAnyH_ready (rs:=[9]) (by kernel_rfl) (by simp) ?_;refine AllReadyH.cons rfl (fun K hK=>?_) AllReadyH.nil;go_simp;refine hK.out _ _ Hb.o (fun _=>?_);clear hK K;try simp only[zS]
  refine wpAnyH_ready (rs:=[10]) (by kernel_rfl) (by simp) ?_;refine AllReadyH.cons rfl (fun K hK=>?_) AllReadyH.nil;go_simp;refine hK.out _ _ (Hn.o _) (fun _=>?_);clear hK K;try simp only[zS]
  refine wpAnyH_done (by kernel_rfl) ?_ _;go_wp2;go_ret;refine⟨rfl,?_⟩;obtain⟨F',f1,f2⟩:=PlM.app Hk.o Hc.o Hq.o ⟨d,k,l⟩ HX.o He.o (fun b e=>by
   rcases Hl.o b e with h|h
   ·exact .inl h
   ·simp only[za2,zcQ]at h;exact .inr ⟨by omega,h.2⟩) ((Touch.of_below hb4).trans Hp.o)
  refine⟨F',?_,(Ext.of ht1).trans f2⟩;rw[HG.o];exact f1
 ·refine qbG rfl 69 (.tmp 25) rfl Tryz.underlying69 hi0 hz0 hz1 (by decide) (by decide) (.agg (wv ⟨d,k,l⟩).toArray) rfl (wv ⟨d,k,l⟩) rfl (qar _ hl) ?_;refine hK.out _ _ Ho.o (fun _=>?_);clear hK K;try simp only[zS]
  refine wpAnyH_ready (rs:=[4]) (by kernel_rfl) (by simp) ?_;refine AllReadyH.cons rfl (fun K hK=>?_) AllReadyH.nil;go_simp;refine hK.out _ _ Ho.o (fun _=>?_);clear hK K;try simp only[zS]
  refine wpAnyH_ready (rs:=[7]) (by kernel_rfl) (by simp) ?_;refine AllReadyH.cons rfl (fun K hK=>?_) AllReadyH.nil;refine qbA rfl (.tmp 24) (.tmp 26) 69 rfl 0 81 i0 _ 66 80 Tryz.underlying69 hi0 hz0 hz1 hz2 (by kernel_rfl) (by decide) vw _ _ rfl (Hs.o _) (some ⟨w4.heap.size,0,none⟩) 1 1 (wv ⟨d,k,l⟩) rfl (qaE (zaf w4.drew _) (by rw[qar _ hl])) (qcX _) HN.o.1 HN.o.2 (za7 _) ?_;intro A5 cap5 w5 hrow5 hgrow5 hown5;have Ha:Touch (fun b=>vw.ownBlock=some b) w4 w5:=(((Touch.refl _ w4).drew).alloc _).trans (Touch.of_grown hgrow5 (fun b e=>e));have Hz:=Ha.size;have Hi:w5.heap[w1.heap.size]?=some (.cells (wv ⟨d,k,l⟩).toArray 81 (0,0)):=(Ha.block _ (by have:=Hr.o;omega) (fun e=>by have:=(Hc.o.wrow.blk _ e).2;omega)).trans Hg.o;have Hf:w5.heap[a.P]?=_:=(Ha.block _ Hh (fun e=>(Ht.o _ e).2.1 rfl)).trans Hm.o;have Hb:=zH (show w5.rangeAt w1.heap.size 0 (wv ⟨d,k,l⟩)from fun j v hv=>by rw[zaO,zan w5 _ j _ _ _ Hi];simpa using hv);have Hn:=zH (show ∀ u,(w5.setCell ⟨a.P,3,none⟩ u).rangeAt w1.heap.size 0 (wv ⟨d,k,l⟩)from fun u j v hv=>(World.cell?_setCell_far w5 ⟨a.P,3,none⟩ _ u (by simp only;omega)).trans (Hb.o j v hv));have Hv:w5.cell? ⟨a.P,3,none⟩=some vw:=by rw[zan w5 _ 3 _ _ _ Hf];rfl
  have HA:w5.frozen? ⟨a.P,3,none⟩=false:=by simp[World.frozen?,Hf]
  have Hp:=zH Ha;have Hl:=zH hown5;have He:=zH hrow5;clear Ha hown5 hrow5 Hi Hf hgrow5;refine hK.out _ _ Hb.o (fun _=>?_);clear hK K;try simp only[zS]
  refine wpAnyH_ready (rs:=[8]) (by kernel_rfl) (by simp) ?_;refine AllReadyH.cons rfl (fun K hK=>?_) AllReadyH.nil;go_simp;refine hK.out _ _ Hb.o (fun _=>?_);clear hK K;try simp only[zS]
  refine wpAnyH_ready (rs:=[9]) (by kernel_rfl) (by simp) ?_;refine AllReadyH.cons rfl (fun K hK=>?_) AllReadyH.nil;go_simp;refine hK.out _ _ Hb.o (fun _=>?_);clear hK K;try simp only[zS]
  refine wpAnyH_ready (rs:=[10]) (by kernel_rfl) (by simp) ?_;refine AllReadyH.cons rfl (fun K hK=>?_) AllReadyH.nil;go_simp;refine hK.out _ _ (Hn.o _) (fun _=>?_);clear hK K;try simp only[zS]
  refine wpAnyH_done (by kernel_rfl) ?_ _;go_wp2;go_ret;refine⟨rfl,?_⟩;obtain⟨F',f1,f2⟩:=PlM.app Hk.o Hc.o Hq.o ⟨d,k,l⟩ HX.o He.o (fun b e=>by
   rcases Hl.o b e with h|h
   ·exact .inl h
   ·simp only[za2,zcQ]at h;exact .inr ⟨by omega,h.2⟩) ((Touch.of_below hb4).trans Hp.o)
  refine⟨F',?_,(Ext.of ht1).trans f2⟩;rw[HG.o];exact f1
theorem qlc (h:PlM w a F p){c:Nat}(hst:p.step.1=false) :
  Calls Tryz.prog 88 #[.pointer (some ⟨a.P,0,none⟩),.int .i64 d,.int .i64 k,.slice A 64 c] w fun e w'=>e=.returned (.int .i64 2)∧PlM w' a F p.step.2∧Ext F F w w':=by
 have hs:=qdG h;rw[hst]at hs;have HP:=zH h;clear h;go_enter Tryz.func88,Tryz.ntmps88
 go_wp2_with (go_at_call 82;refine hs.mono ?_;rintro e w1 ⟨rfl,hp1,ht1,hz1⟩;have Ha:=zH hz1;clear hz1)
 go_ret;exact⟨rfl,hp1,Ext.of ht1⟩
def qet (p:Pl)(x:Wt):Int:=if(p.give x).1 then 0 else 2
theorem qlb (h:PlM w a F p)(hd:p.most[d]?=some m)(hk:k<m){c:Nat}(hb:By w A l)(hl:l.length=64)(hbF:∀ ad,A=some ad→¬F ad.block)(hw:p.waits.length≤1099511627776) :
  Calls Tryz.prog 88 #[.pointer (some ⟨a.P,0,none⟩),.int .i64 d,.int .i64 k,.slice A 64 c] w fun e w'=>e=.returned (.int .i64 (qet p ⟨d,k,l⟩))∧∃ F',PlM w' a F' (p.give ⟨d,k,l⟩).2∧Ext F F' w w':=by
 cases hst:p.step.1 with
 | true=>
  refine(qj7 h hd hk hb hl hbF hst hw).mono ?_;rintro e w' ⟨rfl,h2⟩;refine⟨?_,h2⟩;unfold qet Pl.give;rw[zaw hst];rfl
 | false=>
  refine(qlc h hst).mono ?_;rintro e w' ⟨rfl,h2,h3⟩;refine⟨?_,F,?_,h3⟩
  ·unfold qet Pl.give;rw[hst];rfl
  ·unfold Pl.give;rw[zaB (by rw[hst];decide)];exact h2
theorem qgi (h:PlM w a F p)(hd:p.most[d]?=some m)(hk:k<m){c:Nat}(hb:By w A l)(hl:l.length=64)(hbF:∀ ad,A=some ad→¬F ad.block)(hw:p.waits.length≤1099511627776)(hoff:p.off=false) :
  Calls Tryz.prog 69 #[.pointer (some ⟨a.P,0,none⟩),.int .i64 d,.int .i64 k,.slice A 64 c] w fun e w'=>e=.returned (.int .i64 (qet p ⟨d,k,l⟩))∧∃ F',PlM w' a F' (p.give ⟨d,k,l⟩).2∧Ext F F' w w':=by
 obtain⟨M,_,c0,c1,_⟩:=h.dev_at hd;have Ha:=qev h hd;have Hb:=qlb h hd hk hb hl hbF hw (c:=c);obtain⟨⟨vw,st,now,h1,h2⟩,h3⟩:=h;have hm:=h3.most m (zak hd);have c4:w.cell? ⟨a.P,4,none⟩=some (.bool false):=by rw[zan w _ 4 _ _ _ h1,←hoff];rfl
 have t1:decide ((k:Int)<0)=false:=zal (by omega);have t2:decide (m≤k)=false:=zal (by omega);have HD:=zH Ha;have HG:=zH Hb;clear Ha Hb h1 h2 h3 hd hl hoff hb;go_enter Tryz.func69,Tryz.ntmps69
 go_wp2_with (first|(go_at_call 81;refine HD.o.mono ?_;rintro e w1 ⟨rfl,rfl⟩)|(go_at_call 88;refine HG.o.mono ?_;rintro e w2 ⟨rfl,F',hp2,ht2⟩))
 go_ret;exact⟨rfl,F',hp2,ht2⟩
theorem qlj (D:qa9)(l:List Wt)(x:Wt)(d k:Nat):lay D (l++[x]) d k=if x.dev=d∧x.place=k then x.b else lay D l d k:=by
 rw[qbp];show setD (lay D l) x.dev x.place x.b d k=_;unfold setD;by_cases h:x.dev=d∧x.place=k
 ·rw[zaw h,zaw ⟨h.1.symm,h.2.symm⟩]
 ·rw[zaB h,zaB (fun e=>h ⟨e.1.symm,e.2.symm⟩)]
theorem qeY {D:qa9}(hD:∀ d k,(D d k).length=64):∀ {l:List Wt},(∀ x∈l,x.b.length=64)→∀ d k,(lay D l d k).length=64
 | [],_,d,k=>hD d k
 | x::l,h,d,k=>by
  refine qeY (D:=setD D x.dev x.place x.b) (fun d' k'=>?_) (fun y hy=>h y (by simp[hy])) d k;unfold setD;split
  ·exact h x (by simp)
  ·exact hD d' k'
theorem Pl.Ok.seen (h:p.Ok)(d k:Nat):(p.seen d k).length=64:=qeY h.disk (fun x hx=>(h.waits x hx).1) d k
theorem zero_sec (w:World):(zeroValue 79).run Tryz.prog w=.ok (.agg (bv (zeros 64)).toArray) w:=by kernel_rfl
theorem qb5:(Tryz.prog.info? 79).map (·.size)=some 64:=by kernel_rfl
theorem qhA (h:PlM w a F p)(hd:p.most[d]?=some m)(hk:k<m)(hoff:p.off=false) :
  Calls Tryz.prog 65 #[.pointer (some ⟨a.P,0,none⟩),.int .i64 d,.int .i64 k] w fun e w'=>∃ g,e=.returned (.tuple #[.slice (some ⟨g,0,none⟩) 64 64,.int .i64 0])∧w.heap.size≤g∧w'.heap[g]?=some (.cells (bv (p.seen d k)).toArray 5 (0,0))∧Below w.heap.size w w':=by
 obtain⟨M,hM,c0,c1,cM,_⟩:=h.dev_at hd;have Hq:=qev h hd;have HA:=qkM h hd;obtain⟨⟨vw,st,now,h1,h2⟩,h3⟩:=h;have hm:=h3.most m (zak hd);have c4:w.cell? ⟨a.P,4,none⟩=some (.bool false):=by rw[zan w _ 4 _ _ _ h1,←hoff];rfl
 have c3:w.cell? ⟨a.P,3,none⟩=some vw:=by rw[zan w _ 3 _ _ _ h1];rfl
 have t1:decide ((k:Int)<0)=false:=zal (by omega);have t2:decide (m≤k)=false:=zal (by omega);have HD:=zH Hq;have Hy:=zH HA;obtain⟨l,hl1,hl2⟩:=h2.maps d M hM;have Hu:=hl2 k;go_enter Tryz.func65,Tryz.ntmps65
 go_upto_region 6 with(first|(go_at_call 81;refine HD.o.mono ?_;rintro e w1 ⟨rfl,rfl⟩)|(go_at_call 85;refine Hy.o.mono ?_;rintro e w1 ⟨rfl,rfl⟩))
 have Hj:=h3.disk d k;have He:(Instr.lookup 82 (.map (some M)) (.int .i64 (k:Int)) false).run Tryz.prog w=.ok (.agg (bv (p.disk d k)).toArray) w:=by
  rw[qhE Tryz.underlying82 Tryz.underlying3 hl1 k _ (zero_sec w)];rcases Hu with e|⟨e1,e2⟩
  ·rw[e];rfl
  ·rw[e1,e2];rfl
 have Hh:=zH He;have Hg:=zH (show(bv (p.disk d k)).length=64 by rw[bv_len];exact Hj);have H1:=zH h1;have H2:=zH h2;have H3:=zH h3;clear He Hj h1 h2 h3 Hu hl2 hl1;go_upto_region 7 with(first|((with_reducible show wpList _ _ _ (⟨some 37,_,_,_,_,_⟩::_) _ _);(refine qbh rfl 82 (.tmp 35) (.tmp 36) false rfl _ _ _ rfl rfl Hh.o ?_))|((with_reducible show wpList _ _ _ (⟨none,.store _ _ _,_,_,_,_⟩::_) _ _);(refine qav (w1:=w) rfl 79 (.tmp 9) (.tmp 37) rfl _ _ rfl rfl (bv (p.disk d k)) rfl (by rw[Hg.o];exact qb5) (by rw[Hg.o];kernel_rfl) (qaw _) ?_)))
 obtain⟨A,cap,rfl,hfl,hform⟩:=H2.o.wrow.row.form;have Hc:=zH hform;have hn:p.waits.length≤9223372036854775807:=by
  have:=H2.o.wrow.row;have:=Row.max this;unfold maxLen at this;omega
 obtain⟨n,hnn⟩:∃ n,p.waits.length=n:=⟨_,rfl⟩;rw[hnn]at c3 hn;have Hi:=zH hnn;clear hform hfl hnn;have Hz:a.P<w.heap.size:=H2.o.hF _ H2.o.fP;go_wp2;go_loopw [11,43] (fun b i wr=>∃ j:Nat,i=.int .i64 j∧j≤n∧Below w.heap.size w wr∧wr.heap[w.heap.size]?=some (.cells (bv (lay p.disk (p.waits.take j) d k)).toArray 79 (0,0))) (fun _ i _=>n-(intOf i).toNat)
 case atStart=>exact⟨0,rfl,by omega,zB _ _,zaf w _⟩
 case round=>
  rename_i wr;obtain⟨j,rfl,hj,hb,hblk⟩:=hrel;have hz:=hb.size;have Hb:=zH hblk;clear hblk;by_cases hlt:j<n
  ·obtain⟨x,hx⟩:∃ x,p.waits[j]?=some x:=⟨_,zaa (by rw[Hi.o];exact hlt)⟩;obtain⟨g,rfl,_,hg,hc⟩:=Hc.o (by rw[Hi.o];omega);have HB:=zak hx;have Hr:x.b.length=64:=(H3.o.waits x HB).1;have Hk:∀ y∈p.waits,(wv y).length=66:=fun y hy=>qar y (H3.o.waits y hy).1;have Hv:wr.rangeAt g (j*66) (wv x):=fun i v hv=>by
    have hi:i<66:=by rw[←qar x Hr];exact(zae.1 hv).1
    rw[hb.cell (p:=⟨g,j*66+i,none⟩) hg,hc (j*66+i) (by rw[Hi.o];omega),qb8 Hk hx i hi];exact hv
   have Ho:=zH Hv;have Ha:=zH Hr;have HX:=zH hx;have e0:(wr.alloc (.cells (wv x).toArray 81)).cell? ⟨wr.heap.size,0,none⟩=some (.int .i64 (x.dev:Int)):=by
    rw[zan _ _ 0 _ _ _ (zaf wr _)];rfl
   have e1:(wr.alloc (.cells (wv x).toArray 81)).cell? ⟨wr.heap.size,1,none⟩=some (.int .i64 (x.place:Int)):=by
    rw[zan _ _ 1 _ _ _ (zaf wr _)];rfl
   have Hp:=zH (show(wr.alloc (.cells (wv x).toArray 81)).rangeAt wr.heap.size 2 (bv x.b)from fun i v hv=>by
    rw[zan _ _ (2+i) _ _ _ (zaf wr _),zbC];unfold wv;rw[zau (by simp)];simpa using hv)
   have Hn:=zH (show lay p.disk (p.waits.take (j+1)) d k=if x.dev=d∧x.place=k then x.b else lay p.disk (p.waits.take j) d k by
    have Ht:j<p.waits.length:=by rw[Hi.o];exact hlt
    have ex:p.waits[j]=x:=by rw[zaa Ht]at hx;exact zaF hx
    rw[zaP Ht,qlj,ex])
   have Hf:=zH (show(wr.alloc (.cells (wv x).toArray 81)).heap[w.heap.size]?=_ from(za9 wr _ _ (zab.1 Hb.o).1).trans Hb.o);have j1:(j:Int)<(n:Int):=by omega
   have j0:(0:Int)≤(j:Int):=by omega
   have Hs:(lay p.disk (p.waits.take j) d k).length=64:=by
    exact qeY H3.o.disk (fun y hy=>(H3.o.waits y (zaY hy)).1) d k
   have Hl:=zH Hs;clear Hs Hv hx Hr Hk hc Hc;by_cases hm2:x.dev=d∧x.place=k
   ·have u1:((x.dev:Int)==(d:Int))=true:=by rw[hm2.1];exact beq_self_eq_true _
    have u2:((x.place:Int)==(k:Int))=true:=by rw[hm2.2];exact beq_self_eq_true _
    go_wp2_with (first
     | ((with_reducible show wpList _ _ _ (⟨some 46,_,_,_,_,_⟩::_) _ _);(refine wpList_load_mid rfl 81 (.tmp 45) rfl g (j*66) rfl (wv x) _ Ho.o Tryz.underlying81 rfl (by rw[qar _ Ha.o];exact qak qaF) ?_))
     | ((with_reducible show wpList _ _ _ (⟨none,.store 81 _ _,_,_,_,_⟩::_) _ _);(refine qav (w1:=wr) rfl 81 (.tmp 11) (.tmp 46) rfl _ _ rfl rfl (wv x) rfl (by rw[qar _ Ha.o];exact qak qaF) (by rw[qar _ Ha.o];kernel_rfl) (qcX _) ?_))
     | ((with_reducible show wpList _ _ _ (⟨some 58,_,_,_,_,_⟩::_) _ _);(refine wpList_load_mid rfl 79 (.tmp 57) rfl wr.heap.size 2 rfl (bv x.b) _ Hp.o Tryz.underlying79 rfl (by rw[bv_len,Ha.o];exact qb5) ?_))
     | ((with_reducible show wpList _ _ _ (⟨none,.store 79 _ _,_,_,_,_⟩::_) _ _);(refine wpList_store_mid rfl 79 (.tmp 9) (.tmp 58) rfl w.heap.size 0 (bv x.b).toArray rfl rfl (there_of_block Hf.o 0 (by simp[bv_len,Ha.o,Hl.o])) (by simp only[zaz];rw[bv_len,Ha.o];exact qb5) (all_oneCell_toArray (qaw _)) ?_)))
    refine⟨⟨j+1,by go_num,by omega,below_setCells (hb.alloc (by omega) _) (zac _) _ _,?_⟩,by simp[intOf];omega⟩;rw[qda Hf.o _ (by simp[bv_len,Ha.o,Hl.o]),Hn.o,zaw hm2]
   ·by_cases hd1:x.dev=d
    ·have HC:¬x.place=k:=fun e=>hm2 ⟨hd1,e⟩;have u1:((x.dev:Int)==(d:Int))=true:=by rw[hd1];exact beq_self_eq_true _
     have u2:((x.place:Int)==(k:Int))=false:=by rw[zaI];omega
     go_wp2_with (first
      | ((with_reducible show wpList _ _ _ (⟨some 46,_,_,_,_,_⟩::_) _ _);(refine wpList_load_mid rfl 81 (.tmp 45) rfl g (j*66) rfl (wv x) _ Ho.o Tryz.underlying81 rfl (by rw[qar _ Ha.o];exact qak qaF) ?_))
      | ((with_reducible show wpList _ _ _ (⟨none,.store 81 _ _,_,_,_,_⟩::_) _ _);(refine qav (w1:=wr) rfl 81 (.tmp 11) (.tmp 46) rfl _ _ rfl rfl (wv x) rfl (by rw[qar _ Ha.o];exact qak qaF) (by rw[qar _ Ha.o];kernel_rfl) (qcX _) ?_))
      | ((with_reducible show wpList _ _ _ (⟨some 58,_,_,_,_,_⟩::_) _ _);(refine wpList_load_mid rfl 79 (.tmp 57) rfl wr.heap.size 2 rfl (bv x.b) _ Hp.o Tryz.underlying79 rfl (by rw[bv_len,Ha.o];exact qb5) ?_))
      | ((with_reducible show wpList _ _ _ (⟨none,.store 79 _ _,_,_,_,_⟩::_) _ _);(refine wpList_store_mid rfl 79 (.tmp 9) (.tmp 58) rfl w.heap.size 0 (bv x.b).toArray rfl rfl (there_of_block Hf.o 0 (by simp[bv_len,Ha.o,Hl.o])) (by simp only[zaz];rw[bv_len,Ha.o];exact qb5) (all_oneCell_toArray (qaw _)) ?_)))
     refine⟨⟨j+1,by go_num,by omega,hb.alloc (by omega) _,?_⟩,by simp[intOf];omega⟩;rw[Hf.o,Hn.o,zaB hm2]
    ·have u1:((x.dev:Int)==(d:Int))=false:=by rw[zaI];omega
     go_wp2_with (first
      | ((with_reducible show wpList _ _ _ (⟨some 46,_,_,_,_,_⟩::_) _ _);(refine wpList_load_mid rfl 81 (.tmp 45) rfl g (j*66) rfl (wv x) _ Ho.o Tryz.underlying81 rfl (by rw[qar _ Ha.o];exact qak qaF) ?_))
      | ((with_reducible show wpList _ _ _ (⟨none,.store 81 _ _,_,_,_,_⟩::_) _ _);(refine qav (w1:=wr) rfl 81 (.tmp 11) (.tmp 46) rfl _ _ rfl rfl (wv x) rfl (by rw[qar _ Ha.o];exact qak qaF) (by rw[qar _ Ha.o];kernel_rfl) (qcX _) ?_))
      | ((with_reducible show wpList _ _ _ (⟨some 58,_,_,_,_,_⟩::_) _ _);(refine wpList_load_mid rfl 79 (.tmp 57) rfl wr.heap.size 2 rfl (bv x.b) _ Hp.o Tryz.underlying79 rfl (by rw[bv_len,Ha.o];exact qb5) ?_))
      | ((with_reducible show wpList _ _ _ (⟨none,.store 79 _ _,_,_,_,_⟩::_) _ _);(refine wpList_store_mid rfl 79 (.tmp 9) (.tmp 58) rfl w.heap.size 0 (bv x.b).toArray rfl rfl (there_of_block Hf.o 0 (by simp[bv_len,Ha.o,Hl.o])) (by simp only[zaz];rw[bv_len,Ha.o];exact qb5) (all_oneCell_toArray (qaw _)) ?_)))
     refine⟨⟨j+1,by go_num,by omega,hb.alloc (by omega) _,?_⟩,by simp[intOf];omega⟩;rw[Hf.o,Hn.o,zaB hm2]
  ·obtain rfl:j=n:=by omega
   have HT:=zH (show lay p.disk (p.waits.take j)=p.seen by rw[←Hi.o,zby];rfl);have Hm:=zH (show(p.seen d k).length=64 from Pl.Ok.seen H3.o d k);have Hw:=zH (show wr.heap[w.heap.size]?=some (.cells (bv (p.seen d k)).toArray 79 (0,0))by rw[Hb.o,HT.o]);have Hx:=zH (show w.heap.size<wr.heap.size from(zab.1 Hb.o).1);clear Hb HT;obtain⟨i0,hi0,hz0,hz1,hz2⟩:=zaT qdW;go_wp2_with (first
    | ((with_reducible show wpList _ _ _ (⟨some 60,_,_,_,_,_⟩::_) _ _);(refine zcd _ rfl (.const (.int .i64 64)) (.const (.int .i64 64)) 34 rfl wr.heap.size 5 i0 _ 1 Tryz.underlying34 hi0 hz0 hz1 .i64 .i64 _ _ 64 rfl rfl (by omega) (by omega) (by rw[hz2];omega) (by unfold maxLen;omega) (zac _) ?_;intro w2 hown2 hg2))
    | ((with_reducible show wpList _ _ _ (⟨some 63,_,_,_,_,_⟩::_) _ _);(refine wpList_copy_splice rfl (.tmp 61) (.tmp 62) 34 34 rfl 5 Tryz.underlying34 (by kernel_rfl) (some ⟨wr.heap.size,0,none⟩) (some ⟨w.heap.size,0,none⟩) 64 64 64 64 rfl rfl wr.heap.size 0 _ 5 (qct hown2) (bv (p.seen d k)) (by rw[bv_len,Hm.o];rfl) (fun _=>⟨rfl,_,rfl,(qaE (((zct (zai _ _) hg2 (zac _) (fun b e=>by cases e)).block _ Hx.o).trans Hw.o) (m:=64) (size:=1) (by rw[bv_len,Hm.o])).at_ (by decide) |>.elim fun ad h=>by cases h.1;exact h.2⟩) (by rw[bv_len,Hm.o];simp[madeCells]) (qaw _) wr.heap.size wr (zct (zai _ _) hg2 (zac _) (fun b e=>by cases e)) (zac _) ?_;intro w4 HG4 hb4)))
   go_ret2
   refine⟨wr.heap.size,rfl,hz,?_,hb.trans (hb4.mono hz)⟩;rw[HG4.out];simp[splice,bv_len,Hm.o,madeCells]
end Go.Proofs.YtpmebcgmgfcmiaaGreatDoor
