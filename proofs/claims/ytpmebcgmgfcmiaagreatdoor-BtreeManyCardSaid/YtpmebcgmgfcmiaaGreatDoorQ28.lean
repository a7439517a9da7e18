/- Texts LiD LiE LiF. -/
import Derived.Test.YtpmebcgmgfcmiaaGreatDoorQ27
set_option linter.all false
set_option maxRecDepth 100000
set_option maxHeartbeats 16000000
namespace Go.Proofs.YtpmebcgmgfcmiaaGreatDoor
open Go.RowKit BT Go.Lib
section
section
variable {J Jx:(Nat→Prop)→List Pr→World→Prop} {a:PA} {G d T:Nat} {F:Nat→Prop} {p:Pl} {g:Pg} {root1 B W:Nat} {A:Option Addr} {n c:Nat} {lo:Bs} {l b1 b2 b3 b4:Nat}
theorem qkh {N:List Pr}{D:Dsk}(hD:qah (p.seen d) g.pages g.use=D)(hoff:p.off=false)(hJ:qhU B J)(hY:LiY J Jx l N)(hln:lo.length=n) :
  ∀ (h q:Nat) (C:Nat→Prop) (pre:List Pr) (met:List Nat) (mv:Value) (w:World),WF D h (.page q)→Srt (itemsK D h (.page q))→(pgs D h (.page q)).Nodup→(∀ r∈pgs D h (.page q),r∉met)→met.length+(pgs D h (.page q)).length≤450→pre++(itemsK D h (.page q)).filter (geB lo) <+: N→LiS J a G d T F p g root1 B W A n c lo l b1 b2 b3 b4 C pre met mv w→
   Calls Tryz.prog 54 #[.agg #[.int .i64 (q:Nat),.pointer none],.pointer (some ⟨b1,0,none⟩),.pointer (some ⟨b2,0,none⟩),.pointer (some ⟨b3,0,none⟩),.pointer (some ⟨b4,0,none⟩)] w (LiF J Jx a G d T F p g root1 B W A n c lo l b1 b2 b3 b4 C pre met mv ((itemsK D h (.page q)).filter (geB lo)) (pgs D h (.page q)) w)
 | 0,q,C,pre,met,mv,w,hw,hs,hn,ho,hl,hN,hS=>by
  obtain⟨m,h1,h2,h3⟩:=hw;rw[qaG h1 h2]at hs hN⊢;rw[qaY h1 h2]at hn ho hl⊢;obtain⟨ps,rfl,-,hp⟩:=h2;simp only[pageOf,pgs,zaG,zcr]at hn ho hl⊢;have h4:=qcL hp;simp only[nsize]at h3;have h5:ps.length≤500:=by omega
  exact ql7 hoff hJ hY hln hS (by rw[hD];exact h1) h5 (ho q (by simp)) (by omega) hN
 | h+1,q,C,pre,met,mv,w,hw,hs,hn,ho,hl,hN,hS=>by
  obtain⟨m,h1,h2,h3⟩:=hw;rw[qaG h1 h2]at hs hN⊢;rw[qaY h1 h2]at hn ho hl⊢;obtain⟨ks,xs,rfl,h4⟩:=h2;have ei:itemsK D (h+1) (.inner ks xs)=xs.flatMap (itemsK D h):=rfl;have ep:pgs D (h+1) (.inner ks xs)=xs.flatMap (pgs D h):=by simp only[pgs,nd,pageOf,zaA]
  rw[ei]at hs hN⊢;rw[ep]at hn ho hl⊢;simp only[pageOf,zcO,zao]at hn ho hl⊢;have Ha:=List.nodup_cons.1 hn;exact qlk hD hoff hJ hln hS h1 ⟨ks,xs,rfl,h4⟩ h3 hs Ha.2 (fun r hr hin=>by
   rcases zar.1 hin with h5|h5
   ·exact ho r (za6 _ hr) h5
   ·rw[za3.1 h5]at hr;exact Ha.1 hr) (ho q (by simp)) (by omega) hN (fun q C pre met mv w=>qkh hD hoff hJ hY hln h q C pre met mv w)
theorem qgV {P:Program}(w:World)(z v:Value)(t:TypeId)(n:Nat)(hn:n=w.heap.size)(hv:v.oneCell'=true):(store ⟨n,0,none⟩ v).run P (w.alloc (.cells #[z] t))=.ok () (w.alloc (.cells #[v] t)):=by
 subst hn;have hb:=zaf w (.cells #[z] t);rw[run_store _ _ _ _ _ hv,zan _ _ 0 _ _ _ hb,zaQ _ _ 0 _ _ hb];show Result.ok () _=_;rw[World.setCell_alloc_new];rfl
def LiI (D:Dsk)(root1:Nat)(lo:Bs)(its:List Pr):Prop:=
 (root1=0∧its=[])∨(root1≠0∧∃ h,WF D h (.page (root1-1))∧Srt (itemsK D h (.page (root1-1)))∧(pgs D h (.page (root1-1))).Nodup∧(∀ q∈pgs D h (.page (root1-1)),q<384)∧its=(itemsK D h (.page (root1-1))).filter (geB lo))
def LiP (J Jx:(Nat→Prop)→List Pr→World→Prop)(B W T:Nat)(C:Nat→Prop)(mv:Value)(its:List Pr)(w:World)(e:Ending)(w':World):Prop:=
 e=.returned (.tuple #[])∧∃ C' mv' met',EvM (LM W C mv) (LM W C' mv') w w'∧WkM w' B W T mv' met' 0∧(∀ b,C' b→¬MW W mv' b)∧(J C' its w'∨∃ q,q <+: its∧Jx C' q w')
theorem qik {C:Nat→Prop}{its:List Pr}{mv:Value}{w:World}(hoff:p.off=false)(hJ:qhU B J)(hY:LiY J Jx l its)(hln:lo.length=n)(hI:LiI (qah (p.seen d) g.pages g.use) root1 lo its)
  (ht:TrB w B a G d T F p g root1)(hw:WkM w B W T mv [] 0)(hby:By w A lo)(hbB:∀ ad,A=some ad→0<lo.length→ad.block<B)(e1:w.heap[b1]?=some (.cells #[.pointer (some ⟨W,0,none⟩)] 89 (0,0)))(e2:w.heap[b2]?=some (.cells #[.slice A n c] 34 (0,0)))
  (hCB:∀ b,C b→B≤b)(hap:∀ b,C b→b<w.heap.size∧¬MW W mv b∧b≠b1∧b≠b2)(hM1:¬MW W mv b1)(hM2:¬MW W mv b2)(hsz:B≤w.heap.size)(hj:J C [] w) :
  Calls Tryz.prog 53 #[.func (.yield l) #[] #[],.pointer (some ⟨b1,0,none⟩),.pointer (some ⟨b2,0,none⟩)] w (LiP J Jx B W T C mv its w):=by
 have q1:w.cell? ⟨b1,0,none⟩=some (.pointer (some ⟨W,0,none⟩)):=zC e1;have q2:=hw.c0;have q3:=ht.tr.c1;have l1:=cell_lt q1;have l2:=cell_lt q2;have l3:=cell_lt q3;have Hf:=qgV (P:=Tryz.prog) (w.alloc (.cells #[.func (.yield l) #[] #[]] 126)) .nilFunc (.func (.func 54) #[] #[.pointer (some ⟨b1,0,none⟩),.pointer (some ⟨b2,0,none⟩),.pointer (some ⟨w.heap.size+1,0,none⟩),.pointer (some ⟨w.heap.size,0,none⟩)]) 127 (w.heap.size+1) (by simp) rfl;obtain⟨w3,hw3⟩:∃ x,(w.alloc (.cells #[.func (.yield l) #[] #[]] 126)).alloc (.cells #[.func (.func 54) #[] #[.pointer (some ⟨b1,0,none⟩),.pointer (some ⟨b2,0,none⟩),.pointer (some ⟨w.heap.size+1,0,none⟩),.pointer (some ⟨w.heap.size,0,none⟩)]] 127)=x:=⟨_,rfl⟩;have Hc:Below w.heap.size w w3:=by rw[←hw3];exact((zai _ w).alloc (zac _) _).alloc (by simp) _
 have Hn:w3.heap.size=w.heap.size+2:=by rw[←hw3];simp
 have k3:w3.heap[w.heap.size+1]?=some (.cells #[.func (.func 54) #[] #[.pointer (some ⟨b1,0,none⟩),.pointer (some ⟨b2,0,none⟩),.pointer (some ⟨w.heap.size+1,0,none⟩),.pointer (some ⟨w.heap.size,0,none⟩)]] 127 (0,0)):=by
  rw[←hw3];have h:=zaf (w.alloc (.cells #[.func (.yield l) #[] #[]] 126)) (.cells #[.func (.func 54) #[] #[.pointer (some ⟨b1,0,none⟩),.pointer (some ⟨b2,0,none⟩),.pointer (some ⟨w.heap.size+1,0,none⟩),.pointer (some ⟨w.heap.size,0,none⟩)]] 127);rw[za2]at h;exact h
 have k4:w3.heap[w.heap.size]?=some (.cells #[.func (.yield l) #[] #[]] 126 (0,0)):=by
  rw[←hw3];exact(za9 _ _ _ (by simp)).trans (zaf w _)
 have l0:b1<w.heap.size∧b2<w.heap.size:=⟨(zab.1 e1).1,(zab.1 e2).1⟩;have Hb:=zH (show LiS J a G d T F p g root1 B W A n c lo l b1 b2 (w.heap.size+1) w.heap.size C [] [] mv w3 from
  ⟨ht.touch (M:=fun _=>False) (Touch.of_below Hc) (fun _ h=>h.elim),hw.below Hc,hby.below Hc,hbB,(Hc.block _ l0.1).trans e1,(Hc.block _ l0.2).trans e2,k3,k4,hCB,
   fun b hb=>by
    obtain⟨h1,h2,h3,h4⟩:=hap b hb;exact⟨by omega,h2,fun h=>by rcases h with h|h|h|h;exact h3 h;exact h4 h;omega;omega⟩,
   fun b hb hm=>by
    rcases hb with rfl|rfl|rfl|rfl
    ·exact hM1 hm
    ·exact hM2 hm
    ·rcases hm with hm|hm
     ·have:=hw.lt;omega
     ·have:=(hw.own.blk _ hm).2;omega
    ·rcases hm with hm|hm
     ·have:=hw.lt;omega
     ·have:=(hw.own.blk _ hm).2;omega,
   by omega,hJ _ _ _ _ hj (Touch.of_below Hc)⟩)
 have Hh:=zH Hc;have HI:=zH hI;have HW:=zH hw;clear hI ht hw hby hbB e1 e2 hCB hap hM1 hM2 hsz hj k3 k4 l0;rw[hw3]at Hf;have g1:w3.cell? ⟨b1,0,none⟩=some (.pointer (some ⟨W,0,none⟩)):=zC Hb.o.e1;have g2:=Hb.o.wk.c0;have g3:=Hb.o.tr.tr.c1;have g4:w3.cell? ⟨w.heap.size+1,0,none⟩=some (.func (.func 54) #[] #[.pointer (some ⟨b1,0,none⟩),.pointer (some ⟨b2,0,none⟩),.pointer (some ⟨w.heap.size+1,0,none⟩),.pointer (some ⟨w.heap.size,0,none⟩)]):=zC Hb.o.e3;clear hw3 q1 q2 q3 l1 l2 l3 Hc Hn;go_enter Tryz.func53,Tryz.ntmps53
 by_cases hr0:root1=0
 ·have h1:¬(0≤(root1:Int)-1):=by omega
  have h2:decide (0≤(root1:Int)-1)=false:=zal h1;have h3:(root1:Int)-1<0:=by omega
  go_wp2
  go_end0
  refine⟨rfl,C,mv,_,EvM.below Hh.o,Hb.o.wk,fun b hb=>(Hb.o.ap b hb).2.1,.inl ?_⟩;rcases HI.o with⟨_,rfl⟩|⟨h,_⟩
  ·exact Hb.o.j
  ·exact absurd hr0 h
 ·obtain⟨q0,hq0⟩:∃ q,root1-1=q:=⟨_,rfl⟩;have h1:(root1:Int)-1=(q0:Int):=by omega
  have h2:(0:Int)≤(q0:Int):=by omega
  rcases HI.o with⟨h,_⟩|⟨_,h,hwf,hsr,hnd,hpg,hits⟩
  ·exact absurd h hr0
  rw[hq0]at hwf hsr hnd hpg hits;have Hi:=qfY (l2:=List.range 384) hnd (fun x hx=>zbb.2 (hpg x hx));rw[zci]at Hi;have He:=zH (Hb.o.below hJ ((zai w3.heap.size w3).drew));have Hg:=zH (qkh (N:=its) rfl hoff hJ hY hln h q0 C [] [] mv w3.drew hwf hsr hnd (fun _ _=>by simp) (by simp;omega) (by rw[hits];simp) He.o);rw[←hits]at Hg;unfold LiF at Hg;clear hwf hsr hnd hpg hits Hi;have g5:w3.cell? ⟨T,1,none⟩=some (.int .i64 (q0:Int)):=by rw[←h1];exact g3
  have Ha:=zH (show w3.drew.cell? ⟨b1,0,none⟩=some (.pointer (some ⟨W,0,none⟩))∧w3.drew.cell? ⟨W,0,none⟩=some (.pointer (some ⟨T,0,none⟩))∧w3.drew.cell? ⟨T,1,none⟩=some (.int .i64 (q0:Int))∧w3.drew.cell? ⟨w.heap.size+1,0,none⟩=some (.func (.func 54) #[] #[.pointer (some ⟨b1,0,none⟩),.pointer (some ⟨b2,0,none⟩),.pointer (some ⟨w.heap.size+1,0,none⟩),.pointer (some ⟨w.heap.size,0,none⟩)])from⟨g1,g2,g5,g4⟩);have Hj:=zH (show Below w.heap.size w w3.drew from Hh.o.drew);have Hl:=zH (show ∀ (w6:World) (C3:Nat→Prop) (mv3:Value) (met3:List Nat),EvM (LM W C mv) (LM W C3 mv3) w3.drew w6→WkM w6 B W T mv3 met3 0→w6.cell? ⟨b1,0,none⟩=some (.pointer (some ⟨W,0,none⟩))∧w6.cell? ⟨W,0,none⟩=some (.pointer (some ⟨T,0,none⟩))∧w6.cell? ⟨T,1,none⟩=some (.int .i64 (q0:Int))∧w6.cell? ⟨w.heap.size+1,0,none⟩=some (.func (.func 54) #[] #[.pointer (some ⟨b1,0,none⟩),.pointer (some ⟨b2,0,none⟩),.pointer (some ⟨w.heap.size+1,0,none⟩),.pointer (some ⟨w.heap.size,0,none⟩)])from fun w6 C3 mv3 met3 he hw=>by
   have hE:∀ b,E4 b1 b2 (w.heap.size+1) w.heap.size b→¬LM W C mv b:=fun b hb hc=>by
    rcases hc with hc|hc
    ·exact(He.o.ap _ hc).2.2 hb
    ·exact He.o.eM _ hb hc
   have hT:¬LM W C mv T:=fun hc=>by
    have Ho:=He.o.tr.hT;rcases hc with hc|hc|hc
    ·have:=He.o.CB _ hc;omega
    ·have:=He.o.wk.lo;omega
    ·have:=(He.o.wk.own.blk _ hc).1;omega
   exact⟨(qag he.touch (cell_lt Ha.o.1) (hE _ (.inl rfl))).trans Ha.o.1,hw.c0,(qag he.touch (cell_lt Ha.o.2.2.1) hT).trans Ha.o.2.2.1,(qag he.touch (cell_lt Ha.o.2.2.2) (hE _ (.inr (.inr (.inl rfl))))).trans Ha.o.2.2.2⟩)
  go_upto_region 4 with fail
  refine qac (S:=fun W'=>W'.cell? ⟨b1,0,none⟩=some (.pointer (some ⟨W,0,none⟩))∧W'.cell? ⟨W,0,none⟩=some (.pointer (some ⟨T,0,none⟩))∧W'.cell? ⟨T,1,none⟩=some (.int .i64 (q0:Int))∧W'.cell? ⟨w.heap.size+1,0,none⟩=some (.func (.func 54) #[] #[.pointer (some ⟨b1,0,none⟩),.pointer (some ⟨b2,0,none⟩),.pointer (some ⟨w.heap.size+1,0,none⟩),.pointer (some ⟨w.heap.size,0,none⟩)])) [] (by kernel_rfl) Ha.o (fun _=>?_);generalize w3.drew=W0 at *;refine zL 0 14 (.func (.func 54) #[] #[.pointer (some ⟨b1,0,none⟩),.pointer (some ⟨b2,0,none⟩),.pointer (some ⟨w.heap.size+1,0,none⟩),.pointer (some ⟨w.heap.size,0,none⟩)]) rfl (Or.inl ⟨by rfl,fun W' hS=>by obtain⟨hS1,hS2,hS3,hS4⟩:=hS;go_simp⟩) (qaa Ha.o) ?_;try simp only[zS]
  refine zL 1 15 (.pointer (some ⟨W,0,none⟩)) rfl (Or.inl ⟨by rfl,fun W' hS=>by obtain⟨hS1,hS2,hS3,hS4⟩:=hS;go_simp⟩) (qaa Ha.o) ?_;try simp only[zS]
  refine zP 2 16 (.pointer (some ⟨W,0,none⟩)) Ha.o ?_;try simp only[zS]
  refine zP 3 17 (.pointer (some ⟨W,0,none⟩)) Ha.o ?_;try simp only[zS]
  refine zL 4 18 (.pointer (some ⟨T,0,none⟩)) rfl (Or.inl ⟨by rfl,fun W' hS=>by obtain⟨hS1,hS2,hS3,hS4⟩:=hS;go_simp⟩) (qaa Ha.o) ?_;try simp only[zS]
  refine zP 5 19 (.pointer (some ⟨T,0,none⟩)) Ha.o ?_;try simp only[zS]
  refine zP 6 20 (.pointer (some ⟨T,1,none⟩)) Ha.o ?_;try simp only[zS]
  refine zL 7 21 (.int .i64 (q0:Int)) rfl (Or.inl ⟨by rfl,fun W' hS=>by obtain⟨hS1,hS2,hS3,hS4⟩:=hS;go_simp⟩) (qaa Ha.o) ?_;try simp only[zS]
  refine zP 8 22 (.agg #[.int .i64 (q0:Int),.pointer none]) Ha.o ?_;try simp only[zS]
  refine zE 9 23 rfl (fun Kr hKr=>?_);go_simp;go_at_call 54
  refine Hg.o.mono ?_;rintro e w6 ⟨C3,mv3,hem,hres⟩;obtain⟨b,met3,rfl,hw3,hap3,hr⟩:∃ b met3,e=.returned (.bool b)∧WkM w6 B W T mv3 met3 0∧(∀ b,C3 b→¬MW W mv3 b)∧(J C3 its w6∨∃ q,q <+: its∧Jx C3 q w6):=by
   rcases hres with⟨rfl,m,Hf,-,-⟩|⟨rfl,h8,met3,h9,h10⟩
   ·exact⟨true,_,rfl,Hf.wk,fun b hb=>(Hf.ap b hb).2.1,.inl Hf.j⟩
   ·exact⟨false,met3,rfl,h9,h10,.inr h8⟩
  have Hk:=zH (Hl.o w6 C3 mv3 met3 hem hw3);have Hm:=zH hw3;clear hw3;refine hKr.out (.bool b) _ (qaa Hk.o) (fun _=>?_);clear hKr Kr;try simp only[zS]
  refine qad (by kernel_rfl) ?_ _;go_wp2
  go_end0
  exact⟨rfl,C3,mv3,met3,(EvM.below Hj.o).trans hem,Hm.o,hap3,hr⟩
theorem qju (w:World)(W:Nat)(A:Option Addr)(n c:Nat):Calls Tryz.prog 34 #[.pointer (some ⟨W,0,none⟩),.slice A n c] w fun e w'=>
  e=.returned (.func (.func 53) #[] #[.pointer (some ⟨w.heap.size,0,none⟩),.pointer (some ⟨w.heap.size+1,0,none⟩)])∧w'=(w.alloc (.cells #[.pointer (some ⟨W,0,none⟩)] 89)).alloc (.cells #[.slice A n c] 34):=by
 go_enter Tryz.func34,Tryz.ntmps34
 go_wp2;go_ret;exact⟨rfl,rfl⟩
end
end
theorem qj4 {C C':Nat→Prop}{A B:World}{l:Nat}(h:EvM C C' A B)(hl:C l)(o:Obj):EvM C C' A (B.putObj l o):=
 ⟨⟨h.touch.os,h.touch.tape,h.touch.output,by simpa using h.touch.size,fun k hk hn=>(World.putObj_heap_other (fun e=>hn (by rw[e];exact hl))).trans (h.touch.block k hk hn)⟩,fun b hb=>by simpa using h.own b hb⟩
def qmL (LC:(Nat→Prop)→List Pr→World→Prop)(LX:Code→(Nat→Prop)→List Pr→World→Prop)(l:Nat)(C:Nat→Prop)(pre:List Pr)(W:World):Exit→Act→World→Prop
 | .normal,_,W'=>∃ C',EvM C C' W W'∧W'.heap[l]?=W.heap[l]?∧LC C' pre W'
 | .ret,_,W'=>∃ C',EvM C C' W W'∧W'.heap[l]?=W.heap[l]?∧LX .ret C' pre W'
 | .exit id,_,W'=>∃ C',EvM C C' W W'∧W'.heap[l]?=W.heap[l]?∧LX (.exit id) C' pre W'
 | .goto t,_,W'=>∃ C',EvM C C' W W'∧W'.heap[l]?=W.heap[l]?∧LX (.goto t) C' pre W'
 | .panic _,_,_=>False
 | .outgrown,_,_=>False
theorem qkB {g:Operand}{ps:Array Tmp}{assign body:Code}{Q:Exit→Act→World→Prop}{a:Act}{w:World}{gf:Nat}{lb:Array Value}
  (hg:a.eval g=.func (.func gf) #[] lb)(eg:∀ args w,(callFunc gf args).run Tryz.prog w=.ok (.enter gf args) w)(hps:ps.size=2)
  (LC:(Nat→Prop)→List Pr→World→Prop)(LX:Code→(Nat→Prop)→List Pr→World→Prop)(X:World→Prop)(C0:Nat→Prop)(N:List Pr)
  (hLC:∀ C pre W o,LC C pre W→LC C pre (W.putObj (w.heap.size+1) o))(hLX:∀ c C pre W o,LX c C pre W→LX c C pre (W.putObj (w.heap.size+1) o))(hX:∀ W o,X W→X (W.putObj (w.heap.size+1) o))
  (hl:∀ C pre W,LC C pre W→C (w.heap.size+1))(a₁:Value→Value→Act)
  (hassign:∀ kv vv W (K:Act→World→Prop),K (a₁ kv vv) W→assign.wpIn (Fence.wide.inRound (w.heap.size+1)) 98 Tryz.prog (Exit.then K (fun _ _ _=>False)) { tmps:=(ps.zip #[kv,vv]).foldl (fun t (p,v)=>t.setIfInBounds p v) a.tmps,defers:=[] } W)
  (hbody:∀ C pre (x:Pr) KA VA kc vc W,LC C pre W→pre++[x] <+: N→By W KA x.1→By W VA x.2→x.1.length≤kc→x.2.length≤vc→
   body.wpIn (Fence.wide.inRound (w.heap.size+1)) 98 Tryz.prog (qmL LC LX (w.heap.size+1) C (pre++[x]) W) (a₁ (.slice KA x.1.length kc) (.slice VA x.2.length vc)) W)
  (h0:∀ W1,Below w.heap.size w W1→W1.heap.size=w.heap.size+2→W1.heap[w.heap.size]?=some (.deferred (some []))→(∃ r,W1.heap[w.heap.size+1]?=some (.loop r))→LC C0 [] W1)
  (hiter:∀ (J Jx:(Nat→Prop)→List Pr→World→Prop) (W1:World),(∀ C pre W,J C pre W→LC C pre W)→(∀ C pre W,Jx C pre W→∃ c,LX c C pre W)→(∀ C pre A B,J C pre A→(∀ b,C b→b<A.heap.size→B.heap[b]?=A.heap[b]?)→LC C pre B→J C pre B)→
   LiY J Jx (w.heap.size+1) N→J C0 [] W1→Below w.heap.size w W1→W1.heap.size=w.heap.size+2→
   CallsIn Fence.wide 99 Tryz.prog gf (#[.func (.yield (w.heap.size+1)) #[] #[]]++lb) W1 fun e W'=>(∃ v,e=.returned v)∧X W'∧∃ C',(J C' N W'∨∃ q,q <+: N∧Jx C' q W'))
  (hdone:∀ C W,LC C N W→X W→Q .normal { a with defers:={ target:=.collected w.heap.size,args:=#[] }::a.defers } W)
  (hstop:∀ c C q W,q <+: N→LX c C q W→X W→c.wpIn Fence.wide 100 Tryz.prog Q { a with defers:={ target:=.collected w.heap.size,args:=#[] }::a.defers } W) :
  (Code.rangeFunc g ps assign body).wpIn Fence.wide 100 Tryz.prog Q a w:=by
 refine wpIn_rangeFunc ?_;intro fn hfn;obtain⟨rec,hrec⟩:∃ rec:LoopState→Option Code→Loop,rec=fun st pe=>{ state:=st,pending:=pe,fn,tmps:=a.tmps,params:=ps,assign,body,defers:=w.heap.size }:=⟨_,rfl⟩;obtain⟨W1,hW1⟩:∃ W1,(w.alloc (.deferred (some []))).alloc (.loop (rec .ready none))=W1:=⟨_,rfl⟩;have He:W1.heap[w.heap.size+1]?=some (.loop (rec .ready none)):=by
  rw[←hW1];have:=World.alloc_heap_new (w.alloc (.deferred (some []))) (.loop (rec .ready none));rwa [za2]at this
 have Hi:W1.heap[w.heap.size]?=some (.deferred (some [])):=by
  rw[←hW1];exact(za9 _ _ _ (by simp)).trans (World.alloc_heap_new w _)
 have Hf:Below w.heap.size w W1:=by
  rw[←hW1];exact((zai _ w).alloc (zac _) _).alloc (by simp) _
 have Hh:W1.heap.size=w.heap.size+2:=by rw[←hW1];simp
 refine⟨w.heap.size+1,[{ target:=.collected w.heap.size,args:=#[] }],W1,{ target:=.fn (.func gf) lb,args:=#[.func (.yield (w.heap.size+1)) #[] #[]] },W1,gf,
  #[.func (.yield (w.heap.size+1)) #[] #[]]++lb,W1,?_,?_,fun _ _=>trivial,?_,fun h=>(by cases h),?_⟩
 ·rw[←hW1,hrec];exact run_enterLoop_outer _ _ _ _ _
 ·simp only[resolve,hg];simp[go_sem]
 ·simp[invoke,go_sem,eg]
 ·refine(hiter (fun C pre W=>LC C pre W∧W.heap[w.heap.size+1]?=some (.loop (rec .ready none)))
   (fun C pre W=>∃ c,LX c C pre W∧W.heap[w.heap.size+1]?=some (.loop (rec .done (some c)))) W1 (fun _ _ _ h=>h.1) (fun _ _ _ ⟨c,h,_⟩=>⟨c,h⟩)
   (fun C pre A B h hk hB=>⟨hB,(hk _ (hl _ _ _ h.1) (zab.1 h.2).1).trans h.2⟩) ?_ ⟨h0 _ Hf Hh Hi ⟨_,He⟩,He⟩ Hf Hh).mono ?_
  ·intro m C pre x KA VA kc vc W hJ hpre hk hv hkc hvc;obtain⟨hi,hlr⟩:=hJ;have Hc:=hl _ _ _ hi;have Hk:w.heap.size+1<W.heap.size:=(zab.1 hlr).1;have hy:=run_yield (P:=Tryz.prog) (args:=#[.slice KA x.1.length kc,.slice VA x.2.length vc]) hlr (by rw[hrec];exact hps.symm);rw[hrec]at hy;refine⟨fn,_,assign,body,hy,?_⟩;have key:RoundIn Fence.wide 98 Tryz.prog (w.heap.size+1) fn ((ps.zip #[.slice KA x.1.length kc,.slice VA x.2.length vc]).foldl (fun t (p,v)=>t.setIfInBounds p v) a.tmps) assign body W (fun e W'=>∃ C' b,e=.returned (.bool b)∧EvM C C' W W'∧(b=true→LC C' (pre++[x]) W'∧W'.heap[w.heap.size+1]?=some (.loop (rec .ready none)))∧(b=false→∃ c,LX c C' (pre++[x]) W'∧W'.heap[w.heap.size+1]?=some (.loop (rec .done (some c))))):=by
    refine roundIn_of_wpIn hfn (hassign _ _ W _ ⟨_,run_beginRound hlr (by rw[hrec]),?_⟩);have Hj:(W.putObj (w.heap.size+1) (.loop { rec .ready none with state:=.busy })).heap[w.heap.size+1]?=some (.loop { rec .ready none with state:=.busy }):=World.putObj_heap_same Hk;have hp:EvM C C W (W.putObj (w.heap.size+1) (.loop { rec .ready none with state:=.busy })):=qj4 (EvM.refl _ _) Hc _;have Hb:∀ {A:Option Addr} {s:Bs},By W A s→By (W.putObj (w.heap.size+1) (.loop { rec .ready none with state:=.busy })) A s:=fun {A s} h=>⟨fun h1=>by
     obtain⟨b,off,e,hlb,hc⟩:=h.at_ h1;refine⟨b,off,e,by simpa using hlb,fun k u hu=>?_⟩;have Hl:b≠w.heap.size+1:=fun e2=>by
      have:=hc k u hu;subst e2;simp[World.cell?,hlr]at this
     exact(zaR (World.putObj_heap_other Hl)).trans (hc k u hu)⟩
    refine wpIn_mono (hbody C pre x KA VA kc vc _ (hLC _ _ _ _ hi) hpre (Hb hk) (Hb hv) hkc hvc) ?_;have Ha:∀ (jump:Option Code) (C':Nat→Prop) (W3:World),EvM C C' (W.putObj (w.heap.size+1) (.loop { rec .ready none with state:=.busy })) W3→W3.heap[w.heap.size+1]?=(W.putObj (w.heap.size+1) (.loop { rec .ready none with state:=.busy })).heap[w.heap.size+1]?→
      (Instr.endRound (w.heap.size+1) jump).run Tryz.prog W3=.ok (.bool jump.isNone) (W3.putObj (w.heap.size+1) (.loop (rec (if jump.isNone then .ready else .done) jump)))∧
      (W3.putObj (w.heap.size+1) (.loop (rec (if jump.isNone then .ready else .done) jump))).heap[w.heap.size+1]?=some (.loop (rec (if jump.isNone then .ready else .done) jump))∧
      EvM C C' W (W3.putObj (w.heap.size+1) (.loop (rec (if jump.isNone then .ready else .done) jump))):=fun jump C' W3 he h3=>by
     have Hg:=h3.trans Hj;have:=run_endRound (P:=Tryz.prog) jump Hg;rw[hrec]at this⊢;exact⟨this,World.putObj_heap_same (zab.1 Hg).1,qj4 (hp.trans he) Hc _⟩
    rintro e a3 W3 hq;cases e with
    | normal=>
     obtain⟨C',he,h3,hi3⟩:=hq;obtain⟨hr,hl4,he4⟩:=Ha none C' W3 he h3;exact⟨_,_,hr,C',true,rfl,he4,fun _=>⟨hLC _ _ _ _ hi3,hl4⟩,fun h=>by cases h⟩
    | ret=>
     obtain⟨C',he,h3,hi3⟩:=hq;obtain⟨hr,hl4,he4⟩:=Ha (some .ret) C' W3 he h3;exact⟨_,_,hr,C',false,rfl,he4,fun h=>(by cases h),fun _=>⟨_,hLX _ _ _ _ _ hi3,hl4⟩⟩
    | exit id=>
     obtain⟨C',he,h3,hi3⟩:=hq;obtain⟨hr,hl4,he4⟩:=Ha (some (.exit id)) C' W3 he h3;exact⟨_,_,hr,C',false,rfl,he4,fun h=>(by cases h),fun _=>⟨_,hLX _ _ _ _ _ hi3,hl4⟩⟩
    | goto t=>
     obtain⟨C',he,h3,hi3⟩:=hq;obtain⟨hr,hl4,he4⟩:=Ha (some (.goto t)) C' W3 he h3;exact⟨_,_,hr,C',false,rfl,he4,fun h=>(by cases h),fun _=>⟨_,hLX _ _ _ _ _ hi3,hl4⟩⟩
    | panic ch=>exact hq.elim
    | outgrown=>exact hq.elim
   exact⟨key.1,fun c cs _=>key.2 c cs (room_wide _)⟩
  ·rintro e W2 ⟨⟨v,rfl⟩,hx,C',(⟨hi,hlr⟩|⟨q,hq,c,hi,hlr⟩)⟩
   ·exact⟨none,_,by have:=run_endLoop (P:=Tryz.prog) hlr (by rw[hrec];simp);rw[hrec]at this;exact this,hdone C' _ (hLC _ _ _ _ hi) (hX _ _ hx)⟩
   ·exact⟨some c,_,by have:=run_endLoop (P:=Tryz.prog) hlr (by rw[hrec];simp);rw[hrec]at this;exact this,hstop c C' q _ hq (hLX _ _ _ _ _ hi) (hX _ _ hx)⟩
section
section
variable {n:Nat} {P:Program} {ops:Array Oper} {Q:Exit→Act→World→Prop} {md:Region.Mode} {S:World→Prop}
def qgH (ops:Array Oper):Bool:=ops.all fun o=>match o.op with | .defer _=>false|_=>true
theorem qhs (h:qgH ops=true){j:Nat}{o:Oper}(ho:ops[j]?=some o)(c:Call):o.op≠.defer c:=fun heq=>by
 have:=Array.all_eq_true_iff_forall_mem.1 h o (Array.mem_of_getElem? ho);simp[heq]at this
theorem qfu {l i:Nat}{K:Act→World→Prop}{a:Act}{w:World}(hnd:qgH ops=true)(hq:¬LetsOut Q)(h:wpOp P ops Q i K a w):wpOpIn (Fence.wide.inRound l) n P ops Q i K a w:=by
 unfold wpOpIn;unfold wpOp at h;split
 ·rename_i h0;simp only[h0]at h;exact h
 ·rename_i o ho;simp only[ho]at h;split
  ·rename_i hw;simp only[hw,zcn]at h;rcases h with h|h
   ·refine⟨fun _ _=>trivial,?_⟩;rw[Oper.semAt_plain _ _ _ (qhs hnd ho)];unfold Oper.wp at h;generalize (execOp a.eval o).run P w=r at *;cases r with
    | ok x w'=>
     cases x<;>simp only[Oper.upon,Oper.uponIn]at h⊢
     case value u=>exact h
     case skip=>exact h
     case defer d=>exact h
     case enter f args=>exact⟨fun h=>(by cases h),trivial,fun cs _=>let ⟨e,w',fr,r,s,x⟩:=h cs;⟨e,w',fr,r,comesIn_wide.2 s,x⟩⟩
     case row row args=>exact⟨fun h=>(by cases h),fun c cs _=>let ⟨v,w',r,s⟩:=h c cs;⟨v,w',r,stepsIn_wide.2 s⟩⟩
    | halt x w'=>cases x<;>simp only[Oper.upon,Oper.uponIn]at h⊢<;> exact h
   ·exact absurd h.2 hq
  ·rename_i hw;simp only[hw]at h;exact⟨fun _ _=>trivial,h⟩
theorem qcB {l:Nat}(hnd:qgH ops=true)(hq:¬LetsOut Q):∀ (f:Nat) (ls:Array Bool) (a:Act) (w:World),wpAny P md ops Q f ls a w→wpAnyIn (Fence.wide.inRound l) n P md ops Q f ls a w
 | 0,_,_,_,h=>h
 | f+1,_,_,_,h=>⟨h.1,fun i hi=>qfu hnd hq (wpOp_mono (fun a' w'=>qcB hnd hq f _ a' w') (h.2 i hi))⟩
theorem qcV (st:List Nat){l id:Nat}{a:Act}{w:World}(hm:P.follows .mixedOrders=true)(hnd:qgH ops=true)(hq:¬LetsOut Q)(hS:S w.drew)
  (h:Gate st (Array.replicate ops.size false) S w.drew→qa0 P .any ops Q S st ops.size (Array.replicate ops.size false) a w.drew):(Code.region id ops true).wpIn (Fence.wide.inRound l) n P Q a w:=
 wpIn_region_any hm (qcB hnd hq _ _ _ _ (qcy st _ _ _ _ (h fun _=>hS)))
end
def fl2 (x:Pr):List Bs:=[x.1,x.2]
structure LCv (w0:World) (B b5 bo dd l:Nat) (HA:Option Addr) (hn hc:Nat) (C:Nat→Prop) (pre:List Pr) (vo:Value) (cs:List Value) (W:World):Prop where
 base:Touch (fun b=>B≤b) w0 W
 out:W.heap[bo]?=some (.cells #[vo] 44 (0,0))
 own:Own W B 48 2 vo pre.length cs
 row:RowV W (fun b=>C b∧¬(b=bo∨b=b5∨b=l∨b=dd∨vo.ownBlock=some b)) cs (pre.flatMap fl2)
 vC:∀ b,vo.ownBlock=some b→C b∧¬(b=bo∨b=b5∨b=l∨b=dd)
 hi:W.heap[b5]?=some (.cells #[.slice HA hn hc] 34 (0,0))
 df:W.heap[dd]?=some (.deferred (some []))
 Co:C bo∧C b5∧C dd∧C l
 lt:∀ b,C b→B≤b∧b<W.heap.size
 ne:bo≠b5∧bo≠l∧bo≠dd∧b5≠l∧b5≠dd∧dd≠l
section
variable {w0 W W2 W5:World} {B b5 bo dd l:Nat} {HA:Option Addr} {hn hc:Nat} {C:Nat→Prop} {pre:List Pr} {vo:Value} {cs:List Value}
theorem LCv.keep (h:LCv w0 B b5 bo dd l HA hn hc C pre vo cs W){M:Nat→Prop}(ht:Touch M W W2)(hM:∀ b,M b→B≤b∧(¬C b∨b=l)):LCv w0 B b5 bo dd l HA hn hc C pre vo cs W2:=by
 have hx:∀ b,C b→b≠l→¬M b:=fun b hb hl hm=>(hM b hm).2.elim (fun h=>h hb) hl;obtain⟨n1,n2,n3,n4,n5,n6⟩:=h.ne;refine⟨h.base.trans (ht.mono fun b _ hm=>(hM b hm).1),(ht.block bo (h.lt _ h.Co.1).2 (hx _ h.Co.1 n2)).trans h.out,h.own.touch ht (fun b hb=>hx b (h.vC b hb).1 (fun e=>(h.vC b hb).2 (.inr (.inr (.inl e))))),h.row.same (Same.of_touch ht (fun b hb=>hx b hb.1 (fun e=>hb.2 (.inr (.inr (.inl e)))))),h.vC,
  (ht.block b5 (h.lt _ h.Co.2.1).2 (hx _ h.Co.2.1 n4)).trans h.hi,(ht.block dd (h.lt _ h.Co.2.2.1).2 (hx _ h.Co.2.2.1 n6)).trans h.df,h.Co,fun b hb=>⟨(h.lt b hb).1,zam (h.lt b hb).2 ht.size⟩,h.ne⟩
theorem LCv.snoc {x:Pr}{A1 A2:Option Addr}{c1 c2:Nat}{v':Value}(h:LCv w0 B b5 bo dd l HA hn hc C pre vo cs W)(hB:B≤W.heap.size)(hb2:Below W.heap.size W W2)(hk:By W2 A1 x.1)(hkb:∀ ad,A1=some ad→W.heap.size≤ad.block∧ad.block<W2.heap.size)(hkc:x.1.length≤c1)
  (hv:By W2 A2 x.2)(hvb:∀ ad,A2=some ad→W.heap.size≤ad.block∧ad.block<W2.heap.size)(hvc:x.2.length≤c2)(ht:Touch (fun b=>b=bo∨vo.ownBlock=some b) W2 W5)(hbo:W5.heap[bo]?=some (.cells #[v'] 44 (0,0)))
  (ho:Own W5 B 48 2 v' (pre.length+1) (cs++[.slice A1 x.1.length c1,.slice A2 x.2.length c2]))(hown:∀ b,v'.ownBlock=some b→vo.ownBlock=some b∨(W2.heap.size≤b∧b<W5.heap.size)) :
  ∃ C',EvM C C' W W5∧W5.heap[l]?=W.heap[l]?∧∃ v' cs',LCv w0 B b5 bo dd l HA hn hc C' (pre++[x]) v' cs' W5:=by
 have Hf:=hb2.size;have Hg:=ht.size;obtain⟨n1,n2,n3,n4,n5,n6⟩:=h.ne;have hT:Touch (fun b=>b=bo∨vo.ownBlock=some b) W W5:=(Touch.of_below hb2).trans ht;have hF:∀ b,(b=bo∨vo.ownBlock=some b)→C b∧b<W.heap.size:=fun b hb=>by
  rcases hb with rfl|hb
  ·exact⟨h.Co.1,(h.lt _ h.Co.1).2⟩
  ·exact⟨(h.vC b hb).1,(h.lt _ (h.vC b hb).1).2⟩
 have Hb:∀ b,b=b5∨b=l∨b=dd→¬(b=bo∨vo.ownBlock=some b):=fun b hb hm=>by
  rcases hm with hm|hm
  ·rcases hb with hb|hb|hb<;>omega
  ·exact(h.vC b hm).2 (by rcases hb with hb|hb|hb<;>simp[hb])
 have He:∀ b,b=b5∨b=l∨b=dd→C b:=fun b hb=>by
  rcases hb with rfl|rfl|rfl
  ·exact h.Co.2.1
  ·exact h.Co.2.2.2
  ·exact h.Co.2.2.1
 have Hc:∀ b,b=b5∨b=l∨b=dd→W5.heap[b]?=W.heap[b]?:=fun b hb=>hT.block b (h.lt b (He b hb)).2 (Hb b hb);have Ha:∀ b,W.heap.size≤b→¬(b=bo∨b=b5∨b=l∨b=dd∨vo.ownBlock=some b):=fun b hb hm=>by
  have:∀ b,C b→b<W.heap.size:=fun b hb=>(h.lt b hb).2;rcases hm with rfl|rfl|rfl|rfl|hm
  ·have:=this _ h.Co.1;omega
  ·have:=this _ h.Co.2.1;omega
  ·have:=this _ h.Co.2.2.2;omega
  ·have:=this _ h.Co.2.2.1;omega
  ·have:=this _ (h.vC b hm).1;omega
 refine⟨fun b=>C b∨(W.heap.size≤b∧b<W5.heap.size),⟨hT.mono (fun b _ hb=>(hF b hb).1),fun b hb=>hb⟩,Hc l (.inr (.inl rfl)),v',cs++[.slice A1 x.1.length c1,.slice A2 x.2.length c2],h.base.trans (hT.mono fun b _ hb=>(h.lt b (hF b hb).1).1),hbo,?_,?_,fun b hb=>?_,(Hc b5 (.inl rfl)).trans h.hi,(Hc dd (.inr (.inr rfl))).trans h.df,⟨.inl h.Co.1,.inl h.Co.2.1,.inl h.Co.2.2.1,.inl h.Co.2.2.2⟩,fun b hb=>?_,h.ne⟩
 ·rw[zad,zcr];exact ho
 ·rw[zat];have h1:RowV W5 (fun b=>(C b∨(W.heap.size≤b∧b<W5.heap.size))∧¬(b=bo∨b=b5∨b=l∨b=dd∨v'.ownBlock=some b)) cs (pre.flatMap fl2):=by
   have q:=h.row.same (Same.of_touch hT (fun b hb hm=>by
    rcases hm with hm|hm
    ·exact hb.2 (.inl hm)
    ·exact hb.2 (.inr (.inr (.inr (.inr hm))))))
   refine RowV.mono (fun b hb=>⟨.inl hb.1,fun hm=>?_⟩) q;rcases hm with hm|hm|hm|hm|hm
   ·exact hb.2 (.inl hm)
   ·exact hb.2 (.inr (.inl hm))
   ·exact hb.2 (.inr (.inr (.inl hm)))
   ·exact hb.2 (.inr (.inr (.inr (.inl hm))))
   ·rcases hown b hm with h1|h1
    ·exact hb.2 (.inr (.inr (.inr (.inr h1))))
    ·have:=(h.lt b hb.1).2;omega
  have key:∀ {A:Option Addr} {s:Bs},By W2 A s→(∀ ad,A=some ad→W.heap.size≤ad.block∧ad.block<W2.heap.size)→ByS W5 (fun b=>(C b∨(W.heap.size≤b∧b<W5.heap.size))∧¬(b=bo∨b=b5∨b=l∨b=dd∨v'.ownBlock=some b)) A s:=fun {A s} hb hbb=>by
   refine⟨hb.touch ht (fun ad e hm=>Ha _ (hbb ad e).1 (by rcases hm with hm|hm<;>simp[hm])),fun ad e _=>⟨.inr ⟨(hbb ad e).1,by have:=(hbb ad e).2;omega⟩,fun hm=>?_⟩⟩;have h3:=Ha _ (hbb ad e).1;rcases hm with hm|hm|hm|hm|hm
   ·exact h3 (.inl hm)
   ·exact h3 (.inr (.inl hm))
   ·exact h3 (.inr (.inr (.inl hm)))
   ·exact h3 (.inr (.inr (.inr (.inl hm))))
   ·rcases hown _ hm with h1|h1
    ·exact h3 (.inr (.inr (.inr (.inr h1))))
    ·have:=(hbb ad e).2;omega
  exact RowV.append h1 (RowV.append (RowV.one hkc (key hk hkb)) (RowV.one hvc (key hv hvb)))
 ·rcases hown b hb with h1|h1
  ·exact⟨.inl (h.vC b h1).1,(h.vC b h1).2⟩
  ·refine⟨.inr ⟨by omega,h1.2⟩,fun hm=>Ha b (by omega) ?_⟩;rcases hm with hm|hm|hm|hm<;>simp[hm]
 ·rcases hb with hb|hb
  ·exact⟨(h.lt b hb).1,by have:=(h.lt b hb).2;omega⟩
  ·exact⟨by omega,hb.2⟩
end
end
end Go.Proofs.YtpmebcgmgfcmiaaGreatDoor
