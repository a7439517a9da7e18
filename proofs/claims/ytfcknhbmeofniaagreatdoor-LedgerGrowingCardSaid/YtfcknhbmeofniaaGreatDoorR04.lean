/- Texts TwSpec FmSpec WlSpec ShSpec TrSpec TrCol SrSpec ChSpec GtSpec. -/
import Derived.Test.YtfcknhbmeofniaaGreatDoorR03
set_option linter.all false
set_option maxRecDepth 100000
set_option maxHeartbeats 16000000
namespace Go.Proofs.YtfcknhbmeofniaaGreatDoor.BT
variable {d L:Nat}{t:Ts}{now old:List Pr}{p:Pl}
def wf (p:Pl)(x:Wt):Bool×Pl:=if(p.give x).1 then(p.give x).2.flush x.dev else(false,(p.give x).2)
def qcw (p:Pl)(d gen root1:Nat)(use:Bs):Bool×Pl:=
 if(p.flush d).1 then wf (p.flush d).2 ⟨d,slot (gen+1),superB (gen+1) root1 use⟩else(false,(p.flush d).2)
theorem qbL {d:Nat}:∀ (l:List Wt) {D D':qaZ},(∀ k,D d k=D' d k)→∀ k,lay D l d k=lay D' (l.filter fun x=>x.dev=d) d k
 | [],_,_,h,k=>h k
 | x::l,D,D',h,k=>by
  rw[lay];by_cases hx:x.dev=d
  ·rw[zby (by simpa using hx),lay];refine qbL l (fun j=>?_) k;unfold setD;split
   ·rfl
   ·exact h j
  ·rw[zbM (by simpa using hx)];refine qbL l (fun j=>?_) k;unfold setD;rw[zaC (fun e=>hx e.1.symm)];exact h j
theorem qgg (keep:List Int):∀ (i:Nat) (l:List Wt),List.Sublist (kept keep i l) l
 | _,[]=>List.Sublist.slnil
 | i,x::l=>by
  unfold kept;split
  ·exact(qgg keep (i+1) l).cons_cons x
  ·exact(qgg keep (i+1) l).cons x
theorem Std.newIs (h:Std d L t now old)(hg:t.g.gen+1<4611686018427387904){q:Pl}(hm:q.most=t.p.most)
  (hd:∀ k,q.disk d k=if k=slot (t.g.gen+1)then superB (t.g.gen+1) t.root1 t.g.use else t.p.seen d k)(hw:∀ x∈q.waits,x.dev≠d):OldIs q d t.g.pages L ⟨t.g.gen+1,t.root1,t.g.use⟩ now:=by
 have Hb:∀ n i:Nat,q.disk d (2+n*8+i)=t.p.seen d (2+n*8+i):=fun n i=>by
  rw[hd,zaC];have:=qco (t.g.gen+1);omega
 refine⟨⟨by rw[hm];exact h.old.com.m,by show 0<t.g.gen+1;omega,hg,h.use,h.up,?_,by show q.disk d (slot (t.g.gen+1))=_;rw[hd,zax rfl],fun hok=>?_,fun x hx e=>absurd e (hw x hx)⟩,h.now.congr fun n _ _ i _=>Hb n i⟩
 ·show t.root1=0∨1≤t.root1∧t.root1≤t.g.pages∧hasB t.g.use (t.root1-1)=true;by_cases h0:t.root1=0
  ·exact .inl h0
  ·right;obtain⟨hh,t1,_,_,_⟩:=h.now.some h0;obtain⟨m,h1,_⟩:=t1.wf;have Ha:qax (t.p.seen d) t.g.pages t.g.use (t.root1-1)=some m:=h1;unfold qax at Ha;split at Ha
   ·rename_i hc;exact⟨by omega,by omega,hc.2⟩
   ·cases Ha
 ·show(readS (q.disk d (slot (t.g.gen+1+1)))).gen<t.g.gen+1;have e:slot (t.g.gen+1+1)=slot t.g.gen:=by unfold slot;omega
  have Hc:(readS (q.disk d (slot (t.g.gen+1+1)))).ok=true:=hok;have hc:=h.old.com;have e2:q.disk d (slot t.g.gen)=superB t.g.gen t.g.root1 t.g.was:=by
   rw[hd,zaC (fun e=>qig t.g.gen e.symm),hc.seen (.inl (qco _))];exact hc.sb
  have hr:t.g.root1<65536:=by
   have hp:=h.pages;rcases hc.root with h1|⟨_,h1,_⟩
   ·have Ha:t.g.root1=0:=h1;omega
   ·have Ha:t.g.root1≤t.g.pages:=h1;omega
  have g1:t.g.gen<4611686018427387904:=hc.g1;rw[e,e2,qe7 t.g.gen t.g.root1 t.g.was hc.g0 (by omega) hr hc.ub];exact Nat.lt_succ_self _
theorem Std.oldIs (h:Std d L t now old){q:Pl}(hm:q.most=t.p.most)(hd:∀ k,q.disk d k=t.p.seen d k)(hw:∀ x∈q.waits,x.dev≠d):OldIs q d t.g.pages L ⟨t.g.gen,t.g.root1,t.g.was⟩ old:=by
 refine⟨h.old.com.to hm (fun k hk=>by rw[hd,h.old.com.seen (.inl hk)]) (fun x hx e=>absurd e (hw x hx)),?_⟩;rw[show q.disk d=t.p.seen d from funext hd];exact h.old.seen
theorem flush_ok (ho:p.off=false):((p.flush d).1=true∧(p.flush d).2.off=false∧(p.flush d).2.most=p.most∧(∀ k,(p.flush d).2.disk d k=p.seen d k)∧(p.flush d).2.waits=p.waits.filter fun x=>x.dev≠d)∨
  ((p.flush d).1=false∧(p.flush d).2.off=true∧(p.flush d).2.most=p.most∧(p.flush d).2.disk=p.disk∧(p.flush d).2.waits=p.waits):=by
 obtain⟨h1,h2,h3,h4,h5,h6⟩:=qff p;unfold Pl.flush;rw[zaC (by rw[ho];decide)];cases hs:p.step.1 with
 | true=>
  left;simp only[zb5];refine⟨trivial,(h5 hs).trans ho,h1,fun k=>?_,trivial⟩;exact(qbL p.waits (fun _=>rfl) k).symm
 | false=>
  right;simp only[zbY,zcP];exact⟨trivial,h6 hs,h1,h3,h4⟩
theorem qfe {q:Pl}(hw:∀ x∈q.waits,x.dev≠d)(k:Nat):q.seen d k=q.disk d k:=qbP fun x hx e=>hw x hx e.1
theorem Std.commit (h:Std d L t now old)(hg:t.g.gen+1<4611686018427387904) :
  ((qcw t.p d t.g.gen t.root1 t.g.use).1=true∧Std d L ⟨(qcw t.p d t.g.gen t.root1 t.g.use).2,{ t.g with gen:=t.g.gen+1,root1:=t.root1,was:=t.g.use },t.root1⟩ now now∧(qcw t.p d t.g.gen t.root1 t.g.use).2.waits.length≤t.p.waits.length)∨
  ((qcw t.p d t.g.gen t.root1 t.g.use).1=false∧(qcw t.p d t.g.gen t.root1 t.g.use).2.off=true∧∀ keep,OldIs ((qcw t.p d t.g.gen t.root1 t.g.use).2.boot keep) d t.g.pages L ⟨t.g.gen,t.g.root1,t.g.was⟩ old∨OldIs ((qcw t.p d t.g.gen t.root1 t.g.use).2.boot keep) d t.g.pages L ⟨t.g.gen+1,t.root1,t.g.use⟩ now):=by
 unfold qcw;rcases flush_ok (d:=d) h.on with⟨a1,a2,a3,a4,a5⟩|⟨a1,a2,a3,a4,a5⟩
 ·rw[zax a1];generalize (t.p.flush d).2=q1 at *;have Hj:∀ x∈q1.waits,x.dev≠d:=fun x hx=>by
   rw[a5]at hx;simpa using(zbj.1 hx).2
  have Hm:q1.waits.length≤t.p.waits.length:=by rw[a5];exact zcq ..
  have Hn:=h.oldIs a3 a4 Hj;obtain⟨x,hx⟩:∃ x:Wt,x=⟨d,slot (t.g.gen+1),superB (t.g.gen+1) t.root1 t.g.use⟩:=⟨_,rfl⟩;rw[←hx];have Hi:x.dev=d:=by rw[hx]
  have gv:=qdr q1 x;unfold wf;cases hgv:(q1.give x).1 with
  | false=>
   rw[hgv]at gv;simp only[zbY,zcP];obtain⟨k,k1,k2,k3⟩:=gv.waits;have hk:k=0:=by
    refine Nat.le_antisymm (Nat.le_of_lt_succ (Nat.lt_of_le_of_ne k1 fun e=>?_)) (zbO _);have e:k=1:=e;subst e;have e3:(q1.give x).2.waits=q1.waits:=by
     unfold Pl.give at hgv⊢;split at hgv
     ·cases hgv
     ·rename_i hs;rw[zaC hs];exact(qff q1).2.2.2.1
    rw[e3]at k2;have:=congrArg List.length k2;simp at this
   subst hk;simp only[zbT,zaP]at k2;right;refine⟨trivial,gv.off rfl,fun keep=>.inl (OldIs.boot ?_ keep)⟩;exact Hn.to gv.most gv.disk fun y hy e=>absurd e (Hj y (by rw[←k2];exact hy))
  | true=>
   rw[hgv]at gv;simp only[zb5];obtain⟨k2,k3⟩:=qgR gv;have Hg:=(gv.on rfl).trans a2;rw[Hi];generalize (q1.give x).2=q2 at *;have Hc:q2.waits.filter (fun y=>y.dev=d)=[x]:=by
    rw[k2,zbv,zcG.2 (fun y hy=>by simpa using Hj y hy),zby (by simpa using Hi)];rfl
   have Ha:∀ k,q2.disk d k=t.p.seen d k:=fun k=>by rw[gv.disk];exact a4 k
   have He:∀ k,lay q2.disk [x] d k=if k=slot (t.g.gen+1)then superB (t.g.gen+1) t.root1 t.g.use else t.p.seen d k:=fun k=>by
    show setD q2.disk x.dev x.place x.b d k=_;unfold setD;by_cases hk:k=slot (t.g.gen+1)
    ·rw[zax ⟨Hi.symm,by rw[hx];exact hk⟩,zax hk,hx]
    ·rw[zaC (fun e=>hk (by have:=e.2;rw[hx]at this;exact this)),zaC hk];exact Ha k
   rcases flush_ok (d:=d) Hg with⟨b1,b2,b3,b4,b5⟩|⟨b1,b2,b3,b4,b5⟩
   ·left;have Hl:∀ k,(q2.flush d).2.disk d k=if k=slot (t.g.gen+1)then superB (t.g.gen+1) t.root1 t.g.use else t.p.seen d k:=fun k=>by
     rw[b4,←He];show lay q2.disk q2.waits d k=_;rw[qbL q2.waits (fun _=>rfl) k,Hc]
    have Ho:∀ y∈(q2.flush d).2.waits,y.dev≠d:=fun y hy=>by
     rw[b5]at hy;simpa using(zbj.1 hy).2
    have Hf:=h.newIs hg (b3.trans (gv.most.trans a3)) Hl Ho;refine⟨b1,⟨Hf,b2,Hf.seen,h.use,h.up⟩,?_⟩;rw[b5,k2,zbv];have:[x].filter (fun y=>decide (y.dev≠d))=[]:=by simp[Hi]
    rw[this,zaP];exact zam (zcq ..) Hm
   ·right;refine⟨b1,b2,fun keep=>?_⟩;have Hk:∀ k,((q2.flush d).2.boot keep).disk d k=lay q2.disk ((kept keep 0 (q2.flush d).2.waits).filter fun y=>y.dev=d) d k:=fun k=>by
     show lay (q2.flush d).2.disk (kept keep 0 (q2.flush d).2.waits) d k=_;exact qbL _ (fun j=>by rw[b4]) k
    have Hh:List.Sublist ((kept keep 0 (q2.flush d).2.waits).filter fun y=>y.dev=d) [x]:=by
     have:=(qgg keep 0 (q2.flush d).2.waits).filter (fun y=>y.dev=d);rw[b5]at this⊢;rw[Hc]at this;exact this
    have Hb:((kept keep 0 (q2.flush d).2.waits).filter fun y=>y.dev=d)=[]∨((kept keep 0 (q2.flush d).2.waits).filter fun y=>y.dev=d)=[x]:=by
     generalize ((kept keep 0 (q2.flush d).2.waits).filter fun y=>decide (y.dev=d))=l at Hh;cases Hh with
     | cons _ h=>left;exact List.sublist_nil.1 h
     | cons_cons _ h=>right;rw[List.sublist_nil.1 h]
    rcases Hb with e|e
    ·left;refine h.oldIs (b3.trans (gv.most.trans a3)) (fun k=>?_) (fun y hy=>by cases hy);rw[Hk,e];exact Ha k
    ·right;refine h.newIs hg (b3.trans (gv.most.trans a3)) (fun k=>?_) (fun y hy=>by cases hy);rw[Hk,e];exact He k
 ·rw[zaC (by rw[a1];decide)];right;exact⟨rfl,a2,fun keep=>.inl (OldIs.boot (h.old.to a3 a4 (by rw[a5];exact h.old.com.wt)) keep)⟩
theorem OldIs.stand {pages:Nat}{c:Cm}(h:OldIs p d pages L c old)(ho:p.off=false):Std d L ⟨p,⟨pages,c.gen,c.root1,c.ub,c.ub⟩,c.root1⟩ old old:=
 ⟨h,ho,h.seen,h.com.ub,h.com.ubp⟩
theorem Std.room (h:Std d L t now old)(hL:L≤24)(hw:t.g.was=t.g.use):t.g.pages≤qar t.g.pages t.g.use t.g.was+now.length:=by
 rw[hw];have hp:=h.pages;have hf:∀ U:List Nat,(∀ i,i<384→hasB t.g.use i=true→i∈U)→t.g.pages≤qar t.g.pages t.g.use t.g.use+U.length:=by
  intro U hU;have hs:∀ i∈List.range t.g.pages,i∈(List.range t.g.pages).filter (qf9 t.g.use t.g.use)++U:=by
   intro i hi;have Ha:=za9.1 hi;cases hb:hasB t.g.use i with
   | false=>exact za6 _ (zbj.2 ⟨hi,by simp[qf9,hb]⟩)
   | true=>exact zaS _ (hU i (by omega) hb)
  have:=qj9 List.nodup_range hs;rw[zcI,zaf]at this;exact this
 by_cases h0:t.root1=0
 ·obtain⟨e,hn⟩:=h.now.none h0;have:=hf [] fun i hi hb=>by rw[hn i hi]at hb;cases hb
  simp at this;omega
 ·obtain⟨hh,t1,t2,_,t4⟩:=h.now.some h0;have:=hf _ fun i hi hb=>(t4 i hi).1 hb;have hc:=t1.count hL;rw[t2]at hc;omega
def qcf (s0 s1:Bs):Nat:=
 let n:=if(readS s0).ok then max 1 ((readS s0).gen+1)else 1
 if(readS s1).ok then max n ((readS s1).gen+1)else n
def qbe (p:Pl)(d:Nat):Bool×Pl:=
 if 4611686018427387904≤qcf (p.seen d 0) (p.seen d 1)then
  if(wf p ⟨d,0,zeros 64⟩).1 then
   if(wf (wf p ⟨d,0,zeros 64⟩).2 ⟨d,1,zeros 64⟩).1 then wf (wf (wf p ⟨d,0,zeros 64⟩).2 ⟨d,1,zeros 64⟩).2 ⟨d,slot 1,superB 1 0 (zeros 48)⟩
   else(false,(wf (wf p ⟨d,0,zeros 64⟩).2 ⟨d,1,zeros 64⟩).2)
  else(false,(wf p ⟨d,0,zeros 64⟩).2)
 else wf p ⟨d,slot (qcf (p.seen d 0) (p.seen d 1)),superB (qcf (p.seen d 0) (p.seen d 1)) 0 (zeros 48)⟩
def Sure (p:Pl):Prop:=p.off=false∧p.fuse=-1
theorem qhr (h:Sure p):p.step=(true,p):=by
 unfold Pl.step;rw[zaC (by rw[h.2];decide)];have:p.fuse=-1:=h.2;rw[this,zaC (by decide)];cases p
 simp_all
theorem qbO (h:Sure p)(x:Wt):p.give x=(true,{ p with waits:=p.waits++[x] }):=by
 unfold Pl.give;rw[qhr h];rfl
theorem qdP (h:Sure p)(d:Nat):p.flush d=(true,{ p with disk:=lay p.disk (p.waits.filter fun x=>x.dev=d),waits:=p.waits.filter fun x=>x.dev≠d }):=by
 unfold Pl.flush;rw[zaC (by rw[h.1];decide),qhr h];rfl
structure Laid (p q:Pl) (x:Wt):Prop where
 sure:Sure q
 most:q.most=p.most
 tp:q.tp=p.tp
 disk:∀ k,q.disk x.dev k=if k=x.place then x.b else p.seen x.dev k
 other:∀ d k,d≠x.dev→q.disk d k=p.disk d k
 waits:q.waits=p.waits.filter fun y=>y.dev≠x.dev
theorem qcq (h:Sure p)(x:Wt):(wf p x).1=true∧Laid p (wf p x).2 x:=by
 unfold wf;rw[qbO h];simp only[zb5];have h2:Sure { p with waits:=p.waits++[x] }:=h;rw[qdP h2];refine⟨rfl,h,rfl,rfl,fun k=>?_,fun d k hd=>?_,?_⟩
 ·show lay p.disk ((p.waits++[x]).filter fun y=>y.dev=x.dev) x.dev k=_;rw[zbv,zby (by simp),zcC,qbm];show setD (lay p.disk (p.waits.filter fun y=>y.dev=x.dev)) x.dev x.place x.b x.dev k=_;unfold setD;by_cases hk:k=x.place
  ·rw[zax ⟨rfl,hk⟩,zax hk]
  ·rw[zaC (fun e=>hk e.2),zaC hk];exact(qbL p.waits (fun _=>rfl) k).symm
 ·show lay p.disk ((p.waits++[x]).filter fun y=>y.dev=x.dev) d k=_;refine qbP fun y hy e=>?_;have:=(zbj.1 hy).2;simp at this;exact hd (e.1.symm.trans this)
 ·show((p.waits++[x]).filter fun y=>y.dev≠x.dev)=_;rw[zbv];simp
theorem qe8:(readS (zeros 64)).ok=false:=by
 have e:hiN ((zeros 64).take 8)=0:=by decide
 unfold readS;simp only[e];simp
theorem qeS (h:Sure p){m:Nat}(hm:p.most[d]?=some m)(hp:0<min ((m-2) / 8) 384) :
  (qbe p d).1=true∧Sure (qbe p d).2∧(qbe p d).2.most=p.most∧(qbe p d).2.tp=p.tp∧(∀ e k,e≠d→(qbe p d).2.disk e k=p.disk e k)∧(qbe p d).2.waits=p.waits.filter (fun y=>y.dev≠d)∧
   ∃ g,0<g∧g<4611686018427387904∧g≤max 1 (qcf (p.seen d 0) (p.seen d 1))∧∀ L,OldIs (qbe p d).2 d (min ((m-2) / 8) 384) L ⟨g,0,zeros 48⟩ []:=by
 have Ha:∀ (q:Pl) (g:Nat),q.most=p.most→0<g→g<4611686018427387904→q.disk d (slot g)=superB g 0 (zeros 48)→((readS (q.disk d (slot (g+1)))).ok=true→(readS (q.disk d (slot (g+1)))).gen<g)→(∀ x∈q.waits,x.dev≠d)→∀ L,OldIs q d (min ((m-2) / 8) 384) L ⟨g,0,zeros 48⟩ []:=by
  intro q g e1 e2 e3 e4 e5 e6 L;exact⟨⟨⟨m,by rw[e1];exact hm,rfl,hp⟩,e2,e3,zeros_len 48,fun i _ _=>qfI 48 i,.inl rfl,e4,e5,fun x hx e=>absurd e (e6 x hx)⟩,⟨fun _=>⟨rfl,fun i _=>qfI 48 i⟩,fun h=>absurd rfl h⟩⟩
 unfold qbe;split
 ·obtain⟨a1,a2⟩:=qcq h ⟨d,0,zeros 64⟩;generalize (wf p ⟨d,0,zeros 64⟩).2=q1 at *;rw[zax a1];obtain⟨b1,b2⟩:=qcq a2.sure ⟨d,1,zeros 64⟩;generalize (wf q1 ⟨d,1,zeros 64⟩).2=q2 at *;rw[zax b1];obtain⟨c1,c2⟩:=qcq b2.sure ⟨d,slot 1,superB 1 0 (zeros 48)⟩;generalize (wf q2 ⟨d,slot 1,superB 1 0 (zeros 48)⟩).2=q3 at *;have w1:q1.waits=p.waits.filter fun y=>y.dev≠d:=a2.waits;have w2:q2.waits=q1.waits.filter fun y=>y.dev≠d:=b2.waits;have w3:q3.waits=q2.waits.filter fun y=>y.dev≠d:=c2.waits;have hw:q3.waits=p.waits.filter fun y=>y.dev≠d:=by
   rw[w3,w2,w1,List.filter_filter,List.filter_filter];simp
  have Hc:∀ q:Pl,(∃ l:List Wt,q.waits=l.filter fun y=>y.dev≠d)→∀ x∈q.waits,x.dev≠d:=by
   rintro q ⟨l,e⟩ x hx;rw[e]at hx;simpa using(zbj.1 hx).2
  have d3:∀ k,q3.disk d k=if k=slot 1 then superB 1 0 (zeros 48)else q2.disk d k:=fun k=>by
   have:=c2.disk k;rw[qfe (Hc q2 ⟨_,w2⟩)]at this;exact this
  have d2:∀ k,q2.disk d k=if k=1 then zeros 64 else q1.disk d k:=fun k=>by
   have:=b2.disk k;rw[qfe (Hc q1 ⟨_,w1⟩)]at this;exact this
  refine⟨c1,c2.sure,c2.most.trans (b2.most.trans a2.most),c2.tp.trans (b2.tp.trans a2.tp),fun e k he=>(c2.other e k he).trans ((b2.other e k he).trans (a2.other e k he)),hw,1,by omega,by omega,by omega,?_⟩;refine Ha q3 1 (c2.most.trans (b2.most.trans a2.most)) (by omega) (by omega) (by rw[d3,zax rfl]) (fun hok=>?_) (Hc q3 ⟨_,w3⟩);rw[d3,zaC (qig 1),d2,show slot (1+1)=1 from rfl,zax rfl]at hok;rw[qe8]at hok;cases hok
 ·rename_i hlt;generalize hn:qcf (p.seen d 0) (p.seen d 1)=g at *;have Hb:0<g∧((readS (p.seen d 0)).ok=true→(readS (p.seen d 0)).gen<g)∧((readS (p.seen d 1)).ok=true→(readS (p.seen d 1)).gen<g):=by
   subst hn;unfold qcf;cases(readS (p.seen d 0)).ok<;>cases(readS (p.seen d 1)).ok<;>simp<;>omega
  obtain⟨c1,c2⟩:=qcq h ⟨d,slot g,superB g 0 (zeros 48)⟩;generalize (wf p ⟨d,slot g,superB g 0 (zeros 48)⟩).2=q3 at *;have w3:q3.waits=p.waits.filter fun y=>y.dev≠d:=c2.waits;have d3:∀ k,q3.disk d k=if k=slot g then superB g 0 (zeros 48)else p.seen d k:=c2.disk;refine⟨c1,c2.sure,c2.most,c2.tp,c2.other,w3,g,Hb.1,by omega,by omega,Ha q3 g c2.most Hb.1 (by omega) (by rw[d3,zax rfl]) (fun hok=>?_) (fun x hx=>?_)⟩
  ·rw[d3,zaC (qig g)]at hok⊢;have:=qco (g+1);have He:slot (g+1)=0∨slot (g+1)=1:=by omega
   rcases He with e|e
   ·rw[e]at hok⊢;exact Hb.2.1 hok
   ·rw[e]at hok⊢;exact Hb.2.2 hok
  ·rw[w3]at hx;simpa using(zbj.1 hx).2
def hdrC (gen ep:Nat):Bs:=numB 1463897137 4++numB gen 4++numB ep 4
def hdrB (gen ep:Nat):Bs:=hdrC gen ep++numB (crcN (hdrC gen ep)) 4++zeros 48
def qdX (s:Bs):Nat×Nat:=
 if hiN (s.take 4)=1463897137∧hiN ((s.drop 12).take 4)=crcN (s.take 12)then(hiN ((s.drop 4).take 4),hiN ((s.drop 8).take 4))else(0,0)
def qih (g:Nat×Nat×Nat)(i:Nat)(s:Bs):Nat×Nat×Nat:=if g.1<(qdX s).1 then((qdX s).1,(qdX s).2,i)else g
def newH (s0 s1:Bs):Nat×Nat×Nat:=qih (qih (0,0,0) 0 s0) 1 s1
theorem qit (gen ep:Nat):(hdrC gen ep).length=12:=by simp[hdrC,qan]
theorem qgc (gen ep:Nat):(hdrB gen ep).length=64:=by simp[hdrB,qit,qan,zeros_len]
theorem qkw (gen ep:Nat)(hg:gen<4294967296)(he:ep<4294967296):qdX (hdrB gen ep)=(gen,ep):=by
 have l4:∀ n,(numB n 4).length=4:=fun n=>qan n 4 (by omega);have hc:=qit gen ep;have a0:(hdrB gen ep).take 12=hdrC gen ep:=by
  unfold hdrB;rw[zah,zbo hc]
 have a1:(hdrB gen ep).take 4=numB 1463897137 4:=by
  have:(hdrB gen ep).take 4=((hdrB gen ep).take 12).take 4:=by rw[zcK];rfl
  rw[this,a0];unfold hdrC;rw[zah,zbo (l4 _)]
 have a2:((hdrB gen ep).drop 12).take 4=numB (crcN (hdrC gen ep)) 4:=by
  unfold hdrB;rw[zah,zbG hc,zbo (l4 _)]
 have Ha:∀ k,((hdrB gen ep).drop k).take 4=((hdrC gen ep++(numB (crcN (hdrC gen ep)) 4++zeros 48)).drop k).take 4:=fun k=>by unfold hdrB;rw[zah]
 have a3:((hdrB gen ep).drop 4).take 4=numB gen 4:=by
  rw[Ha];unfold hdrC;rw[zah,zah,zbG (l4 _),zbo (l4 _)]
 have a4:((hdrB gen ep).drop 8).take 4=numB ep 4:=by
  rw[Ha];unfold hdrC;rw[zah,zbG (by simp[l4]),zbo (l4 _)]
 unfold qdX;rw[a0,a1,a2,a3,a4,qcO _ (by decide),qcO _ (qc8 _),qcO _ hg,qcO _ he,zax ⟨rfl,rfl⟩]
theorem qcB:∀ n,hiN (zeros n)=0
 | 0=>rfl
 | n+1=>by
  have:zeros (n+1)=zeros n++[0]:=by unfold zeros;rw[List.replicate_succ']
  rw[this,qge,qcB n];rfl
theorem qh8:qdX (zeros 64)=(0,0):=by
 unfold qdX;rw[zaC];rintro⟨h,_⟩;rw[show(zeros 64).take 4=zeros 4 by simp[zeros],qcB]at h;cases h
def layH (p:Pl)(d gen ep:Nat):Bool×Pl:=wf p ⟨d,gen % 2,hdrB gen ep⟩
def qbV (d:Nat):List (Nat×Bool)→Pl→Pl
 | [],p=>p
 | (k,f)::l,p=>qbV d l (if f then((p.give ⟨d,k,zeros 64⟩).2.flush d).2 else(p.give ⟨d,k,zeros 64⟩).2)
theorem qf0 (d:Nat):∀ (l:List (Nat×Bool)) (x:Nat×Bool) (p:Pl),qbV d (l++[x]) p=qbV d [x] (qbV d l p)
 | [],_,_=>rfl
 | (_,_)::l,x,_=>qf0 d l x _
structure Wiped (d:Nat) (L:List Nat) (p q:Pl):Prop where
 sure:Sure q
 most:q.most=p.most
 tp:q.tp=p.tp
 seen:∀ k,q.seen d k=if k∈L then zeros 64 else p.seen d k
 other:∀ e k,e≠d→q.disk e k=p.disk e k
 wt:q.waits.filter (fun x=>x.dev≠d)=p.waits.filter fun x=>x.dev≠d
theorem Wiped.refl (h:Sure p):Wiped d [] p p:=⟨h,rfl,rfl,fun k=>by simp,fun _ _ _=>rfl,rfl⟩
theorem Wiped.trans {L M:List Nat}{q r:Pl}(h:Wiped d L p q)(k:Wiped d M q r):Wiped d (L++M) p r where
 sure:=k.sure
 most:=k.most.trans h.most
 tp:=k.tp.trans h.tp
 seen j:=by
  rw[k.seen,h.seen];by_cases a:j∈M<;>by_cases b:j∈L<;>simp[a,b]
 other e j he:=(k.other e j he).trans (h.other e j he)
 wt:=k.wt.trans h.wt
theorem qhx {k:Nat}{f:Bool}(h:Sure p):Wiped d [k] p (qbV d [(k,f)] p):=by
 cases f with
 | true=>
  have e:qbV d [(k,true)] p=(wf p ⟨d,k,zeros 64⟩).2:=by
   unfold wf;rw[zax (by rw[qbO h])];rfl
  obtain⟨_,l⟩:=qcq h ⟨d,k,zeros 64⟩;rw[e];refine⟨l.sure,l.most,l.tp,fun j=>?_,l.other,by rw[l.waits];simp⟩;have:=l.disk j;simp only at this;show lay _ _ d j=_;have Ha:∀ x∈(wf p ⟨d,k,zeros 64⟩).2.waits,¬(x.dev=d∧x.place=j):=fun x hx e=>by
   rw[l.waits]at hx;have:=(zbj.1 hx).2;simp at this;exact this e.1
  rw[qbP Ha,this];simp
 | false=>
  have e:qbV d [(k,false)] p={ p with waits:=p.waits++[⟨d,k,zeros 64⟩] }:=by
   show(p.give ⟨d,k,zeros 64⟩).2=_;rw[qbO h]
  rw[e];refine⟨h,rfl,rfl,fun j=>?_,fun _ _ _=>rfl,?_⟩
  ·show lay p.disk (p.waits++[⟨d,k,zeros 64⟩]) d j=_;rw[qbm];show setD _ d k (zeros 64) d j=_;unfold setD;by_cases hj:j=k
   ·simp[hj]
   ·rw[zaC (fun e=>hj e.2)];simp[hj];rfl
  ·show(p.waits++[_]).filter _=_;rw[zbv];simp
theorem qdG {d:Nat}:∀ (l:List (Nat×Bool)) {p:Pl},Sure p→Wiped d (l.map (·.1)) p (qbV d l p)
 | [],_,h=>Wiped.refl h
 | (k,f)::l,p,h=>by
  have a:=qhx (d:=d) (k:=k) (f:=f) h;exact a.trans (qdG l a.sure)
def qbs (last n:Nat):List (Nat×Bool):=[(1-last,true),(last,true)]++((List.range (n-2)).map fun i=>(i+2,decide (i+3=n)))
def qa2 (p:Pl)(d n:Nat):Bool×Pl:=layH (qbV d (qbs (newH (p.seen d 0) (p.seen d 1)).2.2 n) p) d 1 1
theorem newH_at (s0 s1:Bs):(newH s0 s1).2.2=0∨(newH s0 s1).2.2=1:=by
 unfold newH qih
 repeat' split
 all_goals first|exact .inl rfl|exact .inr rfl
theorem qeh (h:Sure p)(d n:Nat)(hn:2≤n):(qa2 p d n).1=true∧Sure (qa2 p d n).2∧(qa2 p d n).2.most=p.most∧(qa2 p d n).2.tp=p.tp∧(∀ e k,e≠d→(qa2 p d n).2.disk e k=p.disk e k)∧
  (qa2 p d n).2.waits=p.waits.filter (fun y=>y.dev≠d)∧∀ k,k<n→(qa2 p d n).2.disk d k=if k=1 then hdrB 1 1 else zeros 64:=by
 have a:=qdG (d:=d) (qbs (newH (p.seen d 0) (p.seen d 1)).2.2 n) h;unfold qa2 layH;generalize hq:qbV d (qbs (newH (p.seen d 0) (p.seen d 1)).2.2 n) p=q at a⊢;obtain⟨b1,b2⟩:=qcq a.sure ⟨d,1 % 2,hdrB 1 1⟩;refine⟨b1,b2.sure,b2.most.trans a.most,b2.tp.trans a.tp,fun e k he=>(b2.other e k he).trans (a.other e k he),b2.waits.trans a.wt,fun k hk=>?_⟩;have:=b2.disk k;simp only at this;rw[this];by_cases h1:k=1
 ·rw[zax h1,zax h1]
 ·rw[zaC h1,zaC h1,a.seen,zax];unfold qbs;rw[zbz];rcases zcc k 2 with h2|h2
  ·refine za6 _ ?_;rcases newH_at (p.seen d 0) (p.seen d 1)with e|e<;>simp[e]<;>omega
  ·refine zaS _ ?_;simp only[zcO,zbh,za9,Function.comp];exact⟨k-2,by omega,by omega⟩
abbrev W32:=BitVec 32
def rr (x:W32)(n:Nat):W32:=x >>> n ||| x <<< (32-n)
def sg0 (x:W32):W32:=rr x 7 ^^^ rr x 18 ^^^ x >>> 3
def sg1 (x:W32):W32:=rr x 17 ^^^ rr x 19 ^^^ x >>> 10
def bg0 (x:W32):W32:=rr x 2 ^^^ rr x 13 ^^^ rr x 22
def bg1 (x:W32):W32:=rr x 6 ^^^ rr x 11 ^^^ rr x 25
def shK:List Nat:=[
  0x428a2f98,0x71374491,0xb5c0fbcf,0xe9b5dba5,0x3956c25b,0x59f111f1,0x923f82a4,0xab1c5ed5,
  0xd807aa98,0x12835b01,0x243185be,0x550c7dc3,0x72be5d74,0x80deb1fe,0x9bdc06a7,0xc19bf174,
  0xe49b69c1,0xefbe4786,0x0fc19dc6,0x240ca1cc,0x2de92c6f,0x4a7484aa,0x5cb0a9dc,0x76f988da,
  0x983e5152,0xa831c66d,0xb00327c8,0xbf597fc7,0xc6e00bf3,0xd5a79147,0x06ca6351,0x14292967,
  0x27b70a85,0x2e1b2138,0x4d2c6dfc,0x53380d13,0x650a7354,0x766a0abb,0x81c2c92e,0x92722c85,
  0xa2bfe8a1,0xa81a664b,0xc24b8b70,0xc76c51a3,0xd192e819,0xd6990624,0xf40e3585,0x106aa070,
  0x19a4c116,0x1e376c08,0x2748774c,0x34b0bcb5,0x391c0cb3,0x4ed8aa4a,0x5b9cca4f,0x682e6ff3,
  0x748f82ee,0x78a5636f,0x84c87814,0x8cc70208,0x90befffa,0xa4506ceb,0xbef9a3f7,0xc67178f2]
def kS (t:Nat):W32:=BitVec.ofNat 32 (shK.getD t 0)
def b8 (c:UInt8):W32:=BitVec.ofNat 32 c.toNat
def wd (a b c d:UInt8):W32:=b8 a <<< 24 ||| b8 b <<< 16 ||| b8 c <<< 8 ||| b8 d
def qjE (p:Bs)(t:Nat):W32:=wd (p.getD (4*t) 0) (p.getD (4*t+1) 0) (p.getD (4*t+2) 0) (p.getD (4*t+3) 0)
def qmn (w:List W32)(t:Nat):W32:=w.getD (t-16) 0+sg0 (w.getD (t-15) 0)+w.getD (t-7) 0+sg1 (w.getD (t-2) 0)
def qaA (p:Bs):Nat→List W32
 | 0=>[]
 | t+1=>qaA p t++[if t<16 then qjE p t else qmn (qaA p t) t]
theorem qbR (p:Bs):∀ t,(qaA p t).length=t
 | 0=>rfl
 | t+1=>by simp[qaA,qbR p t]
structure V8 where
 (a b c d e f g h:W32)
def V8.l (v:V8):List W32:=[v.a,v.b,v.c,v.d,v.e,v.f,v.g,v.h]
def V8.add (v u:V8):V8:=⟨v.a+u.a,v.b+u.b,v.c+u.c,v.d+u.d,v.e+u.e,v.f+u.f,v.g+u.g,v.h+u.h⟩
def t1S (v:V8)(k w:W32):W32:=v.h+bg1 v.e+(v.e &&& v.f ^^^ ~~~ v.e &&& v.g)+k+w
def t2S (v:V8):W32:=bg0 v.a+(v.a &&& v.b ^^^ v.a &&& v.c ^^^ v.b &&& v.c)
def rndS (v:V8)(k w:W32):V8:=⟨t1S v k w+t2S v,v.a,v.b,v.c,v.d+t1S v k w,v.e,v.f,v.g⟩
def qdY (p:Bs)(v:V8):Nat→V8
 | 0=>v
 | t+1=>rndS (qdY p v t) (kS t) ((qaA p 64).getD t 0)
def pieceS (v:V8)(p:Bs):V8:=v.add (qdY p v 64)
def qap (v:V8)(l:Bs):V8:=if l.length<64 then v else qap (pieceS v (l.take 64)) (l.drop 64)
termination_by l.length
decreasing_by simp;omega
def tailS (l:Bs):Bs:=l.drop (64*(l.length / 64))
def startS:V8:=⟨0x6a09e667,0xbb67ae85,0x3c6ef372,0xa54ff53a,0x510e527f,0x9b05688c,0x1f83d9ab,0x5be0cd19⟩
def padT (n:Nat):Bs:=128::zeros ((119-n % 64) % 64)++numB (8*n) 8
def padS (l:Bs):Bs:=l++padT l.length
def w8 (w:W32)(j:Nat):UInt8:=UInt8.ofNat (w.toNat / 2 ^ (24-8*j))
def qdh (v:V8):Bs:=(List.range 32).map fun i=>w8 (v.l.getD (i / 4) 0) (i % 4)
def shaS (l:Bs):Bs:=qdh (qap startS (padS l))
theorem qby (v:V8):(qdh v).length=32:=by simp[qdh]
theorem qbB (l:Bs):(shaS l).length=32:=qby _
theorem qbF {v:V8}{l:Bs}(h:l.length<64):qap v l=v:=by rw[qap,zax h]
theorem qbN {v:V8}{l:Bs}(h:64≤l.length):qap v l=qap (pieceS v (l.take 64)) (l.drop 64):=by rw[qap,zaC (by omega)]
theorem qdK:∀ (n:Nat) (v:V8) (a b:Bs),a.length=64*n→qap v (a++b)=qap (qap v a) b
 | 0,v,a,b,h=>by
  have:a=[]:=zaX (by omega);subst this;rw[zaI,qbF (l:=[]) (by simp)]
 | n+1,v,a,b,h=>by
  rw[qbN (l:=a++b) (by simp;omega),qbN (l:=a) (by omega),zb1 (by omega),List.drop_append_of_le_length (by omega)];exact qdK n _ _ b (by simp;omega)
def qiM (l:Bs):Bs:=l.take (64*(l.length / 64))
theorem qhw (l:Bs):(qiM l).length=64*(l.length / 64):=by simp[qiM];omega
theorem qgA (l:Bs):(tailS l).length=l.length % 64:=by simp[tailS];omega
theorem qfZ (l:Bs):qiM l++tailS l=l:=zay _ _
theorem qgF (v:V8)(l:Bs):qap v l=qap v (qiM l):=by
 conv=>lhs;rw[←qfZ l]
 rw[qdK _ v _ _ (qhw l),qbF (by rw[qgA];omega)]
theorem qjB {l:Bs}(h:l.length<64):tailS l=l:=by
 unfold tailS;rw[Nat.div_eq_of_lt h];rfl
theorem qlK (n:Nat)(a b:Bs)(h:a.length=64*n):tailS (a++b)=tailS b:=by
 unfold tailS;rw[zaf,h,List.drop_append,za0 (by omega),zaI];congr 1;omega
theorem qhG (v:V8)(l b:Bs):qap v (l++b)=qap (qap v l) (tailS l++b):=by
 conv=>lhs;rw[←qfZ l]
 rw[zah,qdK _ v _ _ (qhw l),qgF v l]
theorem qlG (l:Bs):shaS l=qdh (qap (qap startS l) (tailS l++padT l.length)):=by
 unfold shaS padS;rw[qhG]
theorem qmr (l:Bs):(tailS l++padT l.length).length % 64=0:=by
 simp only[zaf,qgA,padT,zal,zeros_len,qan _ 8 (zad _),za3];omega
section
section
variable {H:Type} (emp:H) (nd:H→H→H)
def half (n:Nat):Nat:=2 ^ Nat.log2 (n-1)
theorem qdR {n:Nat}(h:2≤n):1≤half n∧half n<n∧n≤2*half n:=by
 have h1:n-1≠0:=by omega
 have a:=Nat.log2_self_le h1;have b:n-1<2 ^ (Nat.log2 (n-1)+1):=Nat.lt_log2_self;rw[Nat.pow_succ]at b;have c:1≤2 ^ Nat.log2 (n-1):=Nat.one_le_two_pow;unfold half;omega
theorem qjX {n j:Nat}(h1:2 ^ j<n)(h2:n≤2 ^ (j+1)):half n=2 ^ j:=by
 have h0:n-1≠0:=by have:=Nat.one_le_two_pow (n:=j);omega
 have e:Nat.log2 (n-1)=j:=by
  have a:j≤Nat.log2 (n-1):=(Nat.le_log2 h0).2 (by omega);have b:Nat.log2 (n-1)<j+1:=(Nat.log2_lt h0).2 (by omega);omega
 unfold half;rw[e]
def mth (l:List H):H:=
 match l with
 | []=>emp
 | [x]=>x
 | x::y::t=>nd (mth ((x::y::t).take (half (t.length+2)))) (mth ((x::y::t).drop (half (t.length+2))))
termination_by l.length
decreasing_by
 ·have:=qdR (n:=t.length+2) (by omega);simp;omega
 ·have:=qdR (n:=t.length+2) (by omega);simp;omega
theorem qhY (x:H):mth emp nd [x]=x:=by rw[mth]
theorem qml {l:List H}(h:2≤l.length):mth emp nd l=nd (mth emp nd (l.take (half l.length))) (mth emp nd (l.drop (half l.length))):=by
 match l,h with
 | x::y::t,_=>rw[mth];rfl
theorem qiB {a b:List H}{j:Nat}(ha:a.length=2 ^ j)(hb:0<b.length)(hl:b.length≤2 ^ j):mth emp nd (a++b)=nd (mth emp nd a) (mth emp nd b):=by
 have h1:1≤2 ^ j:=Nat.one_le_two_pow;have Ha:(a++b).length=2 ^ j+b.length:=by simp[ha]
 have e:half (a++b).length=a.length:=by
  rw[ha];exact qjX (by omega) (by rw[Nat.pow_succ];omega)
 rw[qml emp nd (by omega),e,List.take_left,List.drop_left]
def digs (j n:Nat)(l:List H):List H:=
 if n=0 then[]else if n % 2=1 then mth emp nd (l.drop ((n-1)*2 ^ j))::digs (j+1) (n / 2) (l.take ((n-1)*2 ^ j))else digs (j+1) (n / 2) l
termination_by n
decreasing_by all_goals omega
theorem qcb (j:Nat)(l:List H):digs emp nd j 0 l=[]:=by rw[digs];simp
theorem qck {j n:Nat}{l:List H}(h:n % 2=1):digs emp nd j n l=mth emp nd (l.drop ((n-1)*2 ^ j))::digs emp nd (j+1) (n / 2) (l.take ((n-1)*2 ^ j)):=by
 rw[digs,zaC (by omega),zax h]
theorem qca {j n:Nat}{l:List H}(h:n % 2=0):digs emp nd j n l=digs emp nd (j+1) (n / 2) l:=by
 by_cases h0:n=0
 ·subst h0;rw[qcb,qcb]
 ·rw[digs,zaC h0,zaC (by omega)]
def addP:Nat→List H→H→List H
 | _,[],x=>[x]
 | n,p::ps,x=>if n % 2=1 then addP (n / 2) ps (nd p x)else x::p::ps
theorem qgD {n:Nat}{ps:List H}{x:H}(h:n % 2=0):addP nd n ps x=x::ps:=by
 cases ps with
 | nil=>rfl
 | cons p ps=>simp[addP,h]
theorem qjK:∀ (n j:Nat) (l xs:List H),l.length=n*2 ^ j→xs.length=2 ^ j→addP nd n (digs emp nd j n l) (mth emp nd xs)=digs emp nd j (n+1) (l++xs):=by
 intro n
 induction n using Nat.strongRecOn with
 | ind n ih=>
  intro j l xs hl hx;have hp:2 ^ (j+1)=2*2 ^ j:=by rw[Nat.pow_succ];omega
  rcases Nat.mod_two_eq_zero_or_one n with h|h
  ·rw[qgD nd h,qck emp nd (by omega:(n+1) % 2=1),Nat.add_sub_cancel];rw[←hl,List.drop_left,List.take_left,qca emp nd h];rw[show(n+1) / 2=n / 2 by omega]
  ·rw[qck emp nd h];have hm:(n-1)*2 ^ j=n / 2*2 ^ (j+1):=by
    rw[hp,←Nat.mul_assoc];congr 1;omega
   have Ha:l.length=(n-1)*2 ^ j+2 ^ j:=by
    rw[hl,←Nat.succ_mul];congr 1;omega
   show addP nd n (_::_) _=_;rw[addP,zax h,←qiB emp nd (j:=j) (by rw[zap];omega) (by have:=Nat.one_le_two_pow (n:=j);omega) (by omega)];rw[ih (n / 2) (by omega) (j+1) _ _ (by rw[zaj,hm];omega) (by rw[zaf,zap,hx,hp];omega)];rw[qca emp nd (by omega:(n+1) % 2=0),show(n+1) / 2=n / 2+1 by omega,←zah,zay]
def qcn (l:List H):List H:=digs emp nd 0 l.length l
theorem qjk (l:List H)(x:H):qcn emp nd (l++[x])=addP nd l.length (qcn emp nd l) x:=by
 have:=qjK emp nd l.length 0 l [x] (by simp) (by simp);rw[qhY]at this;unfold qcn;rw[this];simp
def qet:H→List H→H
 | r,[]=>r
 | r,p::ps=>qet (nd p r) ps
theorem qi1:∀ (n j:Nat) (l t:List H),l.length=n*2 ^ j→0<t.length→t.length≤2 ^ j→qet nd (mth emp nd t) (digs emp nd j n l)=mth emp nd (l++t):=by
 intro n
 induction n using Nat.strongRecOn with
 | ind n ih=>
  intro j l t hl h0 ht;have hp:2 ^ (j+1)=2*2 ^ j:=by rw[Nat.pow_succ];omega
  by_cases hz:n=0
  ·subst hz;have:l=[]:=zaX (by omega);subst this;rw[qcb];rfl
  rcases Nat.mod_two_eq_zero_or_one n with h|h
  ·rw[qca emp nd h];exact ih (n / 2) (by omega) (j+1) l t (by rw[hl,hp,←Nat.mul_assoc];congr 1;omega) h0 (by omega)
  ·have hm:(n-1)*2 ^ j=n / 2*2 ^ (j+1):=by
    rw[hp,←Nat.mul_assoc];congr 1;omega
   have Ha:l.length=(n-1)*2 ^ j+2 ^ j:=by
    rw[hl,←Nat.succ_mul];congr 1;omega
   rw[qck emp nd h];show qet nd (nd _ _) _=_;rw[←qiB emp nd (j:=j) (by rw[zap];omega) h0 ht];rw[ih (n / 2) (by omega) (j+1) _ _ (by rw[zaj,hm];omega) (by rw[zaf];omega) (by rw[zaf,zap,hp];omega)];rw[←zah,zay]
theorem qkB:∀ (n j:Nat) (l:List H),0<n→l.length=n*2 ^ j→∃ p ps,digs emp nd j n l=p::ps∧qet nd p ps=mth emp nd l:=by
 intro n
 induction n using Nat.strongRecOn with
 | ind n ih=>
  intro j l h0 hl;have hp:2 ^ (j+1)=2*2 ^ j:=by rw[Nat.pow_succ];omega
  rcases Nat.mod_two_eq_zero_or_one n with h|h
  ·rw[qca emp nd h];exact ih (n / 2) (by omega) (j+1) l (by omega) (by rw[hl,hp,←Nat.mul_assoc];congr 1;omega)
  ·have hm:(n-1)*2 ^ j=n / 2*2 ^ (j+1):=by
    rw[hp,←Nat.mul_assoc];congr 1;omega
   have Ha:l.length=(n-1)*2 ^ j+2 ^ j:=by
    rw[hl,←Nat.succ_mul];congr 1;omega
   refine⟨_,_,qck emp nd h,?_⟩;rw[qi1 emp nd (n / 2) (j+1) _ _ (by rw[zaj,hm];omega) (by rw[zap];have:=Nat.one_le_two_pow (n:=j);omega) (by rw[zap,hp];omega),zay]
def wayP (l:List H)(m:Nat):List H:=
 if h:l.length<2 then[]else
  if m<half l.length then wayP (l.take (half l.length)) m++[mth emp nd (l.drop (half l.length))]else wayP (l.drop (half l.length)) (m-half l.length)++[mth emp nd (l.take (half l.length))]
termination_by l.length
decreasing_by
 ·have:=qdR (n:=l.length) (by omega);simp;omega
 ·have:=qdR (n:=l.length) (by omega);simp;omega
end
end
section
section
variable {H:Type} (emp:H) (nd:H→H→H)
theorem qk6:half 2=1:=qjX (j:=0) (by decide) (by decide)
variable [DecidableEq H]
end
end
variable {a b:Bs}
def cmpB (a b:Bs):Int:=if blt a b then -1 else if a=b then 0 else 1
theorem cmpB_lt:cmpB a b<0↔blt a b=true:=by
 unfold cmpB;split
 ·rename_i h;simp[h]
 ·rename_i h;split<;>simp[h]
theorem cmpB_eq:cmpB a b=0↔a=b:=by
 unfold cmpB;split
 ·rename_i h;constructor
  ·intro e;cases e
  ·intro e;subst e;rw[blt_irrefl]at h;cases h
 ·split
  ·rename_i h;simp[h]
  ·rename_i h;simp[h]
theorem cmpB_ge:0≤cmpB a b↔blt a b=false:=by
 have:=cmpB_lt (a:=a) (b:=b);cases h:blt a b with
 | true=>have:=this.2 h;simp;omega
 | false=>
  simp;refine Int.not_lt.1 fun h2=>?_;rw[this.1 h2]at h;cases h
def lowB (ks:List Bs)(key:Bs):Nat:=(ks.takeWhile fun k=>blt k key).length
theorem qkc (ks:List Bs)(key:Bs):lowB ks key≤ks.length:=List.Sublist.length_le (List.takeWhile_sublist _)
theorem qg6 (k:Bs)(ks:List Bs)(key:Bs):lowB (k::ks) key=if blt k key then lowB ks key+1 else 0:=by
 unfold lowB;by_cases h:blt k key=true
 ·simp[zcy,h]
 ·simp[zcy,h]
theorem qg7:∀ {ks:List Bs} (key:Bs),ks.Pairwise (fun a b=>blt a b=true)→∀ j k,ks[j]?=some k→(blt k key=true↔j<lowB ks key)
 | [],_,_,j,k,h=>by simp at h
 | x::ks,key,hp,j,k,h=>by
  have hp2:=zbr.1 hp;rw[qg6];by_cases hx:blt x key=true
  ·rw[zax hx]
   match j with
   | 0=>simp at h;subst h;simp[hx]
   | j+1=>
    have:=qg7 key hp2.2 j k (by simpa using h);rw[this];omega
  ·rw[zaC hx];have hx:blt x key=false:=by simpa using hx
   refine⟨fun h2=>?_,fun h2=>by omega⟩
   match j with
   | 0=>simp at h;subst h;rw[hx]at h2;cases h2
   | j+1=>
    have hk:k∈ks:=zak (i:=j) (by simpa using h);have:=qaT (hp2.1 k hk) h2;rw[hx]at this;cases this
def qcs (ks:List Bs)(key:Bs):Bool:=ks[lowB ks key]?==some key
theorem qip:∀ {ks:List Bs} (key:Bs),ks.Pairwise (fun a b=>blt a b=true)→down ks key=lowB ks key+if qcs ks key then 1 else 0
 | [],key,_=>by simp[down,lowB,qcs]
 | x::ks,key,hp=>by
  have hp2:=zbr.1 hp;have ih:=qip key hp2.2;unfold qcs;rw[qg6];by_cases hx:blt x key=true
  ·have hd:down (x::ks) key=down ks key+1:=by
    unfold down;rw[zcs (by simp[qcv hx]),zal]
   rw[hd,zax hx,ih];unfold qcs;simp only[zbe];omega
  ·have hx:blt x key=false:=by simpa using hx
   rw[zaC (c:=blt x key=true) (by simp[hx])];simp only[zcf];by_cases he:x=key
   ·subst he;have hd:down (x::ks) x=down ks x+1:=by
     unfold down;rw[zcs (by simp[blt_irrefl]),zal]
    have h0:down ks x=0:=by
     unfold down;cases ks with
     | nil=>rfl
     | cons y ks=>
      have:=hp2.1 y (by simp);rw[List.takeWhile_cons_of_neg (by simp[this])];rfl
    rw[hd,h0];simp
   ·have Ha:=qg3 hx he;have hd:down (x::ks) key=0:=by
     unfold down;rw[List.takeWhile_cons_of_neg (by simp[Ha])];rfl
    rw[hd];simp[he]
theorem qiY {D:Dsk}{h:Nat}{ks:List Bs}{xs:List Kd}{key:Bs}(hlen:xs.length=ks.length+1)(hsep:Sep D h ks xs)(hne:∀ x∈xs,itemsK D h x≠[])(hs:Srt (xs.flatMap (itemsK D h))) :
  (∀ p∈(xs.take (down ks key)).flatMap (itemsK D h),blt p.1 key=true)∧∀ p∈(xs.drop (down ks key+1)).flatMap (itemsK D h),blt key p.1=true:=by
 obtain⟨d1,d2,d3⟩:=qcy ks key;generalize down ks key=i at *;constructor
 ·intro p hp;by_cases h0:i=0
  ·rw[h0]at hp;simp at hp
  ·have e:ks[i-1]?=some ks[i-1]:=zab (by omega);have:=(qbZ hsep hne hs e (by omega)).1;rw[show i-1+1=i by omega]at this;exact qa0 (this p hp) (d2 (i-1) _ (by omega) e)
 ·intro p hp;by_cases h0:i=ks.length
  ·rw[za0 (by omega)]at hp;simp at hp
  ·have e:ks[i]?=some ks[i]:=zab (by omega);have:=(qbZ hsep hne hs e (by omega)).2;exact qa0 (d3 _ e) (this p hp)
def geB (lo:Bs)(p:Pr):Bool:=!blt p.1 lo
def ltB (hi:Bs)(p:Pr):Bool:=hi.isEmpty||blt p.1 hi
theorem qcp {α:Type}{q:α→Bool}:∀ {a:List α} (b:List α),a.all q=true→(a++b).takeWhile q=a++b.takeWhile q
 | [],b,_=>rfl
 | x::a,b,h=>by
  simp only[List.all_cons,zaQ]at h;rw[za3,zcs h.1,qcp b h.2];rfl
end Go.Proofs.YtfcknhbmeofniaaGreatDoor.BT
