/- Texts TwSpec SrSpec ChSpec GtSpec FmSpec. -/
import Derived.Test.YtpmebcgmgfcmiaaGreatDoorQ03
set_option linter.all false
set_option maxRecDepth 100000
set_option maxHeartbeats 16000000
namespace Go.Proofs.YtpmebcgmgfcmiaaGreatDoor.BT
variable {d L h:Nat}{t:Ts}{now old:List Pr}{p:Pl}{a b key:Bs}{D:Dsk}
def wf (p:Pl)(x:Wt):Bool×Pl:=if(p.give x).1 then(p.give x).2.flush x.dev else(false,(p.give x).2)
def commitP (p:Pl)(d gen root1:Nat)(use:Bs):Bool×Pl:=
 if(p.flush d).1 then wf (p.flush d).2 ⟨d,slot (gen+1),superB (gen+1) root1 use⟩else(false,(p.flush d).2)
theorem qbX {d:Nat}:∀ (l:List Wt) {D D':qa9},(∀ k,D d k=D' d k)→∀ k,lay D l d k=lay D' (l.filter fun x=>x.dev=d) d k
 | [],_,_,h,k=>h k
 | x::l,D,D',h,k=>by
  rw[lay];by_cases hx:x.dev=d
  ·rw[zbr (by simpa using hx),lay];refine qbX l (fun j=>?_) k;unfold setD;split
   ·rfl
   ·exact h j
  ·rw[zbw (by simpa using hx)];refine qbX l (fun j=>?_) k;unfold setD;rw[zaB (fun e=>hx e.1.symm)];exact h j
theorem qgE (keep:List Int):∀ (i:Nat) (l:List Wt),List.Sublist (kept keep i l) l
 | _,[]=>List.Sublist.slnil
 | i,x::l=>by
  unfold kept;split
  ·exact(qgE keep (i+1) l).cons_cons x
  ·exact(qgE keep (i+1) l).cons x
theorem Std.newIs (h:Std d L t now old)(hg:t.g.gen+1<4611686018427387904){q:Pl}(hm:q.most=t.p.most)
  (hd:∀ k,q.disk d k=if k=slot (t.g.gen+1)then superB (t.g.gen+1) t.root1 t.g.use else t.p.seen d k)(hw:∀ x∈q.waits,x.dev≠d):OldIs q d t.g.pages L ⟨t.g.gen+1,t.root1,t.g.use⟩ now:=by
 have Hb:∀ n i:Nat,q.disk d (2+n*8+i)=t.p.seen d (2+n*8+i):=fun n i=>by
  rw[hd,zaB];have:=qb9 (t.g.gen+1);omega
 refine⟨⟨by rw[hm];exact h.old.com.m,by show 0<t.g.gen+1;omega,hg,h.use,h.up,?_,by show q.disk d (slot (t.g.gen+1))=_;rw[hd,zaw rfl],fun hok=>?_,fun x hx e=>absurd e (hw x hx)⟩,h.now.congr fun n _ _ i _=>Hb n i⟩
 ·show t.root1=0∨1≤t.root1∧t.root1≤t.g.pages∧hasB t.g.use (t.root1-1)=true;by_cases h0:t.root1=0
  ·exact .inl h0
  ·right;obtain⟨hh,t1,_,_,_⟩:=h.now.some h0;obtain⟨m,h1,_⟩:=t1.wf;have Ha:qah (t.p.seen d) t.g.pages t.g.use (t.root1-1)=some m:=h1;unfold qah at Ha;split at Ha
   ·rename_i hc;exact⟨by omega,by omega,hc.2⟩
   ·cases Ha
 ·show(readS (q.disk d (slot (t.g.gen+1+1)))).gen<t.g.gen+1;have e:slot (t.g.gen+1+1)=slot t.g.gen:=by unfold slot;omega
  have Hc:(readS (q.disk d (slot (t.g.gen+1+1)))).ok=true:=hok;have hc:=h.old.com;have e2:q.disk d (slot t.g.gen)=superB t.g.gen t.g.root1 t.g.was:=by
   rw[hd,zaB (fun e=>qit t.g.gen e.symm),hc.seen (.inl (qb9 _))];exact hc.sb
  have hr:t.g.root1<65536:=by
   have hp:=h.pages;rcases hc.root with h1|⟨_,h1,_⟩
   ·have Ha:t.g.root1=0:=h1;omega
   ·have Ha:t.g.root1≤t.g.pages:=h1;omega
  have g1:t.g.gen<4611686018427387904:=hc.g1;rw[e,e2,qfb t.g.gen t.g.root1 t.g.was hc.g0 (by omega) hr hc.ub];exact zcY _
theorem Std.oldIs (h:Std d L t now old){q:Pl}(hm:q.most=t.p.most)(hd:∀ k,q.disk d k=t.p.seen d k)(hw:∀ x∈q.waits,x.dev≠d):OldIs q d t.g.pages L ⟨t.g.gen,t.g.root1,t.g.was⟩ old:=by
 refine⟨h.old.com.to hm (fun k hk=>by rw[hd,h.old.com.seen (.inl hk)]) (fun x hx e=>absurd e (hw x hx)),?_⟩;rw[show q.disk d=t.p.seen d from funext hd];exact h.old.seen
theorem flush_ok (ho:p.off=false):((p.flush d).1=true∧(p.flush d).2.off=false∧(p.flush d).2.most=p.most∧(∀ k,(p.flush d).2.disk d k=p.seen d k)∧(p.flush d).2.waits=p.waits.filter fun x=>x.dev≠d)∨
  ((p.flush d).1=false∧(p.flush d).2.off=true∧(p.flush d).2.most=p.most∧(p.flush d).2.disk=p.disk∧(p.flush d).2.waits=p.waits):=by
 obtain⟨h1,h2,h3,h4,h5,h6⟩:=qcS p;unfold Pl.flush;rw[zaB (by rw[ho];decide)];cases hs:p.step.1 with
 | true=>
  left;simp only[zcn];refine⟨trivial,(h5 hs).trans ho,h1,fun k=>?_,trivial⟩;exact(qbX p.waits (fun _=>rfl) k).symm
 | false=>
  right;simp only[zbM,zc8];exact⟨trivial,h6 hs,h1,h3,h4⟩
theorem qhF {q:Pl}(hw:∀ x∈q.waits,x.dev≠d)(k:Nat):q.seen d k=q.disk d k:=qci fun x hx e=>hw x hx e.1
theorem Std.commit (h:Std d L t now old)(hg:t.g.gen+1<4611686018427387904) :
  ((commitP t.p d t.g.gen t.root1 t.g.use).1=true∧Std d L ⟨(commitP t.p d t.g.gen t.root1 t.g.use).2,{ t.g with gen:=t.g.gen+1,root1:=t.root1,was:=t.g.use },t.root1⟩ now now∧(commitP t.p d t.g.gen t.root1 t.g.use).2.waits.length≤t.p.waits.length)∨
  ((commitP t.p d t.g.gen t.root1 t.g.use).1=false∧(commitP t.p d t.g.gen t.root1 t.g.use).2.off=true∧∀ keep,OldIs ((commitP t.p d t.g.gen t.root1 t.g.use).2.boot keep) d t.g.pages L ⟨t.g.gen,t.g.root1,t.g.was⟩ old∨OldIs ((commitP t.p d t.g.gen t.root1 t.g.use).2.boot keep) d t.g.pages L ⟨t.g.gen+1,t.root1,t.g.use⟩ now):=by
 unfold commitP;rcases flush_ok (d:=d) h.on with⟨a1,a2,a3,a4,a5⟩|⟨a1,a2,a3,a4,a5⟩
 ·rw[zaw a1];generalize (t.p.flush d).2=q1 at *;have Hj:∀ x∈q1.waits,x.dev≠d:=fun x hx=>by
   rw[a5]at hx;simpa using(zbH.1 hx).2
  have Hm:q1.waits.length≤t.p.waits.length:=by rw[a5];exact zbJ ..
  have Hn:=h.oldIs a3 a4 Hj;obtain⟨x,hx⟩:∃ x:Wt,x=⟨d,slot (t.g.gen+1),superB (t.g.gen+1) t.root1 t.g.use⟩:=⟨_,rfl⟩;rw[←hx];have Hi:x.dev=d:=by rw[hx]
  have gv:=qbv q1 x;unfold wf;cases hgv:(q1.give x).1 with
  | false=>
   rw[hgv]at gv;simp only[zbM,zc8];obtain⟨k,k1,k2,k3⟩:=gv.waits;have hk:k=0:=by
    refine Nat.le_antisymm (Nat.le_of_lt_succ (Nat.lt_of_le_of_ne k1 fun e=>?_)) (za7 _);have e:k=1:=e;subst e;have e3:(q1.give x).2.waits=q1.waits:=by
     unfold Pl.give at hgv⊢;split at hgv
     ·cases hgv
     ·rename_i hs;rw[zaB hs];exact(qcS q1).2.2.2.1
    rw[e3]at k2;have:=congrArg List.length k2;simp at this
   subst hk;simp only[zb8,zaG]at k2;right;refine⟨trivial,gv.off rfl,fun keep=>.inl (OldIs.boot ?_ keep)⟩;exact Hn.to gv.most gv.disk fun y hy e=>absurd e (Hj y (by rw[←k2];exact hy))
  | true=>
   rw[hgv]at gv;simp only[zcn];obtain⟨k2,k3⟩:=qha gv;have Hg:=(gv.on rfl).trans a2;rw[Hi];generalize (q1.give x).2=q2 at *;have Hc:q2.waits.filter (fun y=>y.dev=d)=[x]:=by
    rw[k2,zbu,zcH.2 (fun y hy=>by simpa using Hj y hy),zbr (by simpa using Hi)];rfl
   have Ha:∀ k,q2.disk d k=t.p.seen d k:=fun k=>by rw[gv.disk];exact a4 k
   have He:∀ k,lay q2.disk [x] d k=if k=slot (t.g.gen+1)then superB (t.g.gen+1) t.root1 t.g.use else t.p.seen d k:=fun k=>by
    show setD q2.disk x.dev x.place x.b d k=_;unfold setD;by_cases hk:k=slot (t.g.gen+1)
    ·rw[zaw ⟨Hi.symm,by rw[hx];exact hk⟩,zaw hk,hx]
    ·rw[zaB (fun e=>hk (by have:=e.2;rw[hx]at this;exact this)),zaB hk];exact Ha k
   rcases flush_ok (d:=d) Hg with⟨b1,b2,b3,b4,b5⟩|⟨b1,b2,b3,b4,b5⟩
   ·left;have Hl:∀ k,(q2.flush d).2.disk d k=if k=slot (t.g.gen+1)then superB (t.g.gen+1) t.root1 t.g.use else t.p.seen d k:=fun k=>by
     rw[b4,←He];show lay q2.disk q2.waits d k=_;rw[qbX q2.waits (fun _=>rfl) k,Hc]
    have Ho:∀ y∈(q2.flush d).2.waits,y.dev≠d:=fun y hy=>by
     rw[b5]at hy;simpa using(zbH.1 hy).2
    have Hf:=h.newIs hg (b3.trans (gv.most.trans a3)) Hl Ho;refine⟨b1,⟨Hf,b2,Hf.seen,h.use,h.up⟩,?_⟩;rw[b5,k2,zbu];have:[x].filter (fun y=>decide (y.dev≠d))=[]:=by simp[Hi]
    rw[this,zaG];exact zah (zbJ ..) Hm
   ·right;refine⟨b1,b2,fun keep=>?_⟩;have Hk:∀ k,((q2.flush d).2.boot keep).disk d k=lay q2.disk ((kept keep 0 (q2.flush d).2.waits).filter fun y=>y.dev=d) d k:=fun k=>by
     show lay (q2.flush d).2.disk (kept keep 0 (q2.flush d).2.waits) d k=_;exact qbX _ (fun j=>by rw[b4]) k
    have Hh:List.Sublist ((kept keep 0 (q2.flush d).2.waits).filter fun y=>y.dev=d) [x]:=by
     have:=(qgE keep 0 (q2.flush d).2.waits).filter (fun y=>y.dev=d);rw[b5]at this⊢;rw[Hc]at this;exact this
    have Hb:((kept keep 0 (q2.flush d).2.waits).filter fun y=>y.dev=d)=[]∨((kept keep 0 (q2.flush d).2.waits).filter fun y=>y.dev=d)=[x]:=by
     generalize ((kept keep 0 (q2.flush d).2.waits).filter fun y=>decide (y.dev=d))=l at Hh;cases Hh with
     | cons _ h=>left;exact List.sublist_nil.1 h
     | cons_cons _ h=>right;rw[List.sublist_nil.1 h]
    rcases Hb with e|e
    ·left;refine h.oldIs (b3.trans (gv.most.trans a3)) (fun k=>?_) (fun y hy=>by cases hy);rw[Hk,e];exact Ha k
    ·right;refine h.newIs hg (b3.trans (gv.most.trans a3)) (fun k=>?_) (fun y hy=>by cases hy);rw[Hk,e];exact He k
 ·rw[zaB (by rw[a1];decide)];right;exact⟨rfl,a2,fun keep=>.inl (OldIs.boot (h.old.to a3 a4 (by rw[a5];exact h.old.com.wt)) keep)⟩
theorem OldIs.stand {pages:Nat}{c:Cm}(h:OldIs p d pages L c old)(ho:p.off=false):Std d L ⟨p,⟨pages,c.gen,c.root1,c.ub,c.ub⟩,c.root1⟩ old old:=
 ⟨h,ho,h.seen,h.com.ub,h.com.ubp⟩
theorem Std.room (h:Std d L t now old)(hL:L≤24)(hw:t.g.was=t.g.use):t.g.pages≤qal t.g.pages t.g.use t.g.was+now.length:=by
 rw[hw];have hp:=h.pages;have hf:∀ U:List Nat,(∀ i,i<384→hasB t.g.use i=true→i∈U)→t.g.pages≤qal t.g.pages t.g.use t.g.use+U.length:=by
  intro U hU;have hs:∀ i∈List.range t.g.pages,i∈(List.range t.g.pages).filter (qbJ t.g.use t.g.use)++U:=by
   intro i hi;have Ha:=zbb.1 hi;cases hb:hasB t.g.use i with
   | false=>exact zaX _ (zbH.2 ⟨hi,by simp[qbJ,hb]⟩)
   | true=>exact zay _ (hU i (by omega) hb)
  have:=qfY List.nodup_range hs;rw[zci,zad]at this;exact this
 by_cases h0:t.root1=0
 ·obtain⟨e,hn⟩:=h.now.none h0;have:=hf [] fun i hi hb=>by rw[hn i hi]at hb;cases hb
  simp at this;omega
 ·obtain⟨hh,t1,t2,_,t4⟩:=h.now.some h0;have:=hf _ fun i hi hb=>(t4 i hi).1 hb;have hc:=t1.count hL;rw[t2]at hc;omega
def cmpB (a b:Bs):Int:=if blt a b then -1 else if a=b then 0 else 1
theorem cmpB_lt:cmpB a b<0↔blt a b=true:=by
 unfold cmpB;split
 ·rename_i h;simp[h]
 ·rename_i h;split<;>simp[h]
theorem cmpB_eq:cmpB a b=0↔a=b:=by
 unfold cmpB;split
 ·rename_i h;constructor
  ·intro e;cases e
  ·intro e;subst e;rw[blt_irrefl]at h;cases h
 ·split
  ·rename_i h;simp[h]
  ·rename_i h;simp[h]
theorem cmpB_ge:0≤cmpB a b↔blt a b=false:=by
 have:=cmpB_lt (a:=a) (b:=b);cases h:blt a b with
 | true=>have:=this.2 h;simp;omega
 | false=>
  simp;refine Int.not_lt.1 fun h2=>?_;rw[this.1 h2]at h;cases h
def lowB (ks:List Bs)(key:Bs):Nat:=(ks.takeWhile fun k=>blt k key).length
theorem qic (ks:List Bs)(key:Bs):lowB ks key≤ks.length:=List.Sublist.length_le (List.takeWhile_sublist _)
theorem qdB (k:Bs)(ks:List Bs)(key:Bs):lowB (k::ks) key=if blt k key then lowB ks key+1 else 0:=by
 unfold lowB;by_cases h:blt k key=true
 ·simp[zcZ,h]
 ·simp[zcZ,h]
theorem qhp:∀ {ks:List Bs} (key:Bs),ks.Pairwise (fun a b=>blt a b=true)→∀ j k,ks[j]?=some k→(blt k key=true↔j<lowB ks key)
 | [],_,_,j,k,h=>by simp at h
 | x::ks,key,hp,j,k,h=>by
  have hp2:=zbm.1 hp;rw[qdB];by_cases hx:blt x key=true
  ·rw[zaw hx]
   match j with
   | 0=>simp at h;subst h;simp[hx]
   | j+1=>
    have:=qhp key hp2.2 j k (by simpa using h);rw[this];omega
  ·rw[zaB hx];have hx:blt x key=false:=by simpa using hx
   refine⟨fun h2=>?_,fun h2=>by omega⟩
   match j with
   | 0=>simp at h;subst h;rw[hx]at h2;cases h2
   | j+1=>
    have hk:k∈ks:=zak (i:=j) (by simpa using h);have:=qaV (hp2.1 k hk) h2;rw[hx]at this;cases this
def qbi (ks:List Bs)(key:Bs):Bool:=ks[lowB ks key]?==some key
theorem qiD:∀ {ks:List Bs} (key:Bs),ks.Pairwise (fun a b=>blt a b=true)→down ks key=lowB ks key+if qbi ks key then 1 else 0
 | [],key,_=>by simp[down,lowB,qbi]
 | x::ks,key,hp=>by
  have hp2:=zbm.1 hp;have ih:=qiD key hp2.2;unfold qbi;rw[qdB];by_cases hx:blt x key=true
  ·have hd:down (x::ks) key=down ks key+1:=by
    unfold down;rw[zcm (by simp[qcb hx]),zao]
   rw[hd,zaw hx,ih];unfold qbi;simp only[zbd];omega
  ·have hx:blt x key=false:=by simpa using hx
   rw[zaB (c:=blt x key=true) (by simp[hx])];simp only[zcf];by_cases he:x=key
   ·subst he;have hd:down (x::ks) x=down ks x+1:=by
     unfold down;rw[zcm (by simp[blt_irrefl]),zao]
    have h0:down ks x=0:=by
     unfold down;cases ks with
     | nil=>rfl
     | cons y ks=>
      have:=hp2.1 y (by simp);rw[zcS (by simp[this])];rfl
    rw[hd,h0];simp
   ·have Ha:=qhn hx he;have hd:down (x::ks) key=0:=by
     unfold down;rw[zcS (by simp[Ha])];rfl
    rw[hd];simp[he]
theorem qiy {key:Bs}{v:Option Bs}:∀ {ps:List Pr},Srt ps→chgR key v ps=ps.take (lowB (ps.map Prod.fst) key)++(v.toList.map fun x=>(key,x))++ps.drop (lowB (ps.map Prod.fst) key+if qbi (ps.map Prod.fst) key then 1 else 0)
 | [],_=>by cases v<;>simp[chgR,putR,delR,lowB,qbi]
 | p::ps,hs=>by
  have hs2:=zbm.1 hs;have ih:=qiy (key:=key) (v:=v) hs2.2;unfold qbi at ih⊢;rw[zbp,qdB];by_cases hx:blt p.1 key=true
  ·rw[zaw hx];simp only[zbd,zbn];have e:chgR key v (p::ps)=p::chgR key v ps:=by cases v<;>simp[chgR,putR,delR,hx]
   rw[e,ih,show ∀ a b:Nat,a+1+b=a+b+1 from fun a b=>by omega,zbQ];rfl
  ·have hx:blt p.1 key=false:=by simpa using hx
   rw[zaB (c:=blt p.1 key=true) (by simp[hx])];simp only[zcf,zb8,zaA,zaO];by_cases he:p.1=key
   ·cases v<;>simp[chgR,putR,delR,hx,he,blt_irrefl]
   ·have hd:delR key (p::ps)=p::ps:=by
     have:∀ l:List Pr,(∀ q∈l,blt q.1 key=false∧q.1≠key)→True:=fun _ _=>trivial;unfold delR;rw[zaB (c:=blt p.1 key=true) (by simp[hx]),zaB he]
    cases v with
    | none=>simp[chgR,hd,he]
    | some v=>simp[chgR,putR,hx,he]
theorem qiG {key:Bs}:∀ {ps:List Pr},Srt ps→getR key ps=if qbi (ps.map Prod.fst) key then(ps[lowB (ps.map Prod.fst) key]?).map Prod.snd else none
 | [],_=>by simp[getR,qbi]
 | p::ps,hs=>by
  have hs2:=zbm.1 hs;have ih:=qiG (key:=key) hs2.2;unfold qbi at ih⊢;rw[zbp,qdB];by_cases hx:blt p.1 key=true
  ·rw[zaw hx];simp only[zbd];rw[show getR key (p::ps)=getR key ps by simp[getR,hx],ih]
  ·have hx:blt p.1 key=false:=by simpa using hx
   rw[zaB (c:=blt p.1 key=true) (by simp[hx])];have e:getR key (p::ps)=if p.1=key then some p.2 else none:=by simp[getR,hx]
   rw[e];by_cases he:p.1=key
   ·simp[he]
   ·simp[he]
structure ChS (D:Dsk) (h f:Nat) (met:List Nat) (k:Kd) (key:Bs) (v:Option Bs) (ks:List Bs) (xs:List Kd) (x:Kd) (got:List Kd) (bet:List Bs) (m1:List Nat) (ks1:List Bs) (xs1:List Kd) (ks2:List Bs) (xs2:List Kd) (m2:List Nat):Prop where
 nd:nd D k=some (.inner ks xs)
 lx:xs.length=ks.length+1
 kk:∀ q∈ks,klen q
 sz:nsize (.inner ks xs)≤500
 hx:xs[down ks key]?=some x
 wf:WF D h x
 srt:Srt (itemsK D h x)
 nodup:(pgs D h x).Nodup
 out:∀ p∈pgs D h x,p∉met++pageOf k
 ch:qaS D f (met++pageOf k) x key v=some (got,bet,met++pageOf k++m1)
 gt:Got D h got bet
 eks:(if 0<got.length then ks.take (down ks key)++bet++ks.drop (down ks key)else ks.eraseIdx (down ks key-1))=ks1
 exs:xs.take (down ks key)++got++xs.drop (down ks key+1)=xs1
 row1:Row' D h ks1 xs1
 sz1:ksize ks1+2*xs1.length≤525
 mg:qbL D (xs1.length+down ks key+3) (down ks key-1) (down ks key+1) ks1 xs1 (met++pageOf k++m1)=some (ks2,xs2,met++pageOf k++m1++m2)
 row2:Row' D h ks2 xs2
 sz2:ksize ks2+2*xs2.length≤525
 pm:(m1++m2).length≤(xs.flatMap (pgs D h)).length
theorem qg0 {f:Nat}{met:List Nat}{k:Kd}{v:Option Bs}(hf:h<f)(hw:WF D (h+1) k)(hs:Srt (itemsK D (h+1) k))(hn:(pgs D (h+1) k).Nodup)(hm:∀ p∈pgs D (h+1) k,p∉met)(hk:klen key)(hv:∀ x,v=some x→x.length≤160) :
  ∃ ks xs x got bet m1 ks1 xs1 ks2 xs2 m2,ChS D h f met k key v ks xs x got bet m1 ks1 xs1 ks2 xs2 m2:=by
 obtain⟨n,h1,h2,h3⟩:=hw;have e1:=qaG h1 h2;have e2:=qaY h1 h2;have Hp:∀ p∈pageOf k,p∉met:=fun p hp=>hm p (by rw[e2];exact zaX _ hp);obtain⟨ks,xs,rfl,l1,k1,s1,x1⟩:=h2;have ei:itemsK D (h+1) k=xs.flatMap (itemsK D h):=e1;have ep:pgs D (h+1) k=pageOf k++xs.flatMap (pgs D h):=by rw[e2];simp[pgs,nd,pageOf]
 rw[ei]at hs;rw[ep]at hn hm;obtain⟨d1,d2,d3⟩:=qbZ ks key;generalize hi:down ks key=i at *;have Hj:i<xs.length:=by omega
 have hx:xs[i]?=some xs[i]:=zaa Hj;have Hc:xs[i]∈xs:=zbj ..;generalize hX:xs[i]=x at *;have ex:xs=xs.take i++x::xs.drop (i+1):=by
  rw[←hX,za4,zav]
 have hr:Row' D h ks xs:=⟨fun _=>l1,k1,s1,x1⟩;have Hi:Srt (itemsK D h x):=by
  rw[ex]at hs;simp only[zat,zaq]at hs;rw[←zaj]at hs;exact hs.sub
 have px:∀ p∈pgs D h x,p∈xs.flatMap (pgs D h):=fun p hp=>zaS.2 ⟨x,Hc,hp⟩;have Hb:=(zaD.1 hn);have Hf:(pgs D h x).Nodup:=by
  have:=Hb.2.1;rw[ex]at this;simp only[zat,zaq]at this;exact(zaD.1 (zaD.1 this).2.1).1
 obtain⟨got,bet,m1,g1,g2,g3,g4⟩:=qcD h f (met++pageOf k) x key v (by omega) (x1 x Hc) Hi Hf (fun p hp hin=>by
  rcases zar.1 hin with h5|h5
  ·exact hm p (zay _ (px p hp)) h5
  ·exact Hb.2.2 p h5 p (px p hp) rfl) hk hv
 obtain⟨r1,r2⟩:=qin hr l1 hs hi.symm hx g2 g3;generalize hks1:(if 0<got.length then ks.take i++bet++ks.drop i else ks.eraseIdx (i-1))=ks1 at *;have Ha:List.Perm (m1++(xs.take i++got++xs.drop (i+1)).flatMap (pgs D h)) (xs.flatMap (pgs D h)):=by
  conv=>rhs;rw[ex]
  simp only[zat,zaq]
  grind
 have Hl:ksize ks1+2*(xs.take i++got++xs.drop (i+1)).length≤525:=by
  have Hn:ksize (ks.take i)+ksize (ks.drop i)=ksize ks:=by rw[←qat,zav]
  simp only[nsize]at h3;have Hm:ksize bet≤25∧got.length≤2:=by
   rcases g2.len with⟨e,e'⟩|⟨g,e,e'⟩|⟨g,g',b,e,e'⟩
   ·rw[e,e'];simp[ksize]
   ·rw[e,e'];simp[ksize]
   ·have:=g2.keys b (by rw[e'];simp);unfold klen at this;rw[e,e'];simp[ksize];omega
  have Ho:ksize ks1≤ksize ks+25:=by
   rw[←hks1];split
   ·rw[qat,qat];omega
   ·by_cases hc:i-1<ks.length
    ·rw[zbR,qat];have:ksize ks=ksize (ks.take (i-1))+ksize (ks.drop (i-1)):=by rw[←qat,zav]
     rw[←za4 (h:=hc),qbo]at this;omega
    ·rw[List.eraseIdx_of_length_le (by omega)];omega
  simp only[zad,zag,zap];omega
 generalize hxs1:xs.take i++got++xs.drop (i+1)=xs1 at *;have Hk:=(Ha.nodup_iff).2 Hb.2.1;have He:=zaD.1 Hk;obtain⟨ks2,xs2,m2,q1,q2,q3,q4,q5,q6⟩:=qdC (D:=D) (h:=h) (xs1.length+i+3) (i-1) (i+1) ks1 xs1 (met++pageOf k++m1) r1 (fun y hy p hp hin=>by
  have Hg:p∈xs1.flatMap (pgs D h):=by
   obtain⟨ny,y1,y2,_⟩:=r1.kids y hy;refine zaS.2 ⟨y,hy,?_⟩;rw[qaY y1 y2];exact zaX _ hp
  have Hh:p∈xs.flatMap (pgs D h):=Ha.subset (zay _ Hg);rcases zar.1 hin with h5|h5
  ·rcases zar.1 h5 with h5|h5
   ·exact hm p (zay _ Hh) h5
   ·exact Hb.2.2 p h5 p Hh rfl
  ·exact He.2.2 p h5 p Hg rfl) He.2.1
 refine⟨ks,xs,x,got,bet,m1,ks1,xs1,ks2,xs2,m2,⟨h1,l1,k1,h3,by rw[hi];exact hx,x1 x Hc,Hi,Hf,fun p hp hin=>?_,g1,g2,by rw[hi];exact hks1,by rw[hi];exact hxs1,r1,Hl,by rw[hi];exact q1,q2,by omega,?_⟩⟩
 ·rcases zar.1 hin with h5|h5
  ·exact hm p (zay _ (px p hp)) h5
  ·exact Hb.2.2 p h5 p (px p hp) rfl
 ·have e1:=Ha.length_eq;have e2:=q4.length_eq;rw[zad]at e1 e2⊢;omega
theorem qfD {ks:List Bs}{xs:List Kd}(hlen:xs.length=ks.length+1)(hsep:Sep D h ks xs)(hne:∀ x∈xs,itemsK D h x≠[])(hs:Srt (xs.flatMap (itemsK D h))) :
  (∀ p∈(xs.take (down ks key)).flatMap (itemsK D h),blt p.1 key=true)∧∀ p∈(xs.drop (down ks key+1)).flatMap (itemsK D h),blt key p.1=true:=by
 obtain⟨d1,d2,d3⟩:=qbZ ks key;generalize down ks key=i at *;constructor
 ·intro p hp;by_cases h0:i=0
  ·rw[h0]at hp;simp at hp
  ·have e:ks[i-1]?=some ks[i-1]:=zaa (by omega);have:=(qb6 hsep hne hs e (by omega)).1;rw[show i-1+1=i by omega]at this;exact qbc (this p hp) (d2 (i-1) _ (by omega) e)
 ·intro p hp;by_cases h0:i=ks.length
  ·rw[zbi (by omega)]at hp;simp at hp
  ·have e:ks[i]?=some ks[i]:=zaa (by omega);have:=(qb6 hsep hne hs e (by omega)).2;exact qbc (d3 _ e) (this p hp)
def geB (lo:Bs)(p:Pr):Bool:=!blt p.1 lo
def ltB (hi:Bs)(p:Pr):Bool:=hi.isEmpty||blt p.1 hi
theorem qbV {α:Type}{q:α→Bool}:∀ {a:List α} (b:List α),a.all q=true→(a++b).takeWhile q=a++b.takeWhile q
 | [],b,_=>rfl
 | x::a,b,h=>by
  simp only[List.all_cons,zba]at h;rw[zaW,zcm h.1,qbV b h.2];rfl
theorem qga {lo hi:Bs}:∀ {l:List Pr},Srt l→(l.filter (geB lo)).takeWhile (ltB hi)=l.filter fun p=>geB lo p&&ltB hi p
 | [],_=>rfl
 | p::l,h=>by
  have h2:=zbm.1 h;have ih:=qga (lo:=lo) (hi:=hi) h2.2;by_cases h1:geB lo p=true
  ·rw[zbr h1];by_cases h3:ltB hi p=true
   ·rw[zcm h3,ih,zbr (by simp[h1,h3])]
   ·rw[zcS h3,zbw (by simp[h3])];symm;rw[zcH];intro q hq;have hpq:=h2.1 q hq;have:ltB hi q=false:=by
     unfold ltB at h3⊢;simp only[Bool.or_eq_true,not_or,Bool.not_eq_true]at h3;rw[h3.1,Bool.false_or];cases hb:blt q.1 hi with
     | false=>rfl
     | true=>have:=qaV hpq hb;rw[this]at h3;cases h3.2
    simp[this]
  ·rw[zbw h1,zbw (by simp[h1]),ih]
def qcj (s0 s1:Bs):Nat:=
 let n:=if(readS s0).ok then max 1 ((readS s0).gen+1)else 1
 if(readS s1).ok then max n ((readS s1).gen+1)else n
def qbD (p:Pl)(d:Nat):Bool×Pl:=
 if 4611686018427387904≤qcj (p.seen d 0) (p.seen d 1)then
  if(wf p ⟨d,0,zeros 64⟩).1 then
   if(wf (wf p ⟨d,0,zeros 64⟩).2 ⟨d,1,zeros 64⟩).1 then wf (wf (wf p ⟨d,0,zeros 64⟩).2 ⟨d,1,zeros 64⟩).2 ⟨d,slot 1,superB 1 0 (zeros 48)⟩
   else(false,(wf (wf p ⟨d,0,zeros 64⟩).2 ⟨d,1,zeros 64⟩).2)
  else(false,(wf p ⟨d,0,zeros 64⟩).2)
 else wf p ⟨d,slot (qcj (p.seen d 0) (p.seen d 1)),superB (qcj (p.seen d 0) (p.seen d 1)) 0 (zeros 48)⟩
def Sure (p:Pl):Prop:=p.off=false∧p.fuse=-1
theorem qhJ (h:Sure p):p.step=(true,p):=by
 unfold Pl.step;rw[zaB (by rw[h.2];decide)];have:p.fuse=-1:=h.2;rw[this,zaB (by decide)];cases p
 simp_all
theorem qhc (h:Sure p)(x:Wt):p.give x=(true,{ p with waits:=p.waits++[x] }):=by
 unfold Pl.give;rw[qhJ h];rfl
theorem qfK (h:Sure p)(d:Nat):p.flush d=(true,{ p with disk:=lay p.disk (p.waits.filter fun x=>x.dev=d),waits:=p.waits.filter fun x=>x.dev≠d }):=by
 unfold Pl.flush;rw[zaB (by rw[h.1];decide),qhJ h];rfl
structure Laid (p q:Pl) (x:Wt):Prop where
 sure:Sure q
 most:q.most=p.most
 tp:q.tp=p.tp
 disk:∀ k,q.disk x.dev k=if k=x.place then x.b else p.seen x.dev k
 other:∀ d k,d≠x.dev→q.disk d k=p.disk d k
 waits:q.waits=p.waits.filter fun y=>y.dev≠x.dev
theorem qd4 (h:Sure p)(x:Wt):(wf p x).1=true∧Laid p (wf p x).2 x:=by
 unfold wf;rw[qhc h];simp only[zcn];have h2:Sure { p with waits:=p.waits++[x] }:=h;rw[qfK h2];refine⟨rfl,h,rfl,rfl,fun k=>?_,fun d k hd=>?_,?_⟩
 ·show lay p.disk ((p.waits++[x]).filter fun y=>y.dev=x.dev) x.dev k=_;rw[zbu,zbr (by simp),zc2,qbp];show setD (lay p.disk (p.waits.filter fun y=>y.dev=x.dev)) x.dev x.place x.b x.dev k=_;unfold setD;by_cases hk:k=x.place
  ·rw[zaw ⟨rfl,hk⟩,zaw hk]
  ·rw[zaB (fun e=>hk e.2),zaB hk];exact(qbX p.waits (fun _=>rfl) k).symm
 ·show lay p.disk ((p.waits++[x]).filter fun y=>y.dev=x.dev) d k=_;refine qci fun y hy e=>?_;have:=(zbH.1 hy).2;simp at this;exact hd (e.1.symm.trans this)
 ·show((p.waits++[x]).filter fun y=>y.dev≠x.dev)=_;rw[zbu];simp
theorem qfc:(readS (zeros 64)).ok=false:=by
 have e:hiN ((zeros 64).take 8)=0:=by decide
 unfold readS;simp only[e];simp
theorem qh4 (h:Sure p){m:Nat}(hm:p.most[d]?=some m)(hp:0<min ((m-2) / 8) 384) :
  (qbD p d).1=true∧Sure (qbD p d).2∧(qbD p d).2.most=p.most∧(qbD p d).2.tp=p.tp∧(∀ e k,e≠d→(qbD p d).2.disk e k=p.disk e k)∧(qbD p d).2.waits=p.waits.filter (fun y=>y.dev≠d)∧
   ∃ g,0<g∧g<4611686018427387904∧g≤max 1 (qcj (p.seen d 0) (p.seen d 1))∧∀ L,OldIs (qbD p d).2 d (min ((m-2) / 8) 384) L ⟨g,0,zeros 48⟩ []:=by
 have Ha:∀ (q:Pl) (g:Nat),q.most=p.most→0<g→g<4611686018427387904→q.disk d (slot g)=superB g 0 (zeros 48)→((readS (q.disk d (slot (g+1)))).ok=true→(readS (q.disk d (slot (g+1)))).gen<g)→(∀ x∈q.waits,x.dev≠d)→∀ L,OldIs q d (min ((m-2) / 8) 384) L ⟨g,0,zeros 48⟩ []:=by
  intro q g e1 e2 e3 e4 e5 e6 L;exact⟨⟨⟨m,by rw[e1];exact hm,rfl,hp⟩,e2,e3,zeros_len 48,fun i _ _=>qfR 48 i,.inl rfl,e4,e5,fun x hx e=>absurd e (e6 x hx)⟩,⟨fun _=>⟨rfl,fun i _=>qfR 48 i⟩,fun h=>absurd rfl h⟩⟩
 unfold qbD;split
 ·obtain⟨a1,a2⟩:=qd4 h ⟨d,0,zeros 64⟩;generalize (wf p ⟨d,0,zeros 64⟩).2=q1 at *;rw[zaw a1];obtain⟨b1,b2⟩:=qd4 a2.sure ⟨d,1,zeros 64⟩;generalize (wf q1 ⟨d,1,zeros 64⟩).2=q2 at *;rw[zaw b1];obtain⟨c1,c2⟩:=qd4 b2.sure ⟨d,slot 1,superB 1 0 (zeros 48)⟩;generalize (wf q2 ⟨d,slot 1,superB 1 0 (zeros 48)⟩).2=q3 at *;have w1:q1.waits=p.waits.filter fun y=>y.dev≠d:=a2.waits;have w2:q2.waits=q1.waits.filter fun y=>y.dev≠d:=b2.waits;have w3:q3.waits=q2.waits.filter fun y=>y.dev≠d:=c2.waits;have hw:q3.waits=p.waits.filter fun y=>y.dev≠d:=by
   rw[w3,w2,w1,List.filter_filter,List.filter_filter];simp
  have Hc:∀ q:Pl,(∃ l:List Wt,q.waits=l.filter fun y=>y.dev≠d)→∀ x∈q.waits,x.dev≠d:=by
   rintro q ⟨l,e⟩ x hx;rw[e]at hx;simpa using(zbH.1 hx).2
  have d3:∀ k,q3.disk d k=if k=slot 1 then superB 1 0 (zeros 48)else q2.disk d k:=fun k=>by
   have:=c2.disk k;rw[qhF (Hc q2 ⟨_,w2⟩)]at this;exact this
  have d2:∀ k,q2.disk d k=if k=1 then zeros 64 else q1.disk d k:=fun k=>by
   have:=b2.disk k;rw[qhF (Hc q1 ⟨_,w1⟩)]at this;exact this
  refine⟨c1,c2.sure,c2.most.trans (b2.most.trans a2.most),c2.tp.trans (b2.tp.trans a2.tp),fun e k he=>(c2.other e k he).trans ((b2.other e k he).trans (a2.other e k he)),hw,1,by omega,by omega,by omega,?_⟩;refine Ha q3 1 (c2.most.trans (b2.most.trans a2.most)) (by omega) (by omega) (by rw[d3,zaw rfl]) (fun hok=>?_) (Hc q3 ⟨_,w3⟩);rw[d3,zaB (qit 1),d2,show slot (1+1)=1 from rfl,zaw rfl]at hok;rw[qfc]at hok;cases hok
 ·rename_i hlt;generalize hn:qcj (p.seen d 0) (p.seen d 1)=g at *;have Hb:0<g∧((readS (p.seen d 0)).ok=true→(readS (p.seen d 0)).gen<g)∧((readS (p.seen d 1)).ok=true→(readS (p.seen d 1)).gen<g):=by
   subst hn;unfold qcj;cases(readS (p.seen d 0)).ok<;>cases(readS (p.seen d 1)).ok<;>simp<;>omega
  obtain⟨c1,c2⟩:=qd4 h ⟨d,slot g,superB g 0 (zeros 48)⟩;generalize (wf p ⟨d,slot g,superB g 0 (zeros 48)⟩).2=q3 at *;have w3:q3.waits=p.waits.filter fun y=>y.dev≠d:=c2.waits;have d3:∀ k,q3.disk d k=if k=slot g then superB g 0 (zeros 48)else p.seen d k:=c2.disk;refine⟨c1,c2.sure,c2.most,c2.tp,c2.other,w3,g,Hb.1,by omega,by omega,Ha q3 g c2.most Hb.1 (by omega) (by rw[d3,zaw rfl]) (fun hok=>?_) (fun x hx=>?_)⟩
  ·rw[d3,zaB (qit g)]at hok⊢;have:=qb9 (g+1);have He:slot (g+1)=0∨slot (g+1)=1:=by omega
   rcases He with e|e
   ·rw[e]at hok⊢;exact Hb.2.1 hok
   ·rw[e]at hok⊢;exact Hb.2.2 hok
  ·rw[w3]at hx;simpa using(zbH.1 hx).2
end Go.Proofs.YtpmebcgmgfcmiaaGreatDoor.BT
