/- Texts Map PlMem Whole HeldG. -/
import Derived.Test.YtpmebcgmgfcmiaaGreatDoorQ05
import Derived.Deep.Upon
import Derived.StillTailTactics
import Derived.BigQuiet
import Derived.Great.BuildSlice
set_option linter.all false
set_option maxRecDepth 100000
set_option maxHeartbeats 16000000
namespace Go.Proofs.YtpmebcgmgfcmiaaGreatDoor
open Go.RowKit
section
def IMap (w:World)(B:Nat)(l:List (Int×Value)):Prop:=
 ∃ es clock,w.heap[B]?=some (.map es clock)∧es.toList.map (fun e=>(e.key,e.val))=l.map (fun p=>(Value.int .i64 p.1,p.2))
def qaX (k:Int):List (Int×Value)→Nat→Option (Nat×Value)
 | [],_=>none
 | p::r,i=>if k=p.1 then some (i,p.2)else qaX k r (i+1)
theorem IMap.of_heap {w w':World}{B:Nat}{l:List (Int×Value)}(h:IMap w B l)(hb:w'.heap[B]?=w.heap[B]?):IMap w' B l:=by
 obtain⟨es,c,h1,h2⟩:=h;exact⟨es,c,hb.trans h1,h2⟩
theorem IMap.lt {w:World}{B:Nat}{l:List (Int×Value)}(h:IMap w B l):B<w.heap.size:=by
 obtain⟨_,_,h1,_⟩:=h;exact(zab.1 h1).1
theorem qcp (k:Int):∀ (es:List MapEntry) (l:List (Int×Value)) (i:Nat),es.map (fun e=>(e.key,e.val))=l.map (fun p=>(Value.int .i64 p.1,p.2))→
  Instr.findNow (.int .i64) (.int .i64 k) es i=some (qaX k l i)
 | [],[],_,_=>rfl
 | [],_::_,_,h=>by simp at h
 | _::_,[],_,h=>by simp at h
 | e::es,p::l,i,h=>by
  simp only[zbp,List.cons.injEq,zaN]at h;obtain⟨⟨h1,h2⟩,h3⟩:=h;have ih:=qcp k es l (i+1) h3;by_cases hk:k=p.1
  ·simp[Instr.findNow,Instr.sameNow,h1,h2,qaX,hk]
  ·have hb:(k==p.1)=false:=by simp[hk]
   simp[Instr.findNow,Instr.sameNow,h1,qaX,hk,ih,hb]
def qeo (k:Int)(v:Value):List (Int×Value)→List (Int×Value)
 | []=>[(k,v)]
 | p::r=>if k=p.1 then(k,v)::r else p::qeo k v r
def qjg (k:Int):List (Int×Value)→List (Int×Value)
 | []=>[]
 | p::r=>if k=p.1 then r else p::qjg k r
theorem qeN {k:Int}{v:Value}:∀ {l:List (Int×Value)} {i:Nat},qaX k l i=none→qeo k v l=l++[(k,v)]∧qjg k l=l∧∀ p∈l,p.1≠k
 | [],_,_=>⟨rfl,rfl,fun _ h=>by cases h⟩
 | p::r,i,h=>by
  unfold qaX at h;by_cases hk:k=p.1
  ·rw[zaw hk]at h;cases h
  ·rw[zaB hk]at h;obtain⟨h1,h2,h3⟩:=qeN (k:=k) (v:=v) h;refine⟨by simp[qeo,hk,h1],by simp[qjg,hk,h2],fun q hq=>?_⟩;rcases za0.1 hq with rfl|hq
   ·exact fun e=>hk e.symm
   ·exact h3 q hq
theorem qeO {k:Int}{v u:Value}:∀ {l:List (Int×Value)} {i j:Nat},qaX k l i=some (j,u)→∃ n,j=i+n∧l[n]?=some (k,u)∧qeo k v l=l.set n (k,v)∧qjg k l=l.eraseIdx n
 | [],_,_,h=>by cases h
 | p::r,i,j,h=>by
  unfold qaX at h;by_cases hk:k=p.1
  ·rw[zaw hk]at h;cases h;obtain⟨p1,p2⟩:=p;simp only at hk;subst hk;exact⟨0,rfl,rfl,by simp[qeo],by simp[qjg]⟩
  ·rw[zaB hk]at h;obtain⟨n,h1,h2,h3,h4⟩:=qeO (k:=k) (v:=v) h;exact⟨n+1,by omega,by simpa using h2,by simp[qeo,hk,h3],by simp[qjg,hk,h4]⟩
def qcP (w:World)(B:Nat)(o:Obj):World:={ w with heap:=w.heap.setIfInBounds B o }
theorem qcQ (w:World)(B:Nat)(o:Obj):w.grownBy (qcP w B o) (some B):=
 ⟨rfl,rfl,rfl,by simp[qcP],fun k _ hne=>by
  unfold qcP;simp only[];rw[Array.getElem?_setIfInBounds_ne (fun e=>hne (by rw[e]))]⟩
section
variable {P:Program} {t kt et:TypeId} (ht:P.underlying t=some (.map kt et)) (hk:P.underlying kt=some (.int .i64))
include ht hk
theorem qfj {w:World}{B:Nat}{l:List (Int×Value)}(h:IMap w B l)(k:Int)(z:Value)(hz:(zeroValue et).run P w=.ok z w) :
  (Instr.lookup t (.map (some B)) (.int .i64 k) true).run P w=.ok (.tuple #[((qaX k l 0).map (·.2)).getD z,.bool (qaX k l 0).isSome]) w:=by
 obtain⟨es,c,h1,h2⟩:=h;have Ha:MapKept.IsKey (.int .i64) (.int .i64 k):=rfl;have hn:=qcp k es.toList l 0 h2;cases hh:qaX k l 0 with
 | none=>
  rw[hh]at hn;simp[Instr.lookup,zaM ht,zb4 h1,zce hk Ha,zcj hk hn,hz,Result.andThen]
 | some r=>
  rw[hh]at hn;simp[Instr.lookup,zaM ht,zb4 h1,zce hk Ha,zcj hk hn,Result.andThen]
theorem qio {w:World}{B:Nat}{l:List (Int×Value)}(h:IMap w B l)(k:Int)(v:Value) :
  ∃ o,(Instr.mapUpdate t (.map (some B)) (.int .i64 k) v).run P w=.ok () (qcP w B o)∧IMap (qcP w B o) B (qeo k v l):=by
 have Hh:=h.lt;obtain⟨es,c,h1,h2⟩:=h;have Ha:MapKept.IsKey (.int .i64) (.int .i64 k):=rfl;have hn:=qcp k es.toList l 0 h2;have Hc:∀ o:Obj,(qcP w B o).heap[B]?=some o:=fun o=>by simp[qcP,Hh]
 cases hh:qaX k l 0 with
 | none=>
  rw[hh]at hn;refine⟨.map (es.push { key:=.int .i64 k,val:=v,born:=c }) (c+1),?_,_,_,Hc _,?_⟩
  ·simp[Instr.mapUpdate,zaM ht,zb4 h1,zce hk Ha,zcj hk hn,MapKept.run_setObj_map _ h1,Result.andThen,qcP]
  ·rw[(qeN (v:=v) hh).1];simp[h2]
 | some r=>
  obtain⟨j,u⟩:=r;rw[hh]at hn;obtain⟨n,hj,hl,hp,_⟩:=qeO (v:=v) hh;rw[zaO]at hj;subst hj;have Hf:j<es.toList.length:=by
   have e1:es.toList.length=l.length:=by simpa using congrArg List.length h2
   rw[e1];exact(zae.1 hl).1
  have Hb:j<es.size:=by simpa using Hf
  have Hg:(es[j]'Hb).key=.int .i64 k:=by
   have e1:=congrArg (fun x=>x[j]?) h2;simp only[zbc,hl,zcb]at e1;have e2:es.toList[j]?=some (es[j]'Hb):=by simp[Hb]
   rw[e2]at e1;simp only[zcb,zax,zaN]at e1;exact e1.1
  have He:es[j]?=some (es[j]'Hb):=zbq Hb;refine⟨.map (es.modify j fun e=>{ e with key:=.int .i64 k,val:=v }) c,?_,_,_,Hc _,?_⟩
  ·simp[Instr.mapUpdate,zaM ht,zb4 h1,zce hk Ha,zcj hk hn,He,Hg,MapKept.run_keyThatStays Ha,MapKept.run_setObj_map _ h1,Result.andThen,qcP]
  ·rw[hp,List.map_set,←h2];apply zdb;intro m;rw[zbc,zcM,Array.getElem?_modify,List.getElem?_set,zbc,zcM];by_cases hm:j=m
   ·subst hm;simp[Hb]
   ·simp[hm]
end
end
end Go.Proofs.YtpmebcgmgfcmiaaGreatDoor
namespace Go.Proofs.YtpmebcgmgfcmiaaGreatDoor
open Go.RowKit BT
variable {F G:Nat→Prop}{b w w':World}{p:Pl}{vw:Value}{most:List Nat}{tp:List Tp}{waits:List Wt}{d m:Nat}
structure Touch (F:Nat→Prop) (w w':World):Prop where
 os:w'.os=w.os
 tape:w'.tape=w.tape
 output:w'.output=w.output
 size:w.heap.size≤w'.heap.size
 block:∀ k,k<w.heap.size→¬F k→w'.heap[k]?=w.heap[k]?
theorem Touch.refl (F:Nat→Prop)(w:World):Touch F w w:=⟨rfl,rfl,rfl,zac _,fun _ _ _=>rfl⟩
theorem Touch.trans {a c:World}(h:Touch F a b)(k:Touch F b c):Touch F a c:=
 ⟨k.os.trans h.os,k.tape.trans h.tape,k.output.trans h.output,zah h.size k.size,fun i hi hf=>(k.block i (zam hi h.size) hf).trans (h.block i hi hf)⟩
theorem Touch.mono {a:World}(h:Touch F a b)(hf:∀ k,k<a.heap.size→F k→G k):Touch G a b:=⟨h.os,h.tape,h.output,h.size,fun k hk hn=>h.block k hk (fun hfk=>hn (hf k hk hfk))⟩
theorem Touch.of_grown {a:World}{row:Option Nat}(h:a.grownBy b row)(hf:∀ k,row=some k→F k):Touch F a b:=
 ⟨h.os,h.tape,h.output,h.size,fun k hk hn=>h.block k hk (fun e=>hn (hf k e.symm))⟩
theorem Touch.setCell {a:World}(h:Touch F a w){p:Addr}(hp:F p.block)(u:Value):Touch F a (w.setCell p u):=
 h.trans ⟨rfl,rfl,rfl,by simp,fun k _ hn=>za5 w p u k (fun e=>hn (e▸hp))⟩
theorem Touch.of_below {a:World}(h:Below a.heap.size a b):Touch F a b:=⟨h.os,h.tape,h.output,h.size,fun k hk _=>h.block k hk⟩
theorem Touch.drew {a:World}(h:Touch F a w):Touch F a w.drew:=⟨h.os,h.tape,h.output,h.size,h.block⟩
theorem Touch.alloc {a:World}(h:Touch F a w)(o:Obj):Touch F a (w.alloc o):=h.trans (Touch.of_below ((zai _ _).alloc (zac _) o))
def wv (x:Wt):List Value:=[.int .i64 (x.dev:Int),.int .i64 (x.place:Int)]++bv x.b
structure Ext (F F':Nat→Prop) (w w':World):Prop where
 touch:Touch F w w'
 sub:∀ b,F' b→F b∨w.heap.size≤b
theorem Ext.refl (F:Nat→Prop)(w:World):Ext F F w w:=⟨Touch.refl _ _,fun _ h=>.inl h⟩
theorem Ext.trans {F' F'':Nat→Prop}{a c:World}(h:Ext F F' a b)(k:Ext F' F'' b c):Ext F F'' a c:=
 ⟨⟨k.touch.os.trans h.touch.os,k.touch.tape.trans h.touch.tape,k.touch.output.trans h.touch.output,zah h.touch.size k.touch.size,fun i hi hf=>
  (k.touch.block i (zam hi h.touch.size) (fun hf'=>by
   rcases h.sub i hf' with h1|h1
   ·exact hf h1
   ·omega)).trans (h.touch.block i hi hf)⟩,
  fun i hi=>by
  rcases k.sub i hi with h1|h1
  ·exact h.sub i h1
  ·exact .inr (zah h.touch.size h1)⟩
theorem Ext.of {a:World}(h:Touch F a b):Ext F F a b:=⟨h,fun _ h=>.inl h⟩
structure PA where
 P:Nat
 DV:Nat
 dcap:Nat
 maps:List Nat
 tmaps:List Nat
 dA:Option Addr
 dC:Nat
 tA:Option Addr
 tC:Nat
def qcz (m M:Nat):List Value:=[.bool false,.int .i64 (m:Int),.map (some M),.int .i64 0,.int .i64 0]
def qi2 (t:Tp)(M:Nat):List Value:=[.bool true,.int .i64 (t.most:Int),.map (some M),.int .i64 (t.len:Int),.int .i64 (t.waits:Int)]
def qcZ (most maps:List Nat)(tp:List Tp)(tmaps:List Nat):List Value:=((List.zip most maps).flatMap fun x=>qcz x.1 x.2)++(List.zip tp tmaps).flatMap fun x=>qi2 x.1 x.2
structure PlR (w:World) (a:PA) (F:Nat→Prop) (vw:Value) (most:List Nat) (tp:List Tp) (disk:qa9) (waits:List Wt):Prop where
 fP:F a.P
 hF:∀ b,F b→b<w.heap.size
 dv:w.ownsRow 0 84 5 (.slice (some ⟨a.DV,0,none⟩) (most.length+tp.length) a.dcap) (most.length+tp.length) (qcZ most a.maps tp a.tmaps)
 fDV:F a.DV∧a.DV≠a.P
 mlen:a.maps.length=most.length
 tlen:a.tmaps.length=tp.length
 mnd:(a.maps++a.tmaps).Nodup
 fM:∀ M∈a.maps++a.tmaps,F M∧M≠a.P∧M≠a.DV
 maps:∀ d M,(a.maps++a.tmaps)[d]?=some M→∃ l,IMap w M l∧∀ k:Nat,(qaX (k:Int) l 0).map (·.2)=some (.agg (bv (disk d k)).toArray)∨(qaX (k:Int) l 0=none∧disk d k=List.replicate 64 0)
 wrow:Own w 0 81 66 vw waits.length (waits.flatMap wv)
 fw:∀ b,vw.ownBlock=some b→F b∧b≠a.P∧b≠a.DV∧b∉a.maps++a.tmaps∧(∀ ad,a.dA=some ad→b≠ad.block)∧∀ ad,a.tA=some ad→b≠ad.block
 sh:∀ ad,a.dA=some ad∨a.tA=some ad→F ad.block∧ad.block≠a.P∧ad.block≠a.DV∧ad.block∉a.maps++a.tmaps
 shape:Ints w a.dA (most.map fun(m:Nat)=>(m:Int))
 shapeT:Ints w a.tA (tp.map fun(t:Tp)=>(t.most:Int))
def qcA (a:PA)(vw:Value)(p:Pl)(st now:Int):Array Value:=
 #[.slice a.dA p.most.length a.dC,.slice a.tA p.tp.length a.tC,.slice (some ⟨a.DV,0,none⟩) (p.most.length+p.tp.length) a.dcap,vw,.bool p.off,.int .i64 p.fuse,.int .i64 st,.int .i64 now]
structure PlM (w:World) (a:PA) (F:Nat→Prop) (p:Pl):Prop where
 ex:∃ vw st now,w.heap[a.P]?=some (.cells (qcA a vw p st now) 71 (0,0))∧PlR w a F vw p.most p.tp p.disk p.waits
 ok:p.Ok
theorem qaM {A:Option Addr}{xs:List Int}(h:Ints w A xs)(hs:w.heap.size≤w'.heap.size)(hk:∀ b off,A=some ⟨b,off,none⟩→w'.heap[b]?=w.heap[b]?):Ints w' A xs:=
 ⟨h.len,fun h0=>by
  obtain⟨b,off,e,hl,hc⟩:=h.at_ h0;refine⟨b,off,e,zam hl hs,fun k hkk=>?_⟩;rw[←hc k hkk];unfold World.cell?;rw[hk b off e]⟩
theorem PlR.keep {a:PA}{disk:qa9}(h:PlR w a F vw most tp disk waits)(hs:w.heap.size≤w'.heap.size)(hk:∀ b,F b→b≠a.P→w'.heap[b]?=w.heap[b]?):PlR w' a F vw most tp disk waits where
 fP:=h.fP
 hF:=fun b hb=>zam (h.hF b hb) hs
 dv:=qbq h.dv (hk _ h.fDV.1 h.fDV.2)
 fDV:=h.fDV
 mlen:=h.mlen
 tlen:=h.tlen
 mnd:=h.mnd
 fM:=h.fM
 maps:=fun d M hd=>by
  obtain⟨l,h1,h2⟩:=h.maps d M hd;have:=h.fM M (zak hd);exact⟨l,h1.of_heap (hk M this.1 this.2.1),h2⟩
 wrow:=⟨h.wrow.row.keep fun b hb hl=>hk b (h.fw b hb).1 (h.fw b hb).2.1,fun b e=>⟨za7 _,zam (h.wrow.blk b e).2 hs⟩⟩
 fw:=h.fw
 sh:=h.sh
 shape:=qaM h.shape hs fun b off e=>hk b (h.sh _ (.inl e)).1 (h.sh _ (.inl e)).2.1
 shapeT:=qaM h.shapeT hs fun b off e=>hk b (h.sh _ (.inr e)).1 (h.sh _ (.inr e)).2.1
theorem PlM.keep {a:PA}(h:PlM w a F p)(hs:w.heap.size≤w'.heap.size)(hk:∀ b,F b→w'.heap[b]?=w.heap[b]?):PlM w' a F p:=by
 obtain⟨⟨vw,st,now,h1,h2⟩,h3⟩:=h;exact⟨⟨vw,st,now,(hk _ h2.fP).trans h1,h2.keep hs fun b hb _=>hk b hb⟩,h3⟩
theorem PlM.hF {a:PA}(h:PlM w a F p):∀ b,F b→b<w.heap.size:=by
 obtain⟨⟨_,_,_,_,h2⟩,_⟩:=h;exact h2.hF
theorem PlM.fP {a:PA}(h:PlM w a F p):F a.P:=by
 obtain⟨⟨_,_,_,_,h2⟩,_⟩:=h;exact h2.fP
theorem PlM.below {a:PA}(h:PlM w a F p)(hb:Below w.heap.size w w'):PlM w' a F p:=
 h.keep hb.size fun b hf=>hb.block b (h.hF b hf)
theorem PlM.touch {a:PA}(h:PlM w a F p)(ht:Touch G w w')(hd:∀ b,F b→¬G b):PlM w' a F p:=
 h.keep ht.size fun b hf=>ht.block b (h.hF b hf) (hd b hf)
theorem PlR.setP {a:PA}{disk:qa9}(h:PlR w a F vw most tp disk waits)(i:Nat)(u:Value):PlR (w.setCell ⟨a.P,i,none⟩ u) a F vw most tp disk waits:=
 h.keep (by simp) fun b _ hn=>za5 w _ u b hn
theorem qdG {a:PA}(h:PlM w a F p) :
  Calls Tryz.prog 82 #[.pointer (some ⟨a.P,0,none⟩)] w fun e w'=>e=.returned (.bool p.step.1)∧PlM w' a F p.step.2∧Touch F w w'∧w'.heap.size=w.heap.size:=by
 obtain⟨⟨vw,st,now,h1,h2⟩,h3⟩:=h;have c5:w.cell? ⟨a.P,5,none⟩=some (.int .i64 p.fuse):=by rw[zan w _ 5 _ _ _ h1];rfl
 have c4:w.cell? ⟨a.P,4,none⟩=some (.bool p.off):=by rw[zan w _ 4 _ _ _ h1];rfl
 have c6:w.cell? ⟨a.P,6,none⟩=some (.int .i64 st):=by rw[zan w _ 6 _ _ _ h1];rfl
 have z:∀ i,w.frozen? ⟨a.P,i,none⟩=false:=fun i=>by simp[World.frozen?,h1]
 have z4:=z 4;have z5:=z 5;have z6:=z 6;have f0:=h3.fuse.1;have f1:=h3.fuse.2;have H1:=zH h1;have H2:=zH h2;have H3:=zH h3;clear h1 h2 h3 z;by_cases hf:p.fuse=0
 ·have t1:(p.fuse==0)=true:=by rw[zcz];exact hf
  have e1:p.step=(false,{ p with off:=true,fuse:=-1 }):=by unfold Pl.step;rw[zaw hf]
  have E1:=zH e1;clear e1;go_enter Tryz.func82,Tryz.ntmps82
  go_wp2;go_ret;rw[E1.o];refine⟨rfl,⟨⟨vw,st,now,?_,(H2.o.setP _ _).setP _ _⟩,⟨H3.o.waits,H3.o.disk,H3.o.most,H3.o.devs,by simp⟩⟩,((Touch.refl _ _).setCell H2.o.fP _).setCell H2.o.fP _,by simp⟩;rw[qab (qab H1.o _)];simp[qcA]
 ·have t1:(p.fuse==0)=false:=by rw[zaI];exact hf
  by_cases hp:0<p.fuse
  ·have t2:decide (0<p.fuse)=true:=zas hp;have e1:p.step=(true,{ p with fuse:=p.fuse-1 }):=by unfold Pl.step;rw[zaB hf,zaw hp]
   have E1:=zH e1;clear e1;go_enter Tryz.func82,Tryz.ntmps82
   go_wp2;go_ret;rw[E1.o];refine⟨rfl,⟨⟨vw,wrap64 (st+1),now,?_,(H2.o.setP _ _).setP _ _⟩,⟨H3.o.waits,H3.o.disk,H3.o.most,H3.o.devs,by simp;omega⟩⟩,((Touch.refl _ _).setCell H2.o.fP _).setCell H2.o.fP _,by simp⟩;rw[qab (qab H1.o _)];simp[qcA]
  ·have t2:decide (0<p.fuse)=false:=zal hp;have e1:p.step=(true,p):=by unfold Pl.step;rw[zaB hf,zaB hp]
   have E1:=zH e1;clear e1;go_enter Tryz.func82,Tryz.ntmps82
   go_wp2;go_ret;rw[E1.o];refine⟨rfl,⟨⟨vw,wrap64 (st+1),now,?_,H2.o.setP _ _⟩,H3.o⟩,(Touch.refl _ _).setCell H2.o.fP _,by simp⟩;rw[qab H1.o];simp[qcA]
theorem PlM.dev_at {a:PA}(h:PlM w a F p)(hd:p.most[d]?=some m):∃ M,(a.maps++a.tmaps)[d]?=some M∧
  w.cell? ⟨a.DV,d*5,none⟩=some (.bool false)∧w.cell? ⟨a.DV,d*5+1,none⟩=some (.int .i64 (m:Int))∧w.cell? ⟨a.DV,d*5+2,none⟩=some (.map (some M))∧w.cell? ⟨a.DV,d*5+3,none⟩=some (.int .i64 0)∧w.cell? ⟨a.DV,d*5+4,none⟩=some (.int .i64 0):=by
 obtain⟨⟨vw,st,now,h1,h2⟩,h3⟩:=h;have hl:=(zae.1 hd).1;have hM:a.maps[d]?=some (a.maps[d]'(by rw[h2.mlen];exact hl)):=zaa _;refine⟨_,by rw[zaL (by rw[h2.mlen];exact hl)];exact hM,?_⟩;have key:∀ (l:List (Nat×Nat)) (r:List Value) (d:Nat) (x:Nat×Nat),l[d]?=some x→∀ j,j<5→((l.flatMap fun x=>qcz x.1 x.2)++r)[d*5+j]?=(qcz x.1 x.2)[j]?:=by
  intro l r
  induction l with
  | nil=>intro d x h;simp at h
  | cons y l ih=>
   intro d x h j hj;rw[zaq,zaj]
   match d,h with
   | 0,h=>
    simp at h;subst h;rw[zaL (by simp[qcz];omega)];simp
   | d+1,h=>
    rw[zau (by simp[qcz];omega)];have e:(d+1)*5+j-(qcz y.1 y.2).length=d*5+j:=by simp[qcz];omega
    rw[e];exact ih d x (by simpa using h) j hj
 have hz:(List.zip p.most a.maps)[d]?=some (m,a.maps[d]'(by rw[h2.mlen];exact hl)):=by
  rw[List.getElem?_zip_eq_some];exact⟨hd,hM⟩
 have hc:∀ j,j<5→w.cell? ⟨a.DV,d*5+j,none⟩=(qcz m (a.maps[d]'(by rw[h2.mlen];exact hl)))[j]?:=by
  intro j hj;rw[h2.dv.cellAt (d*5+j) (by omega)];unfold qcZ;rw[key _ _ _ _ hz j hj]
 refine⟨?_,?_,?_,?_,?_⟩
 ·rw[show d*5=d*5+0 from rfl,hc 0 (by omega)];rfl
 ·rw[hc 1 (by omega)];rfl
 ·rw[hc 2 (by omega)];rfl
 ·rw[hc 3 (by omega)];rfl
 ·rw[hc 4 (by omega)];rfl
theorem PlM.dcap {a:PA}(h:PlM w a F p):p.most.length+p.tp.length≤a.dcap:=by
 obtain⟨⟨vw,st,now,h1,h2⟩,h3⟩:=h;rcases h2.dv.2 with⟨h0,_⟩|⟨g,cap,cur,e1,_,_,h4,_⟩
 ·cases h0
 ·cases e1;exact h4
theorem qev {a:PA}(h:PlM w a F p)(hd:p.most[d]?=some m) :
  Calls Tryz.prog 81 #[.pointer (some ⟨a.P,0,none⟩),.int .i64 d] w fun e w'=>e=.returned (.pointer (some ⟨a.DV,d*5,none⟩))∧w=w':=by
 have Ha:=(zae.1 hd).1;obtain⟨⟨vw,st,now,h1,h2⟩,h3⟩:=h;have c2:w.cell? ⟨a.P,2,none⟩=some (.slice (some ⟨a.DV,0,none⟩) (p.most.length+p.tp.length) a.dcap):=by rw[zan w _ 2 _ _ _ h1];rfl
 have d0:(0:Int)≤(d:Int):=by omega
 have d1:(d:Int)<((p.most.length+p.tp.length:Nat):Int):=by omega
 have t1:decide ((d:Int)<0)=false:=zal (by omega);have t2:decide (((p.most.length+p.tp.length:Nat):Int)≤(d:Int))=false:=zal (by omega);obtain⟨n,hn⟩:∃ n,p.most.length+p.tp.length=n:=⟨_,rfl⟩;rw[hn]at c2 d1 t2;have Hb:d<n:=by omega
 clear hn;clear h1 h2 h3 hd;go_enter Tryz.func81,Tryz.ntmps81
 go_wp2;go_ret;exact⟨rfl,rfl⟩
theorem qkM {a:PA}(h:PlM w a F p)(hd:p.most[d]?=some m) :
  Calls Tryz.prog 85 #[.pointer (some ⟨a.DV,d*5,none⟩)] w fun e w'=>e=.returned (.int .i64 m)∧w=w':=by
 obtain⟨M,_,c0,c1,_⟩:=h.dev_at hd;clear h hd;go_enter Tryz.func85,Tryz.ntmps85
 go_wp2;go_ret;exact⟨rfl,rfl⟩
theorem qma {a:PA}(h:PlM w a F p) :
  Calls Tryz.prog 29 #[.pointer (some ⟨a.P,0,none⟩)] w fun e w'=>e=.returned (.bool (!p.off))∧w=w':=by
 obtain⟨⟨vw,st,now,h1,h2⟩,h3⟩:=h;have c4:w.cell? ⟨a.P,4,none⟩=some (.bool p.off):=by rw[zan w _ 4 _ _ _ h1];rfl
 clear h1 h2 h3;go_enter Tryz.func29,Tryz.ntmps29
 go_wp2;go_ret;exact⟨rfl,rfl⟩
section
theorem heap_setCells {g:Nat}{t:TypeId}{fr:Nat×Nat}:∀ (vs:List Value) (o:Nat) (W:World) (cs:Array Value),W.heap[g]?=some (.cells cs t fr)→o+vs.length≤cs.size→
  (W.setCells g o vs).heap[g]?=some (.cells (cs.toList.take o++vs++cs.toList.drop (o+vs.length)).toArray t fr)
 | [],o,W,cs,h,_=>by
  show W.heap[g]?=_;rw[h];simp
 | v::vs,o,W,cs,h,hl=>by
  rw[zao]at hl;rw[World.setCells,heap_setCells vs (o+1) _ _ (qab h v) (by simp;omega)];congr 3;rw[zcR];apply zdb;intro j;simp only[List.getElem?_append,zad,zag,List.length_set,za1,zaV,List.getElem?_set,zaK,zao,List.getElem?_cons];by_cases c1:j<o
  ·simp[show j<o+1 by omega,c1,show ¬o=j by omega,show j<min (o+1) cs.size by omega,show j<min o cs.size by omega,show j<min (o+1) cs.size+vs.length by omega,show j<min o cs.size+(vs.length+1) by omega]
  ·by_cases c2:j=o
   ·subst c2;simp[show j<min (j+1) cs.size by omega,show ¬j<min j cs.size by omega,show j<cs.size by omega,show j<min (j+1) cs.size+vs.length by omega,show j<min j cs.size+(vs.length+1) by omega,show j-min j cs.size=0 by omega]
   ·have e1:min (o+1) cs.size=o+1:=by omega
    have e2:min o cs.size=o:=by omega
    rw[e1,e2];by_cases c3:j<o+1+vs.length
    ·simp[show ¬j<o+1 by omega,show ¬j<o by omega,c3,show j<o+(vs.length+1) by omega,show ¬j-o=0 by omega,show j-o-1=j-(o+1) by omega]
    ·simp only[c3,zc8,show ¬j<o+(vs.length+1) by omega];rw[zaB (by omega)];congr 1;omega
theorem qbz (g:Nat):∀ (vs:List Value) (o:Nat) (W:World),W.setCells g o vs={ W with heap:=(W.setCells g o vs).heap }
 | [],_,_=>rfl
 | v::vs,o,W=>by
  rw[World.setCells];have:=qbz g vs (o+1) (W.setCell ⟨g,o,none⟩ v);rw[this];rfl
theorem setCells_size (g:Nat):∀ (vs:List Value) (o:Nat) (W:World),(W.setCells g o vs).heap.size=W.heap.size
 | [],_,_=>rfl
 | v::vs,o,W=>by rw[World.setCells,setCells_size g vs];simp
theorem qbr {P:Program}(w:World)(Z:Array Value)(t:TypeId)(vs:List Value)(hn:vs.length=Z.size)(h1:∀ v∈vs,v.oneCell'=true) :
  (storeCells ⟨w.heap.size,0,none⟩ vs).run P (w.alloc (.cells Z t))=.ok () (w.alloc (.cells vs.toArray t)):=by
 have hb:=zaf w (.cells Z t);have ht:(w.alloc (.cells Z t)).there w.heap.size 0 vs.length:=fun j hj=>by
  rw[zaO,zan _ _ j _ _ _ hb,zbq (by omega)];exact⟨rfl,zaQ _ _ _ _ _ hb⟩
 have hr:=zcT (P:=P) w.heap.size 0 vs 0 (w.alloc (.cells Z t)) (fun j hj=>by simpa only [zbX] using(ht j hj).1) (fun j hj=>by simpa only [zbX] using(ht j hj).2) h1;rw[hr];congr 1;rw[qbz];have hh:((w.alloc (.cells Z t)).setCells w.heap.size 0 vs).heap=(w.alloc (.cells vs.toArray t)).heap:=by
  apply Array.ext_getElem?;intro i;by_cases hi:i=w.heap.size
  ·subst hi;rw[heap_setCells vs 0 _ _ hb (by omega),zaf];simp[hn]
  ·by_cases hl:i<w.heap.size
   ·rw[World.heap_setCells_other _ _ _ _ (by simp;omega) hi,za9 _ _ _ hl,za9 _ _ _ hl]
   ·rw[zbz (by rw[setCells_size];simp;omega),zbz (by simp;omega)]
 rw[hh];rfl
theorem qav {P:Program}{w w1:World}{ops:Array Oper}{rest:List Oper}{op:Oper}{a:Act}{Q:Exit→Act→World→Prop}(hgd:op.guard=none)(ty:TypeId)(x y:Operand)(ho:op.op=.store ty x y)
  (Z:Array Value)(t:TypeId)(hw:w=w1.alloc (.cells Z t))(hx:a.eval x=.pointer (some ⟨w1.heap.size,0,none⟩))(vs:List Value)(hy:a.eval y=.agg vs.toArray)(hi:(P.info? ty).map (·.size)=some vs.length)
  (hn:vs.length=Z.size)(h1:∀ v∈vs,v.oneCell'=true)(h:wpList P ops Q rest (a.put op.dst undef) (w1.alloc (.cells vs.toArray t))):wpList P ops Q (op::rest) a w:=by
 subst hw;refine zcs hgd fun K hK=>?_;have hr:=qbr (P:=P) w1 Z t vs hn h1;have Ha:(Instr.storeAt ty (.pointer (some ⟨w1.heap.size,0,none⟩)) (.agg vs.toArray)).run P (w1.alloc (.cells Z t))=.ok () (w1.alloc (.cells vs.toArray t)):=by
  cases hq:P.info? ty with
  | none=>simp[hq]at hi
  | some i=>
   have hs:i.size=vs.length:=by simpa [hq] using hi
   simp only[Instr.storeAt,Instr.sureAddr,zbF,zb2,zbh];simp[storeVar,sizeOf,typeInfo,hq,Value.cells,hs,hr]
 unfold Oper.wp execOp;simp only[ho,hx,hy,zbF,zb2,zbh,Ha];exact hK _ _ h
theorem qbA {P:Program}{w:World}{ops:Array Oper}{o:Oper}{a:Act}{K:Act→World→Prop}{Q:Exit→Act→World→Prop}{E:Prop}(hgd:o.guard=none)(s x:Operand)(t:TypeId)
  (ho:o.op=.call { callee:=.builtin .append,args:=#[s,x],argTypes:=#[t,t] })
  (base:Nat)(e:TypeId)(i:TypeInfo)(z:Value)(size bytes:Nat)(ht:P.underlying t=some (.slice e))(hi:P.info? e=some i)(hz:i.zero=some z)
  (hsize:i.size=size)(hby:i.bytes=bytes)(hzs:z.cells.size=size)(hsz:0<size)
  (v:Value)(n:Nat)(xs:List Value)(hv:a.eval s=v)(hrow:Row w base e size v n xs)
  (A:Option Addr)(m c:Nat)(us:List Value)(hx:a.eval x=.slice A m c)(hs:Src w size A m us)(h1:∀ u∈us,u.oneCell'=true)
  (h63:n+m≤maxLen)(hb:(n+m)*bytes≤140737488355328)(hbase:base≤w.heap.size)
  (h:∀ A' cap w',Row w' base e size (.slice A' (n+m) cap) (n+m) (xs++us)→w.grownBy w' v.ownBlock→(∀ b,(Value.slice A' (n+m) cap).ownBlock=some b→v.ownBlock=some b∨(w.heap.size≤b∧b<w'.heap.size))→K (a.put o.dst (.slice A' (n+m) cap)) w') :
  if Region.wanted o (yielded ops a.tmps)=true then Oper.wp P o a w K Q else E:=by
 rw[zaw (by simp[Region.wanted,hgd])];exact qaJ s x t ho base e i z size bytes ht hi hz hsize hby hzs hsz v n xs hv hrow A m c us hx hs h1 h63 hb hbase h
theorem qjI {α:Type}(a b c:List α)(h:b.length=c.length):splice (a++b) a.length c=a++c:=by
 unfold splice;simp[h]
theorem qak {P:Program}{t:TypeId}{z:Value}{n b:Nat}(h:(P.info? t).map (fun i=>(i.zero,i.size,i.bytes))=some (some z,n,b)):(P.info? t).map (·.size)=some n:=by
 cases hq:P.info? t with
 | none=>rw[hq]at h;cases h
 | some i=>rw[hq]at h;simp at h;simp[h]
theorem qey {P:Program}{md:Region.Mode}{ops:Array Oper}{Q:Exit→Act→World→Prop}{S:World→Prop}{i:Nat}{oi:Oper}(dd:Option Nat){v:Value}{fuel:Nat}{listed:Array Bool}{a:Act}{w:World}(hi:ops[i]?=some oi)(hd:oi.dst=dd)
  (hs:Region.noSelect ops=true)(hf:Region.free md ops listed i=true)(hr:(Region.ready md ops listed).contains i=true)
  (hQ:∀ c a w,Q (.panic c) (a.put dd v) w→Q (.panic c) a w)(hy:YieldsIf P ops S oi v a)(hS:S w)
  (h:wpAnyH P md ops Q S fuel (listed.setIfInBounds i true) (a.put dd v) w):wpAnyH P md ops Q S (fuel+1) listed a w:=by
 subst hd;exact wpAnyH_take hi hs hf hr hQ hy hS h
section
variable {P:Program}
theorem qjy (w:World){t e:TypeId}{i:TypeInfo}{z:Value}{n:Nat}(ht:P.underlying t=some (.slice e))(hi:P.info? e=some i)(hz:i.zero=some z)(hsize:i.size=n)(h0:0<n)(hn:n≤1048576)
  (v:Value)(cs:List Value)(hv:v.cells=cs.toArray)(hl:cs.length=n) :
  (Instr.buildSlice t 1 #[(0,v)]).run P w=.ok (.slice (some ⟨w.heap.size,0,none⟩) 1 1) (w.alloc (.cells cs.toArray e)):=by
 subst hsize;refine run_buildSlice w t e 1 _ _ i z ht hi hz (by omega) (by omega) ?_;have:=Great.fill_whole h0 [v] ((Array.range (1*i.size)).map (z.cells[· % z.cells.size]!)) (fun u hu=>by
  obtain rfl:u=v:=by simpa using hu
  rw[hv];simpa using hl) (by simp)
 simpa [hv] using this
theorem qaP {w:World}{o:Oper}{a:Act}{K:Act→World→Prop}{Q:Exit→Act→World→Prop}(t:TypeId)(x:Operand)(ho:o.op=.buildSlice t 1 #[(0,x)])
  {e:TypeId}{i:TypeInfo}{z:Value}{n:Nat}(ht:P.underlying t=some (.slice e))(hi:P.info? e=some i)(hz:i.zero=some z)(hsize:i.size=n)(h0:0<n)(hn:n≤1048576)
  (v:Value)(hx:a.eval x=v)(cs:List Value)(hv:v.cells=cs.toArray)(hl:cs.length=n)
  (h:K (a.put o.dst (.slice (some ⟨w.heap.size,0,none⟩) 1 1)) (w.alloc (.cells cs.toArray e))):o.wp P a w K Q:=by
 have hr:=qjy (P:=P) w ht hi hz hsize h0 hn v cs hv hl;unfold Oper.wp execOp;simp only[ho,zbF,zco,zbp,zbA,hx,hr,zbh];exact h
theorem qgW {w:World}{ops:Array Oper}{rest:List Oper}{o:Oper}{a:Act}{Q:Exit→Act→World→Prop}(hgd:o.guard=none)(t:TypeId)(x:Operand)(ho:o.op=.buildSlice t 1 #[(0,x)])
  {e:TypeId}{i:TypeInfo}{z:Value}{n:Nat}(ht:P.underlying t=some (.slice e))(hi:P.info? e=some i)(hz:i.zero=some z)(hsize:i.size=n)(h0:0<n)(hn:n≤1048576)
  (v:Value)(hx:a.eval x=v)(cs:List Value)(hv:v.cells=cs.toArray)(hl:cs.length=n)
  (h:wpList P ops Q rest (a.put o.dst (.slice (some ⟨w.heap.size,0,none⟩) 1 1)) (w.alloc (.cells cs.toArray e))):wpList P ops Q (o::rest) a w:=
 zcs hgd fun _ hK=>qaP t x ho ht hi hz hsize h0 hn v hx cs hv hl (hK _ _ h)
theorem qbG {w:World}{ops:Array Oper}{o:Oper}{a:Act}{K:Act→World→Prop}{Q:Exit→Act→World→Prop}{E:Prop}(hgd:o.guard=none)(t:TypeId)(x:Operand)(ho:o.op=.buildSlice t 1 #[(0,x)])
  {e:TypeId}{i:TypeInfo}{z:Value}{n:Nat}(ht:P.underlying t=some (.slice e))(hi:P.info? e=some i)(hz:i.zero=some z)(hsize:i.size=n)(h0:0<n)(hn:n≤1048576)
  (v:Value)(hx:a.eval x=v)(cs:List Value)(hv:v.cells=cs.toArray)(hl:cs.length=n)
  (h:K (a.put o.dst (.slice (some ⟨w.heap.size,0,none⟩) 1 1)) (w.alloc (.cells cs.toArray e))) :
  if Region.wanted o (yielded ops a.tmps)=true then Oper.wp P o a w K Q else E:=by
 rw[zaw (by simp[Region.wanted,hgd])];exact qaP t x ho ht hi hz hsize h0 hn v hx cs hv hl h
end
theorem qb8 {α β:Type}{f:α→List β}{s:Nat}:∀ {l:List α} {j:Nat} {x:α},(∀ y∈l,(f y).length=s)→l[j]?=some x→∀ i,i<s→(l.flatMap f)[j*s+i]?=(f x)[i]?
 | [],j,x,_,h,i,hi=>by simp at h
 | y::l,0,x,hf,h,i,hi=>by
  simp at h;subst h;rw[zaq,zaL (by rw[hf y (by simp)];omega)];simp
 | y::l,j+1,x,hf,h,i,hi=>by
  have hy:=hf y (by simp);rw[zaq,zau (by rw[hy,Nat.add_mul];omega),hy];have:=qb8 (l:=l) (j:=j) (x:=x) (fun z hz=>hf z (by simp[hz])) (by simpa using h) i hi;rw[←this];congr 1;rw[Nat.add_mul];omega
theorem qb4 {α β:Type}{f:α→List β}{s:Nat}:∀ {l:List α},(∀ y∈l,(f y).length=s)→(l.flatMap f).length=l.length*s
 | [],_=>by simp
 | y::l,hf=>by
  rw[zaq,zad,hf y (by simp),qb4 fun z hz=>hf z (by simp[hz]),zao,Nat.add_mul];omega
theorem qda {W:World}{g:Nat}{cs:Array Value}{t:TypeId}{fr:Nat×Nat}(h:W.heap[g]?=some (.cells cs t fr))(vs:List Value)(hl:vs.length=cs.size):(W.setCells g 0 vs).heap[g]?=some (.cells vs.toArray t fr):=by
 rw[heap_setCells vs 0 W cs h (by omega)];simp[hl]
theorem there_of_block {W:World}{g n:Nat}{cs:Array Value}{t:TypeId}(h:W.heap[g]?=some (.cells cs t (0,0)))(o:Nat)(hn:o+n≤cs.size):W.there g o n:=fun j hj=>by
 rw[zan W g (o+j) _ _ _ h,zbq (by omega)];exact⟨rfl,zaQ _ _ _ _ _ h⟩
theorem qau {F:Nat→Prop}{w:World}{g:Nat}(hg:F g)(o:Nat)(vs:List Value):Touch F w (w.setCells g o vs):=by
 have e:=qbz g vs o w;refine⟨by rw[e],by rw[e],by rw[e],by rw[setCells_size];exact zac _,fun k hk hn=>World.heap_setCells_other w g o vs hk (fun e=>hn (e▸hg))⟩
theorem below_setCells {B g:Nat}{w0 w:World}(hb:Below B w0 w)(hg:B≤g)(o:Nat)(vs:List Value):Below B w0 (w.setCells g o vs):=by
 have e:=qbz g vs o w;refine hb.trans ⟨by rw[e],by rw[e],by rw[e],by rw[setCells_size];exact zac _,fun k hk=>?_⟩;by_cases hk2:k<w.heap.size
 ·exact World.heap_setCells_other w g o vs hk2 (by omega)
 ·rw[zbz (by rw[setCells_size];omega),zbz (by omega)]
section
variable {P:Program}
theorem qhE {t kt et:TypeId}(ht:P.underlying t=some (.map kt et))(hk:P.underlying kt=some (.int .i64)){w:World}{B:Nat}{l:List (Int×Value)}(h:IMap w B l)(k:Int)(z:Value)(hz:(zeroValue et).run P w=.ok z w) :
  (Instr.lookup t (.map (some B)) (.int .i64 k) false).run P w=.ok (((qaX k l 0).map (·.2)).getD z) w:=by
 obtain⟨es,c,h1,h2⟩:=h;have Ha:MapKept.IsKey (.int .i64) (.int .i64 k):=rfl;have hn:=qcp k es.toList l 0 h2;cases hh:qaX k l 0 with
 | none=>
  rw[hh]at hn;simp[Instr.lookup,zaM ht,zb4 h1,zce hk Ha,zcj hk hn,hz,Result.andThen]
 | some r=>
  rw[hh]at hn;simp[Instr.lookup,zaM ht,zb4 h1,zce hk Ha,zcj hk hn,Result.andThen]
theorem qbh {w:World}{ops:Array Oper}{rest:List Oper}{o:Oper}{a:Act}{Q:Exit→Act→World→Prop}(hgd:o.guard=none)(t:TypeId)(m k:Operand)(ok:Bool)(ho:o.op=.lookup t m k ok)
  (mv kv v:Value)(hm:a.eval m=mv)(hk:a.eval k=kv)(hr:(Instr.lookup t mv kv ok).run P w=.ok v w)
  (h:wpList P ops Q rest (a.put o.dst v) w):wpList P ops Q (o::rest) a w:=by
 refine zcs hgd fun K hK=>?_;unfold Oper.wp execOp;simp only[ho,hm,hk,zbF,hr,zbh];exact hK _ _ h
end
theorem Row.max {w:World}{base:Nat}{e:TypeId}{size:Nat}{v:Value}{n:Nat}{xs:List Value}(h:Row w base e size v n xs):n≤maxLen:=by
 rcases h with h|⟨_,_,rfl,_⟩
 ·rcases h.2 with⟨_,h0⟩|⟨_,cap,_,_,_,_,h1,h2,_⟩
  ·omega
  ·omega
 ·unfold maxLen;omega
theorem qes {P:Program}{ops:Array Oper}{w:World}{Q:Act→Prop}{a:Act}{o:Oper}{rest:List Oper}(hgd:o.guard=none)(ty:TypeId)(x:Operand)(ho:o.op=.load ty x)
  (b off:Nat)(hx:a.eval x=.pointer (some ⟨b,off,none⟩))(cs:List Value)(d:TypeDesc)(hc:w.rangeAt b off cs)
  (hu:P.underlying ty=some d)(hd:d.isRow=true)(hi:(P.info? ty).map (·.size)=some cs.length)(dd:Option Nat)(hdd:o.dst=dd)
  (h:wpStill P ops w Q rest (a.put dd (.agg cs.toArray))):wpStill P ops w Q (o::rest) a:=by
 subst hdd;refine wpStill_step fun K hK=>?_;rw[zaw (by simp[Region.wanted,hgd])];unfold Oper.still execOp;simp only[ho,hx,Instr.loadAt,Instr.sureAddr,zbF,zb2,zbh,run_loadVar_mid w b off ty cs d hc hu hd hi];exact(Oper.stillUpon_value ..).mpr (hK _ h)
section
variable {P:Program}
theorem zeroCells_one {z:Array Value}(hz:z.all (·.oneCell')=true)(n:Nat):∀ v∈(Builtin.zeroCells z n).toList,v.oneCell'=true:=by
 intro v hv;unfold Builtin.zeroCells at hv;rw[Array.toList_map,zbg]at hv;obtain⟨i,hi,rfl⟩:=hv;have Ha:i<n*z.size:=by simpa using hi
 have Hb:0<z.size:=by
  rcases zbN z.size with h0|h0
  ·rw[h0]at Ha;omega
  ·exact h0
 have hm:=zcG i Hb;rw[getElem!_pos z _ hm];exact Array.all_eq_true_iff_forall_mem.1 hz _ (Array.getElem_mem hm)
theorem qgT (w:World)(t e ty:TypeId)(z:Value)(ht:P.underlying t=some (.slice e))(hv:∀ w,(zeroValue e).run P w=.ok z w)(h1:z.cells.all (·.oneCell')=true)(A:Option Addr)(n c:Nat)
  (g o:Nat)(cs:Array Value)(T:TypeId)(hg:w.heap[g]?=some (.cells cs T (0,0)))(hA:0<n→A=some ⟨g,o,none⟩∧o+n*z.cells.size≤cs.size) :
  ∃ w' cs',(Builtin.clear_ #[t] ty #[.slice A n c]).run P w=.ok (.tuple #[]) w'∧w'.heap[g]?=some (.cells cs' T (0,0))∧cs'.size=cs.size∧cs'.toList.take o=cs.toList.take o∧Touch (fun b=>b=g) w w':=by
 rcases zbN n with h0|h0
 ·subst h0;refine⟨w,cs,?_,hg,rfl,rfl,Touch.refl _ _⟩;cases A<;>simp[Builtin.clear_,zaM ht]
 ·obtain⟨rfl,hfit⟩:=hA h0;have hl:(Builtin.zeroCells z.cells n).toList.length=n*z.cells.size:=by rw[za1,zcv]
  have Hb:=there_of_block hg o (n:=n*z.cells.size) hfit;have Ha:=zcT (P:=P) g o (Builtin.zeroCells z.cells n).toList 0 w (fun j hj=>by simpa only [zbX] using(Hb j (by omega)).1) (fun j hj=>by simpa only [zbX] using(Hb j (by omega)).2) (zeroCells_one h1 n);simp only[zbX]at Ha;obtain⟨m,rfl⟩:∃ m,n=m+1:=⟨n-1,by omega⟩;refine⟨w.setCells g o (Builtin.zeroCells z.cells (m+1)).toList,_,?_,heap_setCells _ o w cs hg (by omega),?_,?_,qau (F:=fun b=>b=g) rfl _ _⟩
  ·simp[Builtin.clear_,zaM ht,hv,Ha]
  ·simp only[zaz,zad,zag,zap,za1,hl];omega
  ·rw[zaj,zcE (by simp;omega),zbY,Nat.min_self]
theorem qa8 {w:World}{ops:Array Oper}{rest:List Oper}{o:Oper}{a:Act}{Q:Exit→Act→World→Prop}(hgd:o.guard=none)(x:Operand)(t:TypeId)
  (ho:o.op=.call { callee:=.builtin .clear,args:=#[x],argTypes:=#[t] }){e:TypeId}{z:Value}(ht:P.underlying t=some (.slice e))(hv:∀ w,(zeroValue e).run P w=.ok z w)(h1:z.cells.all (·.oneCell')=true)
  (A:Option Addr)(n c:Nat)(hx:a.eval x=.slice A n c)(g off:Nat)(cs:Array Value)(T:TypeId)(hg:w.heap[g]?=some (.cells cs T (0,0)))(hA:0<n→A=some ⟨g,off,none⟩∧off+n*z.cells.size≤cs.size)
  (h:∀ w' cs',w'.heap[g]?=some (.cells cs' T (0,0))→cs'.size=cs.size→cs'.toList.take off=cs.toList.take off→Touch (fun b=>b=g) w w'→wpList P ops Q rest (a.put o.dst (.tuple #[])) w'):wpList P ops Q (o::rest) a w:=by
 obtain⟨w',cs',hr,k1,k2,k3,k4⟩:=qgT (P:=P) w t e o.type z ht hv h1 A n c g off cs T hg hA;refine zcs hgd fun K hK=>?_;unfold Oper.wp execOp;simp only[ho,resolve,invoke,builtin,zbF,zb2,zbh,zco,zbp,zbA,hx,hr];exact hK _ _ (h w' cs' k1 k2 k3 k4)
theorem qcx {t e:TypeId}{i:TypeInfo}{size:Nat}(ht:P.underlying t=some (.slice e))(hi:P.info? e=some i)(hsize:i.size=size)(b off n c lo:Nat)(h1:lo≤n)(h2:n≤c) :
  ∃ A:Option Addr,(lo<n→A=some ⟨b,off+lo*size,none⟩)∧∀ W,(Instr.slice t (.slice (some ⟨b,off,none⟩) n c) (some (.int .i64 (lo:Int))) none none).run P W=.ok (.slice A (n-lo) (c-lo)) W:=by
 by_cases hc:c=lo
 ·refine⟨some ⟨b,off,none⟩,fun h=>by omega,fun W=>?_⟩;have e1:(lo:Int)≤(n:Int):=by omega
  subst hc;simp[Instr.slice,Instr.sliceBounds,Instr.sliceBound,asIntOf,zaM ht,sizeOf,typeInfo,hi,hsize,go_sem];intro h;omega
 ·refine⟨some ⟨b,off+lo*size,none⟩,fun _=>rfl,fun W=>?_⟩;have e1:(lo:Int)≤(n:Int):=by omega
  simp[Instr.slice,Instr.sliceBounds,Instr.sliceBound,asIntOf,zaM ht,sizeOf,typeInfo,hi,hsize,hc,go_sem];intro h;omega
end
end
end Go.Proofs.YtpmebcgmgfcmiaaGreatDoor
namespace Go.Proofs.YtpmebcgmgfcmiaaGreatDoor
section
section
variable {P:Program} {ops:Array Oper} {Q:Exit→Act→World→Prop} {md:Region.Mode} {S:World→Prop}
def Gate (st:List Nat)(l:Array Bool)(S:World→Prop)(w:World):Prop:=(∀ s∈st,l.getD s true=false)→S w
def qa0 (P:Program)(md:Region.Mode)(ops:Array Oper)(Q:Exit→Act→World→Prop)(S:World→Prop)(st:List Nat):Nat→Array Bool→Act→World→Prop
 | 0,l,a,w=>Region.ready md ops l=[]∧Q .normal a w
 | f+1,l,a,w=>(Region.ready md ops l=[]→Q .normal a w)∧∀ i∈Region.ready md ops l,wpOp P ops Q i (fun a' w'=>Gate st (l.setIfInBounds i true) S w'∧qa0 P md ops Q S st f (l.setIfInBounds i true) a' w') a w
theorem qcy (st:List Nat):∀ (f:Nat) (l:Array Bool) (a:Act) (w:World),qa0 P md ops Q S st f l a w→wpAny P md ops Q f l a w
 | 0,_,_,_,h=>h
 | f+1,_,_,_,h=>⟨h.1,fun i hi=>wpOp_mono (fun a' w' h'=>qcy st f _ a' w' h'.2) (h.2 i hi)⟩
theorem qfM {st:List Nat}{l:Array Bool}{i:Nat}{w:World}(hi:i∉st)(h:Gate st (l.setIfInBounds i true) S w):Gate st l S w:=fun h0=>h fun s hs=>by
 rw[zdd true (fun e=>hi (by rw[e];exact hs))];exact h0 s hs
theorem qfL {st:List Nat}{S':World→Prop}{Good:Array Bool→Prop}{i:Nat}{oi:Oper}{v:Value}(hi:ops[i]?=some oi)(hns:Region.noSelect ops=true)(hist:i∉st)
  (hQ:∀ c a w,Q (.panic c) (a.put oi.dst v) w→Q (.panic c) a w)
  (hup:∀ l w,Good l→Gate st l S w→S' w)(hgood:∀ l j,Good l→i∈Region.ready md ops l→j∈Region.ready md ops l→j≠i→Good (l.setIfInBounds j true)) :
  ∀ (f:Nat) (l:Array Bool) (a:Act) (w:World),Region.free md ops l i=true→i∈Region.ready md ops l→Good l→YieldsIf P ops S' oi v a→Gate st l S w→qa0 P md ops Q S st f (l.setIfInBounds i true) (a.put oi.dst v) w→qa0 P md ops Q S st (f+1) l a w:=by
 have Hb:=Region.noSelect_spec hns;have Ha:∀ {l:Array Bool} {w:World},Gate st l S w→Gate st (l.setIfInBounds i true) S w:=fun {l w} h h0=>h fun s hs=>by
  have:=h0 s hs
  rwa [zdd true (fun e=>hist (by rw[e];exact hs))]at this
 intro f
 induction f with
 | zero=>
  intro l a w hf hr hg hy hS H;refine⟨fun h=>(by rw[h]at hr;cases hr),fun j hj=>?_⟩;by_cases e:j=i
  ·subst e;exact hy.wpOp hi (hup _ _ hg hS) ⟨Ha hS,H⟩
  ·have h2:=ready_mono hj e;rw[H.1]at h2;cases h2
 | succ f ih=>
  intro l a w hf hr hg hy hS H;refine⟨fun h=>(by rw[h]at hr;cases hr),fun j hj=>?_⟩;by_cases e:j=i
  ·subst e;exact hy.wpOp hi (hup _ _ hg hS) ⟨Ha hS,H⟩
  ·obtain⟨hju,oj,hoj,hall⟩:=zdf.1 hj;have Hf:∀ x∈oj.after,Region.binds md x=true→x.on≠i:=fun x hx hb he=>by
    have h1:=hall x hx hb;have h0:=(zdf.1 hr).1;rw[he]at h1;rcases zbL i l.size with h3|h3
    ·simp[h3]at h0 h1;rw[h0]at h1;cases h1
    ·simp[zbz h3]at h1
   have h1:=H.2 j (ready_mono hj e);have h2:=wpOp_putIf hoj (Region.free_spec hi hf j oj hoj e hju Hf) (fun cs b=>Hb i oi cs b hi) (fun cs b=>Hb j oj cs b hoj) hQ hy h1;refine wpOp_mono (fun a' w' h3=>?_) h2;rw[Array.setIfInBounds_comm _ _ (fun h=>e h.symm)]at h3;have hG:Gate st (l.setIfInBounds j true) S w':=qfM hist h3.2.1;refine⟨hG,ih _ a' w' ?_ (ready_mono hr (Ne.symm e)) (hgood l j hg hr hj e) h3.1 hG h3.2.2⟩;have Hc:∀ k,k<ops.size→(k==i||(l.setIfInBounds j true).getD k true||match ops[k]? with
     | some ok=>ok.after.any (fun e=>Region.binds md e&&e.on==i)||oi.apart ops ok
     | none=>true)=true:=fun k hk=>by
    have h4:=hf;simp only[Region.free,hi,zb0,zbb]at h4;have h5:=h4 k hk;by_cases ek:j=k
    ·subst ek;have He:j<l.size:=by
      rcases zbL j l.size with h6|h6
      ·exact h6
      ·simp[zbz h6]at hju
     simp[zcI,He]
    ·rw[zdd true ek];exact h5
   simp only[Region.free,hi,zb0,zbb];exact Hc
def qg9 (md:Region.Mode)(ops:Array Oper)(l:Array Bool)(st:List Nat)(i:Nat):Bool:=
 st.all fun s=>s != i&&!(l.getD s true)&&match ops[s]? with
  | some os=>os.after.toList.any fun e=>Region.binds md e&&e.on==i
  | none=>false
theorem qk8 {st:List Nat}{i:Nat}{oi:Oper}(dd:Option Nat){v:Value}{f:Nat}{l:Array Bool}{a:Act}{w:World}(hi:ops[i]?=some oi)(hd:oi.dst=dd)
  (hs:Region.noSelect ops=true)(hf:Region.free md ops l i=true)(hr:(Region.ready md ops l).contains i=true)(hg:qg9 md ops l st i=true)
  (hQ:∀ c a w,Q (.panic c) (a.put dd v) w→Q (.panic c) a w)(hy:YieldsIf P ops S oi v a)(hS:Gate st l S w)
  (h:qa0 P md ops Q S st f (l.setIfInBounds i true) (a.put dd v) w):qa0 P md ops Q S st (f+1) l a w:=by
 subst hd;simp only[qg9,zb0,zba,bne_iff_ne,zc9]at hg;refine qfL (S':=S) (Good:=fun l=>∀ s∈st,l.getD s true=false) hi hs (fun h0=>(hg i h0).1.1 rfl) hQ (fun l w h0 h1=>h1 h0) (fun l j h0 hri hrj hji s hs2=>?_) f l a w hf (by simpa using hr) (fun s hs2=>(hg s hs2).1.2) hy hS h;by_cases e:j=s
 ·subst e;exfalso;have h3:=(hg j hs2).2;obtain⟨_,oj,hoj,hall⟩:=zdf.1 hrj;rw[hoj]at h3;simp only[List.any_eq_true,zba,zcz]at h3;obtain⟨x,hx,hb,hxi⟩:=h3;have h1:=hall x (Array.mem_toList_iff.1 hx) hb;have h2:=(zdf.1 hri).1;rw[hxi]at h1;rcases zbL i l.size with h4|h4
  ·simp[h4]at h1 h2;rw[h2]at h1;cases h1
  ·simp[zbz h4]at h1
 ·rw[zdd true e];exact h0 s hs2
theorem qeQ {st:List Nat}{i:Nat}{oi:Oper}(dd:Option Nat){v:Value}{f:Nat}{l:Array Bool}{a:Act}{w:World}(hi:ops[i]?=some oi)(hd:oi.dst=dd)
  (hs:Region.noSelect ops=true)(hf:Region.free md ops l i=true)(hr:(Region.ready md ops l).contains i=true)(hg:st.contains i=false)
  (hQ:∀ c a w,Q (.panic c) (a.put dd v) w→Q (.panic c) a w)(hy:YieldsIf P ops (fun _=>True) oi v a)(hS:Gate st l S w)
  (h:qa0 P md ops Q S st f (l.setIfInBounds i true) (a.put dd v) w):qa0 P md ops Q S st (f+1) l a w:=by
 subst hd;exact qfL (S':=fun _=>True) (Good:=fun _=>True) hi hs (by simpa using hg) hQ (fun _ _ _ _=>trivial) (fun _ _ _ _ _ _=>trivial) f l a w hf (by simpa using hr) trivial hy hS h
def AllReadyG (P:Program)(md:Region.Mode)(ops:Array Oper)(Q:Exit→Act→World→Prop)(S:World→Prop)(st:List Nat)(f:Nat)(l:Array Bool)(a:Act)(w:World)(rs:List Nat):Prop:=
 ∀ i∈rs,wpOp P ops Q i (fun a' w'=>Gate st (l.setIfInBounds i true) S w'∧qa0 P md ops Q S st f (l.setIfInBounds i true) a' w') a w
theorem AllReadyG.nil {st:List Nat}{f:Nat}{l:Array Bool}{a:Act}{w:World}:AllReadyG P md ops Q S st f l a w []:=fun _ h=>by cases h
theorem AllReadyG.cons {st:List Nat}{f:Nat}{l:Array Bool}{a:Act}{w:World}{i:Nat}{o:Oper}{rs:List Nat}(ho:ops[i]?=some o)
  (h:∀ K':Act→World→Prop,Shut (∀ a w,Gate st (l.setIfInBounds i true) S w→(Gate st (l.setIfInBounds i true) S w→qa0 P md ops Q S st f (l.setIfInBounds i true) a w)→K' a w)→if Region.wanted o (yielded ops a.tmps)=true then Oper.wp P o a w K' Q else K' (a.put o.dst undef) w)
  (hs:AllReadyG P md ops Q S st f l a w rs):AllReadyG P md ops Q S st f l a w (i::rs):=fun j hj=>by
 rcases za0.1 hj with rfl|hj
 ·exact wpOp_step ho (fun K' hK=>h K' (fun a w hS hW=>hK a w ⟨hS,hW hS⟩))
 ·exact hs j hj
theorem qae {st:List Nat}{rs:List Nat}{f:Nat}{l:Array Bool}{a:Act}{w:World}(hr:Region.ready md ops l=rs)(hne:rs≠[])(h:AllReadyG P md ops Q S st f l a w rs):qa0 P md ops Q S st (f+1) l a w:=
 ⟨fun h0=>absurd (hr▸h0) hne,hr▸h⟩
theorem qad {st:List Nat}{l:Array Bool}{a:Act}{w:World}(hr:Region.ready md ops l=[])(h:Q .normal a w):∀ f,qa0 P md ops Q S st f l a w
 | 0=>⟨hr,h⟩
 | _+1=>⟨fun _=>h,by rw[hr];simp⟩
theorem qac (st:List Nat){id:Nat}{a:Act}{w:World}(hm:P.follows .mixedOrders=true)(hS:S w.drew)
  (h:Gate st (Array.replicate ops.size false) S w.drew→qa0 P .any ops Q S st ops.size (Array.replicate ops.size false) a w.drew):(Code.region id ops true).wp P Q a w:=
 wp_region_any hm (qcy st _ _ _ _ (h fun _=>hS))
theorem qaf {st:List Nat}{l:Array Bool}{w:World}(s:Nat)(h:st.contains s=true)(h2:l.getD s true=true):Gate st l S w:=fun h0=>by
 have:=h0 s (by simpa using h);rw[h2]at this;cases this
theorem qaa {st:List Nat}{l:Array Bool}{w:World}(h:S w):Gate st l S w:=fun _=>h
end
end
end Go.Proofs.YtpmebcgmgfcmiaaGreatDoor
