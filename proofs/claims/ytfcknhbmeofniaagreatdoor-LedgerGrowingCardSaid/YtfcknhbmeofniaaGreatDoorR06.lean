/- Texts Map PlMem Whole HeldY. -/
import Derived.Test.YtfcknhbmeofniaaGreatDoorR05
import Derived.Deep.Upon
import Derived.StillTailTactics
import Derived.BigQuiet
import Derived.Great.BuildSlice
set_option linter.all false
set_option maxRecDepth 100000
set_option maxHeartbeats 16000000
namespace Go.Proofs.YtfcknhbmeofniaaGreatDoor
open Go.RowKit
section
def IMap (w:World)(B:Nat)(l:List (Int×Value)):Prop:=
 ∃ es clock,w.heap[B]?=some (.map es clock)∧es.toList.map (fun e=>(e.key,e.val))=l.map (fun p=>(Value.int .i64 p.1,p.2))
def qaV (k:Int):List (Int×Value)→Nat→Option (Nat×Value)
 | [],_=>none
 | p::r,i=>if k=p.1 then some (i,p.2)else qaV k r (i+1)
theorem IMap.of_heap {w w':World}{B:Nat}{l:List (Int×Value)}(h:IMap w B l)(hb:w'.heap[B]?=w.heap[B]?):IMap w' B l:=by
 obtain⟨es,c,h1,h2⟩:=h;exact⟨es,c,hb.trans h1,h2⟩
theorem IMap.lt {w:World}{B:Nat}{l:List (Int×Value)}(h:IMap w B l):B<w.heap.size:=by
 obtain⟨_,_,h1,_⟩:=h;exact(zaa.1 h1).1
theorem qdb (k:Int):∀ (es:List MapEntry) (l:List (Int×Value)) (i:Nat),es.map (fun e=>(e.key,e.val))=l.map (fun p=>(Value.int .i64 p.1,p.2))→
  Instr.findNow (.int .i64) (.int .i64 k) es i=some (qaV k l i)
 | [],[],_,_=>rfl
 | [],_::_,_,h=>by simp at h
 | _::_,[],_,h=>by simp at h
 | e::es,p::l,i,h=>by
  simp only[zbD,List.cons.injEq,zaE]at h;obtain⟨⟨h1,h2⟩,h3⟩:=h;have ih:=qdb k es l (i+1) h3;by_cases hk:k=p.1
  ·simp[Instr.findNow,Instr.sameNow,h1,h2,qaV,hk]
  ·have hb:(k==p.1)=false:=by simp[hk]
   simp[Instr.findNow,Instr.sameNow,h1,qaV,hk,ih,hb]
def qew (k:Int)(v:Value):List (Int×Value)→List (Int×Value)
 | []=>[(k,v)]
 | p::r=>if k=p.1 then(k,v)::r else p::qew k v r
def qiX (k:Int):List (Int×Value)→List (Int×Value)
 | []=>[]
 | p::r=>if k=p.1 then r else p::qiX k r
theorem qeN {k:Int}{v:Value}:∀ {l:List (Int×Value)} {i:Nat},qaV k l i=none→qew k v l=l++[(k,v)]∧qiX k l=l∧∀ p∈l,p.1≠k
 | [],_,_=>⟨rfl,rfl,fun _ h=>by cases h⟩
 | p::r,i,h=>by
  unfold qaV at h;by_cases hk:k=p.1
  ·rw[zax hk]at h;cases h
  ·rw[zaC hk]at h;obtain⟨h1,h2,h3⟩:=qeN (k:=k) (v:=v) h;refine⟨by simp[qew,hk,h1],by simp[qiX,hk,h2],fun q hq=>?_⟩;rcases zaB.1 hq with rfl|hq
   ·exact fun e=>hk e.symm
   ·exact h3 q hq
theorem qeO {k:Int}{v u:Value}:∀ {l:List (Int×Value)} {i j:Nat},qaV k l i=some (j,u)→∃ n,j=i+n∧l[n]?=some (k,u)∧qew k v l=l.set n (k,v)∧qiX k l=l.eraseIdx n
 | [],_,_,h=>by cases h
 | p::r,i,j,h=>by
  unfold qaV at h;by_cases hk:k=p.1
  ·rw[zax hk]at h;cases h;obtain⟨p1,p2⟩:=p;simp only at hk;subst hk;exact⟨0,rfl,rfl,by simp[qew],by simp[qiX]⟩
  ·rw[zaC hk]at h;obtain⟨n,h1,h2,h3,h4⟩:=qeO (k:=k) (v:=v) h;exact⟨n+1,by omega,by simpa using h2,by simp[qew,hk,h3],by simp[qiX,hk,h4]⟩
def qcI (w:World)(B:Nat)(o:Obj):World:={ w with heap:=w.heap.setIfInBounds B o }
theorem qcJ (w:World)(B:Nat)(o:Obj):w.grownBy (qcI w B o) (some B):=
 ⟨rfl,rfl,rfl,by simp[qcI],fun k _ hne=>by
  unfold qcI;simp only[];rw[Array.getElem?_setIfInBounds_ne (fun e=>hne (by rw[e]))]⟩
section
variable {P:Program} {t kt et:TypeId} (ht:P.underlying t=some (.map kt et)) (hk:P.underlying kt=some (.int .i64))
include ht hk
theorem qib {w:World}{B:Nat}{l:List (Int×Value)}(h:IMap w B l)(k:Int)(v:Value) :
  ∃ o,(Instr.mapUpdate t (.map (some B)) (.int .i64 k) v).run P w=.ok () (qcI w B o)∧IMap (qcI w B o) B (qew k v l):=by
 have Hh:=h.lt;obtain⟨es,c,h1,h2⟩:=h;have Ha:MapKept.IsKey (.int .i64) (.int .i64 k):=rfl;have hn:=qdb k es.toList l 0 h2;have Hc:∀ o:Obj,(qcI w B o).heap[B]?=some o:=fun o=>by simp[qcI,Hh]
 cases hh:qaV k l 0 with
 | none=>
  rw[hh]at hn;refine⟨.map (es.push { key:=.int .i64 k,val:=v,born:=c }) (c+1),?_,_,_,Hc _,?_⟩
  ·simp[Instr.mapUpdate,zaU ht,zcj h1,zct hk Ha,zcz hk hn,MapKept.run_setObj_map _ h1,Result.andThen,qcI]
  ·rw[(qeN (v:=v) hh).1];simp[h2]
 | some r=>
  obtain⟨j,u⟩:=r;rw[hh]at hn;obtain⟨n,hj,hl,hp,_⟩:=qeO (v:=v) hh;rw[zaF]at hj;subst hj;have Hf:j<es.toList.length:=by
   have e1:es.toList.length=l.length:=by simpa using congrArg List.length h2
   rw[e1];exact(zac.1 hl).1
  have Hb:j<es.size:=by simpa using Hf
  have Hg:(es[j]'Hb).key=.int .i64 k:=by
   have e1:=congrArg (fun x=>x[j]?) h2;simp only[zaD,hl,zbB]at e1;have e2:es.toList[j]?=some (es[j]'Hb):=by simp[Hb]
   rw[e2]at e1;simp only[zbB,zau,zaE]at e1;exact e1.1
  have He:es[j]?=some (es[j]'Hb):=zbp Hb;refine⟨.map (es.modify j fun e=>{ e with key:=.int .i64 k,val:=v }) c,?_,_,_,Hc _,?_⟩
  ·simp[Instr.mapUpdate,zaU ht,zcj h1,zct hk Ha,zcz hk hn,He,Hg,MapKept.run_keyThatStays Ha,MapKept.run_setObj_map _ h1,Result.andThen,qcI]
  ·rw[hp,List.map_set,←h2];apply zcH;intro m;rw[zaD,zb6,Array.getElem?_modify,List.getElem?_set,zaD,zb6];by_cases hm:j=m
   ·subst hm;simp[Hb]
   ·simp[hm]
end
end
end Go.Proofs.YtfcknhbmeofniaaGreatDoor
namespace Go.Proofs.YtfcknhbmeofniaaGreatDoor
open Go.RowKit BT
variable {F G:Nat→Prop}{b w w':World}{p:Pl}{vw:Value}{most:List Nat}{tp:List Tp}{waits:List Wt}{d m:Nat}
structure Touch (F:Nat→Prop) (w w':World):Prop where
 os:w'.os=w.os
 tape:w'.tape=w.tape
 output:w'.output=w.output
 size:w.heap.size≤w'.heap.size
 block:∀ k,k<w.heap.size→¬F k→w'.heap[k]?=w.heap[k]?
theorem Touch.refl (F:Nat→Prop)(w:World):Touch F w w:=⟨rfl,rfl,rfl,zad _,fun _ _ _=>rfl⟩
theorem Touch.trans {a c:World}(h:Touch F a b)(k:Touch F b c):Touch F a c:=
 ⟨k.os.trans h.os,k.tape.trans h.tape,k.output.trans h.output,zam h.size k.size,fun i hi hf=>(k.block i (zag hi h.size) hf).trans (h.block i hi hf)⟩
theorem Touch.mono {a:World}(h:Touch F a b)(hf:∀ k,k<a.heap.size→F k→G k):Touch G a b:=⟨h.os,h.tape,h.output,h.size,fun k hk hn=>h.block k hk (fun hfk=>hn (hf k hk hfk))⟩
theorem Touch.of_grown {a:World}{row:Option Nat}(h:a.grownBy b row)(hf:∀ k,row=some k→F k):Touch F a b:=
 ⟨h.os,h.tape,h.output,h.size,fun k hk hn=>h.block k hk (fun e=>hn (hf k e.symm))⟩
theorem Touch.setCell {a:World}(h:Touch F a w){p:Addr}(hp:F p.block)(u:Value):Touch F a (w.setCell p u):=
 h.trans ⟨rfl,rfl,rfl,by simp,fun k _ hn=>zaV w p u k (fun e=>hn (e▸hp))⟩
theorem Touch.of_below {a:World}(h:Below a.heap.size a b):Touch F a b:=⟨h.os,h.tape,h.output,h.size,fun k hk _=>h.block k hk⟩
theorem Touch.drew {a:World}(h:Touch F a w):Touch F a w.drew:=⟨h.os,h.tape,h.output,h.size,h.block⟩
theorem Touch.alloc {a:World}(h:Touch F a w)(o:Obj):Touch F a (w.alloc o):=h.trans (Touch.of_below ((zai _ _).alloc (zad _) o))
def wv (x:Wt):List Value:=[.int .i64 (x.dev:Int),.int .i64 (x.place:Int)]++bv x.b
structure Ext (F F':Nat→Prop) (w w':World):Prop where
 touch:Touch F w w'
 sub:∀ b,F' b→F b∨w.heap.size≤b
theorem Ext.refl (F:Nat→Prop)(w:World):Ext F F w w:=⟨Touch.refl _ _,fun _ h=>.inl h⟩
theorem Ext.trans {F' F'':Nat→Prop}{a c:World}(h:Ext F F' a b)(k:Ext F' F'' b c):Ext F F'' a c:=
 ⟨⟨k.touch.os.trans h.touch.os,k.touch.tape.trans h.touch.tape,k.touch.output.trans h.touch.output,zam h.touch.size k.touch.size,fun i hi hf=>
  (k.touch.block i (zag hi h.touch.size) (fun hf'=>by
   rcases h.sub i hf' with h1|h1
   ·exact hf h1
   ·omega)).trans (h.touch.block i hi hf)⟩,
  fun i hi=>by
  rcases k.sub i hi with h1|h1
  ·exact h.sub i h1
  ·exact .inr (zam h.touch.size h1)⟩
theorem Ext.of {a:World}(h:Touch F a b):Ext F F a b:=⟨h,fun _ h=>.inl h⟩
structure PA where
 P:Nat
 DV:Nat
 dcap:Nat
 maps:List Nat
 tmaps:List Nat
 dA:Option Addr
 dC:Nat
 tA:Option Addr
 tC:Nat
def qcx (m M:Nat):List Value:=[.bool false,.int .i64 (m:Int),.map (some M),.int .i64 0,.int .i64 0]
def ql0 (t:Tp)(M:Nat):List Value:=[.bool true,.int .i64 (t.most:Int),.map (some M),.int .i64 (t.len:Int),.int .i64 (t.waits:Int)]
def qdo (most maps:List Nat)(tp:List Tp)(tmaps:List Nat):List Value:=((List.zip most maps).flatMap fun x=>qcx x.1 x.2)++(List.zip tp tmaps).flatMap fun x=>ql0 x.1 x.2
structure PlR (w:World) (a:PA) (F:Nat→Prop) (vw:Value) (most:List Nat) (tp:List Tp) (disk:qaZ) (waits:List Wt):Prop where
 fP:F a.P
 hF:∀ b,F b→b<w.heap.size
 dv:w.ownsRow 0 94 5 (.slice (some ⟨a.DV,0,none⟩) (most.length+tp.length) a.dcap) (most.length+tp.length) (qdo most a.maps tp a.tmaps)
 fDV:F a.DV∧a.DV≠a.P
 mlen:a.maps.length=most.length
 tlen:a.tmaps.length=tp.length
 mnd:(a.maps++a.tmaps).Nodup
 fM:∀ M∈a.maps++a.tmaps,F M∧M≠a.P∧M≠a.DV
 maps:∀ d M,(a.maps++a.tmaps)[d]?=some M→∃ l,IMap w M l∧∀ k:Nat,(qaV (k:Int) l 0).map (·.2)=some (.agg (bv (disk d k)).toArray)∨(qaV (k:Int) l 0=none∧disk d k=List.replicate 64 0)
 wrow:Own w 0 195 66 vw waits.length (waits.flatMap wv)
 fw:∀ b,vw.ownBlock=some b→F b∧b≠a.P∧b≠a.DV∧b∉a.maps++a.tmaps∧(∀ ad,a.dA=some ad→b≠ad.block)∧∀ ad,a.tA=some ad→b≠ad.block
 sh:∀ ad,a.dA=some ad∨a.tA=some ad→F ad.block∧ad.block≠a.P∧ad.block≠a.DV∧ad.block∉a.maps++a.tmaps
 shape:Ints w a.dA (most.map fun(m:Nat)=>(m:Int))
 shapeT:Ints w a.tA (tp.map fun(t:Tp)=>(t.most:Int))
def qcZ (a:PA)(vw:Value)(p:Pl)(st now:Int):Array Value:=
 #[.slice a.dA p.most.length a.dC,.slice a.tA p.tp.length a.tC,.slice (some ⟨a.DV,0,none⟩) (p.most.length+p.tp.length) a.dcap,vw,.bool p.off,.int .i64 p.fuse,.int .i64 st,.int .i64 now]
structure PlM (w:World) (a:PA) (F:Nat→Prop) (p:Pl):Prop where
 ex:∃ vw st now,w.heap[a.P]?=some (.cells (qcZ a vw p st now) 90 (0,0))∧PlR w a F vw p.most p.tp p.disk p.waits
 ok:p.Ok
theorem qbg {A:Option Addr}{xs:List Int}(h:Ints w A xs)(hs:w.heap.size≤w'.heap.size)(hk:∀ b off,A=some ⟨b,off,none⟩→w'.heap[b]?=w.heap[b]?):Ints w' A xs:=
 ⟨h.len,fun h0=>by
  obtain⟨b,off,e,hl,hc⟩:=h.at_ h0;refine⟨b,off,e,zag hl hs,fun k hkk=>?_⟩;rw[←hc k hkk];unfold World.cell?;rw[hk b off e]⟩
theorem PlR.keep {a:PA}{disk:qaZ}(h:PlR w a F vw most tp disk waits)(hs:w.heap.size≤w'.heap.size)(hk:∀ b,F b→b≠a.P→w'.heap[b]?=w.heap[b]?):PlR w' a F vw most tp disk waits where
 fP:=h.fP
 hF:=fun b hb=>zag (h.hF b hb) hs
 dv:=qbG h.dv (hk _ h.fDV.1 h.fDV.2)
 fDV:=h.fDV
 mlen:=h.mlen
 tlen:=h.tlen
 mnd:=h.mnd
 fM:=h.fM
 maps:=fun d M hd=>by
  obtain⟨l,h1,h2⟩:=h.maps d M hd;have:=h.fM M (zak hd);exact⟨l,h1.of_heap (hk M this.1 this.2.1),h2⟩
 wrow:=⟨h.wrow.row.keep fun b hb hl=>hk b (h.fw b hb).1 (h.fw b hb).2.1,fun b e=>⟨zbO _,zag (h.wrow.blk b e).2 hs⟩⟩
 fw:=h.fw
 sh:=h.sh
 shape:=qbg h.shape hs fun b off e=>hk b (h.sh _ (.inl e)).1 (h.sh _ (.inl e)).2.1
 shapeT:=qbg h.shapeT hs fun b off e=>hk b (h.sh _ (.inr e)).1 (h.sh _ (.inr e)).2.1
theorem PlM.keep {a:PA}(h:PlM w a F p)(hs:w.heap.size≤w'.heap.size)(hk:∀ b,F b→w'.heap[b]?=w.heap[b]?):PlM w' a F p:=by
 obtain⟨⟨vw,st,now,h1,h2⟩,h3⟩:=h;exact⟨⟨vw,st,now,(hk _ h2.fP).trans h1,h2.keep hs fun b hb _=>hk b hb⟩,h3⟩
theorem PlM.hF {a:PA}(h:PlM w a F p):∀ b,F b→b<w.heap.size:=by
 obtain⟨⟨_,_,_,_,h2⟩,_⟩:=h;exact h2.hF
theorem PlM.fP {a:PA}(h:PlM w a F p):F a.P:=by
 obtain⟨⟨_,_,_,_,h2⟩,_⟩:=h;exact h2.fP
theorem PlM.below {a:PA}(h:PlM w a F p)(hb:Below w.heap.size w w'):PlM w' a F p:=
 h.keep hb.size fun b hf=>hb.block b (h.hF b hf)
theorem PlM.touch {a:PA}(h:PlM w a F p)(ht:Touch G w w')(hd:∀ b,F b→¬G b):PlM w' a F p:=
 h.keep ht.size fun b hf=>ht.block b (h.hF b hf) (hd b hf)
theorem PlR.setP {a:PA}{disk:qaZ}(h:PlR w a F vw most tp disk waits)(i:Nat)(u:Value):PlR (w.setCell ⟨a.P,i,none⟩ u) a F vw most tp disk waits:=
 h.keep (by simp) fun b _ hn=>zaV w _ u b hn
theorem qdC {a:PA}(h:PlM w a F p) :
  Calls Tryz.prog 104 #[.pointer (some ⟨a.P,0,none⟩)] w fun e w'=>e=.returned (.bool p.step.1)∧PlM w' a F p.step.2∧Touch F w w'∧w'.heap.size=w.heap.size:=by
 obtain⟨⟨vw,st,now,h1,h2⟩,h3⟩:=h;have c5:w.cell? ⟨a.P,5,none⟩=some (.int .i64 p.fuse):=by rw[zao w _ 5 _ _ _ h1];rfl
 have c4:w.cell? ⟨a.P,4,none⟩=some (.bool p.off):=by rw[zao w _ 4 _ _ _ h1];rfl
 have c6:w.cell? ⟨a.P,6,none⟩=some (.int .i64 st):=by rw[zao w _ 6 _ _ _ h1];rfl
 have z:∀ i,w.frozen? ⟨a.P,i,none⟩=false:=fun i=>by simp[World.frozen?,h1]
 have z4:=z 4;have z5:=z 5;have z6:=z 6;have f0:=h3.fuse.1;have f1:=h3.fuse.2;have H1:=zH h1;have H2:=zH h2;have H3:=zH h3;clear h1 h2 h3 z;by_cases hf:p.fuse=0
 ·have t1:(p.fuse==0)=true:=by rw[zbZ];exact hf
  have e1:p.step=(false,{ p with off:=true,fuse:=-1 }):=by unfold Pl.step;rw[zax hf]
  have E1:=zH e1;clear e1;go_enter Tryz.func104,Tryz.ntmps104
  go_wp2;go_ret;rw[E1.o];refine⟨rfl,⟨⟨vw,st,now,?_,(H2.o.setP _ _).setP _ _⟩,⟨H3.o.waits,H3.o.disk,H3.o.most,H3.o.devs,by simp⟩⟩,((Touch.refl _ _).setCell H2.o.fP _).setCell H2.o.fP _,by simp⟩;rw[qac (qac H1.o _)];simp[qcZ]
 ·have t1:(p.fuse==0)=false:=by rw[zaN];exact hf
  by_cases hp:0<p.fuse
  ·have t2:decide (0<p.fuse)=true:=zaT hp;have e1:p.step=(true,{ p with fuse:=p.fuse-1 }):=by unfold Pl.step;rw[zaC hf,zax hp]
   have E1:=zH e1;clear e1;go_enter Tryz.func104,Tryz.ntmps104
   go_wp2;go_ret;rw[E1.o];refine⟨rfl,⟨⟨vw,wrap64 (st+1),now,?_,(H2.o.setP _ _).setP _ _⟩,⟨H3.o.waits,H3.o.disk,H3.o.most,H3.o.devs,by simp;omega⟩⟩,((Touch.refl _ _).setCell H2.o.fP _).setCell H2.o.fP _,by simp⟩;rw[qac (qac H1.o _)];simp[qcZ]
  ·have t2:decide (0<p.fuse)=false:=zan hp;have e1:p.step=(true,p):=by unfold Pl.step;rw[zaC hf,zaC hp]
   have E1:=zH e1;clear e1;go_enter Tryz.func104,Tryz.ntmps104
   go_wp2;go_ret;rw[E1.o];refine⟨rfl,⟨⟨vw,wrap64 (st+1),now,?_,H2.o.setP _ _⟩,H3.o⟩,(Touch.refl _ _).setCell H2.o.fP _,by simp⟩;rw[qac H1.o];simp[qcZ]
theorem PlM.dev_at {a:PA}(h:PlM w a F p)(hd:p.most[d]?=some m):∃ M,(a.maps++a.tmaps)[d]?=some M∧
  w.cell? ⟨a.DV,d*5,none⟩=some (.bool false)∧w.cell? ⟨a.DV,d*5+1,none⟩=some (.int .i64 (m:Int))∧w.cell? ⟨a.DV,d*5+2,none⟩=some (.map (some M))∧w.cell? ⟨a.DV,d*5+3,none⟩=some (.int .i64 0)∧w.cell? ⟨a.DV,d*5+4,none⟩=some (.int .i64 0):=by
 obtain⟨⟨vw,st,now,h1,h2⟩,h3⟩:=h;have hl:=(zac.1 hd).1;have hM:a.maps[d]?=some (a.maps[d]'(by rw[h2.mlen];exact hl)):=zab _;refine⟨_,by rw[zaH (by rw[h2.mlen];exact hl)];exact hM,?_⟩;have key:∀ (l:List (Nat×Nat)) (r:List Value) (d:Nat) (x:Nat×Nat),l[d]?=some x→∀ j,j<5→((l.flatMap fun x=>qcx x.1 x.2)++r)[d*5+j]?=(qcx x.1 x.2)[j]?:=by
  intro l r
  induction l with
  | nil=>intro d x h;simp at h
  | cons y l ih=>
   intro d x h j hj;rw[zat,zah]
   match d,h with
   | 0,h=>
    simp at h;subst h;rw[zaH (by simp[qcx];omega)];simp
   | d+1,h=>
    rw[zaz (by simp[qcx];omega)];have e:(d+1)*5+j-(qcx y.1 y.2).length=d*5+j:=by simp[qcx];omega
    rw[e];exact ih d x (by simpa using h) j hj
 have hz:(List.zip p.most a.maps)[d]?=some (m,a.maps[d]'(by rw[h2.mlen];exact hl)):=by
  rw[List.getElem?_zip_eq_some];exact⟨hd,hM⟩
 have hc:∀ j,j<5→w.cell? ⟨a.DV,d*5+j,none⟩=(qcx m (a.maps[d]'(by rw[h2.mlen];exact hl)))[j]?:=by
  intro j hj;rw[h2.dv.cellAt (d*5+j) (by omega)];unfold qdo;rw[key _ _ _ _ hz j hj]
 refine⟨?_,?_,?_,?_,?_⟩
 ·rw[show d*5=d*5+0 from rfl,hc 0 (by omega)];rfl
 ·rw[hc 1 (by omega)];rfl
 ·rw[hc 2 (by omega)];rfl
 ·rw[hc 3 (by omega)];rfl
 ·rw[hc 4 (by omega)];rfl
theorem PlM.dcap {a:PA}(h:PlM w a F p):p.most.length+p.tp.length≤a.dcap:=by
 obtain⟨⟨vw,st,now,h1,h2⟩,h3⟩:=h;rcases h2.dv.2 with⟨h0,_⟩|⟨g,cap,cur,e1,_,_,h4,_⟩
 ·cases h0
 ·cases e1;exact h4
theorem qdp {a:PA}(h:PlM w a F p)(hd:p.most[d]?=some m) :
  Calls Tryz.prog 102 #[.pointer (some ⟨a.P,0,none⟩),.int .i64 d] w fun e w'=>e=.returned (.pointer (some ⟨a.DV,d*5,none⟩))∧w=w':=by
 have Ha:=(zac.1 hd).1;obtain⟨⟨vw,st,now,h1,h2⟩,h3⟩:=h;have c2:w.cell? ⟨a.P,2,none⟩=some (.slice (some ⟨a.DV,0,none⟩) (p.most.length+p.tp.length) a.dcap):=by rw[zao w _ 2 _ _ _ h1];rfl
 have d0:(0:Int)≤(d:Int):=by omega
 have d1:(d:Int)<((p.most.length+p.tp.length:Nat):Int):=by omega
 have t1:decide ((d:Int)<0)=false:=zan (by omega);have t2:decide (((p.most.length+p.tp.length:Nat):Int)≤(d:Int))=false:=zan (by omega);obtain⟨n,hn⟩:∃ n,p.most.length+p.tp.length=n:=⟨_,rfl⟩;rw[hn]at c2 d1 t2;have Hb:d<n:=by omega
 clear hn;clear h1 h2 h3 hd;go_enter Tryz.func102,Tryz.ntmps102
 go_wp2;go_ret;exact⟨rfl,rfl⟩
theorem qhn {a:PA}(h:PlM w a F p)(hd:p.most[d]?=some m) :
  Calls Tryz.prog 134 #[.pointer (some ⟨a.DV,d*5,none⟩)] w fun e w'=>e=.returned (.int .i64 m)∧w=w':=by
 obtain⟨M,_,c0,c1,_⟩:=h.dev_at hd;clear h hd;go_enter Tryz.func134,Tryz.ntmps134
 go_wp2;go_ret;exact⟨rfl,rfl⟩
section
theorem heap_setCells {g:Nat}{t:TypeId}{fr:Nat×Nat}:∀ (vs:List Value) (o:Nat) (W:World) (cs:Array Value),W.heap[g]?=some (.cells cs t fr)→o+vs.length≤cs.size→
  (W.setCells g o vs).heap[g]?=some (.cells (cs.toList.take o++vs++cs.toList.drop (o+vs.length)).toArray t fr)
 | [],o,W,cs,h,_=>by
  show W.heap[g]?=_;rw[h];simp
 | v::vs,o,W,cs,h,hl=>by
  rw[zal]at hl;rw[World.setCells,heap_setCells vs (o+1) _ _ (qac h v) (by simp;omega)];congr 3;rw[zbR];apply zcH;intro j;simp only[List.getElem?_append,zaf,zaj,List.length_set,zbx,zaR,List.getElem?_set,zaJ,zal,List.getElem?_cons];by_cases c1:j<o
  ·simp[show j<o+1 by omega,c1,show ¬o=j by omega,show j<min (o+1) cs.size by omega,show j<min o cs.size by omega,show j<min (o+1) cs.size+vs.length by omega,show j<min o cs.size+(vs.length+1) by omega]
  ·by_cases c2:j=o
   ·subst c2;simp[show j<min (j+1) cs.size by omega,show ¬j<min j cs.size by omega,show j<cs.size by omega,show j<min (j+1) cs.size+vs.length by omega,show j<min j cs.size+(vs.length+1) by omega,show j-min j cs.size=0 by omega]
   ·have e1:min (o+1) cs.size=o+1:=by omega
    have e2:min o cs.size=o:=by omega
    rw[e1,e2];by_cases c3:j<o+1+vs.length
    ·simp[show ¬j<o+1 by omega,show ¬j<o by omega,c3,show j<o+(vs.length+1) by omega,show ¬j-o=0 by omega,show j-o-1=j-(o+1) by omega]
    ·simp only[c3,zcP,show ¬j<o+(vs.length+1) by omega];rw[zaC (by omega)];congr 1;omega
theorem qbw (g:Nat):∀ (vs:List Value) (o:Nat) (W:World),W.setCells g o vs={ W with heap:=(W.setCells g o vs).heap }
 | [],_,_=>rfl
 | v::vs,o,W=>by
  rw[World.setCells];have:=qbw g vs (o+1) (W.setCell ⟨g,o,none⟩ v);rw[this];rfl
theorem qbc (g:Nat):∀ (vs:List Value) (o:Nat) (W:World),(W.setCells g o vs).heap.size=W.heap.size
 | [],_,_=>rfl
 | v::vs,o,W=>by rw[World.setCells,qbc g vs];simp
theorem qbp {P:Program}(w:World)(Z:Array Value)(t:TypeId)(vs:List Value)(hn:vs.length=Z.size)(h1:∀ v∈vs,v.oneCell'=true) :
  (storeCells ⟨w.heap.size,0,none⟩ vs).run P (w.alloc (.cells Z t))=.ok () (w.alloc (.cells vs.toArray t)):=by
 have hb:=zae w (.cells Z t);have ht:(w.alloc (.cells Z t)).there w.heap.size 0 vs.length:=fun j hj=>by
  rw[zaF,zao _ _ j _ _ _ hb,zbp (by omega)];exact⟨rfl,zbk _ _ _ _ _ hb⟩
 have hr:=run_storeCells_cells (P:=P) w.heap.size 0 vs 0 (w.alloc (.cells Z t)) (fun j hj=>by simpa only [zb8] using(ht j hj).1) (fun j hj=>by simpa only [zb8] using(ht j hj).2) h1;rw[hr];congr 1;rw[qbw];have hh:((w.alloc (.cells Z t)).setCells w.heap.size 0 vs).heap=(w.alloc (.cells vs.toArray t)).heap:=by
  apply Array.ext_getElem?;intro i;by_cases hi:i=w.heap.size
  ·subst hi;rw[heap_setCells vs 0 _ _ hb (by omega),zae];simp[hn]
  ·by_cases hl:i<w.heap.size
   ·rw[World.heap_setCells_other _ _ _ _ (by simp;omega) hi,zaW _ _ _ hl,zaW _ _ _ hl]
   ·rw[zaZ (by rw[qbc];simp;omega),zaZ (by simp;omega)]
 rw[hh];rfl
theorem qag {P:Program}{w w1:World}{ops:Array Oper}{rest:List Oper}{op:Oper}{a:Act}{Q:Exit→Act→World→Prop}(hgd:op.guard=none)(ty:TypeId)(x y:Operand)(ho:op.op=.store ty x y)
  (Z:Array Value)(t:TypeId)(hw:w=w1.alloc (.cells Z t))(hx:a.eval x=.pointer (some ⟨w1.heap.size,0,none⟩))(vs:List Value)(hy:a.eval y=.agg vs.toArray)(hi:(P.info? ty).map (·.size)=some vs.length)
  (hn:vs.length=Z.size)(h1:∀ v∈vs,v.oneCell'=true)(h:wpList P ops Q rest (a.put op.dst undef) (w1.alloc (.cells vs.toArray t))):wpList P ops Q (op::rest) a w:=by
 subst hw;refine zce hgd fun K hK=>?_;have hr:=qbp (P:=P) w1 Z t vs hn h1;have Ha:(Instr.storeAt ty (.pointer (some ⟨w1.heap.size,0,none⟩)) (.agg vs.toArray)).run P (w1.alloc (.cells Z t))=.ok () (w1.alloc (.cells vs.toArray t)):=by
  cases hq:P.info? ty with
  | none=>simp[hq]at hi
  | some i=>
   have hs:i.size=vs.length:=by simpa [hq] using hi
   simp only[Instr.storeAt,Instr.sureAddr,zbw,zbK,zaO];simp[storeVar,sizeOf,typeInfo,hq,Value.cells,hs,hr]
 unfold Oper.wp execOp;simp only[ho,hx,hy,zbw,zbK,zaO,Ha];exact hK _ _ h
theorem qbx {P:Program}{w:World}{ops:Array Oper}{o:Oper}{a:Act}{K:Act→World→Prop}{Q:Exit→Act→World→Prop}{E:Prop}(hgd:o.guard=none)(s x:Operand)(t:TypeId)
  (ho:o.op=.call { callee:=.builtin .append,args:=#[s,x],argTypes:=#[t,t] })
  (base:Nat)(e:TypeId)(i:TypeInfo)(z:Value)(size bytes:Nat)(ht:P.underlying t=some (.slice e))(hi:P.info? e=some i)(hz:i.zero=some z)
  (hsize:i.size=size)(hby:i.bytes=bytes)(hzs:z.cells.size=size)(hsz:0<size)
  (v:Value)(n:Nat)(xs:List Value)(hv:a.eval s=v)(hrow:Row w base e size v n xs)
  (A:Option Addr)(m c:Nat)(us:List Value)(hx:a.eval x=.slice A m c)(hs:Src w size A m us)(h1:∀ u∈us,u.oneCell'=true)
  (h63:n+m≤maxLen)(hb:(n+m)*bytes≤140737488355328)(hbase:base≤w.heap.size)
  (h:∀ A' cap w',Row w' base e size (.slice A' (n+m) cap) (n+m) (xs++us)→w.grownBy w' v.ownBlock→(∀ b,(Value.slice A' (n+m) cap).ownBlock=some b→v.ownBlock=some b∨(w.heap.size≤b∧b<w'.heap.size))→K (a.put o.dst (.slice A' (n+m) cap)) w') :
  if Region.wanted o (yielded ops a.tmps)=true then Oper.wp P o a w K Q else E:=by
 rw[zax (by simp[Region.wanted,hgd])];exact qaS s x t ho base e i z size bytes ht hi hz hsize hby hzs hsz v n xs hv hrow A m c us hx hs h1 h63 hb hbase h
theorem qjw {α:Type}(a b c:List α)(h:b.length=c.length):splice (a++b) a.length c=a++c:=by
 unfold splice;simp[h]
theorem qal {P:Program}{t:TypeId}{z:Value}{n b:Nat}(h:(P.info? t).map (fun i=>(i.zero,i.size,i.bytes))=some (some z,n,b)):(P.info? t).map (·.size)=some n:=by
 cases hq:P.info? t with
 | none=>rw[hq]at h;cases h
 | some i=>rw[hq]at h;simp at h;simp[h]
theorem qeD {P:Program}{md:Region.Mode}{ops:Array Oper}{Q:Exit→Act→World→Prop}{S:World→Prop}{i:Nat}{oi:Oper}(dd:Option Nat){v:Value}{fuel:Nat}{listed:Array Bool}{a:Act}{w:World}(hi:ops[i]?=some oi)(hd:oi.dst=dd)
  (hs:Region.noSelect ops=true)(hf:Region.free md ops listed i=true)(hr:(Region.ready md ops listed).contains i=true)
  (hQ:∀ c a w,Q (.panic c) (a.put dd v) w→Q (.panic c) a w)(hy:YieldsIf P ops S oi v a)(hS:S w)
  (h:wpAnyH P md ops Q S fuel (listed.setIfInBounds i true) (a.put dd v) w):wpAnyH P md ops Q S (fuel+1) listed a w:=by
 subst hd;exact wpAnyH_take hi hs hf hr hQ hy hS h
section
variable {P:Program}
theorem qjn (w:World){t e:TypeId}{i:TypeInfo}{z:Value}{n:Nat}(ht:P.underlying t=some (.slice e))(hi:P.info? e=some i)(hz:i.zero=some z)(hsize:i.size=n)(h0:0<n)(hn:n≤1048576)
  (v:Value)(cs:List Value)(hv:v.cells=cs.toArray)(hl:cs.length=n) :
  (Instr.buildSlice t 1 #[(0,v)]).run P w=.ok (.slice (some ⟨w.heap.size,0,none⟩) 1 1) (w.alloc (.cells cs.toArray e)):=by
 subst hsize;refine run_buildSlice w t e 1 _ _ i z ht hi hz (by omega) (by omega) ?_;have:=Great.fill_whole h0 [v] ((Array.range (1*i.size)).map (z.cells[· % z.cells.size]!)) (fun u hu=>by
  obtain rfl:u=v:=by simpa using hu
  rw[hv];simpa using hl) (by simp)
 simpa [hv] using this
theorem qaU {w:World}{o:Oper}{a:Act}{K:Act→World→Prop}{Q:Exit→Act→World→Prop}(t:TypeId)(x:Operand)(ho:o.op=.buildSlice t 1 #[(0,x)])
  {e:TypeId}{i:TypeInfo}{z:Value}{n:Nat}(ht:P.underlying t=some (.slice e))(hi:P.info? e=some i)(hz:i.zero=some z)(hsize:i.size=n)(h0:0<n)(hn:n≤1048576)
  (v:Value)(hx:a.eval x=v)(cs:List Value)(hv:v.cells=cs.toArray)(hl:cs.length=n)
  (h:K (a.put o.dst (.slice (some ⟨w.heap.size,0,none⟩) 1 1)) (w.alloc (.cells cs.toArray e))):o.wp P a w K Q:=by
 have hr:=qjn (P:=P) w ht hi hz hsize h0 hn v cs hv hl;unfold Oper.wp execOp;simp only[ho,zbw,zcw,zbD,zbV,hx,hr,zaO];exact h
theorem qbA {w:World}{ops:Array Oper}{rest:List Oper}{o:Oper}{a:Act}{Q:Exit→Act→World→Prop}(hgd:o.guard=none)(t:TypeId)(x:Operand)(ho:o.op=.buildSlice t 1 #[(0,x)])
  {e:TypeId}{i:TypeInfo}{z:Value}{n:Nat}(ht:P.underlying t=some (.slice e))(hi:P.info? e=some i)(hz:i.zero=some z)(hsize:i.size=n)(h0:0<n)(hn:n≤1048576)
  (v:Value)(hx:a.eval x=v)(cs:List Value)(hv:v.cells=cs.toArray)(hl:cs.length=n)
  (h:wpList P ops Q rest (a.put o.dst (.slice (some ⟨w.heap.size,0,none⟩) 1 1)) (w.alloc (.cells cs.toArray e))):wpList P ops Q (o::rest) a w:=
 zce hgd fun _ hK=>qaU t x ho ht hi hz hsize h0 hn v hx cs hv hl (hK _ _ h)
theorem qbS {w:World}{ops:Array Oper}{o:Oper}{a:Act}{K:Act→World→Prop}{Q:Exit→Act→World→Prop}{E:Prop}(hgd:o.guard=none)(t:TypeId)(x:Operand)(ho:o.op=.buildSlice t 1 #[(0,x)])
  {e:TypeId}{i:TypeInfo}{z:Value}{n:Nat}(ht:P.underlying t=some (.slice e))(hi:P.info? e=some i)(hz:i.zero=some z)(hsize:i.size=n)(h0:0<n)(hn:n≤1048576)
  (v:Value)(hx:a.eval x=v)(cs:List Value)(hv:v.cells=cs.toArray)(hl:cs.length=n)
  (h:K (a.put o.dst (.slice (some ⟨w.heap.size,0,none⟩) 1 1)) (w.alloc (.cells cs.toArray e))) :
  if Region.wanted o (yielded ops a.tmps)=true then Oper.wp P o a w K Q else E:=by
 rw[zax (by simp[Region.wanted,hgd])];exact qaU t x ho ht hi hz hsize h0 hn v hx cs hv hl h
end
theorem flat_at {α β:Type}{f:α→List β}{s:Nat}:∀ {l:List α} {j:Nat} {x:α},(∀ y∈l,(f y).length=s)→l[j]?=some x→∀ i,i<s→(l.flatMap f)[j*s+i]?=(f x)[i]?
 | [],j,x,_,h,i,hi=>by simp at h
 | y::l,0,x,hf,h,i,hi=>by
  simp at h;subst h;rw[zat,zaH (by rw[hf y (by simp)];omega)];simp
 | y::l,j+1,x,hf,h,i,hi=>by
  have hy:=hf y (by simp);rw[zat,zaz (by rw[hy,Nat.add_mul];omega),hy];have:=flat_at (l:=l) (j:=j) (x:=x) (fun z hz=>hf z (by simp[hz])) (by simpa using h) i hi;rw[←this];congr 1;rw[Nat.add_mul];omega
theorem qeC {α β:Type}{f:α→List β}{s:Nat}:∀ {l:List α},(∀ y∈l,(f y).length=s)→(l.flatMap f).length=l.length*s
 | [],_=>by simp
 | y::l,hf=>by
  rw[zat,zaf,hf y (by simp),qeC fun z hz=>hf z (by simp[hz]),zal,Nat.add_mul];omega
theorem qae {W:World}{g:Nat}{cs:Array Value}{t:TypeId}{fr:Nat×Nat}(h:W.heap[g]?=some (.cells cs t fr))(vs:List Value)(hl:vs.length=cs.size):(W.setCells g 0 vs).heap[g]?=some (.cells vs.toArray t fr):=by
 rw[heap_setCells vs 0 W cs h (by omega)];simp[hl]
theorem there_of_block {W:World}{g n:Nat}{cs:Array Value}{t:TypeId}(h:W.heap[g]?=some (.cells cs t (0,0)))(o:Nat)(hn:o+n≤cs.size):W.there g o n:=fun j hj=>by
 rw[zao W g (o+j) _ _ _ h,zbp (by omega)];exact⟨rfl,zbk _ _ _ _ _ h⟩
theorem qaB {F:Nat→Prop}{w:World}{g:Nat}(hg:F g)(o:Nat)(vs:List Value):Touch F w (w.setCells g o vs):=by
 have e:=qbw g vs o w;refine⟨by rw[e],by rw[e],by rw[e],by rw[qbc];exact zad _,fun k hk hn=>World.heap_setCells_other w g o vs hk (fun e=>hn (e▸hg))⟩
theorem below_setCells {B g:Nat}{w0 w:World}(hb:Below B w0 w)(hg:B≤g)(o:Nat)(vs:List Value):Below B w0 (w.setCells g o vs):=by
 have e:=qbw g vs o w;refine hb.trans ⟨by rw[e],by rw[e],by rw[e],by rw[qbc];exact zad _,fun k hk=>?_⟩;by_cases hk2:k<w.heap.size
 ·exact World.heap_setCells_other w g o vs hk2 (by omega)
 ·rw[zaZ (by rw[qbc];omega),zaZ (by omega)]
section
variable {P:Program}
theorem qhk {t kt et:TypeId}(ht:P.underlying t=some (.map kt et))(hk:P.underlying kt=some (.int .i64)){w:World}{B:Nat}{l:List (Int×Value)}(h:IMap w B l)(k:Int)(z:Value)(hz:(zeroValue et).run P w=.ok z w) :
  (Instr.lookup t (.map (some B)) (.int .i64 k) false).run P w=.ok (((qaV k l 0).map (·.2)).getD z) w:=by
 obtain⟨es,c,h1,h2⟩:=h;have Ha:MapKept.IsKey (.int .i64) (.int .i64 k):=rfl;have hn:=qdb k es.toList l 0 h2;cases hh:qaV k l 0 with
 | none=>
  rw[hh]at hn;simp[Instr.lookup,zaU ht,zcj h1,zct hk Ha,zcz hk hn,hz,Result.andThen]
 | some r=>
  rw[hh]at hn;simp[Instr.lookup,zaU ht,zcj h1,zct hk Ha,zcz hk hn,Result.andThen]
theorem qec {w:World}{ops:Array Oper}{rest:List Oper}{o:Oper}{a:Act}{Q:Exit→Act→World→Prop}(hgd:o.guard=none)(t:TypeId)(m k:Operand)(ok:Bool)(ho:o.op=.lookup t m k ok)
  (mv kv v:Value)(hm:a.eval m=mv)(hk:a.eval k=kv)(hr:(Instr.lookup t mv kv ok).run P w=.ok v w)
  (h:wpList P ops Q rest (a.put o.dst v) w):wpList P ops Q (o::rest) a w:=by
 refine zce hgd fun K hK=>?_;unfold Oper.wp execOp;simp only[ho,hm,hk,zbw,hr,zaO];exact hK _ _ h
end
theorem Row.max {w:World}{base:Nat}{e:TypeId}{size:Nat}{v:Value}{n:Nat}{xs:List Value}(h:Row w base e size v n xs):n≤maxLen:=by
 rcases h with h|⟨_,_,rfl,_⟩
 ·rcases h.2 with⟨_,h0⟩|⟨_,cap,_,_,_,_,h1,h2,_⟩
  ·omega
  ·omega
 ·unfold maxLen;omega
theorem qeB {P:Program}{ops:Array Oper}{w:World}{Q:Act→Prop}{a:Act}{o:Oper}{rest:List Oper}(hgd:o.guard=none)(ty:TypeId)(x:Operand)(ho:o.op=.load ty x)
  (b off:Nat)(hx:a.eval x=.pointer (some ⟨b,off,none⟩))(cs:List Value)(d:TypeDesc)(hc:w.rangeAt b off cs)
  (hu:P.underlying ty=some d)(hd:d.isRow=true)(hi:(P.info? ty).map (·.size)=some cs.length)(dd:Option Nat)(hdd:o.dst=dd)
  (h:wpStill P ops w Q rest (a.put dd (.agg cs.toArray))):wpStill P ops w Q (o::rest) a:=by
 subst hdd;refine wpStill_step fun K hK=>?_;rw[zax (by simp[Region.wanted,hgd])];unfold Oper.still execOp;simp only[ho,hx,Instr.loadAt,Instr.sureAddr,zbw,zbK,zaO,run_loadVar_mid w b off ty cs d hc hu hd hi];exact(Oper.stillUpon_value ..).mpr (hK _ h)
section
variable {P:Program}
theorem zeroCells_one {z:Array Value}(hz:z.all (·.oneCell')=true)(n:Nat):∀ v∈(Builtin.zeroCells z n).toList,v.oneCell'=true:=by
 intro v hv;unfold Builtin.zeroCells at hv;rw[Array.toList_map,zbh]at hv;obtain⟨i,hi,rfl⟩:=hv;have Ha:i<n*z.size:=by simpa using hi
 have Hb:0<z.size:=by
  rcases zcm z.size with h0|h0
  ·rw[h0]at Ha;omega
  ·exact h0
 have hm:=Nat.mod_lt i Hb;rw[getElem!_pos z _ hm];exact Array.all_eq_true_iff_forall_mem.1 hz _ (Array.getElem_mem hm)
theorem qgu (w:World)(t e ty:TypeId)(z:Value)(ht:P.underlying t=some (.slice e))(hv:∀ w,(zeroValue e).run P w=.ok z w)(h1:z.cells.all (·.oneCell')=true)(A:Option Addr)(n c:Nat)
  (g o:Nat)(cs:Array Value)(T:TypeId)(hg:w.heap[g]?=some (.cells cs T (0,0)))(hA:0<n→A=some ⟨g,o,none⟩∧o+n*z.cells.size≤cs.size) :
  ∃ w' cs',(Builtin.clear_ #[t] ty #[.slice A n c]).run P w=.ok (.tuple #[]) w'∧w'.heap[g]?=some (.cells cs' T (0,0))∧cs'.size=cs.size∧cs'.toList.take o=cs.toList.take o∧Touch (fun b=>b=g) w w':=by
 rcases zcm n with h0|h0
 ·subst h0;refine⟨w,cs,?_,hg,rfl,rfl,Touch.refl _ _⟩;cases A<;>simp[Builtin.clear_,zaU ht]
 ·obtain⟨rfl,hfit⟩:=hA h0;have hl:(Builtin.zeroCells z.cells n).toList.length=n*z.cells.size:=by rw[zbx,zcL]
  have Hb:=there_of_block hg o (n:=n*z.cells.size) hfit;have Ha:=run_storeCells_cells (P:=P) g o (Builtin.zeroCells z.cells n).toList 0 w (fun j hj=>by simpa only [zb8] using(Hb j (by omega)).1) (fun j hj=>by simpa only [zb8] using(Hb j (by omega)).2) (zeroCells_one h1 n);simp only[zb8]at Ha;obtain⟨m,rfl⟩:∃ m,n=m+1:=⟨n-1,by omega⟩;refine⟨w.setCells g o (Builtin.zeroCells z.cells (m+1)).toList,_,?_,heap_setCells _ o w cs hg (by omega),?_,?_,qaB (F:=fun b=>b=g) rfl _ _⟩
  ·simp[Builtin.clear_,zaU ht,hv,Ha]
  ·simp only[zas,zaf,zaj,zap,zbx,hl];omega
  ·rw[zah,zb1 (by simp;omega),zcK,Nat.min_self]
theorem qez {w:World}{ops:Array Oper}{rest:List Oper}{o:Oper}{a:Act}{Q:Exit→Act→World→Prop}(hgd:o.guard=none)(x:Operand)(t:TypeId)
  (ho:o.op=.call { callee:=.builtin .clear,args:=#[x],argTypes:=#[t] }){e:TypeId}{z:Value}(ht:P.underlying t=some (.slice e))(hv:∀ w,(zeroValue e).run P w=.ok z w)(h1:z.cells.all (·.oneCell')=true)
  (A:Option Addr)(n c:Nat)(hx:a.eval x=.slice A n c)(g off:Nat)(cs:Array Value)(T:TypeId)(hg:w.heap[g]?=some (.cells cs T (0,0)))(hA:0<n→A=some ⟨g,off,none⟩∧off+n*z.cells.size≤cs.size)
  (h:∀ w' cs',w'.heap[g]?=some (.cells cs' T (0,0))→cs'.size=cs.size→cs'.toList.take off=cs.toList.take off→Touch (fun b=>b=g) w w'→wpList P ops Q rest (a.put o.dst (.tuple #[])) w'):wpList P ops Q (o::rest) a w:=by
 obtain⟨w',cs',hr,k1,k2,k3,k4⟩:=qgu (P:=P) w t e o.type z ht hv h1 A n c g off cs T hg hA;refine zce hgd fun K hK=>?_;unfold Oper.wp execOp;simp only[ho,resolve,invoke,builtin,zbw,zbK,zaO,zcw,zbD,zbV,hx,hr];exact hK _ _ (h w' cs' k1 k2 k3 k4)
theorem qdA {t e:TypeId}{i:TypeInfo}{size:Nat}(ht:P.underlying t=some (.slice e))(hi:P.info? e=some i)(hsize:i.size=size)(b off n c lo:Nat)(h1:lo≤n)(h2:n≤c) :
  ∃ A:Option Addr,(lo<n→A=some ⟨b,off+lo*size,none⟩)∧∀ W,(Instr.slice t (.slice (some ⟨b,off,none⟩) n c) (some (.int .i64 (lo:Int))) none none).run P W=.ok (.slice A (n-lo) (c-lo)) W:=by
 by_cases hc:c=lo
 ·refine⟨some ⟨b,off,none⟩,fun h=>by omega,fun W=>?_⟩;have e1:(lo:Int)≤(n:Int):=by omega
  subst hc;simp[Instr.slice,Instr.sliceBounds,Instr.sliceBound,asIntOf,zaU ht,sizeOf,typeInfo,hi,hsize,go_sem];intro h;omega
 ·refine⟨some ⟨b,off+lo*size,none⟩,fun _=>rfl,fun W=>?_⟩;have e1:(lo:Int)≤(n:Int):=by omega
  simp[Instr.slice,Instr.sliceBounds,Instr.sliceBound,asIntOf,zaU ht,sizeOf,typeInfo,hi,hsize,hc,go_sem];intro h;omega
end
end
end Go.Proofs.YtfcknhbmeofniaaGreatDoor
namespace Go.Proofs.YtfcknhbmeofniaaGreatDoor
open Go.RowKit
variable {P:Program}{ops:Array Oper}{Q:Exit→Act→World→Prop}{oi:Oper}{f:Nat}{a:Act}{w:World}
theorem zS:(∀ (t:Array Value) (ds) (d:Nat) (v:Value),Act.put ⟨t,ds⟩ (some d) v=⟨t.setIfInBounds d v,ds⟩)∧(∀ (a:Act) (v:Value),Act.put a none v=a)∧(∀ (α:Type) (l:List α) (i:Nat) (v:α),l.toArray.setIfInBounds i v=(l.set i v).toArray)∧
  (∀ (α:Type) (x y:α) (l:List α),(x::l).set 0 y=y::l)∧(∀ (α:Type) (x y:α) (l:List α) (n:Nat),(x::l).set (n+1) y=x::l.set n y):=
 ⟨fun _ _ _ _=>rfl,fun _ _=>rfl,fun _ l i v=>List.setIfInBounds_toArray ..,fun _ _ _ _=>rfl,fun _ _ _ _ _=>rfl⟩
theorem zT {md:Region.Mode}{S:World→Prop}{l:Array Bool}(i d:Nat)(v:Value)(hi:ops[i]?=some oi)(hy:YieldsIf P ops S oi v a)
  (h:wpAnyH P md ops Q S f (l.setIfInBounds i true) (a.put (some d) v) w)
  (hd:oi.dst=some d:=by rfl)(hs:Region.noSelect ops=true:=by kernel_rfl)(hf:Region.free md ops l i=true:=by kernel_rfl)(hr:(Region.ready md ops l).contains i=true:=by kernel_rfl)
  (hQ:∀ c a w,Q (.panic c) (a.put (some d) v) w→Q (.panic c) a w:=by exact fun _ _ _ h=>h)(hS:S w:=by assumption):wpAnyH P md ops Q S (f+1) l a w:=
 qeD (some d) hi hd hs hf hr hQ hy hS h
theorem zU {md:Region.Mode}{S:World→Prop}{l:Array Bool}(i d:Nat)(v:Value)
  (h:wpAnyH P md ops Q S f (l.setIfInBounds i true) (a.put (some d) v) w)(hi:ops[i]?=some oi:=by rfl)
  (hd:oi.dst=some d:=by rfl)(hs:Region.noSelect ops=true:=by kernel_rfl)(hf:Region.free md ops l i=true:=by kernel_rfl)(hr:(Region.ready md ops l).contains i=true:=by kernel_rfl)
  (hQ:∀ c a w,Q (.panic c) (a.put (some d) v) w→Q (.panic c) a w:=by exact fun _ _ _ h=>h)(hy:YieldsIf P ops S oi v a:=by exact Or.inl ⟨by rfl,fun W hS=>by go_simp⟩)(hS:S w:=by assumption):wpAnyH P md ops Q S (f+1) l a w:=
 qeD (some d) hi hd hs hf hr hQ hy hS h
theorem zV {md:Region.Mode}{S:World→Prop}{l:Array Bool}(i d:Nat)(v:Value)
  (h:wpAnyH P md ops Q S f (l.setIfInBounds i true) (a.put (some d) v) w)(hi:ops[i]?=some oi:=by rfl)
  (hd:oi.dst=some d:=by rfl)(hs:Region.noSelect ops=true:=by kernel_rfl)(hf:Region.free md ops l i=true:=by kernel_rfl)(hr:(Region.ready md ops l).contains i=true:=by kernel_rfl)
  (hQ:∀ c a w,Q (.panic c) (a.put (some d) v) w→Q (.panic c) a w:=by exact fun _ _ _ h=>h)(hy:YieldsIf P ops S oi v a:=by exact Or.inl ⟨by rfl,fun W hS=>by clear hS;go_simp⟩)(hS:S w:=by assumption):wpAnyH P md ops Q S (f+1) l a w:=
 qeD (some d) hi hd hs hf hr hQ hy hS h
end Go.Proofs.YtfcknhbmeofniaaGreatDoor
