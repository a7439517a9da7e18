/- Texts MgMemB MgA. -/
import Derived.Test.YtpmebcgmgfcmiaaGreatDoorQ20
set_option linter.all false
set_option maxRecDepth 100000
set_option maxHeartbeats 16000000
namespace Go.Proofs.YtpmebcgmgfcmiaaGreatDoor
open Go.RowKit BT Go.Lib
section
theorem TrB.touch {w w':World}{B:Nat}{a:PA}{G d T:Nat}{F:Nat→Prop}{p:Pl}{g:Pg}{root1:Nat}(h:TrB w B a G d T F p g root1){M:Nat→Prop}(ht:Touch M w w')(hM:∀ b,M b→B≤b):TrB w' B a G d T F p g root1:=by
 refine⟨⟨h.tr.pg.touch ht (fun b hb e=>?_) (fun e=>?_),(ht.block T h.tr.lt (fun e=>?_)).trans h.tr.t,h.tr.nT⟩,h.hF,h.hG,h.hT,h.h1⟩
 ·have:=hM b e;rcases hb with hb|hb
  ·have:=h.hF b hb;omega
  ·have:=h.hG;omega
 ·have:=hM 1 e;have:=h.h1;omega
 ·have:=hM T e;have:=h.hT;omega
section
variable {w w':World} {B W T:Nat} {mv:Value} {met:List Nat} {N:Nat} {k:Value} {vk:List Value} {v x:Value} {vs:List Kv} {ks:List Bs} {xs:List Kd} {L:List (Nat×Nat)} {S:Nat→Prop}
theorem MgI.low (h:MgI w B W T mv met N k vk v x vs ks xs L S):∀ b,MS W mv N k v x b→B≤b:=fun b hb=>by
 rcases hb with(hb|hb)|(hb|hb|hb|hb)
 ·rw[hb];exact h.wk.lo
 ·exact(h.wk.own.blk b hb).1
 ·rw[hb];exact h.q.lo
 ·exact(h.q.ko.blk b hb).1
 ·exact(h.q.vo.blk b hb).1
 ·exact(h.q.xo.blk b hb).1
theorem MgI.lts (h:MgI w B W T mv met N k vk v x vs ks xs L S):∀ b,MS W mv N k v x b→b<w.heap.size:=fun b hb=>by
 rcases hb with(hb|hb)|hb
 ·rw[hb];exact h.wk.lt
 ·exact(h.wk.own.blk b hb).2
 ·exact h.nbLt b hb
theorem MgI.below (h:MgI w B W T mv met N k vk v x vs ks xs L S)(hb:Below w.heap.size w w'):MgI w' B W T mv met N k vk v x vs ks xs L (Grow S (MS W mv N k v x) w w')∧EvM (MS W mv N k v x) (MS W mv N k v x) w w':=
 h.walk (Ev.below hb) (h.wk.below hb)
theorem MgI.fresh (h:MgI w B W T mv met N k vk v x vs ks xs L S):∀ b,Fr S w w' b→Grow S (MS W mv N k v x) w w' b:=fun b hb=>by
 rcases hb with hb|hb
 ·exact .inl hb
 ·exact .inr ⟨hb.1,hb.2,fun hm=>by have:=h.lts b hm;omega⟩
theorem MgI.freshN {mv':Value}(h:MgI w B W T mv met N k vk v x vs ks xs L S):∀ b,(S b∨FrN W mv' w w' b)→Grow S (MS W mv' N k v x) w w' b:=fun b hb=>by
 rcases hb with hb|⟨h1,h2,h3,h4⟩
 ·exact .inl hb
 ·refine .inr ⟨h1,h2,fun hm=>?_⟩;rcases hm with(hm|hm)|hm
  ·exact h3 hm
  ·exact h4 hm
  ·have:=h.nbLt b hm;omega
theorem MgI.wkTouch (h:MgI w B W T mv met N k vk v x vs ks xs L S)(ht:Touch (NB N k v x) w w'):WkM w' B W T mv met 0:=
 ⟨(ht.block W h.wk.lt (h.ap W (.inl rfl))).trans h.wk.nd,h.wk.lo,h.wk.own.touch ht (fun b hb=>h.ap b (.inr hb)),h.wk.mW⟩
theorem MgI.setX (h:MgI w B W T mv met N k vk v x vs ks xs L S){w1:World}{x':Value}{xs':List Kd}{vs':List Kv}{L':List (Nat×Nat)}{S':Nat→Prop}(ho:Own w1 B 102 2 x' xs'.length (vs'.flatMap qaI))(hu:Upd w w1 x x')
  (hS':∀ b,S' b→S b)(hkm:KM w S' xs' vs' L')(hSS:∀ b,S b→S' b) :
  MgI (w1.setCell ⟨N,3,none⟩ x') B W T mv met N k vk v x' vs' ks xs' L' (Grow S (MS W mv N k v x') w (w1.setCell ⟨N,3,none⟩ x'))∧EvM (MS W mv N k v x) (MS W mv N k v x') w (w1.setCell ⟨N,3,none⟩ x'):=by
 have hq:=(h.q.updX ho hu).st3 x';have hT:Touch (NB N k v x) w (w1.setCell ⟨N,3,none⟩ x'):=(hu.touch.mono (fun b _ hb=>.inr (.inr (.inr hb)))).setCell (p:=⟨N,3,none⟩) (.inl rfl) x';have Ha:(w1.setCell ⟨N,3,none⟩ x').heap.size=w1.heap.size:=by simp
 have hE:EvM (MS W mv N k v x) (MS W mv N k v x') w (w1.setCell ⟨N,3,none⟩ x'):=⟨hT.mono (fun b _ hb=>.inr hb),fun b hb=>by
  rcases hb with hb|hb|hb|hb|hb
  ·exact .inl (.inl hb)
  ·exact .inl (.inr (.inl hb))
  ·exact .inl (.inr (.inr (.inl hb)))
  ·exact .inl (.inr (.inr (.inr (.inl hb))))
  ·rcases hu.own b hb with h1|h1
   ·exact .inl (.inr (.inr (.inr (.inr h1))))
   ·exact .inr (by rw[Ha];exact h1)⟩
 refine⟨⟨h.wkTouch hT,hq,h.rk.evm h.so hE,?_,h.so.grow hE,fun b hm hb=>?_⟩,hE⟩
 ·exact KM.mono (fun b hb=>.inl (hS' b hb)) _ _ _ (hkm.touch hE.touch (fun b hb=>h.so.ap b (hS' b hb)))
 ·have Hb:b<w.heap.size:=h.lts b (.inl hm);have:=hSS;rcases hb with hb|hb|hb|hb
  ·exact h.ap b hm (.inl hb)
  ·exact h.ap b hm (.inr (.inl hb))
  ·exact h.ap b hm (.inr (.inr (.inl hb)))
  ·rcases hu.own b hb with h1|h1
   ·exact h.ap b hm (.inr (.inr (.inr h1)))
   ·omega
theorem MgI.setK (h:MgI w B W T mv met N k vk v x vs ks xs L S){w1:World}{k':Value}{ks':List Bs}{vk':List Value}(ho:Own w1 B 34 1 k' ks'.length vk')(hu:Upd w w1 k k')(hr:RowV w S vk' ks') :
  MgI (w1.setCell ⟨N,1,none⟩ k') B W T mv met N k' vk' v x vs ks' xs L (Grow S (MS W mv N k' v x) w (w1.setCell ⟨N,1,none⟩ k'))∧EvM (MS W mv N k v x) (MS W mv N k' v x) w (w1.setCell ⟨N,1,none⟩ k'):=by
 have hq:=(h.q.updK ho hu).st1 k';have hT:Touch (NB N k v x) w (w1.setCell ⟨N,1,none⟩ k'):=(hu.touch.mono (fun b _ hb=>.inr (.inl hb))).setCell (p:=⟨N,1,none⟩) (.inl rfl) k';have Ha:(w1.setCell ⟨N,1,none⟩ k').heap.size=w1.heap.size:=by simp
 have hE:EvM (MS W mv N k v x) (MS W mv N k' v x) w (w1.setCell ⟨N,1,none⟩ k'):=⟨hT.mono (fun b _ hb=>.inr hb),fun b hb=>by
  rcases hb with hb|hb|hb|hb|hb
  ·exact .inl (.inl hb)
  ·exact .inl (.inr (.inl hb))
  ·rcases hu.own b hb with h1|h1
   ·exact .inl (.inr (.inr (.inl h1)))
   ·exact .inr (by rw[Ha];exact h1)
  ·exact .inl (.inr (.inr (.inr (.inl hb))))
  ·exact .inl (.inr (.inr (.inr (.inr hb))))⟩
 refine⟨⟨h.wkTouch hT,hq,hr.evm h.so hE,h.km.evm h.so hE,h.so.grow hE,fun b hm hb=>?_⟩,hE⟩;have Hb:b<w.heap.size:=h.lts b (.inl hm);rcases hb with hb|hb|hb|hb
 ·exact h.ap b hm (.inl hb)
 ·rcases hu.own b hb with h1|h1
  ·exact h.ap b hm (.inr (.inl h1))
  ·omega
 ·exact h.ap b hm (.inr (.inr (.inl hb)))
 ·exact h.ap b hm (.inr (.inr (.inr hb)))
end
theorem qgF {W:World}{b off:Nat}{v:Kv}(h0:W.cell? ⟨b,off,none⟩=some (.int .i64 v.1))(h1:W.cell? ⟨b,off+1,none⟩=some (.pointer (v.2.map fun N=>⟨N,0,none⟩))):(loadVar 102 ⟨b,off,none⟩).run Tryz.prog W=.ok (kidV v) W:=
 run_loadVar_mid W b off 102 [.int .i64 v.1,.pointer (v.2.map fun N=>⟨N,0,none⟩)] _ (fun j u hu=>by
  match j,hu with
  | 0,hu=>simp at hu;rw[zbX,h0,hu]
  | 1,hu=>simp at hu;rw[h1,hu]
  | j+2,hu=>simp at hu) Tryz.underlying102 rfl (by kernel_rfl)
end
variable {w w':World}{S:Nat→Prop}{k:Bs}{D:Dsk}{met:List Nat}{y x:Kd}{vs:List Kv}{j B W T N:Nat}{v:Kv}{mv:Value}{vk:List Value}{ks:List Bs}{xs:List Kd}
def qjq:Kd→Bool
 | .leaf _=>true
 | _=>false
theorem qia {na nb:Kd}{Na Nb:Nat}{La Lb:List (Nat×Nat)}(ha:NM w S na Na La)(hb:NM w S nb Nb Lb){M:Option Addr}{c:Nat}(hM:ByS w S M k)(hc:k.length≤c)(hk:k.length≤1000)(hl:qjq na=qjq nb)(sa:nsize na≤500)(sb:nsize nb≤500) :
  Calls Tryz.prog 100 #[.pointer (some ⟨Na,0,none⟩),.pointer (some ⟨Nb,0,none⟩),.slice M k.length c] w (JoF S na k nb (La++Lb) w):=by
 cases na with
 | page p=>simp only[NM]at ha
 | leaf p=>
  cases nb with
  | page p=>simp only[NM]at hb
  | inner ks xs=>cases hl
  | leaf q=>
   have h1:La=[]:=by simp only[NM]at ha;exact ha.1
   have h2:Lb=[]:=by simp only[NM]at hb;exact hb.1
   subst h1 h2;have p1:=qaN (p.map Prod.fst);have p2:=qbE p;have q1:=qaN (q.map Prod.fst);have q2:=qbE q;rw[zaE]at p1 q1;simp only[nsize]at sa sb;exact qib ha hb (by omega) (by omega) (by omega)
 | inner ks xs=>
  cases nb with
  | page p=>simp only[NM]at hb
  | leaf q=>cases hl
  | inner ls ys=>
   have p1:=qaN ks;have q1:=qaN ls;simp only[nsize]at sa sb;exact qhj ha hb hM hc (by omega) (by omega) (by omega) (by omega) (by omega)
def Hom (D:Dsk)(lf:Bool)(xs:List Kd):Prop:=∀ y∈xs,∃ n,nd D y=some n∧qjq n=lf∧nsize n≤500
theorem qiT {n:Kd}(h:qb1 D met y=some n):nd D y=some n:=by
 cases y with
 | page p=>
  have h2:(if p∈met then none else D p)=some n:=h;by_cases hm:p∈met
  ·rw[zaw hm]at h2;cases h2
  ·rw[zaB hm]at h2;exact h2
 | leaf ps=>exact h
 | inner ks xs=>exact h
theorem qkb {a b:Kd}(h:join a k b=some x):qjq x=qjq a∧nsize x≤500∧isPage x=false:=by
 unfold join at h;split at h
 ·split at h
  ·cases h;exact⟨rfl,by assumption,rfl⟩
  ·cases h
 ·split at h
  ·cases h;exact⟨rfl,by assumption,rfl⟩
  ·cases h
 ·cases h
theorem qmx (h:isPage x=false):nd D x=some x:=by
 cases x with
 | page p=>cases h
 | leaf ps=>rfl
 | inner ks xs=>rfl
theorem qbm (h:vs[j]?=some v):(vs.flatMap qaI)[j*2]?=some (.int .i64 v.1):=by
 have:=qb8 (f:=qaI) (s:=2) (fun _ _=>rfl) h 0 (by omega);simpa [qaI] using this
theorem qbn (h:vs[j]?=some v):(vs.flatMap qaI)[j*2+1]?=some (.pointer (v.2.map fun N=>⟨N,0,none⟩)):=by
 have:=qb8 (f:=qaI) (s:=2) (fun _ _=>rfl) h 1 (by omega);simpa [qaI] using this
theorem KidM.evm {M M':Nat→Prop}{L:List (Nat×Nat)}(h:KidM w S y v L)(hs:SOk S M w)(he:EvM M M' w w'):KidM w' (Grow S M' w w') y v L:=
 (h.touch he.touch hs.ap).mono fun _ h=>.inl h
theorem MgI.keepN {mv':Value}{k:Value}{v x:Value}{L:List (Nat×Nat)}(h:MgI w B W T mv met N k vk v x vs ks xs L S)(he:Ev W mv mv' w w')(b i:Nat)(hb:NB N k v x b):w'.cell? ⟨b,i,none⟩=w.cell? ⟨b,i,none⟩:=
 qag he.touch (h.nbLt b hb) (fun hm=>h.ap b hm hb)
theorem Slo.base {C:Nat}{L M:List (Nat×Nat)}(h:Slo C L M)(hb:B≤C):Slo B L M:=⟨fun y hy=>(h.mem y hy).imp id (fun h=>by omega),h.nd⟩
theorem qke {L:List (Nat×Nat)}(h:KidM w S y v L):∀ z∈L,z.1<w.heap.size:=by
 rcases h with⟨p,_,_,rfl⟩|⟨N,_,h⟩
 ·simp
 ·exact NM.lts _ _ _ h
theorem qfW (vs:List Kv)(j:Nat):(vs.flatMap qaI).take (j*2)=(vs.take j).flatMap qaI:=by
 induction vs generalizing j with
 | nil=>simp
 | cons v vs ih=>
  cases j with
  | zero=>simp
  | succ j=>
   rw[zaq,zbn,zaq,←ih,show(j+1)*2=(qaI v).length+j*2 by rw[qbw];omega,List.take_length_add_append]
theorem qfV (vs:List Kv)(j:Nat):(vs.flatMap qaI).drop (j*2)=(vs.drop j).flatMap qaI:=by
 induction vs generalizing j with
 | nil=>simp
 | cons v vs ih=>
  cases j with
  | zero=>simp
  | succ j=>
   rw[zaq,zbQ,←ih,show(j+1)*2=(qaI v).length+j*2 by rw[qbw];omega,List.drop_length_add_append]
theorem qcq {S1 M1 M2:Nat→Prop}{w1 w2:World}(h:∀ b,S1 b→Grow S M1 w w1 b)(he:EvM M1 M2 w1 w2)(hs:w.heap.size≤w1.heap.size):∀ b,Grow S1 M2 w1 w2 b→Grow S M2 w w2 b:=fun b hb=>
 Grow.trans hs he b (hb.imp (h b) id)
def MgF (S:Nat→Prop)(B W T:Nat)(mv:Value)(N:Nat)(k v x:Value)(ks2:List Bs)(xs2:List Kd)(met2:List Nat)(L:List (Nat×Nat))(w:World)(e:Ending)(w':World):Prop:=
 ∃ mv' k' vk' x' vs' L' S',e=.returned (.tuple #[])∧MgI w' B W T mv' met2 N k' vk' v x' vs' ks2 xs2 L' S'∧EvM (MS W mv N k v x) (MS W mv' N k' v x') w w'∧(∀ b,S' b→Grow S (MS W mv' N k' v x') w w' b)∧Slo w.heap.size L L'∧∀ b,NB N k' v x' b→NB N k v x b∨w.heap.size≤b
def qdg (w:World)(N:Nat):Nat:=match w.cell? ⟨N,3,none⟩with
 | some (.slice _ n _)=>n
 | _=>0
structure MgL (S:Nat→Prop) (B W T:Nat) (mv:Value) (N:Nat) (k v x:Value) (D:Dsk) (lf:Bool) (tq bd:Nat) (ks2:List Bs) (xs2:List Kd) (met2:List Nat) (L:List (Nat×Nat)) (w wr:World) (j:Nat)
  (f:Nat) (mv' k':Value) (vk':List Value) (x':Value) (vs':List Kv) (L':List (Nat×Nat)) (S':Nat→Prop) (ks':List Bs) (xs':List Kd) (met':List Nat):Prop where
 mg:qbL D f j tq ks' xs' met'=some (ks2,xs2,met2)
 hf:xs'.length<f+j
 hj:j≤1000
 i:MgI wr B W T mv' met' N k' vk' v x' vs' ks' xs' L' S'
 ev:EvM (MS W mv N k v x) (MS W mv' N k' v x') w wr
 gr:∀ b,S' b→Grow S (MS W mv' N k' v x') w wr b
 sl:Slo w.heap.size L L'
 hom:Hom D lf xs'
 kl:∀ q∈ks',q.length≤1000
 bd:met'.length+2*xs'.length≤bd
 kx:ks'.length≤500
 nb:∀ b,NB N k' v x' b→NB N k v x b∨w.heap.size≤b
theorem qjs {a:PA}{G d:Nat}{F:Nat→Prop}{p:Pl}{g:Pg}{root1:Nat}(ht:TrB w B a G d T F p g root1)(hB:B≤w.heap.size)(hoff:p.off=false){k v x:Value}{L:List (Nat×Nat)}(hi:MgI w B W T mv met N k vk v x vs ks xs L S)
  {lf:Bool}{i at_ tq f:Nat}(hat:at_=i-1)(hto:tq=i+1)(hib:i≤500){ks2:List Bs}{xs2:List Kd}{met2:List Nat}(hm:qbL (qah (p.seen d) g.pages g.use) f at_ tq ks xs met=some (ks2,xs2,met2))(hff:xs.length<f+at_)(hom:Hom (qah (p.seen d) g.pages g.use) lf xs)(hkl:∀ q∈ks,q.length≤1000)(hbd:met.length+2*xs.length≤1000)(hkx:ks.length≤500) :
  Calls Tryz.prog 76 #[.pointer (some ⟨W,0,none⟩),.pointer (some ⟨N,0,none⟩),.int .i64 (i:Nat)] w (MgF S B W T mv N k v x ks2 xs2 met2 L w):=by
 obtain⟨D,hD⟩:∃ D,qah (p.seen d) g.pages g.use=D:=⟨_,rfl⟩;have HD:=zH hD;rw[hD]at hm hom;have HT:=zH ht;have HI:=zH hi;have HP:=zH (show MgL S B W T mv N k v x D lf tq 1000 ks2 xs2 met2 L w w at_ f mv k vk x vs L S ks xs met from⟨hm,hff,by omega,hi,EvM.refl _ _,fun b h=>.inl h,Slo.refl _ _,hom,hkl,hbd,hkx,fun _ h=>.inl h⟩);clear ht hi hm hff hom hkl hbd hkx hD;have kB:IntKind.i64.wrap ((i:Int)-1)=(i:Int)-1:=zaJ _ (by omega);have ky:max (0:Int) ((i:Int)-1)=(at_:Int):=by omega
 have kC:IntKind.i64.wrap ((i:Int)+1)=(tq:Int):=by rw[zaJ _ (by omega)];omega
 go_enter Tryz.func76,Tryz.ntmps76
 go_wp2;go_loopw [6] (fun s6 wr=>∃ (j f:Nat) (mv' k':Value) (vk':List Value) (x':Value) (vs':List Kv) (L':List (Nat×Nat)) (S':Nat→Prop) (ks':List Bs) (xs':List Kd) (met':List Nat),s6=.int .i64 j∧MgL S B W T mv N k v x D lf tq 1000 ks2 xs2 met2 L w wr j f mv' k' vk' x' vs' L' S' ks' xs' met') (fun s6 wr=>qdg wr N-(RowKit.intOf s6).toNat)
 case atStart=>exact⟨at_,f,mv,k,vk,x,vs,L,S,ks,xs,met,by rw[hat],HP.o⟩
 case round=>
  rename World=>wr;obtain⟨j,f1,mv1,k1,vk1,x1,vs1,L1,S1,ks1,xs1,met1,rfl,hP⟩:=hrel;obtain⟨nx,hnx⟩:∃ n,xs1.length=n:=⟨_,rfl⟩;obtain⟨nk,hnk⟩:∃ n,ks1.length=n:=⟨_,rfl⟩;have Hc:=zH hnx;have Hq:=zH hnk;obtain⟨K,ck,hk1,hkc⟩:=hP.i.q.ko.slice;obtain⟨X,cx,hx1,hxc⟩:=hP.i.q.xo.slice;rw[hnk]at hk1 hkc;rw[hnx]at hx1 hxc;subst hk1 hx1;have HQ:=zH hP;clear hP;have KD:=HQ.o.i.q.c3';have kr:=HQ.o.i.q.c1';have hd:qdg wr N=nx:=by unfold qdg;rw[KD]
  have K1:nx≤500:=by have:=HQ.o.bd;have:=Hc.o;omega
  have h9:=HQ.o.hj;have kf:IntKind.i64.wrap ((j:Int)+1)=((j+1:Nat):Int):=by rw[zaJ _ (by omega)];omega
  by_cases hlt:j+1<nx∧j≤tq
  ·obtain⟨hlt1,hlt2⟩:=hlt;obtain⟨f2,rfl⟩:∃ f2,f1=f2+1:=⟨f1-1,by have:=HQ.o.hf;have:=Hc.o;omega⟩;have He:=HQ.o.mg;unfold qbL at He;rw[zaw (by rw[Hc.o];exact⟨hlt1,hlt2⟩)]at He;obtain⟨ya,hya⟩:∃ y,xs1[j]?=some y:=⟨_,zaa (by have:=Hc.o;omega)⟩;obtain⟨yb,hyb⟩:∃ y,xs1[j+1]?=some y:=⟨_,zaa (by have:=Hc.o;omega)⟩;rw[hya,hyb]at He;obtain⟨key,hky⟩:∃ y,ks1[j]?=some y:=by
    cases h:ks1[j]? with
    | none=>rw[h]at He;cases He
    | some q=>exact⟨q,rfl⟩
   rw[hky]at He;obtain⟨na,hna⟩:∃ y,qb1 D met1 ya=some y:=by
    cases h:qb1 D met1 ya with
    | none=>simp only[h]at He;cases He
    | some q=>exact⟨q,rfl⟩
   obtain⟨nb,hnb⟩:∃ y,qb1 D met1 yb=some y:=by
    cases h:qb1 D met1 yb with
    | none=>simp only[hna,h]at He;cases He
    | some q=>exact⟨q,rfl⟩
   simp only[hna,hnb]at He;have Hr:xs1.drop j=ya::yb::xs1.drop (j+2):=by
    rw[zcU (by have:=Hc.o;omega),zcU (by have:=Hc.o;omega)];rw[(zae.1 hya).2,(zae.1 hyb).2]
   obtain⟨LP,LQ,hL,hkm1,hkm2⟩:=qdy j HQ.o.i.km;rw[Hr]at hkm2;obtain⟨va,r1,La,LQ2,hva,rfl,hkm3,hka⟩:=km_cons.1 hkm2;obtain⟨vb,r2,Lb,LR,rfl,rfl,hkm4,hkb⟩:=km_cons.1 hkm3;have Kg:vs1[j]?=some va:=by
    have:=congrArg (fun l=>l[0]?) hva;simpa [zaK] using this
   have HF:vs1[j+1]?=some vb:=by
    have:=congrArg (fun l=>l[1]?) hva;simpa [zaK] using this
   have KG:vs1.drop (j+2)=r2:=by
    have:=congrArg (List.drop 2) hva;rw[zcF]at this;simpa using this
   obtain⟨xb,xo,rfl,_,hxat⟩:=(show SrcS wr (fun _=>True) 2 X nx (vs1.flatMap qaI)by have h:=HQ.o.i.q.xo;rw[Hc.o]at h;exact h.srcS (fun _ _=>trivial)).at_ (by omega);obtain⟨oa,hoa⟩:∃ o,xo+j*2=o:=⟨_,rfl⟩;obtain⟨ob,hob⟩:∃ o,xo+(j+1)*2=o:=⟨_,rfl⟩;have KS:=zH (show wr.cell? ⟨N,3,none⟩=some (.slice (some ⟨xb,xo,none⟩) nx cx)∧wr.cell? ⟨xb,oa,none⟩=some (.int .i64 va.1)∧wr.cell? ⟨xb,oa+1,none⟩=some (.pointer (va.2.map fun N=>⟨N,0,none⟩))∧wr.cell? ⟨xb,ob,none⟩=some (.int .i64 vb.1)∧wr.cell? ⟨xb,ob+1,none⟩=some (.pointer (vb.2.map fun N=>⟨N,0,none⟩))from
    ⟨KD,by rw[←hoa];exact hxat _ _ (qbm Kg),by rw[←hoa,zbV];exact hxat _ _ (qbn Kg),by rw[←hob];exact hxat _ _ (qbm HF),by rw[←hob,zbV];exact hxat _ _ (qbn HF)⟩)
   have Ha:NB N (.slice K nk ck) v (.slice (some ⟨xb,xo,none⟩) nx cx) xb:=.inr (.inr (.inr rfl));have hO:=zH He;have HX:=zH hkm1;have HY:=zH hkm4;have hH:=zH hka;have hI:=zH hkb;have Km:=zH hna;have Kn:=zH hnb;have KT:=zH hya;have KU:=zH hyb;have ho:=zH hky;have KK:=zH hL;have KN:=zH KG;have kd:xo+2*j=oa:=by omega
   have Kf:xo+2*(j+1)=ob:=by omega
   have kw:(j:Int)<(nx:Int):=by omega
   have Ka:((j+1:Nat):Int)<(nx:Int):=by omega
   have K7:¬((nx:Int)≤(j:Int)):=by omega
   have Kb:¬((nx:Int)≤((j+1:Nat):Int)):=by omega
   have K8:j<nx:=by omega
   obtain⟨j1,hj1⟩:∃ q,j+1=q:=⟨_,rfl⟩;rw[hj1]at kf hlt1 hob Kf Ka Kb;have Hw:=zH hj1;clear He hkm1 hkm2 hkm3 hkm4 hka hkb hna hnb hya hyb hky hL KG hva Kg HF Hr hxat;have kt:decide ((j:Int)≤(i:Int)+1)=true:=zas (by omega);have K2:(j:Int)≤(i:Int)+1:=by omega
   go_upto_region 2 with fail
   have KZ:∀ b,S1 b→¬MW W mv1 b:=fun b hb hm=>HQ.o.i.so.ap b hb (.inl hm);have kp:B≤wr.heap.size:=zah hB HQ.o.ev.touch.size;have H9:Below wr.heap.size wr wr.drew:=(zai _ _).drew;have KR:=zH (HT.o.touch HQ.o.ev.touch (fun b hb=>HI.o.low b hb));have I0:=HQ.o.i.below H9;have Hh:=zH I0.1;have HK:=zH (HQ.o.ev.trans I0.2);have HN:=zH (qcq HQ.o.gr I0.2 HQ.o.ev.touch.size);have hX:=zH (KR.o.ev HQ.o.i.wk (Ev.below H9));have HV:=zH ((hH.o.below H9).mono (fun b h=>Or.inl (b:=wr.heap.size≤b∧b<wr.drew.heap.size∧¬MS W mv1 N (.slice K nk ck) v (.slice (some ⟨xb,xo,none⟩) nx cx) b) h));have Kw:=zH (show wr.heap.size≤wr.drew.heap.size from H9.size);have Hx:=zH (show KM wr.drew (Grow S1 (MS W mv1 N (.slice K nk ck) v (.slice (some ⟨xb,xo,none⟩) nx cx)) wr wr.drew) (xs1.take j) (vs1.take j) LP∧KM wr.drew (Grow S1 (MS W mv1 N (.slice K nk ck) v (.slice (some ⟨xb,xo,none⟩) nx cx)) wr wr.drew) (xs1.drop (j+2)) r2 LR from⟨HX.o.evm HQ.o.i.so I0.2,HY.o.evm HQ.o.i.so I0.2⟩);have HW:=zH ((hI.o.below H9).mono (fun b h=>Or.inl (b:=wr.heap.size≤b∧b<wr.drew.heap.size∧¬MS W mv1 N (.slice K nk ck) v (.slice (some ⟨xb,xo,none⟩) nx cx) b) h));have Hb:=zH (show wr.drew.cell? ⟨N,3,none⟩=some (.slice (some ⟨xb,xo,none⟩) nx cx)∧wr.drew.cell? ⟨xb,oa,none⟩=some (.int .i64 va.1)∧wr.drew.cell? ⟨xb,oa+1,none⟩=some (.pointer (va.2.map fun N=>⟨N,0,none⟩))∧wr.drew.cell? ⟨xb,ob,none⟩=some (.int .i64 vb.1)∧wr.drew.cell? ⟨xb,ob+1,none⟩=some (.pointer (vb.2.map fun N=>⟨N,0,none⟩))from KS.o)
   refine qac (S:=fun W'=>W'.cell? ⟨N,3,none⟩=some (.slice (some ⟨xb,xo,none⟩) nx cx)∧W'.cell? ⟨xb,oa,none⟩=some (.int .i64 va.1)∧W'.cell? ⟨xb,oa+1,none⟩=some (.pointer (va.2.map fun N=>⟨N,0,none⟩))∧W'.cell? ⟨xb,ob,none⟩=some (.int .i64 vb.1)∧W'.cell? ⟨xb,ob+1,none⟩=some (.pointer (vb.2.map fun N=>⟨N,0,none⟩))) [] (by kernel_rfl) Hb.o (fun _=>?_);generalize wr.drew=W0 at Hb Hh HK hX HV HW HN Kw Hx⊢;refine zP 0 28 (.pointer (some ⟨W,0,none⟩)) Hb.o ?_;try simp only[zS]
   refine zP 1 29 (.pointer (some ⟨N,0,none⟩)) Hb.o ?_;try simp only[zS]
   refine zP 2 30 (.pointer (some ⟨N,0,none⟩)) Hb.o ?_;try simp only[zS]
   refine zP 3 31 (.pointer (some ⟨N,3,none⟩)) Hb.o ?_;try simp only[zS]
   refine zL 4 32 (.slice (some ⟨xb,xo,none⟩) nx cx) rfl (Or.inl ⟨by rfl,fun W' hS=>by obtain⟨hS1,hS2,hS3,hS4,hS5⟩:=hS;go_simp⟩) (qaa Hb.o) ?_;try simp only[zS]
   refine zP 5 33 (.int .i64 (j:Int)) Hb.o ?_;try simp only[zS]
   refine zP 6 34 (.pointer (some ⟨xb,oa,none⟩)) Hb.o ?_;try simp only[zS]
   refine zL 7 35 (kidV va) rfl (Or.inl ⟨by rfl,fun W' hS=>qbK 102 (.tmp 34) rfl xb oa rfl (qgF hS.2.1 hS.2.2.1)⟩) (qaa Hb.o) ?_;try simp only[zS]
   refine zP 9 37 (.pointer (some ⟨W,0,none⟩)) Hb.o ?_;try simp only[zS]
   refine zP 10 38 (.pointer (some ⟨N,0,none⟩)) Hb.o ?_;try simp only[zS]
   refine zP 11 39 (.pointer (some ⟨N,0,none⟩)) Hb.o ?_;try simp only[zS]
   refine zP 12 40 (.pointer (some ⟨N,3,none⟩)) Hb.o ?_;try simp only[zS]
   refine zL 13 41 (.slice (some ⟨xb,xo,none⟩) nx cx) rfl (Or.inl ⟨by rfl,fun W' hS=>by obtain⟨hS1,hS2,hS3,hS4,hS5⟩:=hS;go_simp⟩) (qaa Hb.o) ?_;try simp only[zS]
   refine zP 14 42 (.int .i64 (j:Int)) Hb.o ?_;try simp only[zS]
   refine zP 15 43 (.int .i64 (j1:Int)) Hb.o ?_;try simp only[zS]
   refine zP 16 44 (.pointer (some ⟨xb,ob,none⟩)) Hb.o ?_;try simp only[zS]
   refine zL 17 45 (kidV vb) rfl (Or.inl ⟨by rfl,fun W' hS=>qbK 102 (.tmp 44) rfl xb ob rfl (qgF hS.2.2.2.1 hS.2.2.2.2)⟩) (qaa Hb.o) ?_;try simp only[zS]
   refine zE 8 36 rfl (fun Kr hKr=>?_);go_simp;go_at_call 99
   refine(qiU hX.o Hh.o.wk (zah hB HK.o.touch.size) hoff HV.o (fun b hb hm=>Hh.o.so.ap b hb (.inl hm)) (by rw[HD.o];exact Km.o) (by have:=HQ.o.bd;omega)).mono ?_;rintro e W1 ⟨A1,LA1,mv2,rfl,hwk,hev,hnm,hsl⟩;have I1:=Hh.o.walk hev hwk;have Hm:=zH I1.1;have hr:=zH (HK.o.trans I1.2);have hw:=zH (qcq HN.o I1.2 HK.o.touch.size);have Ks:=zH (hX.o.ev Hh.o.wk hev);have hQ:=zH (NM.mono (Hh.o.freshN) _ _ _ hnm);have hV:=zH hsl;have hK:=zH (NM.lts _ _ _ hnm);have KV:=zH hev.touch.size;have HZ:=zH (And.intro (Hx.o.1.evm Hh.o.so I1.2) (Hx.o.2.evm Hh.o.so I1.2));have hJ:=zH (HW.o.evm Hh.o.so I1.2);have Hf:=Hh.o.keepN hev;have HG:=zH (show W1.cell? ⟨N,3,none⟩=some (.slice (some ⟨xb,xo,none⟩) nx cx)∧W1.cell? ⟨xb,oa,none⟩=some (.int .i64 va.1)∧W1.cell? ⟨xb,oa+1,none⟩=some (.pointer (va.2.map fun N=>⟨N,0,none⟩))∧W1.cell? ⟨xb,ob,none⟩=some (.int .i64 vb.1)∧W1.cell? ⟨xb,ob+1,none⟩=some (.pointer (vb.2.map fun N=>⟨N,0,none⟩))from⟨(Hf N 3 (.inl rfl)).trans Hb.o.1,(Hf xb _ Ha).trans Hb.o.2.1,(Hf xb _ Ha).trans Hb.o.2.2.1,(Hf xb _ Ha).trans Hb.o.2.2.2.1,(Hf xb _ Ha).trans Hb.o.2.2.2.2⟩);clear hwk hev hnm hsl I1 Hf;refine hKr.out (.pointer (some ⟨A1,0,none⟩)) _ (qaa HG.o) (fun _=>?_);clear hKr Kr;try simp only[zS]
   refine zE 18 46 rfl (fun Kr hKr=>?_);go_simp;go_at_call 99
   refine(qiU Ks.o Hm.o.wk (zah hB hr.o.touch.size) hoff hJ.o (fun b hb hm=>Hm.o.so.ap b hb (.inl hm)) (by rw[HD.o];exact Kn.o) (by have:=HQ.o.bd;omega)).mono ?_;rintro e W2 ⟨A2,LB1,mv3,rfl,hwk,hev,hnm,hsl⟩;have I2:=Hm.o.walk hev hwk;have Hi:=zH I2.1;have Kj:=zH (hr.o.trans I2.2);have hz:=zH (qcq hw.o I2.2 hr.o.touch.size);have KP:=zH (Ks.o.ev Hm.o.wk hev);have hR:=zH (hQ.o.evm Hm.o.so I2.2);have hU:=zH (NM.mono (Hm.o.freshN) _ _ _ hnm);have H6:=zH hsl;have KW:=zH hev.touch.size;have H0:=zH (And.intro (HZ.o.1.evm Hm.o.so I2.2) (HZ.o.2.evm Hm.o.so I2.2));have Hf:=Hm.o.keepN hev;have hn:=zH (show W2.cell? ⟨N,3,none⟩=some (.slice (some ⟨xb,xo,none⟩) nx cx)∧W2.cell? ⟨xb,oa,none⟩=some (.int .i64 va.1)∧W2.cell? ⟨xb,oa+1,none⟩=some (.pointer (va.2.map fun N=>⟨N,0,none⟩))∧W2.cell? ⟨xb,ob,none⟩=some (.int .i64 vb.1)∧W2.cell? ⟨xb,ob+1,none⟩=some (.pointer (vb.2.map fun N=>⟨N,0,none⟩))from⟨(Hf N 3 (.inl rfl)).trans HG.o.1,(Hf xb _ Ha).trans HG.o.2.1,(Hf xb _ Ha).trans HG.o.2.2.1,(Hf xb _ Ha).trans HG.o.2.2.2.1,(Hf xb _ Ha).trans HG.o.2.2.2.2⟩);clear hwk hev hnm hsl I2 Hf;refine hKr.out (.pointer (some ⟨A2,0,none⟩)) _ (qaa hn.o) (fun _=>?_);clear hKr Kr;try simp only[zS]
   refine zP 19 7 (.pointer (some ⟨A1,0,none⟩)) hn.o ?_;try simp only[zS]
   refine zP 20 8 (.pointer (some ⟨A2,0,none⟩)) hn.o ?_;try simp only[zS]
   refine qad (by kernel_rfl) ?_ _;have ka:=Hi.o.rk.get ho.o;obtain⟨KB,kc,hkv,hkcc,hkby⟩:=ka;obtain⟨kb,ko,rfl,_,hkat⟩:=(show SrcS W2 (fun _=>True) 1 K nk vk1 by have h:=Hi.o.q.ko;rw[Hq.o]at h;exact h.srcS (fun _ _=>trivial)).at_ (by have:=(zae.1 ho.o).1;have:=Hq.o;omega);have Hg:=hkat j _ hkv;obtain⟨oj,hoj⟩:∃ o,ko+j=o:=⟨_,rfl⟩;rw[hoj]at Hg;have K9:W2.cell? ⟨N,1,none⟩=some (.slice (some ⟨kb,ko,none⟩) nk ck):=Hi.o.q.c1';obtain⟨kl,hkl⟩:∃ n,key.length=n:=⟨_,rfl⟩;have ku:(j:Int)<(nk:Int):=by have:=(zae.1 ho.o).1;have:=Hq.o;omega
   have K6:¬((nk:Int)≤(j:Int)):=by omega
   have hc:j<nk:=by omega
   obtain⟨qa,hqa1,hqa2,hqa3⟩:=HQ.o.hom ya (zak KT.o);obtain⟨qb,hqb1,hqb2,hqb3⟩:=HQ.o.hom yb (zak KU.o);obtain rfl:na=qa:=zaF ((qiT Km.o).symm.trans hqa1);obtain rfl:nb=qb:=zaF ((qiT Kn.o).symm.trans hqb1);have hE:=zH (qia hR.o hU.o hkby hkcc (HQ.o.kl key (zak ho.o)) (hqa2.trans hqb2.symm) hqa3 hqb3);rw[hkl]at hE Hg;have kh:=zH hkl;have hM:=zH hqa2;unfold JoF at hE;clear hkv hkcc hkby hkat hkl hqa1 hqa2 hqa3 hqb1 hqb2 hqb3;go_upto_if 67 with(go_at_call 100;refine hE.o.mono ?_;rintro e W3 ⟨A3,rfl,hb3,hj3⟩;have Hs:=zH hb3;have Kl:=zH hj3;clear hb3 hj3)
   obtain⟨jo,hjo⟩:∃ o,join na key nb=o:=⟨_,rfl⟩;rw[hjo]at Kl hO⊢;have KI:=zH hjo;have I3:=Hi.o.below Hs.o;have Hn:=zH I3.1;have HL:=zH (Kj.o.trans I3.2);have Ht:=zH (qcq hz.o I3.2 Kj.o.touch.size);have Hy:=zH (And.intro (H0.o.1.evm Hi.o.so I3.2) (H0.o.2.evm Hi.o.so I3.2));have Kt:=zH (KP.o.ev Hi.o.wk (Ev.below Hs.o));have HJ:=hn.o;have Ho:xb<W2.heap.size:=Hi.o.nbLt xb Ha;have K0:N<W2.heap.size:=Hi.o.nbLt N (.inl rfl);have hu:=zH (show W3.cell? ⟨N,3,none⟩=some (.slice (some ⟨xb,xo,none⟩) nx cx)∧W3.cell? ⟨xb,oa,none⟩=some (.int .i64 va.1)∧W3.cell? ⟨xb,oa+1,none⟩=some (.pointer (va.2.map fun N=>⟨N,0,none⟩))∧W3.cell? ⟨xb,ob,none⟩=some (.int .i64 vb.1)∧W3.cell? ⟨xb,ob+1,none⟩=some (.pointer (vb.2.map fun N=>⟨N,0,none⟩))from⟨(Hs.o.cell (p:=⟨N,3,none⟩) K0).trans HJ.1,(Hs.o.cell (p:=⟨xb,oa,none⟩) Ho).trans HJ.2.1,(Hs.o.cell (p:=⟨xb,oa+1,none⟩) Ho).trans HJ.2.2.1,(Hs.o.cell (p:=⟨xb,ob,none⟩) Ho).trans HJ.2.2.2.1,(Hs.o.cell (p:=⟨xb,ob+1,none⟩) Ho).trans HJ.2.2.2.2⟩);clear hjo I3 HJ;cases jo with
   | none=>
    go_wp2;refine⟨⟨j1,f2,mv3,_,vk1,_,vs1,L1,_,ks1,xs1,met1,by simp[←Hw.o],⟨by rw[←Hw.o];exact hO.o,by have:=HQ.o.hf;have:=Hw.o;omega,by have:=Hw.o;omega,Hn.o,HL.o,Ht.o,HQ.o.sl,HQ.o.hom,HQ.o.kl,HQ.o.bd,HQ.o.kx,HQ.o.nb⟩⟩,?_⟩;have e3:qdg W3 N=nx:=by unfold qdg;rw[hu.o.1]
    rw[e3,hd];simp[RowKit.intOf];omega
   | some jx=>
    obtain⟨Lx,hjx1',hsx⟩:=Kl.o jx rfl;have H1:=zH (NM.mono Hi.o.fresh _ _ _ hjx1');have KO:=zH hsx;have hN:=zH (show ∀ y∈LA1,y.1<W1.heap.size from hK.o);clear hjx1' hsx;have KA:Slo w.heap.size L (LP++Lx++LR):=by
     have kz:wr.heap.size≤W0.heap.size:=Kw.o;have ke:=KV.o;have kA:=KW.o;have ha:∀ y∈La++Lb,y.1<W0.heap.size:=fun y hy=>by
      rcases zar.1 hy with h|h
      ·have:=qke hH.o y h;omega
      ·have:=qke hI.o y h;omega
     have h1:=qml hV.o (H6.o.base ke) ha hN.o H6.o.mem;have h2:=h1.trans KO.o (by omega);have h3:=qmk (P:=LP) (R:=LR) h2 (fun y hy=>by
      rcases zar.1 hy with h|h
      ·have:=KM.lts _ _ _ HX.o y h;omega
      ·have:=KM.lts _ _ _ HY.o y h;omega)
     have h4:=HQ.o.sl;rw[KK.o]at h4;rw[show LP++(La++(Lb++LR))=LP++(La++Lb)++LR by simp]at h4;exact h4.trans h3 HK.o.touch.size
    have hW:=zH KA;clear KA;obtain⟨g31,g32,g33,g34,g35⟩:=hu.o;have kq:met1.length≤1000:=by have:=HQ.o.bd;omega
    have Ky:B≤W3.heap.size:=zah hB HL.o.touch.size;go_upto_region 8 with(go_at_call 101;refine(qhL Hn.o.wk Ky hH.o (by omega)).mono ?_;rintro e W4 ⟨mv4,rfl,hwk,hev⟩;have H7:=zH hwk;have Hk:=zH hev;clear hwk hev)
    have I4:=Hn.o.walk Hk.o H7.o;have Hp:=zH I4.1;have he:=zH (HL.o.trans I4.2);have HO:=zH (qcq Ht.o I4.2 HL.o.touch.size);have Ku:=zH (Kt.o.ev Hn.o.wk Hk.o);have Hz:=zH (And.intro (Hy.o.1.evm Hn.o.so I4.2) (Hy.o.2.evm Hn.o.so I4.2));have H2:=zH (H1.o.evm Hn.o.so I4.2);have hp:=Hn.o.keepN Hk.o;have Kx:=(hp N 3 (.inl rfl)).trans g31;have KX:=(hp xb ob Ha).trans g34;have KY:=(hp xb (ob+1) Ha).trans g35;have Kz:B≤W4.heap.size:=zah hB he.o.touch.size;clear I4 hp Hn HL Ht Kt Hy H1 Hk H7 g31 g32 g33 g34 g35 Ky hu;have Ke:(met1++pageOf ya).length≤100000:=by
     rw[zad];have:(pageOf ya).length≤1:=by cases ya<;>simp[pageOf]
     omega
    go_upto_region 9 with(go_at_call 101;refine(qhL Hp.o.wk Kz hI.o Ke).mono ?_;rintro e W5 ⟨mv5,rfl,hwk,hev⟩;have H8:=zH hwk;have Hl:=zH hev;clear hwk hev)
    have I5:=Hp.o.walk Hl.o H8.o;have Hv:=zH I5.1;have hg:=zH (he.o.trans I5.2);have HR:=zH (qcq HO.o I5.2 he.o.touch.size);have KQ:=zH (Ku.o.ev Hp.o.wk Hl.o);have HA:=zH (And.intro (Hz.o.1.evm Hp.o.so I5.2) (Hz.o.2.evm Hp.o.so I5.2));have H3:=zH (H2.o.evm Hp.o.so I5.2);have kj:=(Hp.o.keepN Hl.o N 3 (.inl rfl)).trans Kx;have kn:B≤W5.heap.size:=zah hB hg.o.touch.size;clear I5 Hp he HO Ku Hz H2 Hl H8 Kx KX KY Kz;obtain⟨j2,hj2⟩:∃ q,j+2=q:=⟨_,rfl⟩;have kg:IntKind.i64.wrap ((j:Int)+2)=(j2:Int):=by rw[zaJ _ (by omega)];omega
    have hC:=zH hj2;obtain⟨nx1,hnx1⟩:∃ q,nx-1=q:=⟨_,rfl⟩;have KL:=zH hnx1;have KC:Below W5.heap.size W5 (W5.alloc (.cells #[.int .i64 0,.pointer (some ⟨A3,0,none⟩)] 102)):=zB _ _;have I6:=Hv.o.below KC;have HH:=zH I6.1;have hh:=zH (hg.o.trans I6.2);have HS:=zH (qcq HR.o I6.2 hg.o.touch.size);have ki:=zH (KQ.o.ev Hv.o.wk (Ev.below KC));have HB:=zH (And.intro (HA.o.1.evm Hv.o.so I6.2) (HA.o.2.evm Hv.o.so I6.2));have H4:=zH (H3.o.evm Hv.o.so I6.2);have K5:j2≤nx:=by have:=Hw.o;omega
    have KJ:=zH (show KM (W5.alloc (.cells #[.int .i64 0,.pointer (some ⟨A3,0,none⟩)] 102)) _ (xs1.take j++jx::xs1.drop (j+2)) (vs1.take j++(0,some A3)::r2) (LP++Lx++LR)by
     rw[zaj];exact qch HB.o.1 (km_cons.2 ⟨_,_,_,_,rfl,rfl,HB.o.2,.inr ⟨A3,rfl,H4.o⟩⟩))
    have Kq:=zH (qei (i:=j) (j:=j2) (m:=1) (N:=nx1) (A:=some ⟨W5.heap.size,0,none⟩) 1 (us:=[.int .i64 0,.pointer (some ⟨A3,0,none⟩)]) (by have h:=HH.o.q.xo;rw[Hc.o]at h;exact h) (kcells_one vs1) (by omega) (by omega) (by omega) (by omega) (by omega) (qaE (zaf W5 (.cells #[.int .i64 0,.pointer (some ⟨A3,0,none⟩)] 102)) rfl) (by simp;exact⟨rfl,rfl⟩) (fun _=>⟨W5.heap.size,0,_,_,rfl,zaf W5 (.cells #[.int .i64 0,.pointer (some ⟨A3,0,none⟩)] 102),fun e=>by have h1:=Hv.o.nbLt xb Ha;have h2:xb=W5.heap.size:=zaF e;omega⟩) (by omega) (by simp;omega));unfold RkF at Kq;clear I6;go_upto_region 10 with(go_at_call 75;go_loud (refine Kq.o.mono ?_;rintro e W7 ⟨v7,rfl,ho7,hu7⟩;obtain⟨A7,c7,rfl,hc7⟩:=ho7.slice;have Ko:=zH ho7;have hY:=zH hu7;have HC:=(hu7.touch.block N HH.o.q.lt HH.o.q.xN).trans HH.o.q.nd;have h6:W7.cell? ⟨N,3,none⟩=some (.slice (some ⟨xb,xo,none⟩) nx cx):=(zan _ _ _ _ _ _ HC).trans rfl;have K3:W7.frozen? ⟨N,3,none⟩=false:=zaQ _ _ _ _ _ HC;clear ho7 hu7 HC))
    have H5:=zH (show Own W7 B 102 2 (.slice A7 nx1 c7) (xs1.take j++jx::xs1.drop (j+2)).length ((vs1.take j++(0,some A3)::r2).flatMap qaI)by
     have hl:(xs1.take j++jx::xs1.drop (j+2)).length=nx1:=by
      have:=Hc.o;have:=hC.o;simp only[zad,zag,zao,zap];omega
     rw[hl];have e:(vs1.flatMap qaI).take (j*2)++[.int .i64 0,.pointer (some ⟨A3,0,none⟩)]++(vs1.flatMap qaI).drop (j2*2)=(vs1.take j++(0,some A3)::r2).flatMap qaI:=by
      rw[←KN.o,hC.o,zat,zaq,qfW,qfV,zaj];rfl
     rw[←e];exact Ko.o)
    have I7:=HH.o.setX (w1:=W7) (xs':=xs1.take j++jx::xs1.drop (j+2)) (vs':=vs1.take j++(0,some A3)::r2) (L':=LP++Lx++LR) H5.o hY.o (fun _ h=>h) KJ.o (fun _ h=>h);have Hj:=zH I7.1;have HM:=zH (hh.o.trans I7.2);have Hu:=zH (qcq HS.o I7.2 hh.o.touch.size);have h5:=zH (show ∀ b,(Value.slice A7 nx1 c7).ownBlock=some b→(Value.slice (some ⟨xb,xo,none⟩) nx cx).ownBlock=some b∨w.heap.size≤b from fun b e=>(hY.o.own b e).imp id (fun h=>zah hh.o.touch.size h.1));clear I7 HH hh HS HB H4 hY Ko H5 Hv hg HR HA H3 h6 K3;generalize W7.setCell ⟨N,3,none⟩ (.slice A7 nx1 c7)=W8 at Hj HM Hu⊢;have kk:=Hj.o.q.c1';have Ki:=zH (qcY (i:=j) (by have h:=Hj.o.q.ko;rw[Hq.o]at h;exact h) Hj.o.rk.one_cell hc (by have:=HQ.o.kx;have:=Hq.o;omega));rw[Hw.o]at Ki;go_wp2_with (go_at_call 72;go_loud (refine Ki.o.mono ?_;rintro e W9 ⟨v9,rfl,ho9,hu9⟩;obtain⟨A9,c9,rfl,hc9⟩:=ho9.slice;have Kp:=zH ho9;have hZ:=zH hu9;have HE:=(hu9.touch.block N Hj.o.q.lt Hj.o.q.kN).trans Hj.o.q.nd;have h7:W9.cell? ⟨N,1,none⟩=some (.slice (some ⟨kb,ko,none⟩) nk ck):=(zan _ _ _ _ _ _ HE).trans rfl;have K4:W9.frozen? ⟨N,1,none⟩=false:=zaQ _ _ _ _ _ HE;clear ho9 hu9 HE))
    have KE:(ks1.eraseIdx j).length=nk-1:=by rw[zcx,zaw (by rw[Hq.o];exact hc),Hq.o]
    have I9:=Hj.o.setK (w1:=W9) (ks':=ks1.eraseIdx j) (by rw[KE];have h:=Kp.o;rw[←Hw.o]at h;exact h) hZ.o (by
     have hs:=Hj.o.rk;have h1:=(hs.split j).1.append (hs.split (j+1)).2;rw[←zbR ks1 j]at h1;exact h1)
    have hA:=zH I9.1;have Kk:=zH (HM.o.trans I9.2);have HU:=zH (qcq Hu.o I9.2 HM.o.touch.size);have h0:=zH (show ∀ b,(Value.slice A9 (nk-1) c9).ownBlock=some b→(Value.slice (some ⟨kb,ko,none⟩) nk ck).ownBlock=some b∨w.heap.size≤b from fun b e=>(hZ.o.own b e).imp id (fun h=>zah HM.o.touch.size h.1));clear I9 Hj HM Hu hZ Kp h7 K4;generalize W9.setCell ⟨N,1,none⟩ (.slice A9 (nk-1) c9)=Wz at hA Kk HU⊢;have KH:(xs1.take j++jx::xs1.drop (j+2)).length=nx1:=by
     have:=Hc.o;have:=hC.o;simp only[zad,zag,zao,zap];omega
    have Kc:=qkb KI.o;have ez:qdg Wz N=nx1:=by unfold qdg;rw[hA.o.q.c3']
    have KF:∀ y,(pageOf y).length≤1:=fun y=>by cases y<;>simp[pageOf]
    refine⟨⟨j,f2,mv5,_,_,_,_,_,_,_,_,_,rfl,⟨hO.o,by rw[KH];have:=HQ.o.hf;have:=Hc.o;omega,HQ.o.hj,hA.o,Kk.o,HU.o,hW.o,fun y hy=>?_,fun q hq=>HQ.o.kl q (zcc hq),?_,by rw[KE];have:=HQ.o.kx;have:=Hq.o;omega,fun b hb=>?_⟩⟩,?_⟩
    ·rcases zar.1 hy with h|h
     ·exact HQ.o.hom y (zaY h)
     ·rcases za0.1 h with h|h
      ·subst h;exact⟨_,qmx Kc.2.2,Kc.1.trans hM.o,Kc.2.1⟩
      ·exact HQ.o.hom y (zaU h)
    ·rw[KH,zad,zad];have h1:=HQ.o.bd;have h2:=Hc.o;have h3:=KF ya;have h4:=KF yb;omega
    ·rcases hb with h|h|h|h
     ·exact .inl (.inl h)
     ·exact(h0.o b h).elim (fun h2=>HQ.o.nb b (.inr (.inl h2))) .inr
     ·exact HQ.o.nb b (.inr (.inr (.inl h)))
     ·exact(h5.o b h).elim (fun h2=>HQ.o.nb b (.inr (.inr (.inr h2)))) .inr
    ·rw[ez,hd];simp[RowKit.intOf];omega
  ·have h8:(ks2,xs2,met2)=(ks1,xs1,met1):=by
    have h:=HQ.o.mg;cases f1 with
    | zero=>simp only[qbL,zax]at h;exact h.symm
    | succ f=>
     unfold qbL at h;rw[zaB (by rw[Hc.o];exact hlt)]at h;exact(zaF h).symm
   obtain⟨rfl,rfl,rfl⟩:ks2=ks1∧xs2=xs1∧met2=met1:=by
    have:=zcu h8;have h2:=zcu this.2;exact⟨this.1,h2.1,h2.2⟩
   have Kh:=zH (show MgF S B W T mv N k v x ks2 xs2 met2 L w (.returned (.tuple #[])) wr from⟨mv1,_,vk1,_,vs1,L1,S1,rfl,HQ.o.i,HQ.o.ev,HQ.o.gr,HQ.o.sl,HQ.o.nb⟩);by_cases h1:j+1<nx
   ·have h2:¬(j≤tq):=fun h=>hlt ⟨h1,h⟩;go_wp2;go_returns;exact Kh.o
   ·go_wp2;go_returns;exact Kh.o
end Go.Proofs.YtpmebcgmgfcmiaaGreatDoor
