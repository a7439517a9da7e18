/- Texts WrD WrE WrG SwA. -/
import Derived.Test.YtpmebcgmgfcmiaaGreatDoorQ23
set_option linter.all false
set_option maxRecDepth 100000
set_option maxHeartbeats 16000000
namespace Go.Proofs.YtpmebcgmgfcmiaaGreatDoor
open Go.RowKit BT Go.Lib
section
theorem qi5 (d pages:Nat)(was:Bs):∀ (xs:List Kd) (s:Ws),(wrPs d pages was xs s).1.length=xs.length
 | [],_=>rfl
 | x::xs,s=>by simp only[wrPs,zao,qi5 d pages was xs]
variable {w w':World} {a:PA} {G d T:Nat} {F F':Nat→Prop} {g:Pg} {root1 B W PT:Nat} {mv:Value} {met:List Nat} {pv pv':Value} {s:Ws}
theorem qlD {S:Nat→Prop}{xb xo nx:Nat}{rs:List Int}{v:Kv}{r:Int}{vr:List Kv}{L2:List (Nat×Nat)}{xs:List Kd}(hI:WrI w a G d T F g root1 B W PT mv met pv s)(hS:SOk S (WX F G W T PT mv pv) w)(hSb:S xb)
  (hsrc:SrcS w S 2 (some ⟨xb,xo,none⟩) nx ((rs.map (fun r=>((r,none):Kv))++v::vr).flatMap qaI))(hkm:KM w S xs vr L2)(hd:∀ y∈L2,y∉slotsAt (some ⟨xb,xo,none⟩) nx){oj:Nat}(hoj:xo+rs.length*2=oj) :
  WrI (w.setCells xb oj [.int .i64 r,.pointer none]) a G d T F g root1 B W PT mv met pv s∧WrR S [(xb,oj)] F F G W PT pv pv w (w.setCells xb oj [.int .i64 r,.pointer none])∧
  SrcS (w.setCells xb oj [.int .i64 r,.pointer none]) S 2 (some ⟨xb,xo,none⟩) nx (((rs++[r]).map (fun r=>((r,none):Kv))++vr).flatMap qaI)∧KM (w.setCells xb oj [.int .i64 r,.pointer none]) S xs vr L2:=by
 have hl:=hsrc.src.len;rw[qcg]at hl;have Hf:rs.length+(1+vr.length)=nx:=by
  simp only[zad,zaE,zao]at hl;omega
 have ht:=hsrc.typed;have hm:(xb,oj)∈slotsAt (some ⟨xb,xo,none⟩) nx:=zbg.2 ⟨rs.length,zbb.2 (by omega),by rw[←hoj]⟩;have Hc:Typed w [(xb,oj)]:=fun y hy=>by
  obtain rfl:=za3.1 hy;exact ht _ hm
 have hR:WrR S [(xb,oj)] F F G W PT pv pv w (w.setCells xb oj [.int .i64 r,.pointer none]):=by
  refine⟨qau (.inr ⟨(xb,oj),by simp,rfl⟩) _ _,fun b i hb hc=>zc1 xb _ _ _ _ (fun e _=>?_),fun b i _=>World.frozen?_setCells xb _ _ _ _,fun b h=>.inl h⟩;have e:b=xb:=e;show i<oj∨oj+2≤i;rcases zbL i oj with h|h
  ·exact .inl h
  ·refine .inr ?_;rcases zbL i (oj+2)with h2|h2
   ·exact absurd ⟨(xb,oj),by simp,e,by show i=oj∨i=oj+1;omega⟩ hc
   ·exact h2
 refine⟨hI.touch (qau (F:=fun b=>b=xb) rfl _ _) (fun b hb e=>?_),hR,?_,KM.same (hR.same Hc) xs vr L2 (qgm Hc (KM.typed _ _ _ hkm) (fun y hy e=>?_)) hkm⟩
 ·subst e;exact hS.ap _ hSb hb
 ·have He:=hsrc.thaw (by omega) xb xo rfl;refine SrcS.mk' (by rw[qcg];simp only[zad,zaE,zao,zaZ];omega) (fun _=>⟨xb,xo,rfl,hSb,fun k u hu=>?_,by rw[show Thw _ _↔_ from Iff.rfl];exact⟨by rw[setCells_size];exact He.1,fun i=>(World.frozen?_setCells xb _ _ _ _).trans (He.2 i)⟩⟩);obtain⟨b',o',e0,_,hc⟩:=hsrc.at_ (by omega);cases e0;have Hb:((rs.map (fun r=>((r,none):Kv))).flatMap qaI).length=rs.length*2:=by rw[qcg,zaE]
  rw[zbD,zaj,zat,zbp,zbA,zcO,zaq]at hu;rw[zat,zaq]at hc;rcases zbL k (rs.length*2)with h1|h1
  ·rw[zaL (by omega)]at hu;refine(zc1 xb _ _ _ _ (fun _ _=>.inl (by show xo+k<oj;omega))).trans (hc k u ?_);rw[zaL (by omega)];exact hu
  ·rw[zau (by omega),Hb]at hu;have Ha:∀ j,j<[Value.int .i64 r,.pointer none].length→(w.cell? ⟨xb,oj+j,none⟩).isSome=true:=fun j hj=>by
    obtain⟨⟨n,c1⟩,⟨p,c2⟩⟩:=ht _ hm
    match j,hj with
    | 0,_=>rw[show oj+0=oj from rfl,c1];rfl
    | 1,_=>rw[c2];rfl
   rcases zbL k (rs.length*2+2)with h2|h2
   ·obtain⟨q,rfl⟩:∃ q,k=rs.length*2+q:=⟨k-rs.length*2,by omega⟩;rw[show rs.length*2+q-rs.length*2=q by omega,zaL (by rw[qbw];omega)]at hu;have hq:q<[Value.int .i64 r,.pointer none].length:=by show q<2;omega
    have h3:=World.cell?_setCells_in xb [.int .i64 r,.pointer none] oj w Ha q hq;rw[show xo+(rs.length*2+q)=oj+q by omega,h3,←hu]
    match q,hq with
    | 0,_=>rfl
    | 1,_=>rfl
   ·rw[zau (by rw[qbw];omega),qbw]at hu;refine(zc1 xb _ _ _ _ (fun _ _=>.inr (by show oj+2≤xo+k;omega))).trans (hc k u ?_);rw[zau (by omega),Hb,zau (by rw[qbw];omega),qbw];exact hu
 ·obtain rfl:=za3.1 e;exact hd _ hy hm
structure WrL (w wr:World) (a:PA) (G d T:Nat) (F:Nat→Prop) (g:Pg) (root1 B W PT:Nat) (mv:Value) (met:List Nat) (pv:Value) (s:Ws) (S:Nat→Prop) (X:Option Addr) (nx:Nat) (xs:List Kd) (vx:List Kv) (L':List (Nat×Nat)) (j:Nat) (F1:Nat→Prop) (pv1:Value) (Lj:List (Nat×Nat)):Prop where
 i:WrI wr a G d T F1 g root1 B W PT mv met pv1 (wrPs d g.pages g.was (xs.take j) s).2
 r:WrR S (slotsAt X nx++L') F F1 G W PT pv pv1 w wr
 src:SrcS wr S 2 X nx (((wrPs d g.pages g.was (xs.take j) s).1.map (fun r=>((r,none):Kv))++vx.drop j).flatMap qaI)
 km:KM wr S (xs.drop j) (vx.drop j) Lj
 sub:List.Sublist Lj L'
theorem qcl {w2:World}{F2:Nat→Prop}{p3:Pl}{u3:Bs}(h:WrI w a G d T F g root1 B W PT mv met pv s)(hx:Ext (GF F G) (GF F2 G) w w2)(hpg:PgM w2 a G d F2 p3 { g with use:=u3 }) :
  TrM w2 a G d T F2 p3 { g with use:=u3 } root1∧WkM w2 B W T mv met (s.e:Int)∧w2.heap[PT]?=some (.cells #[pv] 23 (0,0))∧Own w2 B 3 1 pv s.put.length (nums s.put)∧
  (∀ b,GF F2 G b→b≠W∧b≠PT∧pv.ownBlock≠some b∧mv.ownBlock≠some b)∧(∀ b,WT F2 G W PT pv b→WT F G W PT pv b∨w.heap.size≤b):=by
 have hs:=hx.touch.size;refine⟨⟨hpg,(hx.touch.block T h.tr.lt h.tr.nT.1).trans h.tr.t,fun hb=>?_,h.tr.nT.2⟩,⟨(hx.touch.block W h.wk.lt (fun e=>(h.ag W e).1 rfl)).trans h.wk.nd,h.wk.lo,h.wk.own.touch hx.touch (fun b e hb=>(h.ag b hb).2.2.2 e),h.wk.mW⟩,
  (hx.touch.block PT h.ptlt (fun e=>(h.ag PT e).2.1 rfl)).trans h.pt,h.po.touch hx.touch (fun b e hb=>(h.ag b hb).2.2.1 e),fun b hb=>?_,fun b hb=>?_⟩
 ·rcases hx.sub T hb with h1|h1
  ·exact h.tr.nT.1 h1
  ·have:=h.tr.lt;omega
 ·rcases hx.sub b hb with h1|h1
  ·exact h.ag b h1
  ·exact⟨fun e=>by have:=h.wk.lt;omega,fun e=>by have:=h.ptlt;omega,fun e=>by have:=(h.po.blk b e).2;omega,fun e=>by have:=(h.wk.own.blk b e).2;omega⟩
 ·rcases hb with hb|hb
  ·exact(hx.sub b hb).imp .inl id
  ·exact .inl (.inr hb)
theorem qkz {w2:World}{F2:Nat→Prop}{p3:Pl}{u3:Bs}{S:Nat→Prop}(h:WrI w a G d T F g root1 B W PT mv met pv s)(hS:SOk S (WX F G W T PT mv pv) w)(hx:Ext (GF F G) (GF F2 G) w w2)(hpg:PgM w2 a G d F2 p3 { g with use:=u3 }):WrR S [] F F2 G W PT pv pv w w2:=
 ⟨hx.touch.mono (fun b _ hb=>.inl (.inl hb)),fun b i hb _=>qag hx.touch (hS.lt b hb) (fun e=>hS.ap b hb (.inl (.inl e))),fun b i hb=>World.frozen?_of_block (a:=⟨b,i,none⟩) (hx.touch.block b (hS.lt b hb) (fun e=>hS.ap b hb (.inl (.inl e)))),(qcl h hx hpg).2.2.2.2.2⟩
theorem qmd {w2:World}{F2:Nat→Prop}{s3:Ws}{S:Nat→Prop}(h:WrI w a G d T F g root1 B W PT mv met pv s)(hS:SOk S (WX F G W T PT mv pv) w)(hx:Ext (GF F G) (GF F2 G) w w2)(hpg:PgM w2 a G d F2 s3.p { g with use:=s3.use })(he:s3.e≠0)(hput:s3.put=s.put) :
  WrI (w2.setCell ⟨W,2,none⟩ (.int .i64 (s3.e:Int))) a G d T F2 g root1 B W PT mv met pv s3∧WrR S [] F F2 G W PT pv pv w (w2.setCell ⟨W,2,none⟩ (.int .i64 (s3.e:Int))):=by
 obtain⟨f1,f2,f3,f4,f5,f6⟩:=qcl h hx hpg;have hR:=qkz h hS hx hpg;have ht:Touch (fun b=>b=W) w2 (w2.setCell ⟨W,2,none⟩ (.int .i64 (s3.e:Int))):=Touch.setCell (F:=fun b=>b=W) (Touch.refl _ _) (p:=⟨W,2,none⟩) rfl _;have Hb:T≠W:=fun e=>by have:=h.wk.lo;have:=h.bT;omega
 have Ha:(1:Nat)≠W:=fun e=>by have:=h.wk.lo;have:=h.bT;omega
 refine⟨⟨⟨f1.pg.touch ht (fun b hb e=>(f5 b hb).1 e) Ha,(ht.block T f1.lt Hb).trans f1.t,f1.nT⟩,⟨qab f2.nd _,f2.lo,f2.own.touch ht (fun b e hb=>f2.mW (by rw[e,hb])),f2.mW⟩,
  (ht.block PT (zab.1 f3).1 (fun e=>h.aW.1 e.symm)).trans f3,by rw[hput];exact f4.touch ht (fun b e hb=>h.aW.2.1 (by rw[e,hb])),f5,h.aW,h.am,h.bT,fun e=>absurd e he⟩,?_⟩
 have hk:WrR S [] F2 F2 G W PT pv pv w2 (w2.setCell ⟨W,2,none⟩ (.int .i64 (s3.e:Int))):=
  ⟨ht.mono (fun b _ e=>.inl (.inr (.inl e))),fun b i hb _=>qag ht (zam (hS.lt b hb) hx.touch.size) (fun e=>hS.ap b hb (.inl (.inr (.inl e)))),fun b i _=>World.frozen?_setCell _ _ _ _,fun b hb=>.inl hb⟩
 exact hR.trans hk (fun _ h=>h) (fun _ h=>h)
theorem qme {w2:World}{F2:Nat→Prop}{s3:Ws}(h:WrI w a G d T F g root1 B W PT mv met pv s)(hx:Ext (GF F G) (GF F2 G) w w2)(hpg:PgM w2 a G d F2 s3.p { g with use:=s3.use })(he:s.e=s3.e)(hoff:s3.p.off=false) :
  WrI w2 a G d T F2 g root1 B W PT mv met pv { s3 with put:=s.put }:=by
 obtain⟨f1,f2,f3,f4,f5,f6⟩:=qcl h hx hpg;exact⟨f1,by rw[he]at f2;exact f2,f3,f4,f5,h.aW,h.am,h.bT,fun _=>hoff⟩
theorem qkA {w4:World}{v4:Value}{n:Nat}{S:Nat→Prop}(h:WrI w a G d T F g root1 B W PT mv met pv s)(hS:SOk S (WX F G W T PT mv pv) w)(hB:B≤w.heap.size)(ho:Own w4 B 3 1 v4 (s.put++[n]).length (nums (s.put++[n])))(hu:Upd w w4 pv v4) :
  WrI (w4.setCell ⟨PT,0,none⟩ v4) a G d T F g root1 B W PT mv met v4 { s with put:=s.put++[n] }∧WrR S [] F F G W PT pv v4 w (w4.setCell ⟨PT,0,none⟩ v4):=by
 have hv:∀ b,WX F G W T PT mv pv b→pv.ownBlock≠some b→v4.ownBlock≠some b:=fun b hb hn e=>by
  rcases hu.own b e with h1|h1
  ·exact hn h1
  ·have:=h.wlt b hb;omega
 have Hb:∀ b,GF F G b∨b=W∨b=PT∨b=T∨b=1∨mv.ownBlock=some b→pv.ownBlock≠some b:=fun b hb e=>by
  have:=h.bT;have:=(h.po.blk b e).1;rcases hb with hb|hb|hb|hb|hb|hb
  ·exact(h.ag b hb).2.2.1 e
  ·exact h.aW.2.1 (by rw[e,hb])
  ·exact h.aW.2.2.1 (by rw[e,hb])
  ·omega
  ·omega
  ·exact h.am b e hb
 have hx:∀ b,GF F G b∨b=W∨b=PT∨b=T∨b=1∨mv.ownBlock=some b→WX F G W T PT mv pv b:=fun b hb=>by
  rcases hb with hb|hb|hb|hb|hb|hb
  ·exact .inl (.inl hb)
  ·exact .inl (.inr (.inl hb))
  ·exact .inl (.inr (.inr (.inl hb)))
  ·exact .inr (.inl hb)
  ·exact .inr (.inr (.inl hb))
  ·exact .inr (.inr (.inr hb))
 have Ha:∀ b,GF F G b∨b=W∨b=PT∨b=T∨b=1∨mv.ownBlock=some b→v4.ownBlock≠some b:=fun b hb=>hv b (hx b hb) (Hb b hb);have ht:Touch (fun b=>b=PT) w4 (w4.setCell ⟨PT,0,none⟩ v4):=Touch.setCell (F:=fun b=>b=PT) (Touch.refl _ _) (p:=⟨PT,0,none⟩) rfl _;have hH:Touch (fun b=>b=PT∨pv.ownBlock=some b) w (w4.setCell ⟨PT,0,none⟩ v4):=(hu.touch.mono (fun b _ e=>.inr e)).trans (ht.mono (fun b _ e=>.inl e));have He:T≠PT:=fun e=>by have:=h.bT;omega
 have Hc:(1:Nat)≠PT:=fun e=>by have:=h.bT;omega
 have Hf:w4.heap[PT]?=some (.cells #[pv] 23 (0,0)):=(hu.touch.block PT h.ptlt h.aW.2.2.1).trans h.pt;refine⟨⟨⟨h.tr.pg.touch hH (fun b hb e=>e.elim (fun e=>(h.ag b hb).2.1 e) (fun e=>(h.ag b hb).2.2.1 e)) (fun e=>e.elim Hc (Hb 1 (by simp))),(hH.block T h.tr.lt (fun e=>e.elim He (Hb T (by simp)))).trans h.tr.t,h.tr.nT⟩,
  ⟨(hH.block W h.wk.lt (fun e=>e.elim h.aW.1 h.aW.2.1)).trans h.wk.nd,h.wk.lo,h.wk.own.touch hH (fun b e hb=>hb.elim (fun hb=>h.aW.2.2.2 (by rw[e,hb])) (fun hb=>h.am b hb e)),h.wk.mW⟩,
  qab Hf _,ho.touch ht (fun b e hb=>Ha b (.inr (.inr (.inl hb))) e),fun b hb=>⟨(h.ag b hb).1,(h.ag b hb).2.1,Ha b (.inl hb),(h.ag b hb).2.2.2⟩,⟨h.aW.1,Ha W (by simp),Ha PT (by simp),h.aW.2.2.2⟩,
  fun b e hm=>Ha b (by simp[hm]) e,h.bT,h.off⟩,⟨hH.mono (fun b _ e=>e.elim (fun e=>.inl (.inr (.inr (.inl e)))) (fun e=>.inl (.inr (.inr (.inr e))))),fun b i hb _=>qag hH (hS.lt b hb) (fun e=>hS.ap b hb (.inl (e.elim (fun e=>.inr (.inr (.inl e))) (fun e=>.inr (.inr (.inr e)))))),fun b i hb=>World.frozen?_of_block (a:=⟨b,i,none⟩) (hH.block b (hS.lt b hb) (fun e=>hS.ap b hb (.inl (e.elim (fun e=>.inr (.inr (.inl e))) (fun e=>.inr (.inr (.inr e))))))),fun b hb=>?_⟩⟩
 rcases hb with hb|hb|hb|hb
 ·exact .inl (.inl hb)
 ·exact .inl (.inr (.inl hb))
 ·exact .inl (.inr (.inr (.inl hb)))
 ·exact(hu.own b hb).imp (fun e=>.inr (.inr (.inr e))) (fun e=>e.1)
end
section
variable {w w':World} {a:PA} {G d T:Nat} {F F':Nat→Prop} {g:Pg} {root1 B W PT:Nat} {mv:Value} {met:List Nat} {pv pv':Value} {s:Ws}
theorem qgj {S:Nat→Prop}{N:Nat}{leaf:Bool}{ks vs:List Bs}{xs:List Kd}{L:List (Nat×Nat)}(hp:g.pages≤384)(hI:WrI w a G d T F g root1 B W PT mv met pv s)(hn:NdP w S N leaf ks vs xs L)(hnd:L.Nodup)(hS:SOk S (WX F G W T PT mv pv) w)(hB:B≤w.heap.size)
  (hlv:leaf=true→vs.length=ks.length)(hk:ks.length≤255)(hkl:∀ k∈ks,k.length≤255)(hvl:∀ k∈vs,k.length≤255)(hpg:∀ x∈xs,∀ p,x=.page p→p<65536)(hxl:xs.length≤600)
  (hlen:∀ pl:List Nat,pl.length=xs.length→(encB leaf ks vs pl).length≤500)(hw:s.p.waits.length+8*(qaq xs+1)≤1099511627776)(hq:s.put.length+qaq xs+1≤100000)
  (IH:∀ x∈xs,∀ (w1:World) (F1:Nat→Prop) (pv1:Value) (s1:Ws) (N1:Nat) (L1:List (Nat×Nat)),WrI w1 a G d T F1 g root1 B W PT mv met pv1 s1→NM w1 S x N1 L1→L1.Nodup→SOk S (WX F1 G W T PT mv pv1) w1→B≤w1.heap.size→s1.p.waits.length+8*news x≤1099511627776→s1.put.length+news x≤100000→
   Calls Tryz.prog 77 #[.pointer (some ⟨W,0,none⟩),.pointer (some ⟨N1,0,none⟩),.pointer (some ⟨PT,0,none⟩)] w1 (WrF S L1 a G d T F1 g root1 B W PT mv met pv1 (wrP d g.pages g.was x s1) w1)) :
  Calls Tryz.prog 77 #[.pointer (some ⟨W,0,none⟩),.pointer (some ⟨N,0,none⟩),.pointer (some ⟨PT,0,none⟩)] w (WrF S L a G d T F g root1 B W PT mv met pv (putW d g.pages g.was (encB leaf ks vs ((wrPs d g.pages g.was xs s).1.map Int.toNat)) (wrPs d g.pages g.was xs s).2) w):=by
 obtain⟨K,ck,V,cv,X,cx,vk,vv,vx,L',hSN,hnc,hsk,hrk,hsv,hrv,hsx,Hp,rfl⟩:=hn.ex;obtain⟨nx,hnx⟩:∃ n,xs.length=n:=⟨_,rfl⟩;rw[hnx]at hnc hsx hnd⊢;have HP:=zH (show WrL w w a G d T F g root1 B W PT mv met pv s S X nx xs vx L' 0 F pv L' from⟨hI,WrR.of_below (zai _ _) hS.lt,by simpa [wrPs] using hsx,by simpa using Hp,List.Sublist.refl _⟩);have hE:=zH (show Typed w (slotsAt X nx++L')from fun y hy=>(zar.1 hy).elim (hsx.typed y) (KM.typed _ _ _ Hp y));have HI:=zH hI;have Kw:=zH hnc;have KI:=zH hsk;have hZ:=zH hrk;have KJ:=zH hsv;have h7:=zH hrv;have Kx:=zH hnd;have HS:=zH hS;have Hz:=zH hnx;have HW:=zH hw;have HQ:=zH hq;have HH:=zH hpg;have Kp:=zH IH;have Kq:=zH hkl;have KP:=zH hvl;have Kt:=zH hlv;have hs:=zH hlen;have KQ:=zH (qkg Hp);have c3:=hnc.c3;have K4:N<w.heap.size:=cell_lt c3;rw[hnx]at hxl;clear hn hI hnc hsk hrk hsv hrv hsx Hp hnd hS hnx hw hq hpg IH hkl hvl hlv hlen;go_enter Tryz.func77,Tryz.ntmps77
 go_wp2;go_loopw [16] (fun i wr=>∃ (j:Nat) (F1:Nat→Prop) (pv1:Value) (Lj:List (Nat×Nat)),i=.int .i64 j∧j≤nx∧WrL w wr a G d T F g root1 B W PT mv met pv s S X nx xs vx L' j F1 pv1 Lj) (fun i _=>nx-(RowKit.intOf i).toNat)
 case atStart=>exact⟨0,F,pv,L',rfl,za7 _,HP.o⟩
 case round=>
  rename World=>wr;obtain⟨j,F1,pv1,Lj,rfl,hj,hP⟩:=hrel;have Ha:=zH hP;clear hP;by_cases hlt:j<nx
  ·obtain⟨x,hx⟩:∃ x,xs[j]?=some x:=⟨_,zaa (by have:=Hz.o;omega)⟩;have Hh:xs.drop j=x::xs.drop (j+1):=by
    rw[zcU (by have:=Hz.o;omega),(zae.1 hx).2]
   have Hp:=Ha.o.km;rw[Hh]at Hp;obtain⟨v,vr,L1,L2,hv,hLj,hkm2,hkid⟩:=km_cons.1 Hp;have Ki:vx.drop (j+1)=vr:=by
    have:=congrArg (List.drop 1) hv;rw[zcF]at this;simpa using this
   have Hl:=Ha.o.src;rw[hv]at Hl;have HC:(wrPs d g.pages g.was (xs.take j) s).1.length=j:=by rw[qi5,zag,Hz.o];omega
   obtain⟨xb,xo,rfl,hSb,hxat⟩:=Hl.at_ (by omega);obtain⟨oj,hoj⟩:∃ o,xo+j*2=o:=⟨_,rfl⟩;have hO:((wrPs d g.pages g.was (xs.take j) s).1.map (fun r=>((r,none):Kv))++v::vr)[j]?=some v:=by
    rw[zau (by rw[zaE,HC];exact zac _),zaE,HC,zcP];rfl
   have g1:wr.cell? ⟨xb,oj,none⟩=some (.int .i64 v.1):=by rw[←hoj];exact hxat _ _ (qbm hO)
   have g2:wr.cell? ⟨xb,oj+1,none⟩=some (.pointer (v.2.map fun N=>⟨N,0,none⟩)):=by rw[←hoj,zbV];exact hxat _ _ (qbn hO)
   have HD:xs.take (j+1)=xs.take j++[x]:=by rw[zbK,hx];rfl
   obtain⟨rs,hrs⟩:∃ q,(wrPs d g.pages g.was (xs.take j) s).1=q:=⟨_,rfl⟩;obtain⟨sj,hsj⟩:∃ q,(wrPs d g.pages g.was (xs.take j) s).2=q:=⟨_,rfl⟩;have Kh:wrPs d g.pages g.was (xs.take (j+1)) s=(rs++[(wrP d g.pages g.was x sj).1],(wrP d g.pages g.was x sj).2):=by
    rw[HD,qfm,hrs,hsj];simp[wrPs]
   rw[hrs]at HC Hl;have hQ:=qc5 d g.pages g.was (xs.take j) s;rw[hsj]at hQ;have Kc:qaq (xs.take j)+news x≤qaq xs:=by
    have e:qaq xs=qaq (xs.take j)+qaq (xs.drop j):=by rw[←qaQ,zav]
    rw[e,Hh];simp only[qaq];omega
   have hi:=Ha.o.i;rw[hsj]at hi;have KY:xo+2*j=oj:=by omega
   have K9:(j:Int)<(nx:Int):=by omega
   have KW:¬((nx:Int)≤(j:Int)):=by omega
   have H2:=zH Kh;have hd:=zH hi;have h4:=zH HC;have HO:=zH Hl;have HG:=zH hkm2;have hW:=zH hLj;have H3:=zH Ki;have HB:=zH hQ;have hY:=zH Kc;have KR:=zH (zak hx);have hu:=zH (show xo+rs.length*2=oj by rw[HC];exact hoj);clear hx Hh Hp hv hLj hkm2 Ki HC Hl hxat hO HD hrs hsj Kh hQ Kc hi;rcases hkid with⟨q,rfl,rfl,rfl⟩|⟨Nk,rfl,hnm⟩
   ·go_wp2;have Hf:Below wr.heap.size wr (wr.alloc (.cells #[.int .i64 (q:Int),.pointer none] 102)):=zB _ _;refine⟨⟨j+1,F1,pv1,L2,by simp,by omega,⟨?_,?_,?_,?_,?_⟩⟩,by simp[RowKit.intOf];omega⟩
    ·rw[H2.o];exact hd.o.below Hf
    ·exact Ha.o.r.trans (WrR.of_below (L:=[]) Hf (fun b hb=>zam (HS.o.lt b hb) Ha.o.r.touch.size)) (fun _ h=>h) (fun _ h=>by cases h)
    ·rw[H2.o,H3.o];have h:=HO.o.below Hf;simpa [wrP] using h
    ·rw[H3.o];exact KM.below HG.o Hf
    ·have h:=Ha.o.sub;rw[hW.o]at h;exact h
   ·have Ky:=zH hnm;clear hnm;go_upto_region 5 with fail
    have Hf:Below wr.heap.size wr (wr.alloc (.cells #[.int .i64 0,.pointer (some ⟨Nk,0,none⟩)] 102)).drew:=(zB _ _).drew;have HY:w.heap.size≤wr.heap.size:=Ha.o.r.touch.size;have He:=zH (hd.o.below Hf);have H8:=Ha.o.r.trans (WrR.of_below (L:=[]) Hf (fun b hb=>zam (HS.o.lt b hb) HY)) (L:=slotsAt (some ⟨xb,xo,none⟩) nx++L') (fun _ h=>h) (fun _ h=>by cases h);have HL:=zH H8;have HM:=zH (H8.sok HS.o);have HN:=zH (HO.o.below Hf);have HF:=zH (KM.below HG.o Hf);have Hq:=zH (NM.below Ky.o Hf);have hR:=zH (show(wr.alloc (.cells #[.int .i64 0,.pointer (some ⟨Nk,0,none⟩)] 102)).drew.heap[wr.heap.size]?=_ from zaf wr (.cells #[.int .i64 0,.pointer (some ⟨Nk,0,none⟩)] 102));have hV:=zH (show ¬WX F1 G W T PT mv pv1 wr.heap.size from fun hb=>by have:=hd.o.wlt _ hb;omega);have hU:=zH (show ∀ b,S b→b≠wr.heap.size from fun b hb=>by have:=HS.o.lt b hb;omega);have Ku:=zH (show(wr.alloc (.cells #[.int .i64 0,.pointer (some ⟨Nk,0,none⟩)] 102)).drew.cell? ⟨N,3,none⟩=some (.slice (some ⟨xb,xo,none⟩) nx cx)from(H8.same hE.o).keep hSN c3 (by simp) (by simp));have KU:B≤(wr.alloc (.cells #[.int .i64 0,.pointer (some ⟨Nk,0,none⟩)] 102)).drew.heap.size:=zah hB (zah HY Hf.size);have HR:=Kx.o;have Hc:=Ha.o.sub;rw[hW.o]at Hc;have H6:=zaD.1 HR;have hJ:=zaD.1 (Hc.nodup H6.2.1);have ht:=zH hJ.1;have Kj:=zH (show ∀ y∈slotsAt (some ⟨xb,xo,none⟩) nx,y∉L1 from fun y hy h=>H6.2.2 y hy y (Hc.subset (zaX _ h)) rfl)
    have Kk:=zH (show ∀ y∈L2,y∉L1 from fun y hy h=>hJ.2.2 y h y hy rfl);have Kl:=zH (show ∀ y∈L2,y∉slotsAt (some ⟨xb,xo,none⟩) nx from fun y hy h=>H6.2.2 y h y (Hc.subset (zay _ hy)) rfl);have h9:=zH Hc;clear Hf H8 HR Hc H6 hJ;obtain⟨C,hC⟩:∃ C,wr.heap.size=C:=⟨_,rfl⟩;rw[hC]at hR hV hU⊢;obtain⟨r,hr⟩:∃ q,(wrP d g.pages g.was x sj).1=q:=⟨_,rfl⟩;have h5:=zH hr;have K1:=zH hC;have Hb:=zH (show(wr.alloc (.cells #[.int .i64 0,.pointer (some ⟨Nk,0,none⟩)] 102)).drew.cell? ⟨N,3,none⟩=some (.slice (some ⟨xb,xo,none⟩) nx cx)∧(wr.alloc (.cells #[.int .i64 0,.pointer (some ⟨Nk,0,none⟩)] 102)).drew.cell? ⟨C,1,none⟩=some (.pointer (some ⟨Nk,0,none⟩))from⟨Ku.o,zC hR.o⟩);clear hr hC;refine qac (S:=fun W'=>W'.cell? ⟨N,3,none⟩=some (.slice (some ⟨xb,xo,none⟩) nx cx)∧W'.cell? ⟨C,1,none⟩=some (.pointer (some ⟨Nk,0,none⟩))) [12] (by kernel_rfl) Hb.o (fun _=>?_);generalize (wr.alloc (.cells #[.int .i64 0,.pointer (some ⟨Nk,0,none⟩)] 102)).drew=W1 at *;refine zP 0 24 (.pointer (some ⟨N,0,none⟩)) Hb.o ?_;try simp only[zS]
    refine zP 1 25 (.pointer (some ⟨N,0,none⟩)) Hb.o ?_;try simp only[zS]
    refine zP 2 26 (.pointer (some ⟨N,3,none⟩)) Hb.o ?_;try simp only[zS]
    refine zL 3 27 (.slice (some ⟨xb,xo,none⟩) nx cx) rfl (Or.inl ⟨by rfl,fun W' hS=>by obtain⟨hS1,hS2⟩:=hS;go_simp⟩) (qaa Hb.o) ?_;try simp only[zS]
    refine zP 4 28 (.int .i64 (j:Int)) Hb.o ?_;try simp only[zS]
    refine zP 5 29 (.pointer (some ⟨W,0,none⟩)) Hb.o ?_;try simp only[zS]
    refine zP 6 30 (.pointer (some ⟨C,1,none⟩)) Hb.o ?_;try simp only[zS]
    refine zL 7 31 (.pointer (some ⟨Nk,0,none⟩)) rfl (Or.inl ⟨by rfl,fun W' hS=>by obtain⟨hS1,hS2⟩:=hS;go_simp⟩) (qaa Hb.o) ?_;try simp only[zS]
    refine zP 8 32 (.pointer (some ⟨PT,0,none⟩)) Hb.o ?_;try simp only[zS]
    refine zE 9 33 rfl (fun Kr hKr=>?_);go_simp;go_at_call 77
    refine(Kp.o x KR.o W1 F1 pv1 sj Nk L1 He.o Hq.o ht.o HM.o KU (by have:=HW.o;have:=HB.o;have:=hY.o;omega) (by have:=HQ.o;have:=HB.o;have:=hY.o;omega)).mono ?_;rintro e W2 ⟨F2,pv2,rfl,Hs,hr2⟩;rw[h5.o];have Ho:=NM.typed _ _ _ Hq.o;have Hk:=hr2.same Ho;have Hg:=zH (SrcS.same_kids Hk HN.o (qgm Ho HN.o.typed Kj.o));have hh:=zH (KM.same Hk _ _ _ (qgm Ho (KM.typed _ _ _ HF.o) Kk.o) HF.o);have h8:=zH (hr2.sok HM.o);have H1:=zH Hs;have KE:=zH hr2;have hc:=zH (show W2.cell? ⟨N,3,none⟩=some (.slice (some ⟨xb,xo,none⟩) nx cx)∧W2.cell? ⟨C,1,none⟩=some (.pointer (some ⟨Nk,0,none⟩))from⟨Hk.keep hSN Hb.o.1 (by simp) (by simp),(qag hr2.touch (cell_lt Hb.o.2) (fun h=>h.elim (fun h=>hV.o (.inl h)) (fun⟨y,hy,e⟩=>hU.o _ (NM.slots _ _ _ Hq.o y hy) e.symm))).trans Hb.o.2⟩);have KK:=zH (show W2.there xb oj 2 from fun k hk=>by
     have hm:(xb,oj)∈slotsAt (some ⟨xb,xo,none⟩) nx:=zbg.2 ⟨rs.length,zbb.2 (by have:=h4.o;omega),by rw[←hu.o]⟩;obtain⟨⟨n1,c1⟩,⟨n2,c2⟩⟩:=Hg.o.typed _ hm;refine⟨?_,(Hg.o.thaw (by omega) xb xo rfl).2 _⟩
     match k,hk with
     | 0,_=>rw[show oj+0=oj from rfl,c1];rfl
     | 1,_=>rw[c2];rfl)
    clear Hs hr2 Hk Ho;refine hKr.out (.int .i64 r) _ (qaa hc.o) (fun _=>?_);clear hKr Kr;try simp only[zS]
    refine zP 10 34 (.agg #[.int .i64 r,.pointer none]) hc.o ?_;try simp only[zS]
    refine zP 11 35 (.pointer (some ⟨xb,oj,none⟩)) hc.o ?_;try simp only[zS]
    refine qae (rs:=[12]) (by kernel_rfl) (by simp) ?_;refine AllReadyG.ev none rfl rfl (fun Kr hKr=>?_) AllReadyG.nil;refine Eq.mpr (zaw (by rfl)) ?_;refine wp_store_mid 102 (.tmp 35) (.tmp 34) rfl xb oj #[.int .i64 r,.pointer none] rfl rfl KK.o (by kernel_rfl) (by simp;exact⟨rfl,rfl⟩) ?_;have HU:=qlD (r:=r) H1.o h8.o hSb Hg.o hh.o Kl.o hu.o;have Kn:=zH HU.1;have HA:=zH HU.2.1;have hD:=zH HU.2.2.1;have ho:=zH HU.2.2.2;clear HU;generalize W2.setCells xb oj (#[.int .i64 r,.pointer none]:Array Value).toList=W3 at *;refine hKr.out _ _ (qaf 12 (by rfl) (by kernel_rfl)) (fun _=>?_);clear hKr Kr;try simp only[zS]
    refine qad (by kernel_rfl) ?_ _;go_wp2;refine⟨⟨j+1,F2,pv2,L2,by simp,by omega,⟨?_,?_,?_,?_,?_⟩⟩,by simp[RowKit.intOf];omega⟩
    ·rw[H2.o];exact Kn.o
    ·refine(HL.o.trans KE.o (L:=slotsAt (some ⟨xb,xo,none⟩) nx++L') (fun _ h=>h) (fun y hy=>zay _ (h9.o.subset (zaX _ hy)))).trans HA.o (fun _ h=>h) (fun y hy=>?_);obtain rfl:=za3.1 hy;exact zaX _ (zbg.2 ⟨rs.length,zbb.2 (by have:=h4.o;omega),by rw[←hu.o]⟩)
    ·rw[H2.o,H3.o,h5.o];exact hD.o
    ·rw[H3.o];exact ho.o
    ·exact(zcW _ _).trans h9.o
  ·obtain rfl:j=nx:=by omega
   obtain⟨rs,hrs⟩:∃ q,(wrPs d g.pages g.was xs s).1=q:=⟨_,rfl⟩;obtain⟨s2,hs2⟩:∃ q,(wrPs d g.pages g.was xs s).2=q:=⟨_,rfl⟩;have HD:xs.take j=xs:=zbe (by have:=Hz.o;omega);have Hs:=Ha.o.i;have Hw:=Ha.o.src;rw[HD,hs2]at Hs;rw[HD,hrs,show vx.drop j=[]from zbi (by have:=KQ.o;have:=Hz.o;omega),zaG]at Hw;have H1:=zH Hs;have Hg:=zH Hw;have K2:=zH (Ha.o.r.same hE.o);have h8:=zH (Ha.o.r.sok HS.o);have HB:=zH (qc5 d g.pages g.was xs s);have Hn:=qi6 (d:=d) (was:=g.was) hp xs s HH.o;rw[hs2]at Hn HB;rw[hrs]at Hn;have Hr:=zH hrs;have hA:=zH hs2;have KA:=zH Hn;have KT:B≤wr.heap.size:=zah hB Ha.o.r.touch.size;have gW:=Hs.wk.c2;clear HD Hs Hw hrs hs2 Hn;by_cases he:s2.e=0
   ·obtain⟨pl,hpl1,hpl2,hpl3⟩:=KA.o he;have H4:Below wr.heap.size wr wr.drew:=(zai _ _).drew;have HY:w.heap.size≤wr.heap.size:=Ha.o.r.touch.size;have H7:=Ha.o.r.trans (WrR.of_below (L:=[]) H4 (fun b hb=>zam (HS.o.lt b hb) HY)) (L:=slotsAt X j++L') (fun _ h=>h) (fun _ h=>by cases h);have Hk:=H7.same hE.o;have hL:pl.length=j:=by rw[hpl2,Hz.o]
    have Ka:EnM wr.drew S N leaf ks vs pl:=⟨K,ck,V,cv,X,cx,vk,vv,by rw[hL];exact Kw.o.same Hk hSN,KI.o.same Hk (hZ.o.val),hZ.o.same Hk,KJ.o.same Hk (h7.o.val),h7.o.same Hk,by
     have h:=Hg.o.below H4;rw[hpl1]at h;rw[hL];simpa [zcN,Function.comp_def] using h⟩
    have ha:=zH (qh2 Ka Kt.o hk Kq.o KP.o hpl3 (by omega));obtain⟨bs,hbs⟩:∃ l,encB leaf ks vs pl=l:=⟨_,rfl⟩;rw[hbs]at ha;unfold EnF at ha;have Kb:bs.length≤500:=by rw[←hbs];exact hs.o pl hpl2
    have h6:=zH (show encB leaf ks vs (rs.map Int.toNat)=bs by rw[←hbs,hpl1,zcN];exact congrArg _ ((List.map_congr_left (fun x _=>by simp)).trans (List.map_id pl)));have Ks:=zH Kb;have KD:=zH H7;have H0:=zH (H1.o.below H4);have KG:=zH (H7.sok HS.o);have HE:=zH he;have KS:B≤wr.drew.heap.size:=KT;have Hm:=zH (show wr.drew.cell? ⟨W,0,none⟩=some (.pointer (some ⟨T,0,none⟩))∧wr.drew.cell? ⟨T,0,none⟩=some (.pointer (some ⟨G,0,none⟩))from⟨H0.o.wk.c0,H0.o.tr.c0⟩);clear H4 HY H7 Hk Ka hbs Kb hpl1 hpl2 hpl3 hL;rw[HE.o]at gW;obtain⟨r3,hr3⟩:∃ q,putW d g.pages g.was bs s2=q:=⟨_,rfl⟩;have HA:=zH hr3;clear hr3 he;go_upto_region 9 with fail
    refine qac (S:=fun W'=>W'.cell? ⟨W,0,none⟩=some (.pointer (some ⟨T,0,none⟩))∧W'.cell? ⟨T,0,none⟩=some (.pointer (some ⟨G,0,none⟩))) [] (by kernel_rfl) Hm.o (fun _=>?_);generalize wr.drew=W0 at *;refine zP 0 43 (.pointer (some ⟨W,0,none⟩)) Hm.o ?_;try simp only[zS]
    refine zP 1 44 (.pointer (some ⟨W,0,none⟩)) Hm.o ?_;try simp only[zS]
    refine zP 2 45 (.pointer (some ⟨W,0,none⟩)) Hm.o ?_;try simp only[zS]
    refine zL 3 46 (.pointer (some ⟨T,0,none⟩)) rfl (Or.inl ⟨by rfl,fun W' hS=>by obtain⟨hS1,hS2⟩:=hS;go_simp⟩) (qaa Hm.o) ?_;try simp only[zS]
    refine zP 4 47 (.pointer (some ⟨T,0,none⟩)) Hm.o ?_;try simp only[zS]
    refine zP 5 48 (.pointer (some ⟨T,0,none⟩)) Hm.o ?_;try simp only[zS]
    refine zL 6 49 (.pointer (some ⟨G,0,none⟩)) rfl (Or.inl ⟨by rfl,fun W' hS=>by obtain⟨hS1,hS2⟩:=hS;go_simp⟩) (qaa Hm.o) ?_;try simp only[zS]
    refine zP 7 50 (.pointer (some ⟨N,0,none⟩)) Hm.o ?_;try simp only[zS]
    refine zE 8 51 rfl (fun Kr hKr=>?_);go_simp;go_at_call 103
    refine ha.o.mono ?_;rintro e W1 ⟨A5,c5,n5,rfl,hn5,ho5,hb5⟩;have He:=zH (H0.o.below hb5);have HL:=zH (KD.o.trans (WrR.of_below (L:=[]) hb5 KG.o.lt) (L:=slotsAt X j++L') (fun _ h=>h) (fun _ h=>by cases h));have HM:=zH (show SOk S (WX F1 G W T PT mv pv1) W1 from HL.o.sok HS.o);have Km:=zH (show W1.cell? ⟨W,0,none⟩=some (.pointer (some ⟨T,0,none⟩))∧W1.cell? ⟨T,0,none⟩=some (.pointer (some ⟨G,0,none⟩))from⟨He.o.wk.c0,He.o.tr.c0⟩);have hz:=zH (qmc He.o.tr.pg HE.o (He.o.off HE.o) (ho5.byN hn5) hn5 (by have:=Ks.o;omega) (c:=c5) (fun ad e hg=>by
     have h1:=(ho5.blk ad.block (by rw[e];rfl)).1;have h2:=H0.o.wlt ad.block (.inl (.inl hg));omega) (by have:=HB.o;have:=HW.o;omega))
    have K3:B≤W1.heap.size:=zah KS hb5.size;unfold PuF at hz;rw[HA.o]at hz;clear hn5 ho5 hb5;refine hKr.out (.slice A5 n5 c5) _ (qaa Km.o) (fun _=>?_);clear hKr Kr;try simp only[zS]
    refine zE 9 52 rfl (fun Kr hKr=>?_);go_simp;go_at_call 102
    refine hz.o.mono ?_;rintro e W2 ⟨F3,v9,hx,hpg,rfl,h0,h1⟩;have HX:=zH hx;have HH:=zH hpg;have KN:=zH h0;have KO:=zH h1;have HZ:=zH (qcl He.o hx hpg);have Hy:=zH (show W2.cell? ⟨W,0,none⟩=some (.pointer (some ⟨T,0,none⟩))∧W2.cell? ⟨T,0,none⟩=some (.pointer (some ⟨G,0,none⟩))from⟨HZ.o.2.1.c0,HZ.o.1.c0⟩);clear hx hpg h0 h1;refine hKr.out (.tuple #[.int .i64 v9,.int .i64 (r3.2.e:Int)]) _ (qaa Hy.o) (fun _=>?_);clear hKr Kr;try simp only[zS]
    refine zP 10 42 (.tuple #[.int .i64 v9,.int .i64 (r3.2.e:Int)]) Hy.o ?_;try simp only[zS]
    refine zP 11 53 (.int .i64 v9) Hy.o ?_;try simp only[zS]
    refine zP 12 54 (.int .i64 (r3.2.e:Int)) Hy.o ?_;try simp only[zS]
    refine zP 13 9 (.int .i64 v9) Hy.o ?_;try simp only[zS]
    refine zP 14 10 (.int .i64 (r3.2.e:Int)) Hy.o ?_;try simp only[zS]
    refine qad (by kernel_rfl) ?_ _;obtain⟨e3,he3⟩:∃ q,r3.2.e=q:=⟨_,rfl⟩;rw[he3];have Hx:=zH he3;clear he3;have K5:W2.cell? ⟨W,2,none⟩=some (.int .i64 (s2.e:Int)):=HZ.o.2.1.c2;have K7:W2.frozen? ⟨W,2,none⟩=false:=zaQ _ _ _ _ _ HZ.o.2.1.nd;by_cases he:e3=0
    ·subst he;obtain⟨hq1,n9,rfl,hq2⟩:=KN.o Hx.o;have HT:r3.2.p.off=false:=by
      obtain⟨l,hl⟩:=qd0 d g.pages g.was bs s2 hp He.o.tr.pg.ok.use HE.o;rw[HA.o]at hl;exact(hl.on (by rw[Hx.o];decide)).trans (He.o.off HE.o)
     have Hu:=qme He.o HX.o HH.o (by rw[HE.o,Hx.o]) HT;have Hi:=HL.o.trans (qkz He.o HM.o HX.o HH.o) (L:=slotsAt X j++L') (fun _ h=>h) (fun _ h=>by cases h);have H5:Below W2.heap.size W2 (W2.alloc (.cells #[.int .i64 (n9:Int)] 3)):=zB _ _;have HV:w.heap.size≤W2.heap.size:=Hi.touch.size;have Hj:=Hi.trans (WrR.of_below (L:=[]) H5 (fun b hb=>zam (HS.o.lt b hb) HV)) (L:=slotsAt X j++L') (fun _ h=>h) (fun _ h=>by cases h);have KF:=zH Hj;have Ht:=Hu.below H5;have KH:=zH (Hj.sok HS.o);have hH:B≤(W2.alloc (.cells #[.int .i64 (n9:Int)] 3)).heap.size:=zah hB (zah HV H5.size);obtain⟨A1,c1,hpv,_⟩:=Ht.po.slice;subst hpv;obtain⟨m2,hm2⟩:∃ n,s2.put.length=n:=⟨_,rfl⟩;have hN:=Hu.pt;have hM:=Ht.po;simp only[hm2]at hN hM Ht;have Ko:=zH Ht;have HJ:=zH hM;have hX:=zH hm2;have g0:W2.cell? ⟨PT,0,none⟩=some (.slice A1 m2 c1):=zC hN;have K0:=cell_lt g0;have KX:m2≤100000:=by have:=HB.o;have:=HQ.o;omega
     have KZ:(Value.slice A1 m2 c1).ownBlock≠some PT:=Ht.aW.2.2.1;have HK:=zH Ht.pt;have KB:=zH hq2;have KC:=zH hq1;obtain⟨j0,hj0,jz0,jz1,jz2⟩:=zaT qgz;clear Hu Hi H5 Hj Ht hN hM hq2 hq1 hm2;go_wp2_with (at_builtin;go_loud (refine qbg rfl (.tmp 64) (.tmp 66) 23 rfl B 3 j0 _ 1 8 Tryz.underlying23 hj0 jz0 jz1 jz2 rfl (by decide) (.slice A1 m2 c1) m2 (nums s2.put) rfl HJ.o.row (some ⟨W2.heap.size,0,none⟩) 1 1 [.int .i64 (n9:Int)] rfl (qd3 _ _ _ _ _ rfl rfl) (by simp;rfl) (by unfold maxLen;omega) (by omega) hH ?_;intro A4 c4 W4 q1 q2 q3;have H9:=qao q2 q3;have KL:=zH H9;have Kz:=zH (qaz HJ.o hH q1 H9);have Hv:=(H9.touch.block PT (zab.1 HK.o).1 KZ).trans HK.o;have K6:W4.cell? ⟨PT,0,none⟩=some (.slice A1 m2 c1):=(zan _ _ _ _ _ _ Hv).trans rfl;have K8:W4.frozen? ⟨PT,0,none⟩=false:=zaQ _ _ _ _ _ Hv;clear q1 q2 q3 H9 Hv))
     go_ret;have Kg:=KH.o;have Kf:=KF.o;rw[hX.o]at Kg Kf;have Ke:=qkA Ko.o Kg hH (n:=n9) (by
      have e:nums (s2.put++[n9])=nums s2.put++[.int .i64 (n9:Int)]:=by unfold nums;simp
      show Own W4 B _ 1 _ (s2.put++[n9]).length _;rw[zad,hX.o,e];exact Kz.o) KL.o
     rw[Hr.o,hA.o,h6.o,HA.o];have es:({ r3.2 with put:=s2.put++[n9] }:Ws)=r3.2:=by
      rw[←KB.o]
     have h1:=Ke.1;have h2:({ ({ r3.2 with put:=s2.put }:Ws)with put:=s2.put++[n9] }:Ws)=r3.2:=es;simp only[es]at h1;exact⟨F3,_,by rw[KC.o];rfl,h1,Kf.trans Ke.2 (fun _ h=>h) (fun _ h=>by cases h)⟩
    ·have KV:¬((e3:Int)=0):=by omega
     go_wp2;go_ret;have hq:=KO.o (by rw[Hx.o];exact he);have hK:=qmd He.o HM.o HX.o HH.o (by rw[Hx.o];exact he) hq.2;rw[Hr.o,hA.o,h6.o,HA.o];rw[Hx.o]at hK;exact⟨F3,pv1,by rw[hq.1];rfl,hK.1,HL.o.trans hK.2 (fun _ h=>h) (fun _ h=>by cases h)⟩
   ·have KV:¬((s2.e:Int)=0):=by omega
    go_wp2;go_ret;rw[Hr.o,hA.o,qck _ _ _ _ _ he];exact⟨F1,pv1,rfl,H1.o,Ha.o.r⟩
end
variable {w:World}{a:PA}{G d B:Nat}{F:Nat→Prop}{g:Pg}
theorem qe1 {a:PA}{G d T:Nat}{g:Pg}{root1 B W PT:Nat}{mv:Value}{met:List Nat}{S:Nat→Prop}{D:Dsk}(hp:g.pages≤384) :
  ∀ (h:Nat) {k:Kd} {w:World} {F:Nat→Prop} {pv:Value} {s:Ws} {N:Nat} {L:List (Nat×Nat)},WrI w a G d T F g root1 B W PT mv met pv s→NM w S k N L→L.Nodup→SOk S (WX F G W T PT mv pv) w→B≤w.heap.size→WF D h k→(∀ q∈pgs D h k,q<65536)→
   s.p.waits.length+8*news k≤1099511627776→s.put.length+news k≤100000→
   Calls Tryz.prog 77 #[.pointer (some ⟨W,0,none⟩),.pointer (some ⟨N,0,none⟩),.pointer (some ⟨PT,0,none⟩)] w (WrF S L a G d T F g root1 B W PT mv met pv (wrP d g.pages g.was k s) w)
 | 0,k,w,F,pv,s,N,L,hI,hn,hnd,hS,hB,hwf,hpg,hw,hq=>by
  obtain⟨m,h1,⟨ps,rfl,hne,hpl⟩,hsz⟩:=hwf;cases k with
  | page p=>simp only[NM]at hn
  | inner ks xs=>simp[nd]at h1
  | leaf qs=>
   obtain rfl:qs=ps:=by simpa [nd] using h1
   have hl:=qcL hpl;have hz:qaL qs≤498:=by simp only[nsize]at hsz;omega
   have hc:=qgj hp hI hn.ndp_leaf hnd hS hB (fun _=>by simp) (by rw[zaE];omega) (fun k hk=>by
    obtain⟨q,hq,rfl⟩:=zbg.1 hk;have:=(hpl q hq).1.2;omega) (fun k hk=>by
    obtain⟨q,hq,rfl⟩:=zbg.1 hk;have:=(hpl q hq).2;omega) (fun x hx=>by cases hx) (za7 _) (fun pl h0=>by
    obtain rfl:=zcg.1 h0;rw[qg5,qew _ rfl];exact hsz) (by simpa [news,qaq] using hw) (by simpa [news,qaq] using hq) (fun x hx=>by cases hx)
   simp only[wrPs,zbA,qg5]at hc;simpa only [wrP] using hc
 | h+1,k,w,F,pv,s,N,L,hI,hn,hnd,hS,hB,hwf,hpg,hw,hq=>by
  obtain⟨m,h1,hb,hsz⟩:=hwf;have ep:=qaY h1 hb;obtain⟨ks,xs,rfl,l1,k1,s1,x1⟩:=hb;cases k with
  | page p=>simp only[NM]at hn
  | leaf qs=>simp[nd]at h1
  | inner ks2 xs2=>
   obtain⟨rfl,rfl⟩:ks2=ks∧xs2=xs:=by simpa [nd] using h1
   have Hb:=qbS k1;have hz:ksize ks2+2*xs2.length≤498:=by simp only[nsize]at hsz;omega
   have Ha:∀ x∈xs2,∀ q∈pgs D h x,q<65536:=fun x hx q hq2=>hpg q (by
    rw[ep];refine zay _ ?_;simp only[pgs,nd,pageOf,zaA];exact zaS.2 ⟨x,hx,hq2⟩)
   have hc:=qgj hp hI hn.ndp_inner hnd hS hB (fun h=>by cases h) (by omega) (fun k hk=>by have:=(k1 k hk).2;omega) (fun k hk=>by cases hk) (fun x hx p e=>by
    subst e;refine Ha _ hx p ?_;obtain⟨n,y1,y2,_⟩:=x1 _ hx;rw[qaY y1 y2];simp[pageOf]) (by omega) (fun pl h0=>by
    rw[qfE,qew _ rfl];simp only[nsize,zaE,h0]at hsz⊢;exact hsz) (by simp only[news]at hw;omega) (by simp only[news]at hq;omega) (fun x hx w1 F1 pv1 s1 N1 L1 a1 a2 a3 a4 a5 a6 a7=>
     qe1 hp h a1 a2 a3 a4 a5 (x1 x hx) (Ha x hx) a6 a7)
   rw[qfE,zcN]at hc;simp only[wrP];exact hc
theorem qiF {p:Pl}(h:PgM w a G d F p g)(i:Nat)(hi:i<384) :
  Calls Tryz.prog 78 #[.pointer (some ⟨G,0,none⟩),.int .i64 (i:Nat)] w (fun e w'=>(∃ n:Int,e=.returned (.int .i64 n))∧PgM w' a G d F p { g with use:=setB g.use i false }∧Ext (GF F G) (GF F G) w w'):=by
 refine(h.free_call (i:Nat)).mono ?_;rintro e w' (⟨h1,rfl,rfl⟩|⟨h1,rfl,h2,h3⟩)
 ·refine⟨⟨_,rfl⟩,?_,Ext.refl _ _⟩;have hb:hasB g.use i=false:=by
   unfold inUseB at h1;rcases zbL i g.pages with hl|hl
   ·simp only[zda,Bool.and_eq_false_iff,decide_eq_false_iff_not]at h1;rcases h1 with(h1|h1)|h1
    ·omega
    ·omega
    ·exact h1
   ·exact h.ok.up i hl hi
  rw[qg8 h.ok.use hi hb];exact h
 ·rw[zda]at h2;exact⟨⟨_,rfl⟩,h2,h3⟩
theorem qeb (use:Bs)(l:List Nat){j q:Nat}(h:l[j]?=some q):qaK use (l.take (j+1))=setB (qaK use (l.take j)) q false:=by
 unfold qaK;rw[zbK,h,zbZ,List.foldl_append];rfl
theorem WrI.free {w':World}{T:Nat}{root1 W PT:Nat}{mv:Value}{met:List Nat}{pv:Value}{s:Ws}(h:WrI w a G d T F g root1 B W PT mv met pv s){u:Bs}(hpg:PgM w' a G d F s.p { g with use:=u })(hx:Ext (GF F G) (GF F G) w w') :
  WrI w' a G d T F g root1 B W PT mv met pv { s with use:=u }:=by
 obtain⟨f1,f2,f3,f4,f5,f6⟩:=qcl (u3:=u) h hx hpg;exact⟨f1,f2,f3,f4,f5,h.aW,h.am,h.bT,h.off⟩
def qbN (d:Nat)(t:Ts)(topc:Option Kd):Int×Ws:=match topc with
 | none=>(-1,⟨0,t.p,t.g.use,[]⟩)
 | some k=>wrP d t.g.pages t.g.was (single 400 k) ⟨0,t.p,t.g.use,[]⟩
theorem qlI (d:Nat)(t:Ts)(met:List Nat)(topc:Option Kd)(hr:∀ k,topc=some k→(qbN d t topc).2.e=0→0≤(qbN d t topc).1):qeq d t met topc=if(qbN d t topc).2.e=0 then(0,⟨(qbN d t topc).2.p,{ t.g with use:=qaK (qbN d t topc).2.use met },((qbN d t topc).1+1).toNat⟩)else((qbN d t topc).2.e,⟨(qbN d t topc).2.p,{ t.g with use:=qaK (qbN d t topc).2.use (qbN d t topc).2.put },t.root1⟩):=by
 cases topc with
 | none=>simp[qeq,qbN]
 | some k=>
  have h1:=hr k rfl;have e:qbN d t (some k)=wrP d t.g.pages t.g.was (single 400 k) ⟨0,t.p,t.g.use,[]⟩:=rfl;rw[e]at h1⊢;simp only[qeq];split
  ·rename_i h0;have h2:=h1 h0;rw[show ∀ z:Int,0≤z→(z+1).toNat=z.toNat+1 from fun z hz=>by omega];exact h2
  ·rfl
def TopM (w:World)(B:Nat)(S:Nat→Prop)(topc:Option Kd)(tv:Value):Prop:=
 (topc=none∧tv=.pointer none)∨∃ k N L,topc=some k∧tv=.pointer (some ⟨N,0,none⟩)∧NM w S k N L∧L.Nodup∧∀ y∈L,B≤y.1
def SwF (a:PA)(G d T:Nat)(F:Nat→Prop)(B:Nat)(r:Nat×Ts)(w:World)(e:Ending)(w':World):Prop:=
 ∃ F',e=.returned (.int .i64 (r.1:Int))∧TrM w' a G d T F' r.2.p r.2.g r.2.root1∧Touch (fun b=>GF F G b∨b=T∨B≤b) w w'∧∀ b,GF F' G b→GF F G b∨B≤b
def TopW (D:Dsk)(S:Nat→Prop)(B:Nat)(topc:Option Kd)(gk:Nat)(s7 s2:Value)(wr:World):Prop:=
 (s2=.pointer none∧∃ q:Int,s7=.int .i64 q∧((topc=none∧q=-1)∨∃ k pg,topc=some k∧single 400 k=.page pg∧q=(pg:Nat)))∨
 (s7=.int .i64 (-1)∧∃ k f cur N L h,topc=some k∧s2=.pointer (some ⟨N,0,none⟩)∧NM wr S cur N L∧L.Nodup∧(∀ y∈L,B≤y.1)∧single f cur=single 400 k∧h≤f∧h<gk∧WF D h cur∧∀ q∈pgs D h cur,q<65536)
def TopO (D:Dsk)(S:Nat→Prop)(B:Nat)(topc:Option Kd)(s7 s2:Value)(wr:World):Prop:=
 (s2=.pointer none∧∃ q:Int,s7=.int .i64 q∧((topc=none∧q=-1)∨∃ k pg,topc=some k∧single 400 k=.page pg∧q=(pg:Nat)))∨
 (s7=.int .i64 (-1)∧∃ k N L h,topc=some k∧s2=.pointer (some ⟨N,0,none⟩)∧NM wr S (single 400 k) N L∧L.Nodup∧(∀ y∈L,B≤y.1)∧WF D h (single 400 k)∧∀ q∈pgs D h (single 400 k),q<65536)
theorem qjO {d pages:Nat}{was:Bs}(hp:pages≤384):∀ (k:Kd) (s:Ws),(wrP d pages was k s).2.e=0→0≤(wrP d pages was k s).1
 | .page p,s,_=>by simp[wrP]
 | .leaf ps,s,h=>by
  obtain⟨_,n,h1,_⟩:=qeA hp (by simpa only [wrP] using h);simp only[wrP];omega
 | .inner ks xs,s,h=>by
  obtain⟨_,n,h1,_⟩:=qeA hp (by simpa only [wrP] using h);simp only[wrP];omega
theorem qkQ {d:Nat}{t:Ts}{topc:Option Kd}(hp:t.g.pages≤384)(hu:t.g.use.length=48):∀ q∈(qbN d t topc).2.put,q<384:=fun q hq=>by
 cases topc with
 | none=>simp[qbN]at hq
 | some k=>
  obtain⟨l,hl⟩:=qhQ d t.g.pages t.g.was hp (single 400 k) ⟨0,t.p,t.g.use,[]⟩ hu rfl;have e:=hl.put;simp only[zaA]at e;have h2:=(hl.use.free q (by rw[←e];exact hq)).1;have:t.g.pages≤384:=hp;omega
theorem TopO.ptr {D:Dsk}{S:Nat→Prop}{topc:Option Kd}{s7 s2:Value}{wr:World}(h:TopO D S B topc s7 s2 wr):∃ o,s2=.pointer o:=by
 rcases h with⟨h,_⟩|⟨_,_,_,_,_,_,h,_⟩<;>exact⟨_,h⟩
theorem qir (f:Nat){k:Kd}(h:∀ ks x,k≠.inner ks [x]):single f k=k:=by
 match f,k with
 | 0,_=>rfl
 | f+1,.page _=>rfl
 | f+1,.leaf _=>rfl
 | f+1,.inner _ []=>rfl
 | f+1,.inner ks [x]=>exact absurd rfl (h ks x)
 | f+1,.inner _ (_::_::_)=>rfl
end Go.Proofs.YtpmebcgmgfcmiaaGreatDoor
