/- Texts CtE LgA PNw LgB LgC. -/
import Derived.Test.YtfcknhbmeofniaaGreatDoorR23
import Derived.Lib.SlBytesConst
set_option linter.all false
set_option maxRecDepth 100000
set_option maxHeartbeats 16000000
set_option linter.all false
namespace Go.Proofs.YtfcknhbmeofniaaGreatDoor
open Go.RowKit BT
theorem CaM.lt {w:World}{K T:Nat}{a:PA}{G j:Nat}{F:Nat→Prop}{q:Pl}{g:Pg}(h:CaM w K T a G j F q g):K<w.heap.size:=by
 obtain⟨V,h1⟩:=h.ex;exact(zaa.1 h1).1
theorem CaM.below {w w':World}{K T:Nat}{a:PA}{G j:Nat}{F:Nat→Prop}{q:Pl}{g:Pg}(h:CaM w K T a G j F q g)(hb:Below w.heap.size w w'):CaM w' K T a G j F q g:=by
 obtain⟨V,h1⟩:=h.ex;exact⟨⟨V,(hb.block K h.lt).trans h1⟩,h.tr.below hb,h.off⟩
theorem qkY {w:World}{base n c:Nat}{A:Option Addr}{x:UInt8}(h:Own w base 5 1 (.slice A n c) n (bv [x]))(h0:0<n):∃ g,A=some ⟨g,0,none⟩∧base≤g∧g<w.heap.size∧w.cell? ⟨g,0,none⟩=some (.int .u8 (x.toNat:Int))∧w.frozen? ⟨g,0,none⟩=false:=by
 have Ha:=h.row_own h0;rcases Ha.2 with⟨_,h⟩|⟨g,cap,cur,e,hbg,hg,_⟩
 ·omega
 ·cases e;refine⟨g,rfl,hbg,(zaa.1 hg).1,?_,zbk _ _ _ _ _ hg⟩;have:=Ha.cells (g:=g) rfl 0 (.int .u8 (x.toNat:Int)) rfl;exact this
theorem qiS {w:World}{K T:Nat}{a:PA}{G j:Nat}{F:Nat→Prop}{q:Pl}{g:Pg}(h:CaM w K T a G j F q g){A:Option Addr}{c:Nat}(hb:By w A [108]) :
  Calls Tryz.prog 22 #[.pointer (some ⟨K,0,none⟩),.slice A 1 c] w fun e w'=>∃ A8 c8,e=.returned (.tuple #[.slice A8 0 c8,.int .i64 0])∧Below w.heap.size w w':=by
 have HC:=zH h;have HA:=zH hb;have Hk:=zH (show Calls Tryz.prog 28 #[.slice A 1 c] w fun e w'=>∃ b c1,e=.returned (.slice (some ⟨b,0,none⟩) 1 c1)∧w.heap.size≤b∧b<w'.heap.size∧w'.cell? ⟨b,0,none⟩=some (.int .u8 108)∧w'.frozen? ⟨b,0,none⟩=false∧Below w.heap.size w w' from(qaC A c [108] w hb (by simp)).mono (by
  rintro e w1 ⟨A1,c1,rfl,ho1,hb1⟩;obtain⟨b,rfl,h1,h2,h3,h4⟩:=qkY ho1 (by simp);exact⟨b,c1,rfl,h1,h2,h3,h4,hb1⟩))
 clear h hb;go_enter Tryz.func22,Tryz.ntmps22
 go_upto_region 2 with(go_at_call 28;go_loud (refine Hk.o.mono ?_;rintro e w1 ⟨b,c1,rfl,h1,h2,h3,h4,hb1⟩;have Hg:=zH hb1;have Hc:=zH (And.intro h1 h2);have H3:=zH h3;have H4:=zH h4;clear hb1 h1 h2 h3 h4))
 go_loopw [6] (fun v Y=>v=.slice (some ⟨b,0,none⟩) 1 c1∧Below w.heap.size w Y∧b<Y.heap.size∧Y.cell? ⟨b,0,none⟩=some (.int .u8 108)∧Y.frozen? ⟨b,0,none⟩=false) (fun _ _=>0)
 case atStart=>exact⟨rfl,Hg.o,Hc.o.2,H3.o,H4.o⟩
 case round=>
  rename World=>Y;obtain⟨rfl,hbY,hbl,f0,f1⟩:=hrel;have Hj:=zH hbY;have Hi:=zH hbl;clear hbY hbl;go_upto_region 6 with fail
  have Hb:Below w.heap.size w (Y.setCell ⟨b,0,none⟩ (.int .u8 109)):=Hj.o.setCell Hc.o.1 _;have hh:By (Y.setCell ⟨b,0,none⟩ (.int .u8 109)) (some ⟨b,0,none⟩) [109]:=⟨fun _=>⟨b,0,rfl,by simpa using Hi.o,fun k x hk=>by
   cases k with
   | zero=>
    simp at hk;subst hk;exact World.cell?_setCell_same Y ⟨b,0,none⟩ _ f0
   | succ k=>simp at hk⟩⟩
  generalize Y.setCell ⟨b,0,none⟩ (.int .u8 109)=W at *;have Ha:=HC.o.below Hb;obtain⟨V,hVx⟩:=Ha.ex;have t2:W.cell? ⟨K,2,none⟩=some (.pointer (some ⟨T,0,none⟩)):=zC hVx;have Hf:=zH (qg4 (A:=A) (HA:=some ⟨b,0,none⟩) (lo:=[108]) (hi:=[109]) (n:=1) (c:=c) (hn:=1) (hc:=c1) (its:=[]) Ha.tr Ha.off (.inl ⟨rfl,rfl⟩) (HA.o.below Hb) hh rfl rfl (by simp) (fun x hx=>by cases hx));unfold LsF at Hf;have He:=zH Hb;clear Hb hh Ha hVx f0 f1;go_wp2_with (go_at_call 54;go_loud (refine Hf.o.mono ?_;rintro e w8 ⟨hb8,A8,c8,cs8,rfl,_,_⟩;have Hh:=zH hb8;clear hb8))
  go_ret2
  exact⟨A8,c8,rfl,He.o.trans (Hh.o.mono He.o.size)⟩
end Go.Proofs.YtfcknhbmeofniaaGreatDoor
set_option linter.all false
namespace Go.Proofs.YtfcknhbmeofniaaGreatDoor
open Go.RowKit BT
def LeS (w:World)(B:Nat)(F:Nat→Prop)(L:Nat)(v v2:Value)(b:Nat):Prop:=B≤b∧b<w.heap.size∧b≠L∧v.ownBlock≠some b∧v2.ownBlock≠some b∧F b
def LeO (w:World)(L b:Nat):Prop:=b=L∨∃ v v2,w.heap[L]?=some (.cells #[v,v2] 69 (0,0))∧(v.ownBlock=some b∨v2.ownBlock=some b)
structure LeM (w:World) (B:Nat) (F:Nat→Prop) (L:Nat) (es:List Bs):Prop where
 lo:B≤L
 fb:∀ b,F b→B≤b∧b<w.heap.size
 fo:∀ b,LeO w L b→F b
 sz:∀ e∈es,e.length≤1048576
 many:es.length≤1000
 ex:∃ A c cs A2 c2,w.heap[L]?=some (.cells #[.slice A es.length c,.slice A2 es.length c2] 69 (0,0))∧
  Own w B 40 1 (.slice A es.length c) es.length cs∧RowV w (LeS w B F L (.slice A es.length c) (.slice A2 es.length c2)) cs es∧(Value.slice A es.length c).ownBlock≠some L∧
  Own w B 34 32 (.slice A2 es.length c2) es.length (bv (es.map qce).flatten)∧(Value.slice A2 es.length c2).ownBlock≠some L∧
  ∀ b,(Value.slice A es.length c).ownBlock=some b→(Value.slice A2 es.length c2).ownBlock≠some b
theorem qfM {w:World}{K T:Nat}{a:PA}{G j:Nat}{F:Nat→Prop}{q:Pl}{g:Pg}(h:CaM w K T a G j F q g) :
  Calls Tryz.prog 7 #[.pointer (some ⟨K,0,none⟩)] w fun e w'=>∃ L,e=.returned (.tuple #[.pointer (some ⟨L,0,none⟩),.int .i64 0])∧LeM w' w.heap.size (fun b=>b=L) L []∧Below w.heap.size w w':=by
 have Hb:Below w.heap.size w (w.alloc (.cells #[.int .u8 108] 5 (1,2))):=zB _ _;have Hf:=zH (qiS (h.below Hb) (A:=some ⟨w.heap.size,0,none⟩) (c:=1) (By.of_block (l:=[108]) (zae w _) rfl));have Hc:=zH Hb;clear h Hb;have Hg:=Lib.run_convert_bytes_const (P:=Tryz.prog) w 40 5 #[.int .u8 108] 1 1 Tryz.underlying40 Tryz.underlying5;go_enter Tryz.func7,Tryz.ntmps7
 go_upto_region 4 with(go_at_call 22;go_loud (refine Hf.o.mono ?_;rintro e w1 ⟨A1,c1,rfl,hb1⟩;have Ha:=zH (Hc.o.trans (hb1.mono Hc.o.size));clear hb1))
 go_upto_region 5 with fail
 have hk:=zae w1 (.cells #[.slice none 0 0,.slice none 0 0] 69);have hb:Below w.heap.size w (w1.alloc (.cells #[.slice none 0 0,.slice none 0 0] 69)):=Ha.o.alloc Ha.o.size _;generalize w1.alloc (.cells #[.slice none 0 0,.slice none 0 0] 69)=W at *;have HK:=zH hk;have HB:=zH hb;have He:=zH Ha.o.size;clear hk hb Ha;generalize w1.heap.size=L at *;go_wp2;go_loopw [23] (fun v Y=>v=.int .i64 0∧Below w.heap.size w Y∧Y.heap[L]?=some (.cells #[.slice none 0 0,.slice none 0 0] 69 (0,0))) (fun _ _=>0)
 case atStart=>exact⟨rfl,HB.o,HK.o⟩
 case round=>
  rename World=>Y;obtain⟨rfl,hb,hk⟩:=hrel;go_wp2
  go_ret2
  exact⟨L,rfl,⟨He.o,(fun b e=>by subst e;exact⟨He.o,(zaa.1 hk).1⟩),(fun b hb=>by
   rcases hb with h1|⟨v,v2,h0,h1⟩
   ·exact h1
   ·have e:=hk.symm.trans h0;simp only[zau,Obj.cells.injEq,and_true,Array.mk.injEq,List.cons.injEq]at e;obtain⟨rfl,rfl⟩:=e;rcases h1 with h1|h1<;>cases h1),(fun e he=>by cases he),(by simp),none,0,[],none,0,hk,Own.nil _ _ _ _,RowV.nil _ _,(fun e=>by cases e),Own.nil _ _ _ _,(fun e=>by cases e),(fun b e=>by cases e)⟩,hb⟩
end Go.Proofs.YtfcknhbmeofniaaGreatDoor
namespace Go.Proofs.YtfcknhbmeofniaaGreatDoor
open Go.RowKit BT
def qdg (nd:Nat):Nat→List Nat→List Nat→List Value
 | i,m::ms,M::Ms=>[.bool (decide (nd≤i)),.int .i64 (m:Int),.map (some M),.int .i64 0,.int .i64 0]++qdg nd (i+1) ms Ms
 | _,_,_=>[]
theorem qfW (nd:Nat):∀ (i:Nat) (ms Ms:List Nat) (m M:Nat),ms.length=Ms.length→qdg nd i (ms++[m]) (Ms++[M])=qdg nd i ms Ms++[.bool (decide (nd≤i+ms.length)),.int .i64 (m:Int),.map (some M),.int .i64 0,.int .i64 0]
 | i,[],[],m,M,_=>by simp[qdg]
 | i,a::ms,b::Ms,m,M,h=>by
  have:=qfW nd (i+1) ms Ms m M (by simpa using h);simp only[za3,qdg,zah,this,zal];rw[show i+1+ms.length=i+(ms.length+1) by omega]
 | i,[],b::Ms,m,M,h=>by simp at h
 | i,a::ms,[],m,M,h=>by simp at h
theorem qfb (nd:Nat):∀ (i:Nat) (ds ts Ms Ns:List Nat),ds.length=Ms.length→i+ds.length≤nd→(0<ts.length→nd≤i+ds.length)→qdg nd i (ds++ts) (Ms++Ns)=((List.zip ds Ms).flatMap fun x=>qcx x.1 x.2)++qdg nd (i+ds.length) ts Ns
 | i,[],ts,[],Ns,_,_,_=>by simp
 | i,m::ds,ts,M::Ms,Ns,h,h1,h2=>by
  have:=qfb nd (i+1) ds ts Ms Ns (by simpa using h) (by simp at h1;omega) (fun h0=>by have:=h2 h0;simp at this;omega);simp only[za3,qdg,List.zip_cons_cons,zat,this,zal,zah];rw[show i+1+ds.length=i+(ds.length+1) by omega];simp only[zal]at h1;rw[show decide (nd≤i)=false from zan (by omega)];rfl
 | i,[],ts,M::Ms,Ns,h,_,_=>by simp at h
 | i,m::ds,ts,[],Ns,h,_,_=>by simp at h
theorem qfc (nd:Nat):∀ (i:Nat) (ts Ns:List Nat),nd≤i→ts.length=Ns.length→qdg nd i ts Ns=(List.zip (ts.map fun t=>(⟨t,0,0⟩:Tp)) Ns).flatMap fun x=>ql0 x.1 x.2
 | i,[],[],_,_=>rfl
 | i,t::ts,N::Ns,h,h1=>by
  have:=qfc nd (i+1) ts Ns (by omega) (by simpa using h1);simp only[qdg,zbD,List.zip_cons_cons,zat,this];rw[show decide (nd≤i)=true from zaT h];rfl
 | i,[],N::Ns,_,h=>by simp at h
 | i,t::ts,[],_,h=>by simp at h
def fresh (ds ts:List Nat):Pl:=⟨ds,ts.map fun t=>⟨t,0,0⟩,fun _ _=>zeros 64,[],false,-1⟩
def NwF (ds ts:List Nat)(w:World)(e:Ending)(w':World):Prop:=
 ∃ a F,e=.returned (.tuple #[.pointer (some ⟨a.P,0,none⟩),.int .i64 0])∧PlM w' a F (fresh ds ts)∧(∀ b,F b→w.heap.size≤b)∧Below w.heap.size w w'
theorem ql8:(Tryz.prog.info? 94).map (fun i=>(i.zero,i.size,i.bytes))=some (some (.agg #[.bool false,.int .i64 0,.map none,.int .i64 0,.int .i64 0]),5,40):=by kernel_rfl
structure NwM (w0 w:World) (P B:Nat) (dA tA:Option Addr) (nd dC nt tC nn:Nat) (all:List Nat) (k:Nat):Prop where
 ex:∃ v Ms,w.heap[P]?=some (.cells #[.slice dA nd dC,.slice tA nt tC,v,.slice none 0 0,.bool false,.int .i64 (-1),.int .i64 0,.int .i64 0] 90 (0,0))∧
  Own w B 94 5 v k (qdg nd 0 (all.take k) Ms)∧Ms.length=k∧Ms.Nodup∧(∀ M∈Ms,B≤M∧IMap w M []∧∀ b,v.ownBlock=some b→b≠M)∧∃ A c,v=.slice A k c
 touch:Touch (fun b=>b=P) w0 w
theorem qh3 {w4 wr Wb w5:World}{P:Nat}{dA tA:Option Addr}{nd dC nt tC nn k m:Nat}{all Ms:List Nat}{vA A5:Option Addr}{vc cap5:Nat}{V0:Value}
  (q1:wr.heap[P]?=some (.cells #[.slice dA nd dC,.slice tA nt tC,.slice vA k vc,.slice none 0 0,.bool false,.int .i64 (-1),.int .i64 0,.int .i64 0] 90 (0,0)))
  (q2:Own wr w4.heap.size 94 5 (.slice vA k vc) k (qdg nd 0 (all.take k) Ms))(q3:Ms.length=k)(q4:Ms.Nodup)(q5:∀ M∈Ms,w4.heap.size≤M∧IMap wr M []∧∀ b,(Value.slice vA k vc).ownBlock=some b→b≠M)
  (q6:Touch (fun b=>b=P) w4 wr)(hPB:P<w4.heap.size)(hk:k<all.length)(hm:all[k]=m)(hmb:Wb.heap[wr.heap.size]?=some (.map #[] 0))(hbb:Below wr.heap.size wr Wb)
  (hrow:Row w5 w4.heap.size 94 5 (.slice A5 (k+1) cap5) (k+1) (qdg nd 0 (all.take k) Ms++[V0,.int .i64 (m:Int),.map (some wr.heap.size),.int .i64 0,.int .i64 0]))
  (hgrow:Wb.grownBy w5 (Value.slice vA k vc).ownBlock)(hown:∀ b,(Value.slice A5 (k+1) cap5).ownBlock=some b→(Value.slice vA k vc).ownBlock=some b∨(Wb.heap.size≤b∧b<w5.heap.size))(hV:Value.bool (decide (nd≤k))=V0) :
  w5.heap[P]?=some (.cells #[.slice dA nd dC,.slice tA nt tC,.slice vA k vc,.slice none 0 0,.bool false,.int .i64 (-1),.int .i64 0,.int .i64 0] 90 (0,0))∧(∀ b,b<w4.heap.size→w5.heap[b]?=wr.heap[b]?)∧
   NwM w4 (w5.setCell ⟨P,2,none⟩ (.slice A5 (k+1) cap5)) P w4.heap.size dA tA nd dC nt tC nn all (k+1):=by
 have Hg:wr.heap.size<Wb.heap.size:=(zaa.1 hmb).1;have Hj:w4.heap.size≤wr.heap.size:=q6.size;have Ha:=q2.blk;have Hc:∀ b,b<wr.heap.size→(∀ c,(Value.slice vA k vc).ownBlock=some c→b≠c)→w5.heap[b]?=wr.heap[b]?:=fun b hb hc=>
  (hgrow.block b (zag hb (Nat.le_of_lt Hg)) (fun e=>hc b e.symm rfl)).trans (hbb.block b hb)
 have He:∀ b,b<w4.heap.size→w5.heap[b]?=wr.heap[b]?:=fun b hb=>Hc b (by omega) (fun c e h=>by have:=(Ha c e).1;omega);have Hi:w5.heap[wr.heap.size]?=some (.map #[] 0):=(hgrow.block _ Hg (fun e=>by have:=(Ha _ e.symm).2;omega)).trans hmb;have Hf:=(He P hPB).trans q1;have Hb:∀ b,b≠P→(w5.setCell ⟨P,2,none⟩ (.slice A5 (k+1) cap5)).heap[b]?=w5.heap[b]?:=fun b hb=>zaV w5 ⟨P,2,none⟩ _ b hb;have Hk:Wb.heap.size≤w5.heap.size:=hgrow.size;have Hh:∀ b,(Value.slice A5 (k+1) cap5).ownBlock=some b→w4.heap.size≤b∧b<w5.heap.size:=fun b e=>by
  rcases hown b e with h|h
  ·have:=Ha b h;omega
  ·omega
 refine⟨Hf,He,⟨.slice A5 (k+1) cap5,Ms++[wr.heap.size],?_,⟨?_,fun b e=>?_⟩,by simp[q3],?_,?_,A5,cap5,rfl⟩,?_⟩
 ·rw[qac Hf];rfl
 ·have e1:all.take (k+1)=all.take k++[m]:=by rw[zaw hk,hm]
  have e2:(all.take k).length=Ms.length:=by rw[zaj,q3];omega
  rw[e1,qfW nd 0 _ Ms m _ e2,e2,q3,zaF,hV];exact hrow.keep fun b e _=>Hb b (by have:=(Hh b e).1;omega)
 ·have:=Hh b e;simp;omega
 ·rw[za2];refine⟨q4,by simp,fun a ha b hb e=>?_⟩;obtain rfl:=za1.1 hb;have:=(q5 a ha).2.1.lt;omega
 ·intro M hM;rcases zar.1 hM with hM|hM
  ·obtain⟨a1,a2,a3⟩:=q5 M hM;have hl:=a2.lt;refine⟨a1,a2.of_heap ((Hb M (by omega)).trans (Hc M hl (fun c e h=>a3 c e h.symm))),fun b e h=>?_⟩;rcases hown b e with h1|h1
   ·exact a3 b h1 h
   ·omega
  ·obtain rfl:=za1.1 hM;refine⟨Hj,⟨#[],0,(Hb _ (by omega)).trans Hi,rfl⟩,fun b e h=>?_⟩;rcases hown b e with h1|h1
   ·have:=(Ha b h1).2;omega
   ·omega
 ·refine⟨?_,?_,?_,?_,fun b hb hn=>?_⟩
  ·exact hgrow.os.trans (hbb.os.trans q6.os)
  ·exact hgrow.tape.trans (hbb.tape.trans q6.tape)
  ·exact hgrow.output.trans (hbb.output.trans q6.output)
  ·simp;omega
  ·exact(Hb b hn).trans ((He b hb).trans (q6.block b hb hn))
theorem qlv (A B:Option Addr)(nd nt cA cB:Nat)(ds ts:List Nat)(w:World)(hA:Ints w A (ds.map fun(m:Nat)=>(m:Int)))(hB:Ints w B (ts.map fun(m:Nat)=>(m:Int)))(hnd:ds.length=nd)(hnt:ts.length=nt)(h0:0<nd+nt)(h12:nd+nt≤12)
  (hds:∀ m∈ds,1≤m∧m≤4096)(hts:∀ m∈ts,1≤m∧m≤4096)(hcA:nd≤cA)(hcB:nt≤cB) :
  Calls Tryz.prog 19 #[.agg #[.slice A nd cA,.slice B nt cB]] w (NwF ds ts w):=by
 obtain⟨i0,hi0,hz0,hz1,hz2⟩:=zaY ql8;have ha:Hd (∀ V,Below w.heap.size w V→Ints V A (ds.map fun(m:Nat)=>(m:Int))):=zH fun V hb=>hA.below hb;have he:Hd (∀ V,Below w.heap.size w V→Ints V B (ts.map fun(m:Nat)=>(m:Int))):=zH fun V hb=>hB.below hb;have HR:=zH hnd;have HS:=zH hnt;have H6:=zH hds;have hH:=zH hts;have t0:(((nd+nt:Nat):Int)==0)=false:=by rw[zaN];omega
 have t1:decide ((12:Int)<((nd+nt:Nat):Int))=false:=zan (by omega);have e1:IntKind.i64.wrap ((nd:Int)+(nt:Int))=((nd+nt:Nat):Int):=by rw[zaA _ (by omega)];omega
 obtain⟨nn,HL⟩:∃ n,nd+nt=n:=⟨_,rfl⟩;rw[HL]at t0 t1 e1 h12 h0;have Hu:=zH HL;have hp:nd≤12:=by omega
 have hr:nt≤12:=by omega
 clear hA hB hds hts HL;go_enter Tryz.func19,Tryz.ntmps19
 go_upto_region 4 with fail
 obtain⟨W0,hW0⟩:∃ W,w.alloc (.cells #[.slice A nd cA,.slice B nt cB] 61)=W:=⟨_,rfl⟩;have Hh:=zH (show Below w.heap.size w W0.drew by subst hW0;exact(zB _ _).drew);have Hc:W0.drew.cell? ⟨w.heap.size,0,none⟩=some (.slice A nd cA):=by
  subst hW0;show(World.alloc _ _).cell? _=_;rw[zao _ _ 0 _ _ _ (zae w _)];rfl
 have HH:W0.drew.cell? ⟨w.heap.size,1,none⟩=some (.slice B nt cB):=by
  subst hW0;show(World.alloc _ _).cell? _=_;rw[zao _ _ 1 _ _ _ (zae w _)];rfl
 have Hz:=zH (show w.heap.size<W0.drew.heap.size from zav _ ⟨w.heap.size,0,none⟩ Hc);obtain⟨T,hT⟩:∃ T,w.heap.size=T:=⟨_,rfl⟩;have HT:=zH hT;rw[hT]at Hc HH Hz;rw[hW0];simp only[hT];clear hW0;refine wp_region_held_drew (S:=fun V=>V.cell? ⟨T,0,none⟩=some (.slice A nd cA)∧V.cell? ⟨T,1,none⟩=some (.slice B nt cB)) (by kernel_rfl) ⟨Hc,HH⟩ (fun hHeld=>?_);refine zV 0 21 (.pointer (some ⟨T,0,none⟩)) ?_;try simp only[zS]
 refine zT 1 22 (.slice A nd cA) rfl (Or.inl ⟨by rfl,fun W hS=>by obtain⟨hS1,hS2⟩:=hS;go_simp⟩) ?_;try simp only[zS]
 refine zV 3 24 (.pointer (some ⟨T,1,none⟩)) ?_;try simp only[zS]
 refine zT 4 25 (.slice B nt cB) rfl (Or.inl ⟨by rfl,fun W hS=>by obtain⟨hS1,hS2⟩:=hS;go_simp⟩) ?_;try simp only[zS]
 refine wpAnyH_ready (rs:=[2]) (by kernel_rfl) (by simp) ?_;refine AllReadyH.cons rfl (fun K hK=>?_) AllReadyH.nil;go_simp;go_at_call 40
 refine(qci A cA nd _ _ (ha.o _ Hh.o) (by rw[zbc];exact HR.o) (by omega)).mono ?_;rintro e w1 ⟨A1,c1,rfl,ho1,hb1⟩;have HU:=zH ho1;have Hi:=zH hb1;clear ho1 hb1;refine hK.out _ _ ⟨(Hi.o.cell (p:=⟨T,0,none⟩) Hz.o).trans Hc,(Hi.o.cell (p:=⟨T,1,none⟩) Hz.o).trans HH⟩ (fun hHeld2=>?_);clear hK K;try simp only[zS]
 refine wpAnyH_ready (rs:=[5]) (by kernel_rfl) (by simp) ?_;refine AllReadyH.cons rfl (fun K hK=>?_) AllReadyH.nil;go_simp;go_at_call 40
 refine(qci B cB nt _ _ (he.o _ (Hh.o.trans (Hi.o.mono Hh.o.size))) (by rw[zbc];exact HS.o) (by omega)).mono ?_;rintro e w2 ⟨B1,c2,rfl,ho2,hb2⟩;have H8:=zH ho2;have Hn:=zH hb2;clear ho2 hb2;refine hK.out _ _ ⟨(Hn.o.cell (p:=⟨T,0,none⟩) (zag Hz.o Hi.o.size)).trans hHeld2.1,(Hn.o.cell (p:=⟨T,1,none⟩) (zag Hz.o Hi.o.size)).trans hHeld2.2⟩ (fun hHeld3=>?_);clear hK K;try simp only[zS]
 refine zV 6 27 (.agg #[.slice A1 nd c1,.slice B1 nt c2]) ?_;try simp only[zS]
 refine zV 7 28 (.agg #[.slice A1 nd c1,.slice B1 nt c2,.slice none 0 0,.slice none 0 0,.bool false,.int .i64 (-1),.int .i64 0,.int .i64 0]) ?_;try simp only[zS]
 refine wpAnyH_ready (rs:=[8]) (by kernel_rfl) (by simp) ?_;refine AllReadyH.cons rfl (fun K hK=>?_) AllReadyH.nil;go_simp;have HG:=zH (zae w2 (.cells #[.slice A1 nd c1,.slice B1 nt c2,.slice none 0 0,.slice none 0 0,.bool false,.int .i64 (-1),.int .i64 0,.int .i64 0] 90));have Hk:=zH (show Below w2.heap.size w2 (w2.alloc (.cells #[.slice A1 nd c1,.slice B1 nt c2,.slice none 0 0,.slice none 0 0,.bool false,.int .i64 (-1),.int .i64 0,.int .i64 0] 90))from zB _ _);generalize w2.alloc (.cells #[.slice A1 nd c1,.slice B1 nt c2,.slice none 0 0,.slice none 0 0,.bool false,.int .i64 (-1),.int .i64 0,.int .i64 0] 90)=w3 at HG Hk⊢;obtain⟨P,hP⟩:∃ P,w2.heap.size=P:=⟨_,rfl⟩;have HV:=zH hP;rw[hP]at HG;simp only[hP];have HI:T<w2.heap.size:=zav _ ⟨T,0,none⟩ hHeld3.1;refine hK.out _ _ ⟨(Hk.o.cell (p:=⟨T,0,none⟩) HI).trans hHeld3.1,(Hk.o.cell (p:=⟨T,1,none⟩) HI).trans hHeld3.2⟩ (fun hHeld4=>?_);clear hK K;try simp only[zS]
 refine zV 9 5 (.pointer (some ⟨P,0,none⟩)) ?_;try simp only[zS]
 refine wpAnyH_done (by kernel_rfl) ?_ _;obtain⟨g0,g1⟩:=hHeld4;have Hg:=zH (show T<P by rw[←hP];exact HI);clear hHeld hHeld2 hHeld3 Hc HH hP hT HI;have H4:=zH (show Below w.heap.size w w3 from(Hh.o.trans (Hi.o.mono Hh.o.size)).trans ((Hn.o.mono (zam Hh.o.size Hi.o.size)).trans (Hk.o.mono (zam (zam Hh.o.size Hi.o.size) Hn.o.size))));have Hj:Below w.heap.size w (w3.alloc (.cells #[.slice A nd cA,.slice B nt cB] 59)):=H4.o.alloc H4.o.size _;have H3:=(qgH A B nd nt cA cB 2 w3.heap.size (ds.map fun(m:Nat)=>(m:Int)) (ts.map fun(m:Nat)=>(m:Int)) _ (ha.o _ Hj) (he.o _ Hj) (by rw[zbc];exact HR.o) (by rw[zbc];exact HS.o) (by rw[Hu.o];exact h0) (by omega) (zae w3 _));rw[Hu.o]at H3;have hy:=zH H3;clear H3;have Hv:P<w3.heap.size:=(zaa.1 HG.o).1;have Hw:=zH Hj;clear Hj;go_upto_region 6 with(go_at_call 41;refine hy.o.mono ?_;rintro e w4 ⟨A4,c4,rfl,hi4,hc4,ha4,hb4⟩;have hz:=zH hi4;have ht:=zH ha4;have H5:=zH hb4;clear hi4 ha4 hb4)
 have Hb:=zH (show Below w3.heap.size w3 w4 from(zB _ _).trans (H5.o.mono (by simp)));have Hf:(ds++ts).length=nn:=by rw[zaf,HR.o,HS.o,Hu.o]
 obtain⟨all,hal⟩:∃ l,ds++ts=l:=⟨_,rfl⟩;have HM:=zH hal;have HA:Ints w4 A4 (all.map fun(m:Nat)=>(m:Int)):=by rw[←hal,zbz];exact hz.o
 have HB:∀ m∈all,1≤m∧m≤4096:=by
  intro m hm;rw[←hal]at hm;rcases zar.1 hm with h|h
  ·exact H6.o m h
  ·exact hH.o m h
 rw[hal]at Hf;have Hx:=zH Hf;have HN:=zH HB;obtain⟨b4,o4,rfl,hb4l,hc4c⟩:=HA.at_ (by rw[zbc];omega);have hR:P<b4:=zag Hv (zam (by simp) (ht.o _ rfl));have hw:=zH hc4c;have hD:=zH (show NwM w4 w4 P w4.heap.size A1 B1 nd c1 nt c2 nn all 0 from⟨⟨.slice none 0 0,[],(Hb.o.block P Hv).trans HG.o,by simpa [qdg] using Own.nil w4 w4.heap.size 94 5,rfl,zcJ,by simp,none,0,rfl⟩,Touch.refl _ _⟩);have H7:=zH (show w4.cell? ⟨T,0,none⟩=some (.slice A nd cA)from(Hb.o.cell (p:=⟨T,0,none⟩) (Nat.lt_trans Hg.o Hv)).trans g0);clear g0 g1 hal HA HB hc4c Hf;go_loopw [6,7,37] (fun _ _ i wr=>∃ k:Nat,i=.int .i64 k∧k≤nn∧NwM w4 wr P w4.heap.size A1 B1 nd c1 nt c2 nn all k) (fun _ _ i _=>nn-(intOf i).toNat)
 case atStart=>exact⟨0,rfl,by omega,hD.o⟩
 case round=>
  rename World=>wr;obtain⟨k,rfl,hk,hnw⟩:=hrel;have hE:=zH hnw;obtain⟨⟨v,Ms,q1,q2,q3,q4,q5,vA,vc,rfl⟩,q6⟩:=hnw;by_cases hlt:k<nn
  ·have HC:k<all.length:=by rw[Hx.o];exact hlt
   obtain⟨m,hm⟩:∃ m,all[k]=m:=⟨_,rfl⟩;have hX:=HN.o m (by rw[←hm];exact zbi ..);have HE:wr.cell? ⟨b4,o4+k,none⟩=some (.int .i64 (m:Int)):=by
    rw[qaj q6 hb4l (show ¬b4=P by omega)];have:=hw.o k (by rw[zbc];exact HC);rw[this];congr 2;unfold el;rw[zaq,zaD,zab HC,hm];rfl
   have Hc:wr.cell? ⟨T,0,none⟩=some (.slice A nd cA):=(qaj q6 (zav _ ⟨T,0,none⟩ H7.o) (show ¬T=P by have:=Hg.o;omega)).trans H7.o;have H0:wr.cell? ⟨P,2,none⟩=some (.slice vA k vc):=by rw[zao wr P 2 _ _ _ q1];rfl
   have z2:wr.frozen? ⟨P,2,none⟩=false:=zbk _ _ _ _ _ q1;have Q1:=zH q1;have Q2:=zH q2;have Q5:=zH q5;have Q6:=zH q6;have t2:decide ((m:Int)<1)=false:=zan (by omega);have t3:decide ((4096:Int)<(m:Int))=false:=zan (by omega);clear q1 q2 q5 q6;go_upto_region 10 with fail
   obtain⟨bo,hV0⟩:∃ V,decide (nd≤k)=V:=⟨_,rfl⟩;have hg:w4.heap.size≤wr.heap.size:=Q6.o.size;have H1:P<wr.heap.size:=zag (zag Hv Hb.o.size) hg;have hj:T<wr.heap.size:=Nat.lt_trans Hg.o H1;have hU:=zH (show ∀ b,(Value.slice vA k vc).ownBlock=some b→w4.heap.size≤b∧b<wr.heap.size from fun b e=>Q2.o.blk b e);have Hr:P<w4.heap.size:=zag Hv Hb.o.size;have HF:=zH ((zai wr.heap.size wr).drew.alloc (zad _) (.map #[] 0));have Ho:=zH (HF.o.alloc HF.o.size (.cells #[.bool bo,.int .i64 (m:Int),.map (some wr.heap.size),.int .i64 0,.int .i64 0] 94));have HW:=zH (Q2.o.row.below (zad _) Ho.o);have hh:wr.drew.cell? ⟨T,0,none⟩=some (.slice A nd cA):=Hc;have H2:=(HF.o.cell (p:=⟨T,0,none⟩) hj).trans Hc;have HJ:=(Ho.o.cell (p:=⟨T,0,none⟩) hj).trans Hc;have hN:wr.drew.cell? ⟨P,2,none⟩=some (.slice vA k vc):=H0;have hO:=(HF.o.cell (p:=⟨P,2,none⟩) H1).trans H0;have hL:=(Ho.o.cell (p:=⟨P,2,none⟩) H1).trans H0;have HP:=zH (show(((wr.drew.alloc (.map #[] 0)).alloc (.cells #[.bool bo,.int .i64 (m:Int),.map (some wr.heap.size),.int .i64 0,.int .i64 0] 94))).heap[wr.heap.size]?=some (.map #[] 0)by
    have h1:=zaW (wr.drew.alloc (.map #[] 0)) (.cells #[.bool bo,.int .i64 (m:Int),.map (some wr.heap.size),.int .i64 0,.int .i64 0] 94) wr.heap.size (by simp);rw[h1];exact zae wr.drew _)
   have HQ:=zH (show k+1≤maxLen by unfold maxLen;omega);have HO:=zH (show(k+1)*40≤140737488355328 by omega);have HX:=zH (show w4.heap.size≤(((wr.drew.alloc (.map #[] 0)).alloc (.cells #[.bool bo,.int .i64 (m:Int),.map (some wr.heap.size),.int .i64 0,.int .i64 0] 94))).heap.size from zam hg Ho.o.size);have HY:=zH hV0;have hY:=@run_makeMap Tryz.prog;refine wp_region_held_drew (S:=fun V=>V.cell? ⟨T,0,none⟩=some (.slice A nd cA)) (by kernel_rfl) hh (fun hHeld=>?_);refine zV 0 48 (.pointer (some ⟨P,0,none⟩)) ?_;try simp only[zS]
   refine zV 1 49 (.pointer (some ⟨P,0,none⟩)) ?_;try simp only[zS]
   refine zV 2 50 (.pointer (some ⟨P,0,none⟩)) ?_;try simp only[zS]
   refine zV 3 51 (.pointer (some ⟨P,2,none⟩)) ?_;try simp only[zS]
   refine zV 5 53 (.int .i64 (k:Int)) ?_;try simp only[zS]
   refine zV 6 54 (.pointer (some ⟨T,0,none⟩)) ?_;try simp only[zS]
   refine zU 7 55 (.slice A nd cA) ?_;try simp only[zS]
   refine zV 8 56 (.int .i64 (nd:Int)) ?_;try simp only[zS]
   refine zT 9 57 (.bool bo) rfl (Or.inl ⟨by rfl,fun W hS=>by clear hS;rw[←hV0];go_simp⟩) ?_;try simp only[zS]
   refine zV 10 58 (.int .i64 (m:Int)) ?_;try simp only[zS]
   clear hV0;have Hq:=zH (show Src ((wr.drew.alloc (.map #[] 0)).alloc (.cells #[.bool bo,.int .i64 (m:Int),.map (some wr.heap.size),.int .i64 0,.int .i64 0] 94)) 5 (some ⟨wr.heap.size+1,0,none⟩) 1 [.bool bo,.int .i64 (m:Int),.map (some wr.heap.size),.int .i64 0,.int .i64 0]by
    have:=qas (size:=5) (m:=1) (us:=[.bool bo,.int .i64 (m:Int),.map (some wr.heap.size),.int .i64 0,.int .i64 0]) (zae (wr.drew.alloc (.map #[] 0)) (.cells #[.bool bo,.int .i64 (m:Int),.map (some wr.heap.size),.int .i64 0,.int .i64 0] 94)) rfl;simpa only [za5,zcr] using this)
   have Hp:=zH (show ∀ u∈([.bool bo,.int .i64 (m:Int),.map (some wr.heap.size),.int .i64 0,.int .i64 0]:List Value),u.oneCell'=true by
    intro u hu;simp only[zaB,zch,or_false]at hu;rcases hu with rfl|rfl|rfl|rfl|rfl<;>rfl)
   refine wpAnyH_ready (rs:=[4,11]) (by kernel_rfl) (by simp) ?_;refine AllReadyH.cons rfl (fun K hK=>?_) (AllReadyH.cons rfl (fun K hK=>?_) AllReadyH.nil)
   ·go_simp;refine hK.out _ _ hh (fun hHeldl=>?_);clear hK K;try simp only[zS]
    refine wpAnyH_ready (rs:=[11]) (by kernel_rfl) (by simp) ?_;refine AllReadyH.cons rfl (fun K hK=>?_) AllReadyH.nil;go_simp;refine hK.out _ _ H2 (fun hHeldm=>?_);clear hK K;try simp only[zS]
    refine zV 12 60 (.agg #[.bool bo,.int .i64 (m:Int),.map (some wr.heap.size),.int .i64 0,.int .i64 0]) ?_;try simp only[zS]
    refine wpAnyH_ready (rs:=[13]) (by kernel_rfl) (by simp) ?_;refine AllReadyH.cons rfl (fun K hK=>?_) AllReadyH.nil;refine qbS rfl 87 (.tmp 60) rfl Tryz.underlying87 hi0 hz0 hz1 (by decide) (by decide) (.agg #[.bool bo,.int .i64 (m:Int),.map (some wr.heap.size),.int .i64 0,.int .i64 0]) rfl [.bool bo,.int .i64 (m:Int),.map (some wr.heap.size),.int .i64 0,.int .i64 0] rfl rfl ?_;refine hK.out _ _ HJ (fun hHeldb=>?_);clear hK K;try simp only[zS]
    try simp only[za5,zcr]
    refine wpAnyH_ready (rs:=[14]) (by kernel_rfl) (by simp) ?_;refine AllReadyH.cons rfl (fun K hK=>?_) AllReadyH.nil;refine qbx rfl (.tmp 52) (.tmp 61) 87 rfl w4.heap.size 94 i0 _ 5 40 Tryz.underlying87 hi0 hz0 hz1 hz2 (by kernel_rfl) (by decide) (.slice vA k vc) _ _ rfl HW.o (some ⟨wr.heap.size+1,0,none⟩) 1 1 [.bool bo,.int .i64 (m:Int),.map (some wr.heap.size),.int .i64 0,.int .i64 0] rfl Hq.o Hp.o HQ.o HO.o HX.o ?_;intro A5 cap5 w5 hrow5 hgrow5 hown5;have Ha:=zH (qh3 (nn:=nn) Q1.o Q2.o q3 q4 Q5.o Q6.o Hr HC hm HP.o Ho.o hrow5 hgrow5 hown5 (by rw[HY.o]));have Hm:=Ha.o.2.1 T (Nat.lt_trans Hg.o Hr);have Hl:w5.cell? ⟨T,0,none⟩=some (.slice A nd cA):=by
     unfold World.cell? at Hc⊢;rw[Hm];exact Hc
    have He:=Ha.o.1;have H9:w5.cell? ⟨P,2,none⟩=some (.slice vA k vc):=by rw[zao w5 P 2 _ _ _ He];rfl
    have hs:w5.frozen? ⟨P,2,none⟩=false:=zbk _ _ _ _ _ He;have Hy:=zH (show ∀ u,(w5.setCell ⟨P,2,none⟩ u).cell? ⟨T,0,none⟩=some (.slice A nd cA)from fun u=>(World.cell?_setCell_far w5 ⟨P,2,none⟩ ⟨T,0,none⟩ u (show P≠T by have:=Hg.o;omega)).trans Hl);clear hrow5 hgrow5 hown5 He Hm;refine hK.out _ _ Hl (fun hHeld5=>?_);clear hK K;try simp only[zS]
    refine zV 15 63 (.pointer (some ⟨P,0,none⟩)) ?_;try simp only[zS]
    refine zV 16 64 (.pointer (some ⟨P,2,none⟩)) ?_;try simp only[zS]
    refine wpAnyH_ready (rs:=[17]) (by kernel_rfl) (by simp) ?_;refine AllReadyH.cons rfl (fun K hK=>?_) AllReadyH.nil;go_simp;refine hK.out _ _ (Hy.o _) (fun hHeld6=>?_);clear hK K;try simp only[zS]
    refine wpAnyH_done (by kernel_rfl) ?_ _;go_wp2;exact⟨⟨k+1,by go_num,by omega,Ha.o.2.2⟩,by simp[intOf];omega⟩
   ·go_simp;refine hK.out _ _ H2 (fun hHeldm=>?_);clear hK K;try simp only[zS]
    refine zV 12 60 (.agg #[.bool bo,.int .i64 (m:Int),.map (some wr.heap.size),.int .i64 0,.int .i64 0]) ?_;try simp only[zS]
    refine wpAnyH_ready (rs:=[4,13]) (by kernel_rfl) (by simp) ?_;refine AllReadyH.cons rfl (fun K hK=>?_) (AllReadyH.cons rfl (fun K hK=>?_) AllReadyH.nil)
    ·go_simp;refine hK.out _ _ H2 (fun hHeldl=>?_);clear hK K;try simp only[zS]
     refine wpAnyH_ready (rs:=[13]) (by kernel_rfl) (by simp) ?_;refine AllReadyH.cons rfl (fun K hK=>?_) AllReadyH.nil;refine qbS rfl 87 (.tmp 60) rfl Tryz.underlying87 hi0 hz0 hz1 (by decide) (by decide) (.agg #[.bool bo,.int .i64 (m:Int),.map (some wr.heap.size),.int .i64 0,.int .i64 0]) rfl [.bool bo,.int .i64 (m:Int),.map (some wr.heap.size),.int .i64 0,.int .i64 0] rfl rfl ?_;refine hK.out _ _ HJ (fun hHeldb=>?_);clear hK K;try simp only[zS]
     try simp only[za5,zcr]
     refine wpAnyH_ready (rs:=[14]) (by kernel_rfl) (by simp) ?_;refine AllReadyH.cons rfl (fun K hK=>?_) AllReadyH.nil;refine qbx rfl (.tmp 52) (.tmp 61) 87 rfl w4.heap.size 94 i0 _ 5 40 Tryz.underlying87 hi0 hz0 hz1 hz2 (by kernel_rfl) (by decide) (.slice vA k vc) _ _ rfl HW.o (some ⟨wr.heap.size+1,0,none⟩) 1 1 [.bool bo,.int .i64 (m:Int),.map (some wr.heap.size),.int .i64 0,.int .i64 0] rfl Hq.o Hp.o HQ.o HO.o HX.o ?_;intro A5 cap5 w5 hrow5 hgrow5 hown5;have Ha:=zH (qh3 (nn:=nn) Q1.o Q2.o q3 q4 Q5.o Q6.o Hr HC hm HP.o Ho.o hrow5 hgrow5 hown5 (by rw[HY.o]));have Hm:=Ha.o.2.1 T (Nat.lt_trans Hg.o Hr);have Hl:w5.cell? ⟨T,0,none⟩=some (.slice A nd cA):=by
      unfold World.cell? at Hc⊢;rw[Hm];exact Hc
     have He:=Ha.o.1;have H9:w5.cell? ⟨P,2,none⟩=some (.slice vA k vc):=by rw[zao w5 P 2 _ _ _ He];rfl
     have hs:w5.frozen? ⟨P,2,none⟩=false:=zbk _ _ _ _ _ He;have Hy:=zH (show ∀ u,(w5.setCell ⟨P,2,none⟩ u).cell? ⟨T,0,none⟩=some (.slice A nd cA)from fun u=>(World.cell?_setCell_far w5 ⟨P,2,none⟩ ⟨T,0,none⟩ u (show P≠T by have:=Hg.o;omega)).trans Hl);clear hrow5 hgrow5 hown5 He Hm;refine hK.out _ _ Hl (fun hHeld5=>?_);clear hK K;try simp only[zS]
     refine zV 15 63 (.pointer (some ⟨P,0,none⟩)) ?_;try simp only[zS]
     refine zV 16 64 (.pointer (some ⟨P,2,none⟩)) ?_;try simp only[zS]
     refine wpAnyH_ready (rs:=[17]) (by kernel_rfl) (by simp) ?_;refine AllReadyH.cons rfl (fun K hK=>?_) AllReadyH.nil;go_simp;refine hK.out _ _ (Hy.o _) (fun hHeld6=>?_);clear hK K;try simp only[zS]
     refine wpAnyH_done (by kernel_rfl) ?_ _;go_wp2;exact⟨⟨k+1,by go_num,by omega,Ha.o.2.2⟩,by simp[intOf];omega⟩
    ·refine qbS rfl 87 (.tmp 60) rfl Tryz.underlying87 hi0 hz0 hz1 (by decide) (by decide) (.agg #[.bool bo,.int .i64 (m:Int),.map (some wr.heap.size),.int .i64 0,.int .i64 0]) rfl [.bool bo,.int .i64 (m:Int),.map (some wr.heap.size),.int .i64 0,.int .i64 0] rfl rfl ?_;refine hK.out _ _ HJ (fun hHeldb=>?_);clear hK K;try simp only[zS]
     try simp only[za5,zcr]
     refine wpAnyH_ready (rs:=[4]) (by kernel_rfl) (by simp) ?_;refine AllReadyH.cons rfl (fun K hK=>?_) AllReadyH.nil;go_simp;refine hK.out _ _ HJ (fun hHeldl=>?_);clear hK K;try simp only[zS]
     refine wpAnyH_ready (rs:=[14]) (by kernel_rfl) (by simp) ?_;refine AllReadyH.cons rfl (fun K hK=>?_) AllReadyH.nil;refine qbx rfl (.tmp 52) (.tmp 61) 87 rfl w4.heap.size 94 i0 _ 5 40 Tryz.underlying87 hi0 hz0 hz1 hz2 (by kernel_rfl) (by decide) (.slice vA k vc) _ _ rfl HW.o (some ⟨wr.heap.size+1,0,none⟩) 1 1 [.bool bo,.int .i64 (m:Int),.map (some wr.heap.size),.int .i64 0,.int .i64 0] rfl Hq.o Hp.o HQ.o HO.o HX.o ?_;intro A5 cap5 w5 hrow5 hgrow5 hown5;have Ha:=zH (qh3 (nn:=nn) Q1.o Q2.o q3 q4 Q5.o Q6.o Hr HC hm HP.o Ho.o hrow5 hgrow5 hown5 (by rw[HY.o]));have Hm:=Ha.o.2.1 T (Nat.lt_trans Hg.o Hr);have Hl:w5.cell? ⟨T,0,none⟩=some (.slice A nd cA):=by
      unfold World.cell? at Hc⊢;rw[Hm];exact Hc
     have He:=Ha.o.1;have H9:w5.cell? ⟨P,2,none⟩=some (.slice vA k vc):=by rw[zao w5 P 2 _ _ _ He];rfl
     have hs:w5.frozen? ⟨P,2,none⟩=false:=zbk _ _ _ _ _ He;have Hy:=zH (show ∀ u,(w5.setCell ⟨P,2,none⟩ u).cell? ⟨T,0,none⟩=some (.slice A nd cA)from fun u=>(World.cell?_setCell_far w5 ⟨P,2,none⟩ ⟨T,0,none⟩ u (show P≠T by have:=Hg.o;omega)).trans Hl);clear hrow5 hgrow5 hown5 He Hm;refine hK.out _ _ Hl (fun hHeld5=>?_);clear hK K;try simp only[zS]
     refine zV 15 63 (.pointer (some ⟨P,0,none⟩)) ?_;try simp only[zS]
     refine zV 16 64 (.pointer (some ⟨P,2,none⟩)) ?_;try simp only[zS]
     refine wpAnyH_ready (rs:=[17]) (by kernel_rfl) (by simp) ?_;refine AllReadyH.cons rfl (fun K hK=>?_) AllReadyH.nil;go_simp;refine hK.out _ _ (Hy.o _) (fun hHeld6=>?_);clear hK K;try simp only[zS]
     refine wpAnyH_done (by kernel_rfl) ?_ _;go_wp2;exact⟨⟨k+1,by go_num,by omega,Ha.o.2.2⟩,by simp[intOf];omega⟩
  ·have HK:k=nn:=by omega
   have tk:decide (k<nn)=false:=zan hlt;have hC:=zH HK;have Q1:=zH q1;have Q2:=zH q2;have Q5:=zH q5;have Q6:=zH q6;have Hr:P<w4.heap.size:=zag Hv Hb.o.size;clear q1 q2 q5 q6 HK;go_wp2
   go_ret2
   have HK:=hC.o;have q1:=Q1.o;have q2:=Q2.o;have q5:=Q5.o;have q6:=Q6.o;rw[HK]at q1 q2 q3 q5;obtain⟨g,rfl,hg1,hg2,hown⟩:=q2.row.own h0;have h4:Below w.heap.size w w4:=Hw.o.trans (H5.o.mono Hw.o.size);have hZ:=HT.o;have HL:=Hu.o;have hW:=Hg.o;have HZ:=q6.size;have Hf:all.take nn=all:=zaL (by rw[Hx.o];exact zad _);have HE:qdg nd 0 all Ms=qdo ds (Ms.take nd) (ts.map fun t=>(⟨t,0,0⟩:Tp)) (Ms.drop nd):=by
    rw[←HM.o]
    conv=>lhs;rw[←zay nd Ms]
    rw[qfb nd 0 ds ts _ _ (by rw[zaj,q3,hnd];omega) (by omega) (fun _=>by omega),qfc nd _ ts _ (by omega) (by rw[zap,q3,hnt];omega)];rfl
   rw[Hf,HE]at hown;have Ht:∀ M,M∈Ms.take nd++Ms.drop nd→M∈Ms:=fun M hM=>by rwa [zay]at hM
   have Hs:∀ (X:Option Addr) (V:World) (lo hi:Nat) (xs:List Value) (c n:Nat),Own V lo 3 1 (.slice X n c) n xs→∀ ad,X=some ad→lo≤ad.block∧ad.block<V.heap.size:=fun X V lo hi xs c n ho ad e=>by
    subst e;exact ho.blk ad.block rfl
   have hd:∀ ad,A1=some ad→w.heap.size≤ad.block∧ad.block<P:=fun ad e=>by
    have:=Hs A1 w1 _ 0 _ c1 nd HU.o ad e;have h1:=Hh.o.size;have h2:=Hn.o.size;have h3:=HV.o;omega
   have hf:∀ ad,B1=some ad→w.heap.size≤ad.block∧ad.block<P:=fun ad e=>by
    have:=Hs B1 w2 _ 0 _ c2 nt H8.o ad e;have h1:=Hh.o.size;have h2:=Hi.o.size;have h3:=HV.o;omega
   have hV:=HV.o;have HD:∀ b,b<P→wr.heap[b]?=w2.heap[b]?:=fun b hb=>(q6.block b (by omega) (show ¬b=P by omega)).trans ((Hb.o.block b (by have:=Hk.o.size;omega)).trans (Hk.o.block b (by omega)));have hI:Ints wr A1 (ds.map fun(m:Nat)=>(m:Int)):=qbg (Own.ints HU.o (by rw[zbc];exact hnd) (by omega)) (zam Hn.o.size (zam Hk.o.size (zam Hb.o.size HZ))) fun b off e=>by
    have hb:=hd _ e;have:=Hs A1 w1 _ 0 _ c1 nd HU.o _ e;exact(HD b hb.2).trans (Hn.o.block b this.2)
   have hJ:Ints wr B1 (ts.map fun(m:Nat)=>(m:Int)):=qbg (Own.ints H8.o (by rw[zbc];exact hnt) (by omega)) (zam Hk.o.size (zam Hb.o.size HZ)) fun b off e=>HD b (hf _ e).2;have hQ:P<wr.heap.size:=by omega
   refine⟨⟨P,g,vc,Ms.take nd,Ms.drop nd,A1,c1,B1,c2⟩,fun b=>w.heap.size≤b∧b<wr.heap.size,rfl,⟨⟨.slice none 0 0,0,0,?_,?_⟩,?_⟩,fun b hb=>hb.1,?_⟩
   ·rw[q1];unfold qcZ fresh;simp only[zbc,hnd,hnt,Hu.o]
   ·refine⟨⟨by show w.heap.size≤P;omega,hQ⟩,fun b hb=>hb.2,?_,⟨⟨by show w.heap.size≤g;omega,hg2⟩,by show g≠P;omega⟩,?_,?_,by rw[zay];exact q4,?_,?_,⟨.inr ⟨none,rfl,rfl,rfl⟩,(fun b e=>by cases e)⟩,(fun b e=>by cases e),?_,hI,?_⟩
    ·have:=qgl hown (zbO w4.heap.size);unfold fresh;simp only[zbc,hnd,hnt,Hu.o];exact this
    ·show(Ms.take nd).length=ds.length;rw[zaj,q3,hnd];omega
    ·show(Ms.drop nd).length=(ts.map _).length;rw[zap,zbc,q3,hnt];omega
    ·intro M hM;obtain⟨m1,m2,m3⟩:=q5 M (Ht M hM);have:=m2.lt;exact⟨⟨by omega,this⟩,by show M≠P;omega,fun e=>m3 g rfl e.symm⟩
    ·intro d M hM;obtain⟨_,m2,_⟩:=q5 M (Ht M (zak hM));exact⟨[],m2,fun k=>.inr ⟨rfl,rfl⟩⟩
    ·intro ad e;have hb:w.heap.size≤ad.block∧ad.block<P:=by
      rcases e with e|e
      ·exact hd ad e
      ·exact hf ad e
     refine⟨⟨hb.1,by omega⟩,by show ad.block≠P;omega,by show ad.block≠g;omega,fun hM=>?_⟩;have:=(q5 _ (Ht _ hM)).1;omega
    ·show Ints wr B1 ((ts.map fun t=>(⟨t,0,0⟩:Tp)).map fun(t:Tp)=>(t.most:Int));rw[zcO];exact hJ
   ·refine⟨by simp[fresh],fun d k=>zeros_len 64,fun m hm=>(H6.o m hm).2,?_,?_⟩
    ·show ds.length+(ts.map _).length≤12;rw[zbc];omega
    ·show(-1:Int)≤-1∧(-1:Int)≤9223372036854775807;decide
   ·exact⟨q6.os.trans h4.os,q6.tape.trans h4.tape,q6.output.trans h4.output,zam h4.size HZ,fun b hb=>(q6.block b (zag hb h4.size) (show ¬b=P by omega)).trans (h4.block b hb)⟩
end Go.Proofs.YtfcknhbmeofniaaGreatDoor
set_option linter.all false
namespace Go.Proofs.YtfcknhbmeofniaaGreatDoor
open Go.RowKit BT
def grP0:Pl:=fresh [96,802] []
def grP1:Pl:=(qa2 grP0 0 96).2
def grP2:Pl:=(qbe grP1 1).2
theorem qhZ:newH (zeros 64) (hdrB 1 1)=(1,1,1):=by
 unfold newH qih;rw[qh8,qkw 1 1 (by decide) (by decide)];rfl
theorem gr0:Sure grP0∧grP0.most=[96,802]∧grP0.waits=[]∧∀ d k,grP0.disk d k=zeros 64:=⟨⟨rfl,rfl⟩,rfl,rfl,fun _ _=>rfl⟩
theorem qmF {p q:Pl}{r:Bool×Pl}(hr:qa2 p 0 96=r)(hq:r.2=q)(h:Sure p∧p.most=[96,802]∧p.waits=[]∧∀ d k,p.disk d k=zeros 64) :
  r.1=true∧Sure q∧q.most=[96,802]∧q.waits=[]∧(∀ k,q.disk 1 k=zeros 64)∧∀ k,k<96→q.disk 0 k=if k=1 then hdrB 1 1 else zeros 64:=by
 obtain⟨q1,q2,q3,q4,q5,q6,q7⟩:=qeh h.1 0 96 (by omega);rw[hr]at q1 q2 q3 q5 q6 q7;rw[hq]at q2 q3 q5 q6 q7;refine⟨q1,q2,q3.trans h.2.1,?_,fun k=>(q5 1 k (by omega)).trans (h.2.2.2 1 k),q7⟩;rw[q6,h.2.2.1];rfl
theorem gr1:(qa2 grP0 0 96).1=true∧Sure grP1∧grP1.most=[96,802]∧grP1.waits=[]∧(∀ k,grP1.disk 1 k=zeros 64)∧∀ k,k<96→grP1.disk 0 k=if k=1 then hdrB 1 1 else zeros 64:=qmF rfl rfl gr0
theorem qmG {p q:Pl}{r:Bool×Pl}(hr:qbe p 1=r)(hq:r.2=q)(q2:Sure p)(q3:p.most=[96,802])(q4:p.waits=[])(q6:∀ k,k<96→p.disk 0 k=if k=1 then hdrB 1 1 else zeros 64):∃ gg,CaQ q 0 1 96 802 1 1 1 gg:=by
 obtain⟨_,r2,r3,_,r5,r6,gg,_,_,_,r7⟩:=qeS q2 (d:=1) (m:=802) (by rw[q3];rfl) (by decide);rw[hr]at r2 r3 r5 r6 r7;rw[hq]at r2 r3 r5 r6 r7;have hw:q.waits=[]:=by rw[r6,q4];rfl
 have hm:q.most=[96,802]:=r3.trans q3;refine⟨gg,⟨⟨by omega,by rw[hm];rfl,by rw[hm];rfl,by omega,by omega,by omega⟩,r2,hw,?_,by omega,by omega,by omega,by omega,?_,(r7 0).com⟩⟩
 ·rw[r5 0 _ (by omega),r5 0 _ (by omega),q6 0 (by omega),q6 1 (by omega),zaC (by omega),zax rfl];exact qhZ
 ·rw[r5 0 _ (by omega),q6 2 (by omega),zaC (by omega)]
theorem qgU:∃ gg,CaQ grP2 0 1 96 802 1 1 1 gg:=qmG rfl rfl gr1.2.1 gr1.2.2.1 gr1.2.2.2.1 gr1.2.2.2.2.2
theorem qjh:qcf (zeros 64) (zeros 64)<4611686018427387904:=by
 unfold qcf;rw[qe8];simp
theorem qgM {F F':Nat→Prop}{w w1 w':World}(h:Ext F F' w1 w')(hb:Below w.heap.size w w1)(hF:∀ b,F b→w.heap.size≤b):Below w.heap.size w w':=
 ⟨h.touch.os.trans hb.os,h.touch.tape.trans hb.tape,h.touch.output.trans hb.output,zam hb.size h.touch.size,fun k hk=>(h.touch.block k (zag hk hb.size) (fun hf=>by have:=hF k hf;omega)).trans (hb.block k hk)⟩
theorem qeW (w:World)(hn:Nib w) :
  Calls Tryz.prog 6 #[] w fun e w'=>∃ a K T G F q g,e=.returned (.tuple #[.pointer (some ⟨a.P,0,none⟩),.pointer (some ⟨K,0,none⟩)])∧CaM w' K T a G 1 F q g∧Below w.heap.size w w':=by
 have Hh:Below w.heap.size w (w.alloc (.cells #[.int .i64 96,.int .i64 802] 3)):=zB _ _;have Hc:=zH (qlv (some ⟨w.heap.size,0,none⟩) none 2 0 2 0 [96,802] [] (w.alloc (.cells #[.int .i64 96,.int .i64 802] 3)) ⟨by simp,fun _=>⟨w.heap.size,0,rfl,by simp,fun k hk=>by
   rw[zao _ _ _ _ _ _ (zae w _)];rcases(by simp at hk;omega:k=0∨k=1)with rfl|rfl<;>rfl⟩⟩ ⟨by simp,fun h=>by simp at h⟩ rfl rfl (by omega) (by omega) (fun m hm=>by simp at hm;omega) (fun m hm=>by cases hm) (by omega) (by omega))
 unfold NwF at Hc;rw[show fresh [96,802] []=grP0 from rfl]at Hc;have Ha:=zH Hh;have HN:=zH hn;have Hq:2<w.heap.size:=qaq (hn 0 (by omega));obtain⟨gg,hq⟩:=qgU;have HQ:=zH hq;have Hn:=zH (show ∀ (W:World) (a:PA) (F:Nat→Prop),PlM W a F grP0→Nib W→¬F 2→Calls Tryz.prog 20 #[.pointer (some ⟨a.P,0,none⟩),.int .i64 0,.int .i64 1] W fun e w'=>e=.returned (.int .i64 0)∧∃ F',PlM w' a F' grP2∧Ext F F' W w' from fun W a F hp hN hF=>
  qgG hp gr0.1 hN hF gr0.2.2.1 (i:=0) (j:=1) (m:=96) (n:=802) ⟨by omega,by rw[gr0.2.1];rfl,by rw[gr0.2.1];rfl,by omega,by omega,by omega⟩ (by rw[gr0.2.2.2,gr0.2.2.2];exact qjh))
 have Ho:=zH (show ∀ (W:World) (a:PA) (F:Nat→Prop),PlM W a F grP2→Nib W→¬F 2→Calls Tryz.prog 21 #[.pointer (some ⟨a.P,0,none⟩),.int .i64 0,.int .i64 1] W fun e w'=>∃ K,e=.returned (.tuple #[.pointer (some ⟨K,0,none⟩),.int .i64 0])∧∃ G T F' q g,CaM w' K T a G 1 F' q g∧Ext F F' W w'∧W.heap.size≤K from fun W a F hp hN hF=>
  (qiU hp hN hF HQ.o).mono (by rintro e w' ⟨K,rfl,G,T,F',h1,h2,h3⟩;exact⟨K,rfl,G,T,F',_,_,h1,h2,h3⟩))
 clear Hh hn hq;go_enter Tryz.func6,Tryz.ntmps6
 go_wp2_with (first
  | (go_at_call 19;go_loud (refine Hc.o.mono ?_;rintro e w1 ⟨a,F1,rfl,hp1,hF1,hb1⟩;have Hf:=zH (Ha.o.trans (hb1.mono Ha.o.size));have Hb:=zH (show ∀ b,F1 b→w.heap.size≤b from fun b hf=>zam Ha.o.size (hF1 b hf));have Hk:=zH (Hn.o w1 a F1 hp1 (HN.o.below (Ha.o.trans (hb1.mono Ha.o.size))) (fun hf=>by have:=Hb.o _ hf;omega));clear hp1 hF1 hb1))
  | (go_at_call 20;go_loud (refine Hk.o.mono ?_;rintro e w2 ⟨rfl,F2,hp2,he2⟩;have Hp:=zH he2;have He:=qgM he2 Hf.o Hb.o;have Hi:=zH He;have Hg:=zH (show ∀ b,F2 b→w.heap.size≤b from fun b hf=>by rcases he2.sub b hf with h1|h1;exact Hb.o b h1;exact zam Hf.o.size h1);have Hl:=zH (Ho.o w2 a F2 hp2 (HN.o.below He) (fun hf=>by have:=Hg.o _ hf;omega));clear hp2 he2 He))
  | (go_at_call 21;go_loud (refine Hl.o.mono ?_;rintro e w3 ⟨K,rfl,G,T,F3,q3,g3,hc3,he3,_⟩;have Hm:=zH hc3;have Hj:=zH (qgM he3 Hi.o Hg.o);clear hc3 he3)))
 go_ret2
 exact⟨a,K,T,G,F3,q3,g3,rfl,Hm.o,Hj.o⟩
end Go.Proofs.YtfcknhbmeofniaaGreatDoor
set_option linter.all false
namespace Go.Proofs.YtfcknhbmeofniaaGreatDoor
open Go.RowKit BT
theorem LeM.lt {w:World}{B L:Nat}{F:Nat→Prop}{es:List Bs}(h:LeM w B F L es):L<w.heap.size:=by
 obtain⟨A,c,cs,A2,c2,h1,_⟩:=h.ex;exact(zaa.1 h1).1
theorem qbM {w:World}{B L:Nat}{F:Nat→Prop}{es:List Bs}(h:LeM w B F L es) :
  Calls Tryz.prog 9 #[.pointer (some ⟨L,0,none⟩)] w fun e w'=>e=.returned (.int .i64 (es.length:Nat))∧w'=w:=by
 obtain⟨A,c,cs,A2,c2,h1,_⟩:=h.ex;have f0:w.cell? ⟨L,0,none⟩=some (.slice A es.length c):=zC h1;obtain⟨n,hn⟩:∃ n,es.length=n:=⟨_,rfl⟩;rw[hn]at f0⊢;clear h h1 hn;go_enter Tryz.func9,Tryz.ntmps9
 go_wp2;go_ret;exact⟨rfl,rfl⟩
theorem qiZ {w:World}{B L:Nat}{F:Nat→Prop}{es:List Bs}(h:LeM w B F L es){i:Nat}{l:Bs}(hi:es[i]?=some l) :
  Calls Tryz.prog 12 #[.pointer (some ⟨L,0,none⟩),.int .i64 i] w fun e w'=>∃ A' cap,e=.returned (.tuple #[.slice A' l.length cap,.int .i64 0])∧By w' A' l∧Below w.heap.size w w':=by
 obtain⟨A,c,cs,A2,c2,h1,ho,hr,_⟩:=h.ex;have Hf:=(zac.1 hi).1;have Ha:=h.sz l (zak hi);have f0:w.cell? ⟨L,0,none⟩=some (.slice A es.length c):=zC h1;obtain⟨Ai,ci,hci,hcc,hbi⟩:=hr.get hi;obtain⟨A0,c0,e1,_,hf⟩:=ho.row.form;cases e1;obtain⟨g,rfl,_,hg,hc⟩:=hf (by omega);have f1:w.cell? ⟨g,i,none⟩=some (.slice Ai l.length ci):=by rw[hc i (by omega),hci]
 have Hc:=zH (qaC Ai ci l w hbi.by_ Ha);obtain⟨n,hn⟩:∃ n,es.length=n:=⟨_,rfl⟩;have k0:(0:Int)≤(i:Int):=by omega
 have k1:(i:Int)<(n:Int):=by omega
 have Hg:i<n:=by omega
 have k2:¬((n:Int)≤(i:Int)):=by omega
 have k3:¬((i:Int)<0):=by omega
 rw[hn]at f0;clear h h1 hn hi Hf Ha ho hr hci hcc hbi hf hg hc;go_enter Tryz.func12,Tryz.ntmps12
 go_wp2_with (go_at_call 28;go_loud (refine Hc.o.mono ?_;rintro e w1 ⟨A',cap,rfl,ho1,hb1⟩;have He:=zH ho1;have Hb:=zH hb1;clear ho1 hb1))
 go_ret2
 exact⟨A',cap,rfl,He.o.by,Hb.o⟩
end Go.Proofs.YtfcknhbmeofniaaGreatDoor
