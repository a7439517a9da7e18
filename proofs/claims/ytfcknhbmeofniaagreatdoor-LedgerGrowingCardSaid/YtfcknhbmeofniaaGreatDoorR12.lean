/- Texts ShB ApW ShC StC HeldS HeldZ. -/
import Derived.Test.YtfcknhbmeofniaaGreatDoorR11
set_option linter.all false
set_option maxRecDepth 100000
set_option maxHeartbeats 16000000
namespace Go.Proofs.YtfcknhbmeofniaaGreatDoor
open Go.RowKit BT
variable {t:TypeId}{w:World}
def wsv (l:List W32):List Value:=l.map fun x=>.int .u32 (x.toNat:Int)
def Kon (w:World):Prop:=∀ t,t<64→w.cell? ⟨1,t,none⟩=some (.int .u32 ((kS t).toNat:Int))
def schA (p:Bs)(t:Nat):Array Value:=(wsv (qaA p t)++List.replicate (64-t) (Value.int .u32 0)).toArray
structure PcM (v:V8) (p:Bs) (t:Nat) (w wr:World):Prop where
 b2:wr.heap[w.heap.size]?=some (.cells (wsv v.l).toArray 178 (0,0))
 b4:wr.heap[w.heap.size+1]?=some (.cells (List.replicate 8 (Value.int .u32 0)).toArray 178 (0,0))
 b5:wr.heap[w.heap.size+1+1]?=some (.cells (schA p t) 232 (0,0))
 bl:Below w.heap.size w wr
theorem qee (l:List W32):(wsv l).length=l.length:=by simp[wsv]
theorem qkI (p:Bs)(t i:Nat)(h:i<t):(schA p t)[i]?=some (.int .u32 (((qaA p t).getD i 0).toNat:Int)):=by
 have hl:i<(qaA p t).length:=by rw[qbR];exact h
 unfold schA wsv;simp only[zbg];rw[zaH (by simp;omega),zaD,zaq,zab hl];rfl
theorem qhl (p:Bs)(t:Nat)(h:t≤64):(schA p t).size=64:=by simp[schA,wsv,qbR];omega
theorem qiI (p:Bs)(t:Nat)(x:W32)(h:t<64)(hx:qaA p (t+1)=qaA p t++[x]):(schA p t).setIfInBounds t (.int .u32 (x.toNat:Int))=schA p (t+1):=by
 apply Array.ext';rw[zbR];unfold schA;rw[hx];have hl:=qbR p t;simp only[wsv,zbz,zbD,zbV,zah];rw[List.set_append_right _ _ (by simp[hl]),zbc,hl,zcd,show 64-t=(64-(t+1))+1 by omega,List.replicate_succ];rfl
theorem PcM.set {v:V8}{p:Bs}{t:Nat}{wr W:World}(h:PcM v p t w wr)(hW:wr.drew=W)(x:Value)(hs:(schA p t).setIfInBounds t x=schA p (t+1)):PcM v p (t+1) w (W.setCell ⟨w.heap.size+1+1,t,none⟩ x):=by
 subst hW;refine⟨(zaV _ _ _ _ (by simp;omega)).trans h.b2,(zaV _ _ _ _ (by simp)).trans h.b4,?_,h.bl.drew.setCell (by simp;omega) _⟩;rw[←hs];exact qac h.b5 _
def mixA (v r:V8)(k:Nat):Array Value:=((wsv (v.add r).l).take k++(wsv v.l).drop k).toArray
theorem qa9 (v:V8):v.l.length=8:=rfl
theorem qmk (v r:V8)(k:Nat)(x:W32)(hx:v.l[k]?=some x):(mixA v r k)[k]?=some (.int .u32 (x.toNat:Int)):=by
 have hk:=(zac.1 hx).1;rw[qa9]at hk;unfold mixA;simp only[zbg];rw[zaz (by simp[wsv,qa9];omega),zaj,qee,qa9,zbX (by omega),zaJ];simp[wsv,hx]
theorem qlt (v r:V8)(k:Nat)(x y z:W32)(hx:v.l[k]?=some x)(hy:r.l[k]?=some y)(hz:x+y=z):(mixA v r k).setIfInBounds k (.int .u32 (z.toNat:Int))=mixA v r (k+1):=by
 have hk:=(zac.1 hx).1;rw[qa9]at hk;have ha:(v.add r).l[k]?=some z:=by
  subst hz;rcases(by omega:k=0∨k=1∨k=2∨k=3∨k=4∨k=5∨k=6∨k=7)with rfl|rfl|rfl|rfl|rfl|rfl|rfl|rfl<;>(cases hx;cases hy;rfl)
 apply Array.ext';rw[zbR];unfold mixA;have hl:((wsv (v.add r).l).take k).length=k:=by simp[wsv,qa9];omega
 have hw:(wsv v.l).drop k=.int .u32 (x.toNat:Int)::(wsv v.l).drop (k+1):=by
  rw[List.drop_eq_getElem_cons (by rw[qee,qa9];omega)];congr 1;have:(wsv v.l)[k]?=some (.int .u32 (x.toNat:Int)):=by simp[wsv,hx]
  exact(zac.1 this).2
 have Ha:(wsv (v.add r).l).take (k+1)=(wsv (v.add r).l).take k++[.int .u32 (z.toNat:Int)]:=by
  have:(wsv (v.add r).l)[k]?=some (.int .u32 (z.toNat:Int)):=by simp[wsv,ha]
  obtain⟨h1,h2⟩:=zac.1 this;rw[zaw h1,h2]
 rw[hw,Ha];show(_++_:List Value).set k _=_;rw[List.set_append_right _ _ (by omega),hl,zcd];simp
theorem qgv {P:Program}{e:TypeId}{n:Nat}(hu:P.underlying t=some (.array n e))(hag:∀ W,(isAgg e).run P W=.ok false W)(hsz:∀ W,(sizeOf e).run P W=.ok 1 W)(Z:Array Value)(k:Nat)(v:Value)(hk:k<n)(hv:Z[k]?=some v)(W:World) :
  (Instr.index t (.agg Z) (.int .i64 (k:Int))).run P W=.ok v W:=by
 have Ha:(k:Int)<(n:Int):=by omega
 simp[Instr.index,asIntOf,zaU hu,Ha,hsz,part,hag,hv,Result.andThen];intro h;omega
theorem qg0 (t:TypeId)(hu:Tryz.prog.underlying t=some (.array 8 126))(Z:Array Value)(k:Nat)(v:Value)(hk:k<8)(hv:Z[k]?=some v)(W:World):(Instr.index t (.agg Z) (.int .i64 (k:Int))).run Tryz.prog W=.ok v W:=
 qgv hu (fun W=>by kernel_rfl) (fun W=>by kernel_rfl) Z k v hk hv W
theorem qbn {fn:Func}{c:Tmp}{T:TypeId}{v:Value}(h:fn.results=#[.cell c T])(tmps:Array Value)(P:Program)(w:World)(ad:Addr)
  (hp:tmps.getD c undef=.pointer (some ad))(hl:(loadVar T ad).run P w=.ok v w):(results fn tmps).run P w=.ok v w:=by
 have Ha:tmps[c]?.getD undef=.pointer (some ad):=by simpa using hp
 simp[results,h,Ha,asAddr,hl]
theorem rangeAt_whole {b:Nat}{cs:List Value}{fr:Nat×Nat}(h:w.heap[b]?=some (.cells cs.toArray t fr)):w.rangeAt b 0 cs:=fun j v hv=>by
 rw[zaF,zao w b j _ _ _ h];simpa using hv
theorem wsv_one (l:List W32):∀ v∈wsv l,v.oneCell'=true:=fun v hv=>by
 obtain⟨x,_,rfl⟩:=zbh.1 hv;rfl
structure PcX (v r:V8) (k:Nat) (w wr:World):Prop where
 b2:wr.heap[w.heap.size]?=some (.cells (mixA v r k) 178 (0,0))
 b4:wr.heap[w.heap.size+1]?=some (.cells (List.replicate 8 (Value.int .u32 0)).toArray 178 (0,0))
 bl:Below w.heap.size w wr
theorem qfO (v:V8)(A:Option Addr)(c:Nat)(p:Bs)(w:World)(h:By w A p)(hl:p.length=64)(hk:Kon w)(hc:64≤c) :
  Calls Tryz.prog 95 #[.agg (wsv v.l).toArray,.slice A 64 c] w fun e w'=>e=.returned (.agg (wsv (pieceS v p).l).toArray)∧Below w.heap.size w w':=by
 obtain⟨b,off,rfl,hb,hcell⟩:=h.at_ (by omega);have HC:=zH (show ∀ (wr:World) (i:Nat),Below w.heap.size w wr→i<64→wr.cell? ⟨b,off+i,none⟩=some (.int .u8 ((p.getD i 0).toNat:Int))from fun wr i hbl hi=>by
  rw[hbl.cell (p:=⟨b,off+i,none⟩) hb];exact hcell i _ (by rw[zaq,zab (by omega)];rfl))
 have HK:=zH hk;clear h hcell hk;go_enter Tryz.func95,Tryz.ntmps95
 go_wp2;go_loopw [27] (fun i wr=>∃ t:Nat,i=.int .i64 t∧t≤16∧PcM v p t w wr) (fun i _=>16-(intOf i).toNat)
 case atStart=>
  have Ha:∀ W:World,(W.alloc (.cells (List.replicate 64 (Value.int .u32 0)).toArray 232)).heap[W.heap.size]?=some (.cells (schA p 0) 232 (0,0)):=fun W=>zae W _;refine⟨0,rfl,by omega,?_,?_,?_,by go_grown⟩
  ·rw[zaW _ _ _ (by simp;omega),zaW _ _ _ (by simp)];exact zae w _
  ·rw[zaW _ _ _ (by simp)];have:=zae (w.alloc (Obj.cells (wsv v.l).toArray 178)) (Obj.cells (List.replicate 8 (Value.int .u32 0)).toArray 178);simp only[za5]at this;exact this
  ·have:=Ha ((w.alloc (Obj.cells (wsv v.l).toArray 178)).alloc (Obj.cells (List.replicate 8 (Value.int .u32 0)).toArray 178));simp only[za5]at this;exact this
 case round=>
  obtain⟨t,rfl,ht,hm⟩:=hrel;by_cases hlt:t<16
  ·obtain⟨i0,hi0⟩:∃ i,4*t=i:=⟨_,rfl⟩;have e0:4*(t:Int)=(i0:Int):=by omega
   have hi:i0+3<64:=by omega
   obtain⟨W,hW⟩:∃ W,wr.drew=W:=⟨_,rfl⟩;have Hj:Below w.heap.size w W:=by rw[←hW];exact hm.bl.drew
   have c0:=HC.o W i0 Hj (by omega);have c1:=HC.o W (i0+1) Hj (by omega);have c2:=HC.o W (i0+2) Hj (by omega);have c3:=HC.o W (i0+3) Hj (by omega);have w1:IntKind.i64.wrap (4*(t:Int))=(i0:Int):=by rw[e0];exact zaA _ (by omega)
   have w2:IntKind.i64.wrap ((i0:Int)+1)=((i0+1:Nat):Int):=by rw[zaA _ (by omega)];omega
   have w3:IntKind.i64.wrap ((i0:Int)+2)=((i0+2:Nat):Int):=by rw[zaA _ (by omega)];omega
   have w4:IntKind.i64.wrap ((i0:Int)+3)=((i0+3:Nat):Int):=by rw[zaA _ (by omega)];omega
   obtain⟨i1,hi1⟩:∃ i,i0+1=i:=⟨_,rfl⟩;obtain⟨i2,hi2⟩:∃ i,i0+2=i:=⟨_,rfl⟩;obtain⟨i3,hi3⟩:∃ i,i0+3=i:=⟨_,rfl⟩;rw[hi1]at c1 w2;rw[hi2]at c2 w3;rw[hi3]at c3 w4;obtain⟨z0,hz0⟩:∃ z,b8 (p.getD i0 0)=z:=⟨_,rfl⟩;obtain⟨z1,hz1⟩:∃ z,b8 (p.getD i1 0)=z:=⟨_,rfl⟩;obtain⟨z2,hz2⟩:∃ z,b8 (p.getD i2 0)=z:=⟨_,rfl⟩;obtain⟨z3,hz3⟩:∃ z,b8 (p.getD i3 0)=z:=⟨_,rfl⟩;rw[←qgE,hz0]at c0;rw[←qgE,hz1]at c1;rw[←qgE,hz2]at c2;rw[←qgE,hz3]at c3;have HX:=zH (show qaA p (t+1)=qaA p t++[z0 <<< 24 ||| z1 <<< 16 ||| z2 <<< 8 ||| z3]by
    rw[qaA,zax hlt];unfold qjE wd;rw[hi0,hi1,hi2,hi3,hz0,hz1,hz2,hz3])
   have f0:=qcN z0;have f1:=qcN z1;have f2:=qcN z2;have f3:=qcN z3;have g0:=shlw z0 24 16777216 (by decide);have g1:=shlw z1 16 65536 (by decide);have g2:=shlw z2 8 256 (by decide);have o1:=or32 (z0 <<< 24) (z1 <<< 16);have o2:=or32 (z0 <<< 24 ||| z1 <<< 16) (z2 <<< 8);have o3:=or32 (z0 <<< 24 ||| z1 <<< 16 ||| z2 <<< 8) z3;clear hz0 hz1 hz2 hz3;generalize z0 <<< 24 ||| z1 <<< 16 ||| z2 <<< 8 ||| z3=x at o3 HX
   generalize z0 <<< 24 ||| z1 <<< 16 ||| z2 <<< 8=x2 at o3 o2
   generalize z0 <<< 24 ||| z1 <<< 16=x1 at o2 o1
   generalize z0 <<< 24=y0 at g0 o1;generalize z1 <<< 16=y1 at g1 o1;generalize z2 <<< 8=y2 at g2 o2;have l4:(t:Int)<64:=by omega
   have Hp:=hm.b5;have HS:=zH (qiI p t x (by omega) HX.o);obtain⟨u0,hu0⟩:∃ u0,(schA p t)[t]?=some u0:=⟨_,zbp (by rw[qhl p t (by omega)];omega)⟩;have d0:W.cell? ⟨w.heap.size+1+1,t,none⟩=some u0:=by rw[←hW,←hu0];exact zao wr _ t _ _ _ Hp
   have d1:W.frozen? ⟨w.heap.size+1+1,t,none⟩=false:=by rw[←hW];exact zbk wr _ _ _ _ Hp
   clear hu0 Hp HX;have l0:(i0:Int)<64:=by omega
   have l1:(i1:Int)<64:=by omega
   have l2:(i2:Int)<64:=by omega
   have l3:(i3:Int)<64:=by omega
   have HM:=zH hm;have HI:=zH (And.intro hi0 (And.intro hi1 (And.intro hi2 hi3)));clear Hj hm hi0 hi1 hi2 hi3 e0 hi;go_wp2;refine wp_region_still_tail 35 (by kernel_rfl) (by kernel_rfl) ?_;simp only[World.drew_eq,zbt,zbT,zbI,zbS];rw[hW];have HW:=zH hW;clear hW
   iterate 35 still_step
   refine wpStill_nil ?_;go_wp2;exact⟨⟨t+1,by go_num,by omega,HM.o.set HW.o _ HS.o⟩,by simp[intOf];omega⟩
  ·have Hk:PcM v p 16 w wr:=by
    have e:t=16:=by omega
    rwa [e]at hm
   have H2:¬((t:Int)<16):=by omega
   clear hm hlt ht;go_wp2;go_loopw [7] (fun i wr=>∃ t:Nat,i=.int .i64 t∧16≤t∧t≤64∧PcM v p t w wr) (fun i _=>64-(intOf i).toNat)
   case atStart=>exact⟨16,rfl,by omega,by omega,Hk⟩
   case round=>
    rename World=>wr;obtain⟨t,rfl,ht1,ht2,hm⟩:=hrel;clear Hk;by_cases hlt:t<64
    ·have k0:(t:Int)<64:=by omega
     obtain⟨j15,hj15⟩:∃ j,t-15=j:=⟨_,rfl⟩;obtain⟨j2,hj2⟩:∃ j,t-2=j:=⟨_,rfl⟩;obtain⟨j16,hj16⟩:∃ j,t-16=j:=⟨_,rfl⟩;obtain⟨j7,hj7⟩:∃ j,t-7=j:=⟨_,rfl⟩;have hw:IntKind.i64.wrap ((t:Int)-15)=(j15:Int):=by rw[zaA _ (by omega)];omega
     have w2:IntKind.i64.wrap ((t:Int)-2)=(j2:Int):=by rw[zaA _ (by omega)];omega
     have hA:IntKind.i64.wrap ((t:Int)-16)=(j16:Int):=by rw[zaA _ (by omega)];omega
     have w7:IntKind.i64.wrap ((t:Int)-7)=(j7:Int):=by rw[zaA _ (by omega)];omega
     have hs:(j15:Int)<64:=by omega
     have m2:(j2:Int)<64:=by omega
     have hu:(j16:Int)<64:=by omega
     have m7:(j7:Int)<64:=by omega
     have Hf:=zH (show ∀ (n i:Nat),i<t→(wr.drewN n).cell? ⟨w.heap.size+1+1,i,none⟩=some (.int .u32 (((qaA p t).getD i 0).toNat:Int))from fun n i hi=>by
      rw[←qkI p t i hi];exact zao (wr.drewN n) _ i _ _ _ hm.b5)
     obtain⟨x15,hx15⟩:∃ x,(qaA p t).getD j15 0=x:=⟨_,rfl⟩;obtain⟨x2,hx2⟩:∃ x,(qaA p t).getD j2 0=x:=⟨_,rfl⟩;obtain⟨x16,hx16⟩:∃ x,(qaA p t).getD j16 0=x:=⟨_,rfl⟩;obtain⟨x7,hx7⟩:∃ x,(qaA p t).getD j7 0=x:=⟨_,rfl⟩;have H0:∀ n,(wr.drewN n).cell? ⟨w.heap.size+1+1,j15,none⟩=some (.int .u32 (x15.toNat:Int)):=fun n=>by rw[←hx15];exact Hf.o n j15 (by omega)
     have c2:∀ n,(wr.drewN n).cell? ⟨w.heap.size+1+1,j2,none⟩=some (.int .u32 (x2.toNat:Int)):=fun n=>by rw[←hx2];exact Hf.o n j2 (by omega)
     have C7:=zH (show ∀ n,(wr.drewN n).cell? ⟨w.heap.size+1+1,j7,none⟩=some (.int .u32 (x7.toNat:Int))from fun n=>by rw[←hx7];exact Hf.o n j7 (by omega));have HP:=zH (show ∀ n,(wr.drewN n).cell? ⟨w.heap.size+1+1,j16,none⟩=some (.int .u32 (x16.toNat:Int))from fun n=>by rw[←hx16];exact Hf.o n j16 (by omega));obtain⟨a1,ha1⟩:∃ z,rr x15 7=z:=⟨_,rfl⟩;have Hh:=zH (fun W=>qbD x15 7 (-7) W (by decide) (by omega) (by omega));rw[ha1]at Hh;obtain⟨a2,ha2⟩:∃ z,rr x15 18=z:=⟨_,rfl⟩;have Hi:=zH (fun W=>qbD x15 18 (-18) W (by decide) (by omega) (by omega));rw[ha2]at Hi;obtain⟨a3,ha3⟩:∃ z,a1 ^^^ a2=z:=⟨_,rfl⟩;have Hr:=qbT a1 a2;rw[ha3]at Hr;obtain⟨a4,ha4⟩:∃ z,x15 >>> 3=z:=⟨_,rfl⟩;have H4:=shrw x15 3 8 (by decide);rw[ha4]at H4;obtain⟨a5,ha5⟩:∃ z,a3 ^^^ a4=z:=⟨_,rfl⟩;have Hs:=qbT a3 a4;rw[ha5]at Hs;obtain⟨b1,hb1⟩:∃ z,rr x2 17=z:=⟨_,rfl⟩;have HA:=zH (fun W=>qbD x2 17 (-17) W (by decide) (by omega) (by omega));rw[hb1]at HA;obtain⟨b2,Ha⟩:∃ z,rr x2 19=z:=⟨_,rfl⟩;have HB:=zH (fun W=>qbD x2 19 (-19) W (by decide) (by omega) (by omega));rw[Ha]at HB;obtain⟨b3,hb3⟩:∃ z,b1 ^^^ b2=z:=⟨_,rfl⟩;have Ht:=qbT b1 b2;rw[hb3]at Ht;obtain⟨b4,hb4⟩:∃ z,x2 >>> 10=z:=⟨_,rfl⟩;have Hu:=shrw x2 10 1024 (by decide);rw[hb4]at Hu;obtain⟨b5,hb5⟩:∃ z,b3 ^^^ b4=z:=⟨_,rfl⟩;have Hv:=qbT b3 b4;rw[hb5]at Hv;obtain⟨c3,hc3⟩:∃ z,x16+a5=z:=⟨_,rfl⟩;have Hw:=qbU x16 a5;rw[hc3]at Hw;obtain⟨c4,hc4⟩:∃ z,c3+x7=z:=⟨_,rfl⟩;have H9:=qbU c3 x7;rw[hc4]at H9;obtain⟨x,hx⟩:∃ z,c4+b5=z:=⟨_,rfl⟩;have qx:=qbU c4 b5;rw[hx]at qx
     have HX:=zH (show x16+sg0 x15+x7+sg1 x2=x by rw[←hx,←hc4,←hc3,←hb5,←hb4,←hb3,←Ha,←hb1,←ha5,←ha4,←ha3,←ha2,←ha1];rfl);clear ha1 ha2 ha3 ha4 ha5 hb1 Ha hb3 hb4 hb5 hc3 hc4 hx;have HS:=zH (qiI p t x hlt (by rw[qaA,zaC (by omega)];unfold qmn;rw[hj15,hj2,hj16,hj7,hx15,hx2,hx16,hx7,HX.o]));have HM:=zH hm;have HJ:=zH (And.intro hlt ht1);clear hm hj15 hj2 hj16 hj7 hx15 hx2 hx16 hx7 Hf hlt ht1 ht2;go_upto_region 10 with fail
     go_quiet (fail)
     rename Nat=>nq;obtain⟨W0,hW0⟩:∃ W0,wr.drewN nq=W0:=⟨_,rfl⟩;obtain⟨W,hW⟩:∃ W,W0.drew=W:=⟨_,rfl⟩;have HG:wr.drewN (nq+1)=W:=by rw[←hW,←hW0];rfl
     have d7:=C7.o (nq+1);have H1:=HP.o (nq+1);rw[HG]at d7 H1;have Hg:=zH (show PcM v p t w W0 by subst hW0;exact⟨HM.o.b2,HM.o.b4,HM.o.b5,HM.o.bl.trans ⟨rfl,rfl,rfl,zad _,fun _ _=>rfl⟩⟩);obtain⟨u0,hu0⟩:∃ u0,(schA p t)[t]?=some u0:=⟨_,zbp (by rw[qhl p t (by have:=HJ.o;omega)];exact HJ.o.1)⟩;have d0:W.cell? ⟨w.heap.size+1+1,t,none⟩=some u0:=by rw[←hW,←hu0];exact zao W0 _ t _ _ _ Hg.o.b5
     have d1:W.frozen? ⟨w.heap.size+1+1,t,none⟩=false:=by rw[←hW];exact zbk W0 _ _ _ _ Hg.o.b5
     rw[hW0];clear hW0 HG hu0 H0 c2;go_upto_region 13 with(first
      | (go_at_call 133;(with_reducible refine(Hh.o _).mono ?_);rintro e w' ⟨rfl,rfl⟩)
      | (go_at_call 133;(with_reducible refine(Hi.o _).mono ?_);rintro e w' ⟨rfl,rfl⟩)
      | (go_at_call 133;(with_reducible refine(HA.o _).mono ?_);rintro e w' ⟨rfl,rfl⟩)
      | (go_at_call 133;(with_reducible refine(HB.o _).mono ?_);rintro e w' ⟨rfl,rfl⟩))
     refine wp_region_still_tail 15 (by kernel_rfl) (by kernel_rfl) ?_;simp only[World.drew_eq,zbt,zbT,zbI,zbS];rw[hW];have HW:=zH hW;clear hW
     iterate 15 still_step
     refine wpStill_nil ?_;go_wp2;exact⟨⟨t+1,by go_num,by have:=HJ.o;omega,by have:=HJ.o;omega,Hg.o.set HW.o _ HS.o⟩,by have:=HJ.o;simp[intOf];omega⟩
    ·have He:PcM v p 64 w wr:=by
      have e:t=64:=by omega
      rwa [e]at hm
     have HO:¬((t:Int)<64):=by omega
     clear hm hlt ht1 ht2;go_wp2;obtain⟨⟨xa,xb,xc,xd,xe,xf,xg,xh⟩,hv⟩:∃ u,v=u:=⟨_,rfl⟩;have Hc:=zH (show ∀ (n i:Nat) (x:W32),v.l[i]?=some x→(wr.drewN n).cell? ⟨w.heap.size,i,none⟩=some (.int .u32 (x.toNat:Int))from fun n i x hx=>by
      rw[zao (wr.drewN n) _ i _ _ _ He.b2];simp[wsv,hx])
     have r0:∀ n,(wr.drewN n).cell? ⟨w.heap.size,0,none⟩=some (.int .u32 (xa.toNat:Int)):=fun n=>Hc.o n 0 xa (by rw[hv];rfl);have r1:∀ n,(wr.drewN n).cell? ⟨w.heap.size,1,none⟩=some (.int .u32 (xb.toNat:Int)):=fun n=>Hc.o n 1 xb (by rw[hv];rfl);have r2:∀ n,(wr.drewN n).cell? ⟨w.heap.size,2,none⟩=some (.int .u32 (xc.toNat:Int)):=fun n=>Hc.o n 2 xc (by rw[hv];rfl);have r3:∀ n,(wr.drewN n).cell? ⟨w.heap.size,3,none⟩=some (.int .u32 (xd.toNat:Int)):=fun n=>Hc.o n 3 xd (by rw[hv];rfl);have r4:∀ n,(wr.drewN n).cell? ⟨w.heap.size,4,none⟩=some (.int .u32 (xe.toNat:Int)):=fun n=>Hc.o n 4 xe (by rw[hv];rfl);have r5:∀ n,(wr.drewN n).cell? ⟨w.heap.size,5,none⟩=some (.int .u32 (xf.toNat:Int)):=fun n=>Hc.o n 5 xf (by rw[hv];rfl);have r6:∀ n,(wr.drewN n).cell? ⟨w.heap.size,6,none⟩=some (.int .u32 (xg.toNat:Int)):=fun n=>Hc.o n 6 xg (by rw[hv];rfl);have r7:∀ n,(wr.drewN n).cell? ⟨w.heap.size,7,none⟩=some (.int .u32 (xh.toNat:Int)):=fun n=>Hc.o n 7 xh (by rw[hv];rfl);have Hb:=zH He;have HV:=zH hv;clear He hv HO H2
     go_quiet (fail)
     rename Nat=>nq;obtain⟨W0,hW0⟩:∃ W0,wr.drewN nq=W0:=⟨_,rfl⟩;have HH:PcM v p 64 w W0:=by subst hW0;exact⟨Hb.o.b2,Hb.o.b4,Hb.o.b5,Hb.o.bl.trans ⟨rfl,rfl,rfl,zad _,fun _ _=>rfl⟩⟩
     rw[hW0];clear hW0 r0 r1 r2 r3 r4 r5 r6 r7;go_wp2;go_loopw [12,13,14,15,16,17,18,19,125] (fun s0 s1 s2 s3 s4 s5 s6 s7 i wr=>∃ (k:Nat) (y0 y1 y2 y3 y4 y5 y6 y7:W32),i=.int .i64 k∧k≤64∧Hd (qdY p v k=⟨y0,y1,y2,y3,y4,y5,y6,y7⟩)∧s0=.int .u32 (y0.toNat:Int)∧s1=.int .u32 (y1.toNat:Int)∧s2=.int .u32 (y2.toNat:Int)∧s3=.int .u32 (y3.toNat:Int)∧s4=.int .u32 (y4.toNat:Int)∧s5=.int .u32 (y5.toNat:Int)∧s6=.int .u32 (y6.toNat:Int)∧s7=.int .u32 (y7.toNat:Int)∧PcM v p 64 w wr) (fun _ _ _ _ _ _ _ _ i _=>64-(intOf i).toNat)
     case atStart=>exact⟨0,xa,xb,xc,xd,xe,xf,xg,xh,rfl,by omega,zH HV.o,rfl,rfl,rfl,rfl,rfl,rfl,rfl,rfl,HH⟩
     case round=>
      rename World=>wr;obtain⟨k,y0,y1,y2,y3,y4,y5,y6,y7,rfl,hk,HR,rfl,rfl,rfl,rfl,rfl,rfl,rfl,rfl,hm⟩:=hrel;clear HH;by_cases hlt:k<64
      ·have k0:(k:Int)<64:=by omega
       obtain⟨kc,hkc⟩:∃ x,kS k=x:=⟨_,rfl⟩;obtain⟨wk,hwk⟩:∃ x,(qaA p 64).getD k 0=x:=⟨_,rfl⟩;have ck:∀ n,(wr.drewN n).cell? ⟨1,k,none⟩=some (.int .u32 (kc.toNat:Int)):=fun n=>by
        rw[←hkc,←HK.o k hlt];have hb:Below w.heap.size w (wr.drewN n):=hm.bl.trans ⟨rfl,rfl,rfl,zad _,fun _ _=>rfl⟩;exact hb.cell (p:=⟨1,k,none⟩) (zav w _ (HK.o k hlt))
       have cw:∀ n,(wr.drewN n).cell? ⟨w.heap.size+1+1,k,none⟩=some (.int .u32 (wk.toNat:Int)):=fun n=>by
        rw[←hwk,←qkI p 64 k hlt];exact zao (wr.drewN n) _ k _ _ _ hm.b5
       obtain⟨a1,ha1⟩:∃ z,rr y4 6=z:=⟨_,rfl⟩;have Hh:=zH (fun W=>qbD y4 6 (-6) W (by decide) (by omega) (by omega));rw[ha1]at Hh;obtain⟨a2,ha2⟩:∃ z,rr y4 11=z:=⟨_,rfl⟩;have Hi:=zH (fun W=>qbD y4 11 (-11) W (by decide) (by omega) (by omega));rw[ha2]at Hi;obtain⟨a3,ha3⟩:∃ z,a1 ^^^ a2=z:=⟨_,rfl⟩;have Hr:=qbT a1 a2;rw[ha3]at Hr;obtain⟨a4,ha4⟩:∃ z,rr y4 25=z:=⟨_,rfl⟩;have Hz:=zH (fun W=>qbD y4 25 (-25) W (by decide) (by omega) (by omega));rw[ha4]at Hz;obtain⟨a5,ha5⟩:∃ z,a3 ^^^ a4=z:=⟨_,rfl⟩;have Hs:=qbT a3 a4;rw[ha5]at Hs;obtain⟨b1,hb1⟩:∃ z,y7+a5=z:=⟨_,rfl⟩;have H5:=qbU y7 a5;rw[hb1]at H5;obtain⟨b2,Ha⟩:∃ z,y4 &&& y5=z:=⟨_,rfl⟩;have H6:=qfm y4 y5;rw[Ha]at H6;obtain⟨b3,hb3⟩:∃ z,~~~ y4=z:=⟨_,rfl⟩;have Ht:=qmo y4;have H3:=qlW y4;rw[hb3]at Ht H3;obtain⟨b4,hb4⟩:∃ z,b3 &&& y6=z:=⟨_,rfl⟩;have Hu:=qfm b3 y6;rw[hb4]at Hu;obtain⟨b5,hb5⟩:∃ z,b2 ^^^ b4=z:=⟨_,rfl⟩;have Hv:=qbT b2 b4;rw[hb5]at Hv;obtain⟨b6,hb6⟩:∃ z,b1+b5=z:=⟨_,rfl⟩;have H7:=qbU b1 b5;rw[hb6]at H7;obtain⟨b7,hb7⟩:∃ z,b6+kc=z:=⟨_,rfl⟩;have H8:=qbU b6 kc;rw[hb7]at H8;obtain⟨t1,ht1⟩:∃ z,b7+wk=z:=⟨_,rfl⟩;have hj:=qbU b7 wk;rw[ht1]at hj;obtain⟨c1,hc1⟩:∃ z,rr y0 2=z:=⟨_,rfl⟩;have HD:=zH (fun W=>qbD y0 2 (-2) W (by decide) (by omega) (by omega));rw[hc1]at HD;obtain⟨c2,hc2⟩:∃ z,rr y0 13=z:=⟨_,rfl⟩;have HE:=zH (fun W=>qbD y0 13 (-13) W (by decide) (by omega) (by omega));rw[hc2]at HE;obtain⟨c3,hc3⟩:∃ z,c1 ^^^ c2=z:=⟨_,rfl⟩;have Hw:=qbT c1 c2;rw[hc3]at Hw;obtain⟨c4,hc4⟩:∃ z,rr y0 22=z:=⟨_,rfl⟩
       have HF:=zH (fun W=>qbD y0 22 (-22) W (by decide) (by omega) (by omega));rw[hc4]at HF;obtain⟨c5,hc5⟩:∃ z,c3 ^^^ c4=z:=⟨_,rfl⟩;have ha:=qbT c3 c4;rw[hc5]at ha;obtain⟨d1,hd1⟩:∃ z,y0 &&& y1=z:=⟨_,rfl⟩;have hd:=qfm y0 y1;rw[hd1]at hd;obtain⟨d2,hd2⟩:∃ z,y0 &&& y2=z:=⟨_,rfl⟩;have he:=qfm y0 y2;rw[hd2]at he;obtain⟨d3,hd3⟩:∃ z,d1 ^^^ d2=z:=⟨_,rfl⟩;have hf:=qbT d1 d2;rw[hd3]at hf;obtain⟨d4,hd4⟩:∃ z,y1 &&& y2=z:=⟨_,rfl⟩;have hg:=qfm y1 y2;rw[hd4]at hg;obtain⟨d5,hd5⟩:∃ z,d3 ^^^ d4=z:=⟨_,rfl⟩;have hh:=qbT d3 d4;rw[hd5]at hh;obtain⟨t2,ht2⟩:∃ z,c5+d5=z:=⟨_,rfl⟩;have ho:=qbU c5 d5;rw[ht2]at ho;obtain⟨z0,hz0⟩:∃ z,t1+t2=z:=⟨_,rfl⟩;have hp:=qbU t1 t2;rw[hz0]at hp;obtain⟨z4,hz4⟩:∃ z,y3+t1=z:=⟨_,rfl⟩;have hr:=qbU y3 t1;rw[hz4]at hr;have HX:=zH (show rndS ⟨y0,y1,y2,y3,y4,y5,y6,y7⟩ kc wk=⟨z0,y0,y1,y2,z4,y4,y5,y6⟩by rw[←hz4,←hz0,←ht2,←hd5,←hd4,←hd3,←hd2,←hd1,←hc5,←hc4,←hc3,←hc2,←hc1,←ht1,←hb7,←hb6,←hb5,←hb4,←hb3,←Ha,←hb1,←ha5,←ha4,←ha3,←ha2,←ha1];rfl);clear ha1 ha2 ha3 ha4 ha5 hb1 Ha hb3 hb4 hb5 hb6 hb7 ht1 hc1 hc2 hc3 hc4 hc5 hd1 hd2 hd3 hd4 hd5 ht2 hz0 hz4;have HU:=zH (show qdY p v (k+1)=⟨z0,y0,y1,y2,z4,y4,y5,y6⟩by rw[qdY,HR.out,hkc,hwk,HX.o]);have HM:=zH hm;have HL:=zH hlt;clear hm hkc hwk hlt hk;go_upto_region 19 with(first
        | (go_at_call 133;(with_reducible refine(Hh.o _).mono ?_);rintro e w' ⟨rfl,rfl⟩)
        | (go_at_call 133;(with_reducible refine(Hi.o _).mono ?_);rintro e w' ⟨rfl,rfl⟩)
        | (go_at_call 133;(with_reducible refine(Hz.o _).mono ?_);rintro e w' ⟨rfl,rfl⟩))
       go_quiet (fail)
       rename Nat=>nq;obtain⟨W0,hW0⟩:∃ W0,wr.drewN nq=W0:=⟨_,rfl⟩;have Hg:=zH (show PcM v p 64 w W0 by subst hW0;exact⟨HM.o.b2,HM.o.b4,HM.o.b5,HM.o.bl.trans ⟨rfl,rfl,rfl,zad _,fun _ _=>rfl⟩⟩);rw[hW0];clear hW0 ck cw;go_wp2_with (first
        | (go_at_call 133;(with_reducible refine(HD.o _).mono ?_);rintro e w' ⟨rfl,rfl⟩)
        | (go_at_call 133;(with_reducible refine(HE.o _).mono ?_);rintro e w' ⟨rfl,rfl⟩)
        | (go_at_call 133;(with_reducible refine(HF.o _).mono ?_);rintro e w' ⟨rfl,rfl⟩))
       exact⟨⟨k+1,z0,y0,y1,y2,z4,y4,y5,y6,by go_num,by have:=HL.o;omega,HU,rfl,rfl,rfl,rfl,rfl,rfl,rfl,rfl,Hg.o⟩,by have:=HL.o;simp[intOf];omega⟩
      ·have Hn:=zH (show qdY p v 64=⟨y0,y1,y2,y3,y4,y5,y6,y7⟩by
        have e:k=64:=by omega
        rw[←HR.out,e])
       have HO:¬((k:Int)<64):=by omega
       clear hk hlt HR;have Hm:=hm;clear hm;go_wp2;have HN:PcX v ⟨y0,y1,y2,y3,y4,y5,y6,y7⟩ 0 w wr:=⟨by have:=Hm.b2;simpa [mixA] using this,Hm.b4,Hm.bl⟩;obtain⟨Z,hZ⟩:∃ Z,#[Value.int .u32 (y0.toNat:Int),.int .u32 (y1.toNat:Int),.int .u32 (y2.toNat:Int),.int .u32 (y3.toNat:Int),.int .u32 (y4.toNat:Int),.int .u32 (y5.toNat:Int),.int .u32 (y6.toNat:Int),.int .u32 (y7.toNat:Int)]=Z:=⟨_,rfl⟩;have HZ:=zH (show Z=(wsv (V8.mk y0 y1 y2 y3 y4 y5 y6 y7).l).toArray by rw[←hZ];rfl);rw[hZ];clear Hm hZ;go_loopw [199] (fun i wr=>∃ k:Nat,i=.int .i64 k∧k≤8∧PcX v ⟨y0,y1,y2,y3,y4,y5,y6,y7⟩ k w wr) (fun i _=>8-(intOf i).toNat)
       case atStart=>exact⟨0,rfl,by omega,HN⟩
       case round=>
        rename World=>wr;obtain⟨k,rfl,hk,hm⟩:=hrel;clear HN;by_cases hlt:k<8
        ·have k0:(k:Int)<8:=by omega
         obtain⟨x,hx⟩:∃ x,v.l[k]?=some x:=⟨_,zab (by rw[qa9];exact hlt)⟩;obtain⟨y,hy⟩:∃ x,(V8.mk y0 y1 y2 y3 y4 y5 y6 y7).l[k]?=some x:=⟨_,zab (by rw[qa9];exact hlt)⟩;have z1:Z[k]?=some (.int .u32 (y.toNat:Int)):=by rw[HZ.o];simp[wsv,hy]
         have z2:Z.size=8:=by rw[HZ.o];rfl
         have d0:wr.cell? ⟨w.heap.size,k,none⟩=some (.int .u32 (x.toNat:Int)):=by rw[zao wr _ k _ _ _ hm.b2];exact qmk _ _ _ _ hx
         have d1:wr.frozen? ⟨w.heap.size,k,none⟩=false:=zbk wr _ _ _ _ hm.b2;obtain⟨z,hz⟩:∃ z,x+y=z:=⟨_,rfl⟩;have qz:=qbU x y;rw[hz]at qz;have zI:=fun W=>qg0 177 (by kernel_rfl) Z k _ hlt z1 W;have HS:=zH (qlt _ _ k x y z hx hy hz);have HM:=zH hm;have HL:=zH hlt;clear hx hy hz hm hlt hk z1 z2;go_wp2;refine⟨⟨k+1,by go_num,by have:=HL.o;omega,?_,(zaV _ _ _ _ (by simp)).trans HM.o.b4,HM.o.bl.setCell (by simp) _⟩,by have:=HL.o;simp[intOf];omega⟩;rw[←HS.o];exact qac HM.o.b2 _
        ·have k8:¬((k:Int)<8):=by omega
         have Ha:wr.heap[w.heap.size]?=some (.cells (wsv (pieceS v p).l).toArray 178 (0,0)):=by
          have e:k=8:=by omega
          have:=hm.b2;rw[e]at this;rw[this];unfold pieceS mixA;rw[Hn.o,zaL (by rw[qee,qa9];omega),za0 (by rw[qee,qa9];omega),zaP]
         have HM:=zH hm;have Hx:=zH Ha;have Hl:=zH (show(wsv (pieceS v p).l).length=8 from rfl);have HY:=zH (show wr.there (w.heap.size+1) 0 8 from there_of_block hm.b4 0 (by simp));have HQ:=zH hm.b4;have Hy:=zH (wsv_one (pieceS v p).l);have Ho:=zH (show(wsv (pieceS v p).l).toArray.size=8 from rfl);obtain⟨L,hL⟩:∃ L,wsv (pieceS v p).l=L:=⟨_,rfl⟩;rw[hL]at Hx Hl Hy Ho;have HT:=zH hL;clear hL;clear hm Ha hk hlt;go_wp2_with (first
          | ((with_reducible show wpList _ _ _ (⟨some 210,_,_,_,_,_⟩::_) _ _);(refine wpList_load_mid rfl 178 (.tmp 2) rfl w.heap.size 0 rfl L _ (rangeAt_whole Hx.o) Tryz.underlying178 rfl (by rw[Hl.o];kernel_rfl) ?_))
          | ((with_reducible show wpList _ _ _ (⟨none,.store 178 _ _,_,_,_,_⟩::_) _ _);go_loud (refine wpList_store_mid rfl 178 (.tmp 4) (.tmp 210) rfl (w.heap.size+1) 0 L.toArray rfl rfl (by rw[Ho.o];exact HY.o) (by rw[Ho.o];kernel_rfl) (all_oneCell_toArray Hy.o) ?_)))
         have Hq:=qae HQ.o L (by simp[Hl.o]);refine za7 (v:=.agg L.toArray) ?_ rfl ?_
         ·exact qbn rfl _ _ _ ⟨w.heap.size+1,0,none⟩ rfl (run_loadVar_mid _ _ _ _ _ _ (rangeAt_whole Hq) Tryz.underlying178 rfl (by rw[Hl.o];kernel_rfl))
         ·exact⟨by rw[HT.o],below_setCells HM.o.bl (by simp) _ _⟩
end Go.Proofs.YtfcknhbmeofniaaGreatDoor
namespace Go.Proofs.YtfcknhbmeofniaaGreatDoor
open Go.RowKit BT Go.Lib
section
variable {P:Program}
end
end Go.Proofs.YtfcknhbmeofniaaGreatDoor
namespace Go.Proofs.YtfcknhbmeofniaaGreatDoor
open Go.RowKit BT
theorem qhm (w:World):Calls Tryz.prog 94 #[] w fun e w'=>e=.returned (.agg (wsv startS.l).toArray)∧Below w.heap.size w w':=by
 go_enter Tryz.func94,Tryz.ntmps94
 go_wp2;refine za7 (v:=.agg (wsv startS.l).toArray) ?_ rfl ?_
 ·exact qbn rfl _ _ _ ⟨w.heap.size,0,none⟩ rfl (run_loadVar_mid _ _ _ _ (wsv startS.l) _ (rangeAt_whole (zae w _)) Tryz.underlying178 rfl (by kernel_rfl))
 ·exact⟨rfl,by go_grown⟩
def qd8 (v:V8)(n:Nat):Array Value:=(bv ((qdh v).take n)++List.replicate (32-n) (Value.int .u8 0)).toArray
theorem qfY (v:V8)(n:Nat)(h:n≤32):(qd8 v n).size=32:=by simp[qd8,bv,qby];omega
theorem ql2 (x:W32)(j:Nat):((w8 x j).toNat:Int)=(x.toNat:Int) / 2 ^ (24-8*j) % 256:=by
 unfold w8;rw[←qdk]
theorem qht (v:V8)(i j n:Nat)(x:W32)(hx:v.l[i]?=some x)(hj:j<4)(hn:4*i+j=n):(qd8 v n).setIfInBounds n (.int .u8 ((w8 x j).toNat:Int))=qd8 v (n+1):=by
 have hi:=(zac.1 hx).1;rw[qa9]at hi;have ht:(qdh v)[n]?=some (w8 x j):=by
  unfold qdh;rw[zaD,zb4 (by omega),zbB,show n / 4=i by omega,show n % 4=j by omega,zaq,hx];rfl
 apply Array.ext';rw[zbR];unfold qd8;have hl:(bv ((qdh v).take n)).length=n:=by simp[bv,qby];omega
 obtain⟨h1,h2⟩:=zac.1 ht;rw[zaw h1,h2,qao];show(_++_:List Value).set n _=_;rw[List.set_append_right _ _ (by omega),hl,zcd,show 32-n=(32-(n+1))+1 by omega,List.replicate_succ];simp[bv]
structure ToM (v:V8) (n:Nat) (w wr:World):Prop where
 b4:wr.heap[w.heap.size+1]?=some (.cells (List.replicate 32 (Value.int .u8 0)).toArray 34 (0,0))
 b5:wr.heap[w.heap.size+1+1]?=some (.cells (qd8 v n) 34 (0,0))
 bl:Below w.heap.size w wr
theorem qkO (v:V8)(w:World):Calls Tryz.prog 96 #[.agg (wsv v.l).toArray] w fun e w'=>e=.returned (.agg (bv (qdh v)).toArray)∧Below w.heap.size w w':=by
 obtain⟨Z,hZ⟩:∃ Z,wsv v.l=Z:=⟨_,rfl⟩;have HZ:=zH hZ;have Hp:=zH (show Z.length=8 by rw[←hZ];rfl);rw[hZ];clear hZ;have Hn:=zH (show ∀ (t1 t2:Obj),(((w.alloc (.cells Z.toArray 178)).alloc t1).alloc t2).rangeAt w.heap.size 0 Z from fun t1 t2=>World.rangeAt_alloc (World.rangeAt_alloc (rangeAt_whole (zae w _)) t1) t2);go_enter Tryz.func96,Tryz.ntmps96
 go_wp2_with ((with_reducible show wpList _ _ _ (⟨some 7,_,_,_,_,_⟩::_) _ _);(refine wpList_load_mid rfl 178 (.tmp 1) rfl w.heap.size 0 rfl Z _ (Hn.o _ _) Tryz.underlying178 rfl (by rw[Hp.o];kernel_rfl) ?_))
 go_loopw [8] (fun i wr=>∃ k:Nat,i=.int .i64 k∧k≤8∧ToM v (4*k) w wr) (fun i _=>8-(intOf i).toNat)
 case atStart=>
  refine⟨0,rfl,by omega,?_,?_,by go_grown⟩
  ·have:=zae (w.alloc (.cells Z.toArray 178)) (Obj.cells (List.replicate 32 (Value.int .u8 0)).toArray 34);rw[zaW _ _ _ (by simp)];simp only[za5]at this;exact this
  ·have:=zae ((w.alloc (.cells Z.toArray 178)).alloc (Obj.cells (List.replicate 32 (Value.int .u8 0)).toArray 34)) (Obj.cells (qd8 v 0) 34);simp only[za5]at this;exact this
 case round=>
  obtain⟨k,rfl,hk,hm⟩:=hrel;by_cases hlt:k<8
  ·have k0:(k:Int)<8:=by omega
   obtain⟨x,hx⟩:∃ x,v.l[k]?=some x:=⟨_,zab (by rw[qa9];exact hlt)⟩;have zI:=fun W=>qg0 178 (by kernel_rfl) Z.toArray k (.int .u32 (x.toNat:Int)) hlt (by rw[←HZ.o];simp[wsv,hx]) W;obtain⟨k4,Ha⟩:∃ n,4*k=n:=⟨_,rfl⟩;have e4:4*(k:Int)=(k4:Int):=by omega
   have HX:=zH hx;have HK:=zH (And.intro hlt Ha);clear hx hlt hk;rw[Ha]at hm;clear Ha;have Hi:=hm;clear hm;go_wp2;go_loopw [12] (fun i wr=>∃ j:Nat,i=.int .i64 j∧j≤4∧ToM v (k4+j) w wr) (fun i _=>4-(intOf i).toNat)
   case atStart=>exact⟨0,rfl,by omega,Hi⟩
   case round=>
    rename World=>wr;obtain⟨j,rfl,hj,hm⟩:=hrel;clear Hi;by_cases hlt:j<4
    ·have j0:(j:Int)<4:=by omega
     obtain⟨n,hn⟩:∃ n,k4+j=n:=⟨_,rfl⟩;obtain⟨m,hm24⟩:∃ m,24-8*j=m:=⟨_,rfl⟩;have e5:(k4:Int)+(j:Int)=(n:Int):=by omega
     have e6:24-8*(j:Int)=(m:Int):=by omega
     have Ha:=HK.o.2;have n0:(n:Int)<32:=by have:=HK.o.1;omega
     have m0:(m:Int)≤24:=by omega
     have b4:(k4:Int)≤28:=by have:=HK.o.1;omega
     rw[hn]at hm;have Hq:=qfY v n (by omega);obtain⟨u0,hu0⟩:∃ u0,(qd8 v n)[n]?=some u0:=⟨_,zbp (by omega)⟩;have d0:wr.cell? ⟨w.heap.size+1+1,n,none⟩=some u0:=by rw[←hu0];exact zao wr _ n _ _ _ hm.b5
     have d1:wr.frozen? ⟨w.heap.size+1+1,n,none⟩=false:=zbk wr _ _ _ _ hm.b5;have HS:=zH (qht v k j n x HX.o hlt (by omega));have Hg:=zH (ql2 x j);rw[hm24]at Hg;have HM:=zH hm;have HJ:=zH (And.intro hlt hn);clear hu0 Hq hm Ha hn hlt hj hm24;go_wp2;refine⟨⟨j+1,by go_num,by have:=HJ.o;omega,?_⟩,by have:=HJ.o;simp[intOf];omega⟩;have e:k4+(j+1)=n+1:=by have:=HJ.o.2;omega
     rw[e,←Hg.o];refine⟨(zaV _ _ _ _ (by simp)).trans HM.o.b4,?_,HM.o.bl.setCell (by simp;omega) _⟩;rw[←HS.o];exact qac HM.o.b5 _
    ·have j4:¬((j:Int)<4):=by omega
     have HM:=zH (show ToM v (4*(k+1)) w wr by
      have e:4*(k+1)=k4+j:=by have:=HK.o.2;omega
      rw[e];exact hm)
     clear hm hlt hj;go_wp2;exact⟨⟨k+1,by go_num,by have:=HK.o.1;omega,HM.o⟩,by have:=HK.o.1;simp[intOf];omega⟩
  ·have k8:¬((k:Int)<8):=by omega
   have Hh:wr.heap[w.heap.size+1+1]?=some (.cells (bv (qdh v)).toArray 34 (0,0)):=by
    have e:4*k=32:=by omega
    have:=hm.b5;rw[e]at this;rw[this];unfold qd8;rw[zaL (by rw[qby];omega)];simp
   have He:=zH Hh;have Hj:=zH hm.b4;have Hk:=zH hm.bl;have Ho:=zH (show wr.there (w.heap.size+1) 0 32 from there_of_block hm.b4 0 (by simp));obtain⟨L,hL⟩:∃ L,bv (qdh v)=L:=⟨_,rfl⟩;have Hl:=zH hL;have Hf:=zH (show L.toArray.size=32 by rw[←hL,zas,bv_len,qby]);have Hb:=zH (show L.length=32 by rw[←hL,bv_len,qby]);have Hm:=zH (show ∀ v∈L,v.oneCell'=true by rw[←hL];exact qak _);rw[hL]at He;clear hm Hh hk hlt hL;go_wp2_with (first
    | ((with_reducible show wpList _ _ _ (⟨some 28,_,_,_,_,_⟩::_) _ _);(refine wpList_load_mid rfl 34 (.tmp 3) rfl (w.heap.size+1+1) 0 rfl L _ (rangeAt_whole He.o) Tryz.underlying34 rfl (by rw[Hb.o];kernel_rfl) ?_))
    | ((with_reducible show wpList _ _ _ (⟨none,.store 34 _ _,_,_,_,_⟩::_) _ _);go_loud (refine wpList_store_mid rfl 34 (.tmp 2) (.tmp 28) rfl (w.heap.size+1) 0 L.toArray rfl rfl (by rw[Hf.o];exact Ho.o) (by rw[Hf.o];kernel_rfl) (all_oneCell_toArray Hm.o) ?_)))
   have Hc:=qae Hj.o L (by simp[Hb.o]);refine za7 (v:=.agg L.toArray) ?_ rfl ?_
   ·exact qbn rfl _ _ _ ⟨w.heap.size+1,0,none⟩ rfl (run_loadVar_mid _ _ _ _ _ _ (rangeAt_whole Hc) Tryz.underlying34 rfl (by rw[Hb.o];kernel_rfl))
   ·exact⟨by rw[Hl.o],below_setCells Hk.o (by simp) _ _⟩
section
section
variable {P:Program}
theorem qdZ (w:World)(g o:Nat)(ty:TypeId)(v:Value)(ht:w.there g o 1)(hi:(P.info? ty).map (·.size)=some 1)(h1:v.oneCell'=true):(storeVar ty ⟨g,o,none⟩ v).run P w=.ok () (w.setCell ⟨g,o,none⟩ v):=by
 have hc:v.cells=#[v]:=by cases v<;>first|rfl|cases h1
 have hr:=run_storeCells_cells (P:=P) g o [v] 0 w (fun j hj=>by
  have:=ht j (by simpa using hj);simpa only [zb8] using this.1) (fun j hj=>by
  have:=ht j (by simpa using hj);simpa only [zb8] using this.2) (fun x hx=>by simp at hx;subst hx;exact h1)
 simp only[zb8]at hr;cases hq:P.info? ty with
 | none=>simp[hq]at hi
 | some i=>
  have hs:i.size=1:=by simpa [hq] using hi
  simp[storeVar,sizeOf,typeInfo,hq,hc,hs,hr];rfl
theorem qcr {op:Oper}{a:Act}{w:World}{K:Act→World→Prop}{Q:Exit→Act→World→Prop}(ty:TypeId)(x y:Operand)(ho:op.op=.store ty x y)(g o:Nat)(v:Value)
  (hx:a.eval x=.pointer (some ⟨g,o,none⟩))(hy:a.eval y=v)(ht:w.there g o 1)(hi:(P.info? ty).map (·.size)=some 1)(h1:v.oneCell'=true)(h:K (a.put op.dst undef) (w.setCell ⟨g,o,none⟩ v)):op.wp P a w K Q:=by
 unfold Oper.wp execOp;simp only[ho,hx,hy,Instr.storeAt,Instr.sureAddr,zbw,zbK,zaO,qdZ w g o ty v ht hi h1];exact h
end
end
end Go.Proofs.YtfcknhbmeofniaaGreatDoor
namespace Go.Proofs.YtfcknhbmeofniaaGreatDoor
section
section
variable {P:Program} {ops:Array Oper} {Q:Exit→Act→World→Prop} {md:Region.Mode} {S:World→Prop}
theorem AllReadyG.store {st:List Nat}{f:Nat}{l:Array Bool}{a:Act}{w:World}{i:Nat}{o:Oper}{rs:List Nat}(ho:ops[i]?=some o)(ty:TypeId)(x y:Operand)(hop:o.op=.store ty x y)(hgd:o.guard=none)(hd:o.dst=none)(g off:Nat)(v:Value)
  (hx:a.eval x=.pointer (some ⟨g,off,none⟩))(hy:a.eval y=v)(ht:w.there g off 1)(hi:(P.info? ty).map (·.size)=some 1)(h1:v.oneCell'=true)(hG:Gate st (l.setIfInBounds i true) S (w.setCell ⟨g,off,none⟩ v))
  (h:qaN P md ops Q S st f (l.setIfInBounds i true) a (w.setCell ⟨g,off,none⟩ v))(hs:AllReadyG P md ops Q S st f l a w rs):AllReadyG P md ops Q S st f l a w (i::rs):=
 AllReadyG.cons ho (fun K hK=>by
  rw[zax (by simp[Region.wanted,hgd])];refine qcr ty x y hop g off v hx hy ht hi h1 (hK.out _ _ hG fun _=>?_);rw[hd];exact h) hs
theorem AllReadyG.ev {st:List Nat}{f:Nat}{l:Array Bool}{a:Act}{w:World}{i:Nat}{o:Oper}{rs:List Nat}(dd:Option Nat)(ho:ops[i]?=some o)(hd:o.dst=dd)
  (h:∀ K':Act→World→Prop,Shut (∀ v w,Gate st (l.setIfInBounds i true) S w→(Gate st (l.setIfInBounds i true) S w→qaN P md ops Q S st f (l.setIfInBounds i true) (a.put dd v) w)→K' (a.put o.dst v) w)→if Region.wanted o (yielded ops a.tmps)=true then Oper.wp P o a w K' Q else K' (a.put o.dst undef) w)
  (hs:AllReadyG P md ops Q S st f l a w rs):AllReadyG P md ops Q S st f l a w (i::rs):=by
 subst hd;exact AllReadyG.cons ho (fun K hK=>h K fun v w hG hW=>hK.out _ _ hG hW) hs
end
end
end Go.Proofs.YtfcknhbmeofniaaGreatDoor
namespace Go.Proofs.YtfcknhbmeofniaaGreatDoor
open Go.RowKit
section
section
variable {P:Program} {md:Region.Mode} {ops:Array Oper} {Q:Exit→Act→World→Prop} {S:World→Prop}
theorem zR {st:List Nat}{oi:Oper}{f:Nat}{l:Array Bool}{a:Act}{w:World}(i d:Nat)(v:Value)(hS:Gate st l S w)
  (h:qaN P md ops Q S st f (l.setIfInBounds i true) (a.put (some d) v) w)
  (hi:ops[i]?=some oi:=by rfl)(hd:oi.dst=some d:=by rfl)(hs:Region.noSelect ops=true:=by kernel_rfl)(hf:Region.free md ops l i=true:=by kernel_rfl)(hr:(Region.ready md ops l).contains i=true:=by kernel_rfl)(hg:st.contains i=false:=by kernel_rfl)
  (hQ:∀ c a w,Q (.panic c) (a.put (some d) v) w→Q (.panic c) a w:=by exact fun _ _ _ h=>h)(hy:YieldsIf P ops (fun _=>True) oi v a:=by exact Or.inl ⟨by rfl,fun W hS=>by clear hS;go_simp⟩):qaN P md ops Q S st (f+1) l a w:=
 qeT (some d) hi hd hs hf hr hg hQ hy hS h
theorem zP {st:List Nat}{oi:Oper}{f:Nat}{l:Array Bool}{a:Act}{w:World}(i d:Nat)(v:Value)(hS:S w)
  (h:qaN P md ops Q S st f (l.setIfInBounds i true) (a.put (some d) v) w)
  (hi:ops[i]?=some oi:=by rfl)(hd:oi.dst=some d:=by rfl)(hs:Region.noSelect ops=true:=by kernel_rfl)(hf:Region.free md ops l i=true:=by kernel_rfl)(hr:(Region.ready md ops l).contains i=true:=by kernel_rfl)(hg:st.contains i=false:=by kernel_rfl)
  (hQ:∀ c a w,Q (.panic c) (a.put (some d) v) w→Q (.panic c) a w:=by exact fun _ _ _ h=>h)(hy:YieldsIf P ops (fun _=>True) oi v a:=by exact Or.inl ⟨by rfl,fun W hS=>by clear hS;go_simp⟩):qaN P md ops Q S st (f+1) l a w:=
 qeT (some d) hi hd hs hf hr hg hQ hy (qab hS) h
theorem zN {st:List Nat}{oi:Oper}{f:Nat}{l:Array Bool}{a:Act}{w:World}(i d:Nat)(hS:Gate st l S w)
  (h:qaN P md ops Q S st f (l.setIfInBounds i true) (a.put (some d) undef) w)
  (hi:ops[i]?=some oi:=by rfl)(hd:oi.dst=some d:=by rfl)(hs:Region.noSelect ops=true:=by kernel_rfl)(hf:Region.free md ops l i=true:=by kernel_rfl)(hr:(Region.ready md ops l).contains i=true:=by kernel_rfl)(hg:st.contains i=false:=by kernel_rfl)
  (hQ:∀ c a w,Q (.panic c) (a.put (some d) undef) w→Q (.panic c) a w:=by exact fun _ _ _ h=>h)(hy:YieldsIf P ops (fun _=>True) oi undef a:=by exact Or.inr ⟨by rfl,rfl⟩):qaN P md ops Q S st (f+1) l a w:=
 qeT (some d) hi hd hs hf hr hg hQ hy hS h
theorem zL {st:List Nat}{oi:Oper}{f:Nat}{l:Array Bool}{a:Act}{w:World}(i d:Nat)(v:Value)(hi:ops[i]?=some oi)(hy:YieldsIf P ops S oi v a)(hS:Gate st l S w)
  (h:qaN P md ops Q S st f (l.setIfInBounds i true) (a.put (some d) v) w)
  (hd:oi.dst=some d:=by rfl)(hs:Region.noSelect ops=true:=by kernel_rfl)(hf:Region.free md ops l i=true:=by kernel_rfl)(hr:(Region.ready md ops l).contains i=true:=by kernel_rfl)(hg:qgQ md ops l st i=true:=by kernel_rfl)
  (hQ:∀ c a w,Q (.panic c) (a.put (some d) v) w→Q (.panic c) a w:=by exact fun _ _ _ h=>h):qaN P md ops Q S st (f+1) l a w:=
 qaW (some d) hi hd hs hf hr hg hQ hy hS h
theorem zE {st:List Nat}{o:Oper}{f:Nat}{l:Array Bool}{a:Act}{w:World}(i d:Nat)(ho:ops[i]?=some o)
  (h:∀ K':Act→World→Prop,Shut (∀ v w,Gate st (l.setIfInBounds i true) S w→(Gate st (l.setIfInBounds i true) S w→qaN P md ops Q S st f (l.setIfInBounds i true) (a.put (some d) v) w)→K' (a.put o.dst v) w)→if Region.wanted o (yielded ops a.tmps)=true then Oper.wp P o a w K' Q else K' (a.put o.dst undef) w)
  (hd:o.dst=some d:=by rfl)(hr:Region.ready md ops l=[i]:=by kernel_rfl):qaN P md ops Q S st (f+1) l a w:=
 qam hr (by simp) (AllReadyG.ev (some d) ho hd h AllReadyG.nil)
end
end
end Go.Proofs.YtfcknhbmeofniaaGreatDoor
