/- Texts PlN WlC PgH WlD WlE. -/
import Derived.Test.YtfcknhbmeofniaaGreatDoorR09
set_option linter.all false
set_option maxRecDepth 100000
set_option maxHeartbeats 16000000
namespace Go.Proofs.YtfcknhbmeofniaaGreatDoor
open Go.RowKit BT Go.Lib
section
theorem Row.cap {w:World}{base:Nat}{e:TypeId}{size:Nat}{A:Option Addr}{n cap:Nat}{xs:List Value}(h:Row w base e size (.slice A n cap) n xs):n≤cap:=by
 rcases h with h|⟨A0,e,rfl,_⟩
 ·rcases h.2 with⟨e,h0⟩|⟨g,cap',cur,e,_,_,h1,_⟩
  ·cases e;exact zad _
  ·cases e;exact h1
 ·exact zbO _
section
variable {P:Program}
theorem qc6 {w w':World}{ops:Array Oper}{rest:List Oper}{o:Oper}{a:Act}{Q:Exit→Act→World→Prop}(hgd:o.guard=none)(s x:Operand)(t t':TypeId)
  (ho:o.op=.call { callee:=.builtin .append,args:=#[s,x],argTypes:=#[t,t'] })(v u v':Value)(hv:a.eval s=v)(hx:a.eval x=u)(hr:∀ ty,(Builtin.append_ #[t,t'] ty #[v,u]).run P w=.ok v' w')
  (h:wpList P ops Q rest (a.put o.dst v') w'):wpList P ops Q (o::rest) a w:=by
 refine zce hgd fun K hK=>?_;unfold Oper.wp execOp;simp only[ho,resolve,invoke,builtin,zbw,zbK,zaO,zcw,zbD,zbV,hv,hx,hr];exact hK _ _ h
end
theorem qi3 (n:Nat)(w:World)(h0:0<n)(hl:n≤1048576) :
  Calls Tryz.prog 68 #[.slice none 0 0,.int .i64 n] w fun e w'=>∃ cap,e=.returned (.slice (some ⟨w.heap.size,0,none⟩) 0 cap)∧Own w' w.heap.size 3 1 (.slice (some ⟨w.heap.size,0,none⟩) 0 cap) 0 []∧Below w.heap.size w w':=by
 obtain⟨i0,hi0,hz0,hz1,hz2⟩:=zaY qlh;obtain⟨G,hG⟩:∃ G,grownCap w (0+n) 0 3=G:=⟨_,rfl⟩;have Hc:0+n≤G:=by rw[←hG];exact grownCap_ge w _ _ _
 have Ha:G≤maxLen:=by rw[←hG];exact grownCap_le_maxLen w _ _ _ (by unfold maxLen;omega)
 have He:∀ ty,(Builtin.append_ #[59,3] ty #[.slice none 0 0,.int .i64 (n:Int)]).run Tryz.prog w=.ok (.slice (some ⟨w.heap.size,0,none⟩) n G) (w.drew.alloc (.cells (#[]++Builtin.zeroCells (Value.int .i64 0).cells n++Builtin.zeroCells (Value.int .i64 0).cells (G-n)) 3)):=fun ty=>by
  have h:=Lib.run_append_grow_zeros w 59 3 ty 3 i0 _ .i64 .i64 Tryz.underlying59 Tryz.underlying3 hi0 hz0 none 0 0 [] (run_firstCells_none w.drew i0.size 0 0 0) n h0 (by omega) (by omega) (by omega) (by rw[hz2];omega) (by
   rw[hz2];exact growslice_fits (by omega) (by omega))
  rw[hG,zaF]at h;exact h
 have Hf:=zH Hc;have Hb:=zH Ha;have Hg:=zH He;clear hG Hc Ha He;go_enter Tryz.func68,Tryz.ntmps68
 go_wp2_with (at_builtin;refine qc6 rfl (.tmp 20) (.tmp 21) 59 3 rfl _ _ _ rfl rfl Hg.o ?_)
 go_ret;refine⟨G,rfl,Own.of_own ⟨by simp,.inr ⟨w.heap.size,G,_,rfl,zad _,zae w _,zbO _,Hb.o,?_,by simp⟩⟩,(zB _ _).drew⟩;have:=Hf.o;rw[Array.size_append,zcL,zcL];simp;omega
theorem qgH (A B:Option Addr)(n m cA cB cc C:Nat)(l r:List Int)(w:World)(hA:Ints w A l)(hB:Ints w B r)(hn:l.length=n)(hm:r.length=m)(h0:0<n+m)(hl:n+m≤1048576)
  (hC:w.heap[C]?=some (.cells #[.slice A n cA,.slice B m cB] 59 (0,0))) :
  Calls Tryz.prog 41 #[.slice (some ⟨C,0,none⟩) 2 cc] w fun e w'=>∃ A' cap,e=.returned (.slice A' (n+m) cap)∧Ints w' A' (l++r)∧n+m≤cap∧(∀ ad,A'=some ad→w.heap.size≤ad.block)∧Below w.heap.size w w':=by
 obtain⟨i0,hi0,hz0,hz1,hz2⟩:=zaY qlh;have c0:w.cell? ⟨C,0,none⟩=some (.slice A n cA):=by rw[zao w C 0 _ _ _ hC];rfl
 have c1:w.cell? ⟨C,1,none⟩=some (.slice B m cB):=by rw[zao w C 1 _ _ _ hC];rfl
 have Hj:=zH (qi3 (n+m) w h0 hl);have HA:=zH hA;have HB:=zH hB;have HN:=zH hn;have HM:=zH hm;have Hf:C<w.heap.size:=(zaa.1 hC).1;have e1:IntKind.i64.wrap ((n:Int)+(m:Int))=((n+m:Nat):Int):=by rw[zaA _ (by omega)];omega
 clear hA hB hC hn hm;go_enter Tryz.func41,Tryz.ntmps41
 go_wp2;go_loopw [3,5,11] (fun s _ i wr=>w=wr∧((i=.int .i64 0∧s=.int .i64 0)∨(i=.int .i64 1∧s=.int .i64 n)∨(i=.int .i64 2∧s=.int .i64 ((n+m:Nat):Int)))) (fun _ _ i _=>2-(RowKit.intOf i).toNat)
 case atStart=>exact⟨rfl,.inl ⟨rfl,rfl⟩⟩
 case round=>
  rcases hrel with⟨rfl,⟨rfl,rfl⟩|⟨rfl,rfl⟩|⟨rfl,rfl⟩⟩
  ·go_wp2;exact⟨⟨trivial,.inr (.inl ⟨rfl,rfl⟩)⟩,by decide⟩
  ·go_wp2;exact⟨⟨trivial,.inr (.inr ⟨rfl,rfl⟩)⟩,by decide⟩
  ·clear e1;go_wp2_with (go_at_call 68;refine Hj.o.mono ?_;rintro e w2 ⟨cap,rfl,ho2,hb2⟩;have Hk:=zH ho2;have Hg:=zH hb2;clear ho2 hb2)
   have d0:w2.cell? ⟨C,0,none⟩=some (.slice A n cA):=(Hg.o.cell (p:=⟨C,0,none⟩) Hf).trans c0;have Hi:=zH c1;have Hh:=zH c0;clear c0 c1 d0;go_loopw [6,8,27] (fun v _ i wr=>Below w.heap.size w wr∧((i=.int .i64 0∧∃ A' c',v=.slice A' 0 c'∧Own wr w.heap.size 3 1 v 0 [])∨(i=.int .i64 1∧∃ A' c',v=.slice A' n c'∧Own wr w.heap.size 3 1 v n (l.map (Value.int .i64)))∨(i=.int .i64 2∧∃ A' c',v=.slice A' (n+m) c'∧Own wr w.heap.size 3 1 v (n+m) ((l++r).map (Value.int .i64))))) (fun _ _ i _=>2-(RowKit.intOf i).toNat)
   case atStart=>exact⟨Hg.o,.inl ⟨rfl,_,_,rfl,Hk.o⟩⟩
   case round=>
    rename World=>wr;obtain⟨hbw,hcase⟩:=hrel;rcases hcase with⟨rfl,A',c',rfl,ho⟩|⟨rfl,A',c',rfl,ho⟩|⟨rfl,A',c',rfl,ho⟩
    ·have HO:=zH ho;have Ha:=zH hbw;have d0:wr.cell? ⟨C,0,none⟩=some (.slice A n cA):=(hbw.cell (p:=⟨C,0,none⟩) Hf).trans Hh.o;have Hb:=zH (show Src wr 1 A n (l.map (Value.int .i64))by
      have:=(HA.o.below hbw).src
      rwa [HN.o]at this)
     clear hbw ho;go_wp2_with (at_builtin;refine qai rfl (.tmp 31) (.tmp 32) 59 rfl w.heap.size 3 i0 _ 1 8 Tryz.underlying59 hi0 hz0 hz1 hz2 rfl (by decide) _ 0 _ rfl HO.o A n _ _ rfl Hb.o (qgf l) (by unfold maxLen;omega) (by omega) Ha.o.size ?_;intro A6 cap6 w6 hrow6 hgrow6;have He:=zH hrow6;have Hc:=zH hgrow6;clear hrow6 hgrow6)
     exact⟨⟨Ha.o.trans Hc.o,.inr (.inl ⟨rfl,A6,cap6,by simp,by simpa using He.o⟩)⟩,by decide⟩
    ·have HO:=zH ho;have Ha:=zH hbw;have d0:wr.cell? ⟨C,1,none⟩=some (.slice B m cB):=(hbw.cell (p:=⟨C,1,none⟩) Hf).trans Hi.o;have Hb:=zH (show Src wr 1 B m (r.map (Value.int .i64))by
      have:=(HB.o.below hbw).src
      rwa [HM.o]at this)
     clear hbw ho;go_wp2_with (at_builtin;refine qai rfl (.tmp 31) (.tmp 32) 59 rfl w.heap.size 3 i0 _ 1 8 Tryz.underlying59 hi0 hz0 hz1 hz2 rfl (by decide) _ n _ rfl HO.o B m _ _ rfl Hb.o (qgf r) (by unfold maxLen;omega) (by omega) Ha.o.size ?_;intro A6 cap6 w6 hrow6 hgrow6;have He:=zH hrow6;have Hc:=zH hgrow6;clear hrow6 hgrow6)
     exact⟨⟨Ha.o.trans Hc.o,.inr (.inr ⟨rfl,A6,cap6,rfl,by rw[zbz];exact He.o⟩)⟩,by decide⟩
    ·have HO:=zH ho;have Ha:=zH hbw;clear hbw ho;go_wp2;go_ret;refine⟨A',c',rfl,Own.ints HO.o (by rw[zaf,HN.o,HM.o]) (by omega),?_,fun ad e=>(HO.o.blk ad.block (by rw[e];rfl)).1,Ha.o⟩;exact Row.cap HO.o.row
end
end Go.Proofs.YtfcknhbmeofniaaGreatDoor
namespace Go.Proofs.YtfcknhbmeofniaaGreatDoor
open Go.RowKit BT
variable {w:World}{n d m k:Nat}{v:Value}{P:Program}{a:PA}{F:Nat→Prop}{p:Pl}
theorem Own.row_own {base:Nat}{e:TypeId}{xs:List Value}(h:Own w base e 1 v n xs)(h0:0<n):w.ownsRow base e 1 v n xs:=by
 rcases h.row with h|⟨_,_,h,_⟩
 ·exact h
 ·omega
theorem qgN {base:Nat}(A:Option Addr)(c:Nat)(l:Bs)(w:World)(h:Own w base 5 1 (.slice A n c) n (bv l))(h0:0<n)(h64:n<64)(hb:base≤w.heap.size) :
  Calls Tryz.prog 109 #[.slice A n c] w fun e w'=>∃ A' c',e=.returned (.slice A' 64 c')∧Own w' base 5 1 (.slice A' 64 c') 64 (bv (l++zeros (64-n)))∧Below base w w':=by
 obtain⟨k,hk⟩:∃ k,64-n=k:=⟨_,rfl⟩;obtain⟨A',c',w',hr,ho,hbl⟩:=qgt w (k:=k) (h.row_own h0) (by omega) h0 (by omega) hb;have e1:IntKind.i64.wrap (64-(n:Int))=(k:Int):=by rw[zaA _ (by omega)];omega
 have HR:=zH hr;have HO:=zH ho;have HB:=zH hbl;have HK:=zH (show n+k=64 by omega);clear hr ho hbl h;go_enter Tryz.func109,Tryz.ntmps109
 go_wp2_with (at_builtin;go_loud (refine qc6 rfl (.tmp 3) (.tmp 6) 40 3 rfl _ _ _ rfl rfl HR.o ?_))
 go_ret;have:=HO.o;rw[HK.o]at this;rw[hk];exact⟨A',c',by rw[HK.o];rfl,this,HB.o⟩
def qdu:Nat→Bs→List Nat
 | 0,_=>[]
 | n+1,l=>hiN (l.take 4)::qdu n (l.drop 4)
theorem qfN:∀ (n:Nat) (l:Bs),qdu (n+1) l=qdu n l++[hiN ((l.drop (4*n)).take 4)]
 | 0,l=>by simp[qdu]
 | n+1,l=>by
  rw[qdu,qfN n (l.drop 4),qdu,zb2];simp only[za3,show 4+4*n=4*(n+1) by omega]
def u64v (xs:List Nat):List Value:=xs.map fun(x:Nat)=>Value.int .u64 (x:Int)
theorem qmc:(Tryz.prog.info? 119).map (fun i=>(i.zero,i.size,i.bytes))=some (some (.int .u64 0),1,8):=by kernel_rfl
def NumF (n:Nat)(L:Bs)(w:World)(e:Ending)(w':World):Prop:=
 ∃ A1 c1 B off c2,e=.returned (.tuple #[.slice A1 n c1,.slice (some ⟨B,off,none⟩) (L.length-4*n) c2])∧Own w' w.heap.size 119 1 (.slice A1 n c1) n (u64v (qdu n L))∧By w' (some ⟨B,off,none⟩) (L.drop (4*n))∧L.length-4*n≤c2∧Below w.heap.size w w'
theorem qej (b off c n:Nat)(L:Bs)(w:World)(h:By w (some ⟨b,off,none⟩) L)(hn:4*n≤L.length)(hl:L.length≤1048576)(hc:L.length≤c) :
  Calls Tryz.prog 135 #[.slice (some ⟨b,off,none⟩) L.length c,.int .i64 n] w (NumF n L w):=by
 obtain⟨i0,hi0,hz0,hz1,hz2⟩:=zaY qmc;obtain⟨N,hN⟩:∃ N,L.length=N:=⟨_,rfl⟩;have HN:=zH hN;rw[hN]at hn hl hc⊢;have HT:=zH (fun(b off c m:Nat) (l:Bs) (W:World) (hb:By W (some ⟨b,off,none⟩) l) (hm:l.length=m) (h4:4≤m) (h1:m≤1048576) (hcm:m≤c)=>(by
  have:=qfg b off c l 4 W hb (by omega) (by omega) (by omega) (by omega) (by omega);rw[hm]at this;exact this:Calls Tryz.prog 111 #[.slice (some ⟨b,off,none⟩) m c,.int .i64 4] W _))
 have H0:=zH h;clear h hN;go_enter Tryz.func135,Tryz.ntmps135
 go_wp2;go_loopw [0,6,11] (fun s l i wr=>∃ (k B o c2 c1 m:Nat) (A1:Option Addr),i=.int .i64 k∧k≤n∧m=N-4*k∧m≤c2∧s=.slice (some ⟨B,o,none⟩) m c2∧By wr (some ⟨B,o,none⟩) (L.drop (4*k))∧l=.slice A1 k c1∧Own wr w.heap.size 119 1 (.slice A1 k c1) k (u64v (qdu k L))∧Below w.heap.size w wr) (fun _ _ i _=>n-(RowKit.intOf i).toNat)
 case atStart=>exact⟨0,b,off,c,0,N,none,rfl,zbO _,by omega,hc,rfl,H0.o,rfl,Own.nil ..,zai _ _⟩
 case round=>
  obtain⟨k,B,o,c2,c1,m,A1,rfl,hk,hm,hc2,rfl,hby,rfl,how,hbw⟩:=hrel;by_cases hkn:k=n
  ·subst hkn;have k1:¬((k:Int)<(k:Int)):=by omega
   have HW:=zH how;have Hh:=zH hby
   have Hb:=zH hbw;have HM:=zH hm;clear how hby hbw hm;go_wp2;go_returns;exact⟨A1,c1,B,o,c2,by rw[HN.o,←HM.o];rfl,HW.o,Hh.o,by rw[HN.o,←HM.o];exact hc2,Hb.o⟩
  ·have k1:(k:Int)<(n:Int):=by omega
   have Ha:(L.drop (4*k)).length=m:=by rw[zap,HN.o];omega
   have HC:=zH (HT.o B o c2 m _ wr hby Ha (by omega) (by omega) hc2);have HW:=zH how;have Hb:=zH hbw;have Hi:=zH Ha;have HM:=zH hm;have Hn:4≤m:=by omega
   clear how hby hbw Ha hm;go_wp2_with (first
    | (go_at_call 111;(with_reducible refine HC.o.mono ?_);rintro e w1 ⟨rfl,ho1,hb1⟩;have Hf:=zH ho1;have Hc:=zH hb1;clear ho1 hb1)
    | (at_builtin;go_loud (refine qba rfl (.tmp 19) (.tmp 21) 233 rfl w.heap.size 119 i0 _ 1 8 Tryz.underlying233 hi0 hz0 hz1 hz2 rfl (by decide) (.slice A1 k c1) k (u64v (qdu k L)) rfl ((HW.o.below (zad _) Hc.o).below (zad _) (zB _ _)).row (some ⟨w1.heap.size,0,none⟩) 1 1 [.int .u64 (hiN ((L.drop (4*k)).take 4):Int)] rfl (qas (zae w1 _) rfl) (by simp[Value.oneCell']) (by unfold maxLen;omega) (by omega) (by have:=Hb.o.size;have:=Hc.o.size;simp;omega) ?_;intro A4 c4 w4 ho4 hg4 hn4)))
   have Hk:=Hc.o.size;have Hg:=Hb.o.size;have Hl:=hg4.size;rw[za5]at Hl;have Hm:wr.heap.size<w1.heap.size:=by
    rcases Hf.o.2 with⟨e,_⟩|⟨g,cap,cur,e,_,hg,_⟩
    ·cases e
    ·cases e;exact(zaa.1 hg).1
   have Hj:(L.drop (4*k)).drop 4=L.drop (4*(k+1)):=by rw[zb2];congr 1
   have He:By w1 (some ⟨wr.heap.size,0,none⟩) (L.drop (4*(k+1))):=by
    have:=(Own.of_own Hf.o).byN (by rw[zap,Hi.o])
    rwa [Hj]at this
   refine⟨⟨k+1,wr.heap.size,0,m-4,c4,m-4,A4,by go_num,by omega,by have:=HM.o;omega,zad _,rfl,?_,rfl,⟨?_,fun b e=>?_⟩,?_⟩,by simp[RowKit.intOf];omega⟩
   ·refine(He.below (zB _ _)).touch (Touch.of_grown (F:=fun b=>(Value.slice A1 k c1).ownBlock=some b) hg4 (fun _ e=>e)) (fun ad e hf=>?_);cases e;have:=(HW.o.blk _ hf).2;simp at this
   ·rw[qfN];have:=ho4;unfold u64v at this⊢;rw[zbz];exact this
   ·rcases hn4 b e with h|h
    ·have:=HW.o.blk b h;exact⟨this.1,by omega⟩
    ·exact⟨by rw[za5]at h;omega,h.2⟩
   ·refine Hb.o.trans ((Hc.o.mono Hg).trans (zb0 ((zai _ _).alloc (zam Hg Hk) _) hg4 (by rw[za5];omega) (fun b hb=>(HW.o.blk b hb).1)))
theorem qhu (w:World)(g:Nat)(cs:Array Value):Touch (fun b=>b=g) w (w.setRow g cs):=
 ⟨rfl,rfl,rfl,by simp[World.setRow],fun k _ hk=>setRow_other w g k cs hk⟩
theorem qeb {ops:Array Oper}{rest:List Oper}{o:Oper}{a:Act}{Q:Exit→Act→World→Prop}(hgd:o.guard=none)(d s:Operand)(dT sT:TypeId)
  (ho:o.op=.call { callee:=.builtin .copy,args:=#[d,s],argTypes:=#[dT,sT] })(elem:TypeId)(hu:P.underlying dT=some (.slice elem))(hsz:(P.info? elem).map (·.size)=some 1)
  (g off dLen dCap:Nat)(ad:Addr)(sLen sCap:Nat)(hd:a.eval d=.slice (some ⟨g,off,none⟩) dLen dCap)(hs:a.eval s=.slice (some ad) sLen sCap)
  (cur:List Value)(t:TypeId)(hg:w.heap[g]?=some (.cells cur.toArray t (0,0)))(cs:List Value)(hn:cs.length=Nat.min sLen dLen)
  (hsrc:∀ j v,cs[j]?=some v→w.cell? (ad.add j)=some v)(hfit:off+cs.length≤cur.length)(h1:∀ v∈cs,v.oneCell'=true)
  (h:∀ w',Hd (w'.heap[g]?=some (.cells (splice cur off cs).toArray t (0,0)))→Hd (Touch (fun b=>b=g) w w')→wpList P ops Q rest (a.put o.dst (goInt cs.length)) w'):wpList P ops Q (o::rest) a w:=by
 refine wpList_copy_own hgd d s dT sT ho elem hu hsz g off dLen dCap ad sLen sCap hd hs cur.toArray t hg cs hn hsrc (by simpa using hfit) h1 ?_;exact h _ (show _=_ by simpa [splice] using setRow_heap w g _ _ t _ hg) (qhu _ _ _)
theorem qky (s:Bs)(hs:s.length=64):((s.drop 8).drop 2).take 48=(readS s).ub∧((s.drop 8).drop 2).length=54∧(((s.drop 8).drop 2).drop 48).length=6:=by
 refine⟨by rw[zb2];rfl,by simp[hs],by simp[hs]⟩
def SbF (s:Bs)(w:World)(e:Ending)(w':World):Prop:=
 e=.returned (.tuple #[.int .u64 ((readS s).gen:Nat),.int .i64 (((readS s).root1:Int)-1),.agg (bv (readS s).ub).toArray,.bool (readS s).ok,.int .i64 0])∧Below w.heap.size w w'
theorem qdJ (w:World)(o:Obj):(w.alloc o).heap.size=w.heap.size+1:=by
 show(w.heap.push o).size=_;exact Array.size_push ..
theorem By.drop {b off:Nat}{l:Bs}(h:By w (some ⟨b,off,none⟩) l)(k:Nat):By w (some ⟨b,off+k,none⟩) (l.drop k):=
 ⟨fun h0=>by
  obtain⟨b',off',e,hl,hc⟩:=h.at_ (by simp at h0;omega);cases e;refine⟨b,off+k,rfl,hl,fun j c hj=>?_⟩;rw[zaJ]at hj;rw[zcD];exact hc _ _ hj⟩
theorem qds {a:Act}{o:Oper}{W:World}(ty:TypeId)(x:Operand)(ho:o.op=.load ty x)(b off:Nat)(hx:a.eval x=.pointer (some ⟨b,off,none⟩))
  (h:(loadVar ty ⟨b,off,none⟩).run P W=.ok v W):(execOp a.eval o).run P W=.ok (.value v) W:=by
 unfold execOp;simp only[ho,hx,Instr.loadAt,Instr.sureAddr,zbw,zbK,zaO,h]
theorem qcG {fn:Func}{t0 t1 c t3 t4:Tmp}{T:TypeId}(h:fn.results=#[.tmp t0,.tmp t1,.cell c T,.tmp t3,.tmp t4])(tmps:Array Value)(P:Program)(w:World)(ad:Addr)
  (hp:tmps.getD c undef=.pointer (some ad))(hl:(loadVar T ad).run P w=.ok v w):(results fn tmps).run P w=.ok (.tuple #[tmps.getD t0 undef,tmps.getD t1 undef,v,tmps.getD t3 undef,tmps.getD t4 undef]) w:=by
 have Ha:tmps[c]?.getD undef=.pointer (some ad):=by simpa using hp
 simp[results,h,Ha,asAddr,hl]
theorem qkX (a b:Nat):(a==b)=((a:Int)==(b:Int)):=by
 rw[Bool.eq_iff_iff];simp only[zbZ];omega
theorem zbox:(List.replicate 48 (Value.int .u8 0)).toArray=(bv (zeros 48)).toArray:=by kernel_rfl
theorem qlI (l:Bs)(h:l.length=48):splice (bv (zeros 48)) 0 (bv l)=bv l:=by
 have e:(bv l).length=48:=by rw[bv_len,h]
 simp only[splice,zbT,zaI,zaF,e,qik];simp[zeros,bv]
theorem qfU (h:PlM w a F p)(hn:Nib w)(hd:p.most[d]?=some m)(hk:k<m)(hoff:p.off=false)(hlen:(p.seen d k).length=64) :
  Calls Tryz.prog 77 #[.pointer (some ⟨a.P,0,none⟩),.int .i64 d,.int .i64 k] w (SbF (p.seen d k) w):=by
 have HR:=zH (fun(W:World) (hb:Below w.heap.size w W)=>qdw (h.below hb) hd hk hoff);obtain⟨s,hs⟩:∃ s,p.seen d k=s:=⟨_,rfl⟩;rw[hs]at HR hlen⊢;have HL:=zH hlen;have HX:=zH hn;have H8:=h.ok.most m (zak hd);have HT:=zH (qky s hlen);clear h hn hd hoff hs hlen;go_enter Tryz.func77,Tryz.ntmps77
 go_upto_region 4 with(first
  | (go_at_call 110;go_loud (refine(HR.o _ (zB _ _)).mono ?_;rintro e w1 ⟨g,rfl,hg1,hg2,hb1⟩)))
 have Ho:=zH hg2;have Hp:=zH (show w.heap.size+1≤g by have:=hg1;rwa [qdJ]at this);have Hv:=zH (((zai w.heap.size w).alloc (zad _) _).trans (hb1.mono (by rw[qdJ];omega)));have HP:=zH (show w1.heap[w.heap.size]?=some (.cells (bv (zeros 48)).toArray 145 (0,0))by
  rw[hb1.block _ (by rw[qdJ];omega)];show(w.heap.push _)[w.heap.size]?=_;rw[Array.getElem?_push_size];exact congrArg (fun x=>some (Obj.cells x 145 (0,0))) zbox)
 clear hg1 hg2 hb1;have HF:=zH (qmU g 0 64 s 64 w1 (By.of_block Ho.o rfl) HL.o (by omega) (by omega) (zad _));have Hi:g<w1.heap.size:=(zaa.1 Ho.o).1;obtain⟨n8,hn8⟩:∃ n,hiN (s.take 8)=n:=⟨_,rfl⟩;rw[hn8]at HF;have HA:=zH hn8;clear hn8;go_upto_region 5 with(first
  | (go_at_call 111;go_loud (refine HF.o.mono ?_;rintro e w2 ⟨rfl,ho2,hb2⟩;have HB:=zH ho2;have Ha:=zH hb2;clear ho2 hb2)))
 have HH:=zH (Hv.o.trans (Ha.o.mono Hv.o.size));have HE:=zH (qlY w1.heap.size 0 56 (s.drop 8) 56 w2 (By.of_own (Or.inl HB.o) (by simp[HL.o])) (by simp[HL.o]) (by omega) (by omega) (zad _));obtain⟨n2,hn2⟩:∃ n,hiN ((s.drop 8).take 2)=n:=⟨_,rfl⟩;rw[hn2]at HE;have HW:=zH hn2;have HN:n2<65536:=by rw[←hn2];have:=qfJ ((s.drop 8).take 2);rwa [show((s.drop 8).take 2).length=2 by simp[HL.o]]at this
 clear hn2;go_upto_region 6 with(first
  | (go_at_call 111;go_loud (refine HE.o.mono ?_;rintro e w3 ⟨rfl,ho3,hb3⟩;have HC:=zH ho3;have Hf:=zH hb3;clear ho3 hb3)))
 have H1:=zH (HH.o.trans (Hf.o.mono HH.o.size));have HM:w.heap.size<w1.heap.size:=by have:=Hp.o;omega
 have Hu:w1.heap.size<w2.heap.size:=qlX HB.o;have Hl:=zH (((Ha.o.trans (Hf.o.mono Ha.o.size)).block _ HM).trans HP.o);have HS:=zH (((Ha.o.trans (Hf.o.mono Ha.o.size)).block _ Hi).trans Ho.o);have HD:=zH (By.of_own (Or.inl HC.o) (by simp[HL.o]):By w3 (some ⟨w2.heap.size,0,none⟩) ((s.drop 8).drop 2));have H4:w2.heap.size<w3.heap.size:=qlX HC.o;have H5:w.heap.size<w3.heap.size:=by have:=Ha.o.size;have:=Hf.o.size;omega
 have Hx:=zH (show(bv (((s.drop 8).drop 2).take 48)).length=Nat.min 54 48 by rw[bv_len,zaj,HT.o.2.1];rfl);have Ht:=zH (show(((s.drop 8).drop 2).take 48).length=48 by rw[zaj,HT.o.2.1];rfl);have H0:=zH (show ∀ j v,(bv (((s.drop 8).drop 2).take 48))[j]?=some v→w3.cell? ((⟨w2.heap.size,0,none⟩:Addr).add j)=some v from fun j v hv=>by
  have h1:=(HD.o.take 48).src.at_ (by rw[Ht.o];omega);obtain⟨ad,e,h2⟩:=h1;cases e;exact h2 j v hv)
 go_upto_region 7 with(first
  | ((with_reducible show wpList _ _ _ (⟨some 45,_,_,_,_,_⟩::_) _ _);go_loud (refine qeb rfl (.tmp 43) (.tmp 44) 40 40 rfl 5 Tryz.underlying40 (by kernel_rfl) w.heap.size 0 48 48 ⟨w2.heap.size,0,none⟩ 54 54 rfl rfl (bv (zeros 48)) 145 Hl.o (bv (((s.drop 8).drop 2).take 48)) Hx.o H0.o (by rw[Hx.o,bv_len,zeros_len];decide) (qak _) ?_;intro w4 hx4 ht4)))
 have H7:=zH ht4.out;have HI:=zH (show w4.heap[w.heap.size]?=some (.cells (bv (readS s).ub).toArray 145 (0,0))by
  have:=hx4.out;rw[qlI _ Ht.o,HT.o.1]at this;exact this)
 have Hy:=zH ((ht4.out.block g (by have:=Ha.o.size;have:=Hf.o.size;omega) (by have:=Hp.o;omega)).trans HS.o);have HY:=zH ((HD.o.touch ht4.out (fun ad e=>by cases e;show ¬(w2.heap.size=w.heap.size);omega)).drop 48);have Hw:=zH (show Below w.heap.size w w4 from H1.o.trans ⟨ht4.out.os,ht4.out.tape,ht4.out.output,ht4.out.size,fun k hk=>ht4.out.block k (by omega) (by omega)⟩);clear hx4 ht4;have HG:=zH (qlZ w2.heap.size 48 6 (((s.drop 8).drop 2).drop 48) 6 w4 (by have:=HY.o;rwa [zaF]at this) HT.o.2.2 (by omega) (by omega) (zad _));obtain⟨n4,hn4⟩:∃ n,hiN ((((s.drop 8).drop 2).drop 48).take 4)=n:=⟨_,rfl⟩;rw[hn4]at HG;have Hz:=zH hn4;clear hn4;go_upto_region 8 with(first
  | (go_at_call 111;go_loud (refine HG.o.mono ?_;rintro e w5 ⟨rfl,ho5,hb5⟩;clear ho5;have Hk:=zH hb5;clear hb5)))
 have H3:=zH ((Hk.o.block _ (show w.heap.size<w4.heap.size from(zaa.1 HI.o).1)).trans HI.o);have HU:=zH ((Hk.o.block _ (show g<w4.heap.size from(zaa.1 Hy.o).1)).trans Hy.o);have H2:=zH (Hw.o.trans (Hk.o.mono Hw.o.size));clear HM Hu H4 H5 Hi;obtain⟨W,hW⟩:∃ W,w5.drew=W:=⟨_,rfl⟩;have HO:=zH (show Below w.heap.size w W by rw[←hW];exact H2.o.drew);have HJ:=zH (show W.heap[w.heap.size]?=some (.cells (bv (readS s).ub).toArray 145 (0,0))by rw[←hW];exact H3.o);have HV:=zH (show W.heap[g]?=some (.cells (bv s).toArray 5 (0,0))by rw[←hW];exact HU.o);have H6:=zH (show W.rangeAt w.heap.size 0 (bv (readS s).ub)by
  intro j v hv;rw[zaF,zao W _ _ _ _ _ HJ.o];simpa using hv)
 have Hj:=zH (show(bv (readS s).ub).length=48 by rw[bv_len,←HT.o.1,Ht.o]);have e1:IntKind.i64.wrap (n2:Int)=(n2:Int):=zaA _ (by omega);have e2:IntKind.i64.wrap ((n2:Int)-1)=(n2:Int)-1:=zaA _ (by omega);have Hc:=zH (show(readS s).ok=(decide (0<n8)&&decide (n8<9223372036854775808)&&(n4==crcN (s.take 58)))by
  have HK:=Hz.o;rw[zb2,zb2]at HK;unfold readS;simp only[HA.o];rw[show(List.drop 58 s)=List.drop (8+2+48) s from rfl,HK])
 have Hq:=zH (show w5.drew.heap[w.heap.size]?=some (.cells (bv (readS s).ub).toArray 145 (0,0))∧w5.drew.heap[g]?=some (.cells (bv s).toArray 5 (0,0))∧Below w.heap.size w w5.drew by rw[hW];exact⟨HJ.o,HV.o,HO.o⟩);clear hW;have E1:=zH e1;have E2:=zH e2;clear e1 e2;have He:=zH (show ∀ V:World,(V.heap[w.heap.size]?=some (.cells (bv (readS s).ub).toArray 145 (0,0))∧V.heap[g]?=some (.cells (bv s).toArray 5 (0,0))∧Below w.heap.size w V)→(loadVar 145 ⟨w.heap.size,0,none⟩).run Tryz.prog V=.ok (.agg (bv (readS s).ub).toArray) V from fun V hV=>
  run_loadVar_mid V w.heap.size 0 145 (bv (readS s).ub) _ (fun j v hv=>by rw[zaF,zao V _ _ _ _ _ hV.1];simpa using hv) Tryz.underlying145 rfl (by rw[Hj.o];kernel_rfl))
 have Hr:=zH (show ∀ V:World,(V.heap[w.heap.size]?=some (.cells (bv (readS s).ub).toArray 145 (0,0))∧V.heap[g]?=some (.cells (bv s).toArray 5 (0,0))∧Below w.heap.size w V)→((V.setCells w.heap.size 0 (bv (readS s).ub).toArray.toList).heap[w.heap.size]?=some (.cells (bv (readS s).ub).toArray 145 (0,0))∧(V.setCells w.heap.size 0 (bv (readS s).ub).toArray.toList).heap[g]?=some (.cells (bv s).toArray 5 (0,0))∧Below w.heap.size w (V.setCells w.heap.size 0 (bv (readS s).ub).toArray.toList))from fun V hV=>by
  refine⟨?_,?_,below_setCells hV.2.2 (zad _) _ _⟩
  ·exact qae hV.1 _ (by simp)
  ·rw[World.heap_setCells_other V w.heap.size 0 _ (zaa.1 hV.2.1).1 (by have:=Hp.o;omega)];exact hV.2.1)
 have Hb:=zH (show ∀ (V:World) (x:Bool),(readS s).ok=x→Below w.heap.size w V→SbF s w (.returned (.tuple #[.int .u64 (n8:Int),.int .i64 ((n2:Int)-1),.agg (bv (readS s).ub).toArray,.bool x,.int .i64 0])) V from fun V x hx hb=>⟨by rw[hx,show(readS s).gen=n8 from HA.o,show(readS s).root1=n2 from HW.o],hb⟩);obtain⟨cr,hcr⟩:∃ cr,crcN (s.take 58)=cr:=⟨_,rfl⟩;have Hs:=zH (show ∀ V:World,(V.heap[w.heap.size]?=some (.cells (bv (readS s).ub).toArray 145 (0,0))∧V.heap[g]?=some (.cells (bv s).toArray 5 (0,0))∧Below w.heap.size w V)→Calls Tryz.prog 108 #[.slice (some ⟨g,0,none⟩) 58 64] V fun e w'=>e=.returned (.int .u32 (cr:Nat))∧V=w' from fun V hV=>by
  have:=sumN (some ⟨g,0,none⟩) 64 58 (s.take 58) V ((By.of_block hV.2.1 rfl).take 58) (by rw[zaj,HL.o];rfl) (HX.o.below hV.2.2) (by omega)
  rwa [hcr]at this)
 have HQ:=zH hcr;have E4:=zH (show IntKind.u32.wrap (n4:Int)=(n4:Int)by
  have h4:n4<4294967296:=by
   rw[←Hz.o];have:=qfJ ((((s.drop 8).drop 2).drop 48).take 4)
   rwa [show((((s.drop 8).drop 2).drop 48).take 4).length=4 by rw[zaj,HT.o.2.2];rfl]at this
  exact IntWalk.u32_in _ (by omega))
 clear hcr;by_cases hz:n8=0
 ·have HZ:=zH hz;have Hm:=zH (show decide (0<n8)=false from zan (by omega));clear hz;refine wp_region_held_drew (S:=fun V=>V.heap[w.heap.size]?=some (.cells (bv (readS s).ub).toArray 145 (0,0))∧V.heap[g]?=some (.cells (bv s).toArray 5 (0,0))∧Below w.heap.size w V) (by kernel_rfl) Hq.o (fun hHeld=>?_);refine zU 0 53 (.int .u64 (n8:Int)) ?_;try simp only[zS]
  refine zU 1 54 (.int .u64 (n2:Int)) ?_;try simp only[zS]
  refine zT 2 55 (.int .i64 (n2:Int)) rfl (Or.inl ⟨by rfl,fun W hS=>by have e1:=E1.o;go_simp⟩) ?_;try simp only[zS]
  refine zT 3 56 (.int .i64 ((n2:Int)-1)) rfl (Or.inl ⟨by rfl,fun W hS=>by have e2:=E2.o;go_simp⟩) ?_;try simp only[zS]
  refine zT 4 57 (.agg (bv (readS s).ub).toArray) rfl (Or.inl ⟨by rfl,fun W hS=>qds 145 (.tmp 8) rfl w.heap.size 0 rfl (He.o W hS)⟩) ?_;try simp only[zS]
  refine zU 5 58 (.int .u64 (n8:Int)) ?_;try simp only[zS]
  refine zT 6 59 (.bool false) rfl (Or.inl ⟨by rfl,fun W hS=>by go_simp;exact HZ.o⟩) ?_;try simp only[zS]
  refine zU 7 60 (.bool false) ?_;try simp only[zS]
  refine zT 8 61 (undef) rfl (Or.inr ⟨by rfl,rfl⟩) ?_;try simp only[zS]
  refine zT 9 62 (undef) rfl (Or.inr ⟨by rfl,rfl⟩) ?_;try simp only[zS]
  refine zU 10 63 (.bool false) ?_;try simp only[zS]
  refine zU 11 64 (.bool false) ?_;try simp only[zS]
  refine zT 12 65 (undef) rfl (Or.inr ⟨by rfl,rfl⟩) ?_;try simp only[zS]
  refine zT 13 66 (undef) rfl (Or.inr ⟨by rfl,rfl⟩) ?_;try simp only[zS]
  refine zT 14 67 (undef) rfl (Or.inr ⟨by rfl,rfl⟩) ?_;try simp only[zS]
  refine zT 15 68 (undef) rfl (Or.inr ⟨by rfl,rfl⟩) ?_;try simp only[zS]
  refine zT 16 69 (undef) rfl (Or.inr ⟨by rfl,rfl⟩) ?_;try simp only[zS]
  refine zT 17 70 (undef) rfl (Or.inr ⟨by rfl,rfl⟩) ?_;try simp only[zS]
  refine zU 18 71 (.bool false) ?_;try simp only[zS]
  refine zU 19 6 (.int .u64 (n8:Int)) ?_;try simp only[zS]
  refine zU 20 7 (.int .i64 ((n2:Int)-1)) ?_;try simp only[zS]
  refine wpAnyH_ready (rs:=[21]) (by kernel_rfl) (by simp) ?_;refine AllReadyH.cons rfl (fun K hK=>?_) AllReadyH.nil;refine Eq.mpr (zax (by rfl)) ?_;refine wp_store_mid 145 (.tmp 8) (.tmp 57) rfl w.heap.size 0 (bv (readS s).ub).toArray rfl rfl (there_of_block hHeld.1 0 (by rw[zaF];exact zad _)) (by rw[zas,Hj.o];kernel_rfl) (all_oneCell_toArray (qak _)) ?_;refine hK.out _ _ (Hr.o _ hHeld) (fun hHeld3=>?_);clear hK K;try simp only[zS]
  generalize (w5.drew).setCells w.heap.size 0 (bv (readS s).ub).toArray.toList=V at hHeld3⊢;refine zU 22 9 (.bool false) ?_;try simp only[zS]
  refine zU 23 10 (.int .i64 0) ?_;try simp only[zS]
  refine wpAnyH_done (by kernel_rfl) ?_ _;clear hHeld;have Hh:=zH (He.o V hHeld3);have Hg:=zH hHeld3.2.2;clear hHeld3;go_wp2;refine za7 (qcG (v:=.agg (bv (readS s).ub).toArray) rfl _ _ _ ⟨w.heap.size,0,none⟩ rfl Hh.o) rfl ?_;exact Hb.o V (false) (by rw[Hc.o,Hm.o];rfl) Hg.o
 ·have HZ:=zH (show 0<n8 by omega);have Hm:=zH (show decide (0<n8)=true from zaT (by omega));clear hz;by_cases hy:n8<9223372036854775808
  ·have F2:=zH (show decide ((n8:Int)<9223372036854775808)=true from zaT (by omega));have Hn:=zH (show decide (n8<9223372036854775808)=true from zaT (by omega));clear hy;refine wp_region_held_drew (S:=fun V=>V.heap[w.heap.size]?=some (.cells (bv (readS s).ub).toArray 145 (0,0))∧V.heap[g]?=some (.cells (bv s).toArray 5 (0,0))∧Below w.heap.size w V) (by kernel_rfl) Hq.o (fun hHeld=>?_);refine zU 0 53 (.int .u64 (n8:Int)) ?_;try simp only[zS]
   refine zU 1 54 (.int .u64 (n2:Int)) ?_;try simp only[zS]
   refine zT 2 55 (.int .i64 (n2:Int)) rfl (Or.inl ⟨by rfl,fun W hS=>by have e1:=E1.o;go_simp⟩) ?_;try simp only[zS]
   refine zT 3 56 (.int .i64 ((n2:Int)-1)) rfl (Or.inl ⟨by rfl,fun W hS=>by have e2:=E2.o;go_simp⟩) ?_;try simp only[zS]
   refine zT 4 57 (.agg (bv (readS s).ub).toArray) rfl (Or.inl ⟨by rfl,fun W hS=>qds 145 (.tmp 8) rfl w.heap.size 0 rfl (He.o W hS)⟩) ?_;try simp only[zS]
   refine zU 5 58 (.int .u64 (n8:Int)) ?_;try simp only[zS]
   refine zT 6 59 (.bool true) rfl (Or.inl ⟨by rfl,fun W hS=>by go_simp;exact HZ.o⟩) ?_;try simp only[zS]
   refine zU 7 60 (.bool true) ?_;try simp only[zS]
   refine zU 8 61 (.int .u64 (n8:Int)) ?_;try simp only[zS]
   refine zT 9 62 (.bool true) rfl (Or.inl ⟨by rfl,fun W hS=>by have f2:=F2.o;go_simp⟩) ?_;try simp only[zS]
   refine zU 10 63 (.bool true) ?_;try simp only[zS]
   refine zU 11 64 (.bool true) ?_;try simp only[zS]
   refine zU 12 65 (.int .u64 (n4:Int)) ?_;try simp only[zS]
   refine zT 13 66 (.int .u32 (n4:Int)) rfl (Or.inl ⟨by rfl,fun W hS=>by have e4:=E4.o;go_simp⟩) ?_;try simp only[zS]
   refine zU 14 67 (.slice (some ⟨g,0,none⟩) 64 64) ?_;try simp only[zS]
   refine zU 15 68 (.slice (some ⟨g,0,none⟩) 58 64) ?_;try simp only[zS]
   refine wpAnyH_ready (rs:=[16]) (by kernel_rfl) (by simp) ?_;refine AllReadyH.cons rfl (fun K hK=>?_) AllReadyH.nil;go_simp;go_at_call 108
   refine(Hs.o _ hHeld).mono ?_;rintro e wn ⟨rfl,rfl⟩;refine hK.out _ _ hHeld (fun hHeld2=>?_);clear hK K;try simp only[zS]
   refine zU 17 70 (.bool ((n4:Int)==(cr:Int))) ?_;try simp only[zS]
   refine zU 18 71 (.bool ((n4:Int)==(cr:Int))) ?_;try simp only[zS]
   refine zU 19 6 (.int .u64 (n8:Int)) ?_;try simp only[zS]
   refine zU 20 7 (.int .i64 ((n2:Int)-1)) ?_;try simp only[zS]
   refine wpAnyH_ready (rs:=[21]) (by kernel_rfl) (by simp) ?_;refine AllReadyH.cons rfl (fun K hK=>?_) AllReadyH.nil;refine Eq.mpr (zax (by rfl)) ?_;refine wp_store_mid 145 (.tmp 8) (.tmp 57) rfl w.heap.size 0 (bv (readS s).ub).toArray rfl rfl (there_of_block hHeld.1 0 (by rw[zaF];exact zad _)) (by rw[zas,Hj.o];kernel_rfl) (all_oneCell_toArray (qak _)) ?_;refine hK.out _ _ (Hr.o _ hHeld) (fun hHeld3=>?_);clear hK K;try simp only[zS]
   generalize (w5.drew).setCells w.heap.size 0 (bv (readS s).ub).toArray.toList=V at hHeld3⊢;refine zU 22 9 (.bool ((n4:Int)==(cr:Int))) ?_;try simp only[zS]
   refine zU 23 10 (.int .i64 0) ?_;try simp only[zS]
   refine wpAnyH_done (by kernel_rfl) ?_ _;clear hHeld;have Hh:=zH (He.o V hHeld3);have Hg:=zH hHeld3.2.2;clear hHeld3;go_wp2;refine za7 (qcG (v:=.agg (bv (readS s).ub).toArray) rfl _ _ _ ⟨w.heap.size,0,none⟩ rfl Hh.o) rfl ?_;exact Hb.o V (((n4:Int)==(cr:Int))) (by rw[Hc.o,HQ.o,qkX,Hm.o,Hn.o];rfl) Hg.o
  ·have F2:=zH (show decide ((n8:Int)<9223372036854775808)=false from zan (by omega));have Hn:=zH (show decide (n8<9223372036854775808)=false from zan (by omega));clear hy;refine wp_region_held_drew (S:=fun V=>V.heap[w.heap.size]?=some (.cells (bv (readS s).ub).toArray 145 (0,0))∧V.heap[g]?=some (.cells (bv s).toArray 5 (0,0))∧Below w.heap.size w V) (by kernel_rfl) Hq.o (fun hHeld=>?_);refine zU 0 53 (.int .u64 (n8:Int)) ?_;try simp only[zS]
   refine zU 1 54 (.int .u64 (n2:Int)) ?_;try simp only[zS]
   refine zT 2 55 (.int .i64 (n2:Int)) rfl (Or.inl ⟨by rfl,fun W hS=>by have e1:=E1.o;go_simp⟩) ?_;try simp only[zS]
   refine zT 3 56 (.int .i64 ((n2:Int)-1)) rfl (Or.inl ⟨by rfl,fun W hS=>by have e2:=E2.o;go_simp⟩) ?_;try simp only[zS]
   refine zT 4 57 (.agg (bv (readS s).ub).toArray) rfl (Or.inl ⟨by rfl,fun W hS=>qds 145 (.tmp 8) rfl w.heap.size 0 rfl (He.o W hS)⟩) ?_;try simp only[zS]
   refine zU 5 58 (.int .u64 (n8:Int)) ?_;try simp only[zS]
   refine zT 6 59 (.bool true) rfl (Or.inl ⟨by rfl,fun W hS=>by go_simp;exact HZ.o⟩) ?_;try simp only[zS]
   refine zU 7 60 (.bool true) ?_;try simp only[zS]
   refine zU 8 61 (.int .u64 (n8:Int)) ?_;try simp only[zS]
   refine zT 9 62 (.bool false) rfl (Or.inl ⟨by rfl,fun W hS=>by have f2:=F2.o;go_simp⟩) ?_;try simp only[zS]
   refine zU 10 63 (.bool false) ?_;try simp only[zS]
   refine zU 11 64 (.bool false) ?_;try simp only[zS]
   refine zT 12 65 (undef) rfl (Or.inr ⟨by rfl,rfl⟩) ?_;try simp only[zS]
   refine zT 13 66 (undef) rfl (Or.inr ⟨by rfl,rfl⟩) ?_;try simp only[zS]
   refine zT 14 67 (undef) rfl (Or.inr ⟨by rfl,rfl⟩) ?_;try simp only[zS]
   refine zT 15 68 (undef) rfl (Or.inr ⟨by rfl,rfl⟩) ?_;try simp only[zS]
   refine zT 16 69 (undef) rfl (Or.inr ⟨by rfl,rfl⟩) ?_;try simp only[zS]
   refine zT 17 70 (undef) rfl (Or.inr ⟨by rfl,rfl⟩) ?_;try simp only[zS]
   refine zU 18 71 (.bool false) ?_;try simp only[zS]
   refine zU 19 6 (.int .u64 (n8:Int)) ?_;try simp only[zS]
   refine zU 20 7 (.int .i64 ((n2:Int)-1)) ?_;try simp only[zS]
   refine wpAnyH_ready (rs:=[21]) (by kernel_rfl) (by simp) ?_;refine AllReadyH.cons rfl (fun K hK=>?_) AllReadyH.nil;refine Eq.mpr (zax (by rfl)) ?_;refine wp_store_mid 145 (.tmp 8) (.tmp 57) rfl w.heap.size 0 (bv (readS s).ub).toArray rfl rfl (there_of_block hHeld.1 0 (by rw[zaF];exact zad _)) (by rw[zas,Hj.o];kernel_rfl) (all_oneCell_toArray (qak _)) ?_;refine hK.out _ _ (Hr.o _ hHeld) (fun hHeld3=>?_);clear hK K;try simp only[zS]
   generalize (w5.drew).setCells w.heap.size 0 (bv (readS s).ub).toArray.toList=V at hHeld3⊢;refine zU 22 9 (.bool false) ?_;try simp only[zS]
   refine zU 23 10 (.int .i64 0) ?_;try simp only[zS]
   refine wpAnyH_done (by kernel_rfl) ?_ _;clear hHeld;have Hh:=zH (He.o V hHeld3);have Hg:=zH hHeld3.2.2;clear hHeld3;go_wp2;refine za7 (qcG (v:=.agg (bv (readS s).ub).toArray) rfl _ _ _ ⟨w.heap.size,0,none⟩ rfl Hh.o) rfl ?_;exact Hb.o V (false) (by rw[Hc.o,Hn.o,Bool.and_false];rfl) Hg.o
theorem qmp (S:Bs):qdu 4 S=[hiN (S.take 4),hiN ((S.drop 4).take 4),hiN ((S.drop 8).take 4),hiN ((S.drop 12).take 4)]:=by
 simp[qdu,zb2]
def HdF (S:Bs)(w:World)(e:Ending)(w':World):Prop:=
 e=.returned (.tuple #[.int .u64 ((qdX S).1:Nat),.int .u64 ((qdX S).2:Nat),.int .i64 0])∧Below w.heap.size w w'
theorem qiL {base:Nat}{A:Option Addr}{c:Nat}{xs:List Nat}(h:Own w base 119 1 (.slice A n c) n (u64v xs))(h0:0<n):∃ g,A=some ⟨g,0,none⟩∧base≤g∧g<w.heap.size∧∀ (i x:Nat),xs[i]?=some x→w.cell? ⟨g,i,none⟩=some (.int .u64 (x:Int)):=by
 have Ha:=h.row_own h0;rcases Ha.2 with⟨_,h⟩|⟨g,cap,cur,e,hbg,hg,_⟩
 ·omega
 ·cases e;refine⟨g,rfl,hbg,(zaa.1 hg).1,fun i x hx=>?_⟩;have:=Ha.cells (g:=g) rfl i (.int .u64 (x:Int)) (by unfold u64v;rw[zaD,hx];rfl);have Hb:(⟨g,0,none⟩:Addr).add i=⟨g,i,none⟩:=by unfold Addr.add;split<;>simp_all
  rwa [Hb]at this
theorem qhR (h:PlM w a F p)(hn:Nib w)(hd:p.most[d]?=some m)(hk:k<m)(hoff:p.off=false) :
  Calls Tryz.prog 101 #[.pointer (some ⟨a.P,0,none⟩),.int .i64 d,.int .i64 k] w (HdF (p.seen d k) w):=by
 have HR:=zH (qdw h hd hk hoff);have hl:=Pl.Ok.seen h.ok d k;obtain⟨S,hS⟩:∃ S,p.seen d k=S:=⟨_,rfl⟩;have HS:=zH hS;rw[hS]at hl⊢;have HL:=zH hl;have HN:=zH hn;obtain⟨x0,h0⟩:∃ x,hiN (S.take 4)=x:=⟨_,rfl⟩;obtain⟨x1,h1⟩:∃ x,hiN ((S.drop 4).take 4)=x:=⟨_,rfl⟩;obtain⟨x2,h2⟩:∃ x,hiN ((S.drop 8).take 4)=x:=⟨_,rfl⟩;obtain⟨x3,h3⟩:∃ x,hiN ((S.drop 12).take 4)=x:=⟨_,rfl⟩;obtain⟨cr,hcr⟩:∃ x,crcN (S.take 12)=x:=⟨_,rfl⟩;have HX:=zH (show qdu 4 S=[x0,x1,x2,x3]by rw[qmp,h0,h1,h2,h3]);have Hf:=zH (show qdX S=if x0=1463897137∧x3=cr then(x1,x2)else(0,0)by unfold qdX;rw[h0,h1,h2,h3,hcr]);have Hm:cr<4294967296:=by rw[←hcr];exact qc8 _
 have Ho:=zH hcr;have eC:IntKind.u64.wrap (cr:Int)=(cr:Int):=zbL _ (by omega);have Hb:=zH (fun(g:Nat) (W:World) (hb:By W (some ⟨g,0,none⟩) S)=>(by
  have:=qej g 0 64 4 S W hb (by omega) (by omega) (by omega);rw[hl]at this;exact this:Calls Tryz.prog 135 #[.slice (some ⟨g,0,none⟩) 64 64,.int .i64 4] W (NumF 4 S W)))
 clear h hd hk hoff hS hn h0 h1 h2 h3 hcr hl;go_enter Tryz.func101,Tryz.ntmps101
 go_wp2_with (first
  | (go_at_call 110;(with_reducible refine HR.o.mono ?_);go_loud (rintro e w1 ⟨g,rfl,hg1,hg2,hb1⟩;have Hp:=zH hg1;have Hk:=zH hg2;have Hg:=zH hb1;clear hg1 hg2 hb1;rw[HS.o]at Hk;have Hi:=zH (By.of_block (l:=S) Hk.o rfl)))
  | (go_at_call 135;(with_reducible refine(Hb.o g w1 Hi.o).mono ?_);go_loud (rintro e w2 ⟨A1,c1,B,off,c2,rfl,ho,_,_,hb2⟩;obtain⟨g1,rfl,hgb,hgl,hgc⟩:=qiL ho (by omega);rw[HX.o]at hgc;have l0:=hgc 0 x0 rfl;have l1:=hgc 1 x1 rfl;have l2:=hgc 2 x2 rfl;have l3:=hgc 3 x3 rfl;have Hh:=zH hb2;have Hq:=zH hgl;clear ho hb2 hgc hgb hgl)))
 have Ha:Below w.heap.size w w2:=Hg.o.trans (Hh.o.mono Hg.o.size);have hd:∀ n,Below w2.heap.size w2 (w2.drewN n):=fun n=>⟨rfl,rfl,rfl,zad _,fun _ _=>rfl⟩;have Hj:=zH (show ∀ n,Calls Tryz.prog 108 #[.slice (some ⟨g,0,none⟩) 12 64] (w2.drewN n) fun e w'=>e=.returned (.int .u32 (cr:Nat))∧w2.drewN n=w' from fun n=>by
  have:=qiJ (some ⟨g,0,none⟩) 64 (S.take 12) (w2.drewN n) (((Hi.o.below Hh.o).below (hd n)).take 12) ((HN.o.below Ha).below (hd n)) (by rw[zaj];omega);rw[zaj,HL.o,Ho.o]at this;exact this)
 have HD:=zH hd;have HB:=zH Ha;clear hd Ha;by_cases q0:x0=1463897137
 ·have b0:((x0:Int) != 1463897137)=false:=by rw[bne,show((x0:Int)==1463897137)=true by rw[zbZ];omega];rfl
  have Hc:=zH q0;clear q0;by_cases q3:x3=cr
  ·have b3:((x3:Int) != (cr:Int))=false:=by rw[bne,show((x3:Int)==(cr:Int))=true by rw[zbZ];omega];rfl
   have He:=zH q3;clear q3
   go_quiet (exact Calls.quiet_of_same ((Hj.o _).mono fun e w' h=>⟨h.1,h.2.symm⟩))
   rename Nat=>nq;obtain⟨W,hW⟩:∃ W,w2.drewN nq=W:=⟨_,rfl⟩;have Hl:Below w2.heap.size w2 W:=by subst hW;exact HD.o nq
   have m1:W.cell? ⟨g1,1,none⟩=some (.int .u64 (x1:Int)):=by subst hW;exact l1
   have m2:W.cell? ⟨g1,2,none⟩=some (.int .u64 (x2:Int)):=by subst hW;exact l2
   rw[hW];have Hn:=zH Hl;clear hW l0 l1 l2 l3 Hl;go_upto_region 7 with fail
   go_region
   go_wp2
   go_ret3
   exact⟨by rw[Hf.o,zax ⟨Hc.o,He.o⟩];rfl,HB.o.trans (Hn.o.drew.mono HB.o.size)⟩
  ·have b3:((x3:Int) != (cr:Int))=true:=by rw[bne,show((x3:Int)==(cr:Int))=false by rw[zaN];omega];rfl
   have He:=zH q3;clear q3
   go_quiet (exact Calls.quiet_of_same ((Hj.o _).mono fun e w' h=>⟨h.1,h.2.symm⟩))
   rename Nat=>nq;go_wp2
   go_ret3
   exact⟨by rw[Hf.o,zaC (fun h=>He.o h.2)];rfl,HB.o.trans ((HD.o nq).mono HB.o.size)⟩
 ·have b0:((x0:Int) != 1463897137)=true:=by rw[bne,show((x0:Int)==1463897137)=false by rw[zaN];omega];rfl
  have Hc:=zH q0;clear q0
  go_quiet (fail)
  rename Nat=>nq;go_wp2
  go_ret3
  exact⟨by rw[Hf.o,zaC (fun h=>Hc.o h.1)];rfl,HB.o.trans ((HD.o nq).mono HB.o.size)⟩
def qeu (S0 S1:Bs):Nat→Nat×Nat×Nat
 | 0=>(0,0,0)
 | 1=>qih (0,0,0) 0 S0
 | _=>newH S0 S1
theorem qjg (S0 S1:Bs)(k:Nat)(hk:k<2):qeu S0 S1 (k+1)=qih (qeu S0 S1 k) k (if k=0 then S0 else S1):=by
 rcases(by omega:k=0∨k=1)with rfl|rfl<;>rfl
def NewF (S0 S1:Bs)(w:World)(e:Ending)(w':World):Prop:=
 e=.returned (.tuple #[.int .u64 ((newH S0 S1).1:Nat),.int .u64 ((newH S0 S1).2.1:Nat),.int .i64 ((newH S0 S1).2.2:Nat),.int .i64 0])∧Below w.heap.size w w'
theorem qe0 (h:PlM w a F p)(hn:Nib w)(hd:p.most[d]?=some m)(hm:2≤m)(hoff:p.off=false) :
  Calls Tryz.prog 72 #[.pointer (some ⟨a.P,0,none⟩),.int .i64 d] w (NewF (p.seen d 0) (p.seen d 1) w):=by
 have HH:=zH (show ∀ k:Nat,k<2→∀ W,Below w.heap.size w W→Calls Tryz.prog 101 #[.pointer (some ⟨a.P,0,none⟩),.int .i64 d,.int .i64 k] W (HdF (p.seen d k) W)from fun k hk W hb=>qhR (h.below hb) (hn.below hb) hd (by omega) hoff);obtain⟨S0,h0⟩:∃ S,p.seen d 0=S:=⟨_,rfl⟩;obtain⟨S1,h1⟩:∃ S,p.seen d 1=S:=⟨_,rfl⟩;have HS:=zH (show ∀ k:Nat,k<2→p.seen d k=if k=0 then S0 else S1 from fun k hk=>by rcases(by omega:k=0∨k=1)with rfl|rfl<;>simp[h0,h1]);rw[h0,h1];clear h hn hd hm hoff h0 h1;go_enter Tryz.func72,Tryz.ntmps72
 go_wp2;go_loopw [4,5,6,7,12] (fun g x t z i wr=>∃ k:Nat,i=.int .i64 k∧k≤2∧g=.int .u64 ((qeu S0 S1 k).1:Nat)∧x=.int .u64 ((qeu S0 S1 k).2.1:Nat)∧t=.int .i64 ((qeu S0 S1 k).2.2:Nat)∧z=.int .i64 0∧Below w.heap.size w wr) (fun _ _ _ _ i _=>2-(RowKit.intOf i).toNat)
 case atStart=>exact⟨0,rfl,by omega,rfl,rfl,rfl,rfl,zai _ _⟩
 case round=>
  obtain⟨k,rfl,hk,rfl,rfl,rfl,rfl,hbw⟩:=hrel;have Ha:=zH hbw;clear hbw;by_cases hk2:k=2
  ·have k1:¬((k:Int)<2):=by omega
   have HK:=zH hk2;clear hk2 hk;go_wp2;exact za7 (v:=.tuple #[.int .u64 ((qeu S0 S1 k).1:Nat),.int .u64 ((qeu S0 S1 k).2.1:Nat),.int .i64 ((qeu S0 S1 k).2.2:Nat),.int .i64 0]) (by simp[results,Tryz.results72,go_sem]) rfl ⟨by rw[HK.o];rfl,Ha.o⟩
  ·have k1:(k:Int)<2:=by omega
   have He:k<2:=by omega
   have HC:=zH (HH.o k He wr Ha.o);have Hf:=zH (HS.o k He);have Hh:=zH (qjg S0 S1 k He);obtain⟨S,hS⟩:∃ S,p.seen d k=S:=⟨_,rfl⟩;have Hg:=zH hS;rw[hS]at HC;obtain⟨g0,e0⟩:∃ x,(qeu S0 S1 k).1=x:=⟨_,rfl⟩;obtain⟨x0,e1⟩:∃ x,(qeu S0 S1 k).2.1=x:=⟨_,rfl⟩;obtain⟨t0,e2⟩:∃ x,(qeu S0 S1 k).2.2=x:=⟨_,rfl⟩;obtain⟨g1,e3⟩:∃ x,(qdX S).1=x:=⟨_,rfl⟩;obtain⟨x1,e4⟩:∃ x,(qdX S).2=x:=⟨_,rfl⟩;rw[e0,e1,e2];have HG:=zH (show qeu S0 S1 (k+1)=if g0<g1 then(g1,x1,k)else(g0,x0,t0)by
    rw[Hh.o,←Hf.o,Hg.o];unfold qih;rw[e0,e3,e4,←e0,←e1,←e2])
   have HE:=zH (And.intro e3 e4);clear hS e0 e1 e2 e3 e4 hk hk2;by_cases hlt:g0<g1
   ·have t1:decide ((g0:Int)<(g1:Int))=true:=zaT (by omega);have Hc:=zH hlt;clear hlt;go_wp2_with (go_at_call 101;(with_reducible refine HC.o.mono ?_);rintro e w1 ⟨rfl,hb1⟩;rw[HE.o.1,HE.o.2];have Hb:=zH hb1;clear hb1)
    refine⟨⟨k+1,by go_num,by omega,?_,?_,?_,rfl,Ha.o.trans (Hb.o.mono Ha.o.size)⟩,by simp[RowKit.intOf];omega⟩<;>rw[HG.o,zax Hc.o]
   ·have t1:decide ((g0:Int)<(g1:Int))=false:=zan (by omega);have Hc:=zH hlt;clear hlt;go_wp2_with (go_at_call 101;(with_reducible refine HC.o.mono ?_);rintro e w1 ⟨rfl,hb1⟩;rw[HE.o.1,HE.o.2];have Hb:=zH hb1;clear hb1)
    refine⟨⟨k+1,by go_num,by omega,?_,?_,?_,rfl,Ha.o.trans (Hb.o.mono Ha.o.size)⟩,by simp[RowKit.intOf];omega⟩<;>rw[HG.o,zaC Hc.o]
end Go.Proofs.YtfcknhbmeofniaaGreatDoor
