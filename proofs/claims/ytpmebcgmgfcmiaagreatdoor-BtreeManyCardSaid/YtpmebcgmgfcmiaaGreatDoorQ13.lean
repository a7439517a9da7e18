/- Texts SlA NdA CmpA SrA SrB NdB SlB PlN. -/
import Derived.Test.YtpmebcgmgfcmiaaGreatDoorQ12
import Derived.Lib.Bytealg
import Derived.Deep.DeepAppendRoom
import Derived.Lib.AppendZerosOnto
set_option linter.all false
set_option maxRecDepth 100000
set_option maxHeartbeats 16000000
namespace Go.Proofs.YtpmebcgmgfcmiaaGreatDoor
open Go.RowKit BT
variable {P:Program}{t e:TypeId}{i:TypeInfo}{w:World}{A B K:Option Addr}{l r key:Bs}{n m N ck nv cv nx cx:Nat}{S:Nat→Prop}{vk:List Value}{ks:List Bs}
theorem qbP:(Tryz.prog.info? 34).map (fun i=>(i.zero,i.size,i.bytes))=some (some (.slice none 0 0),1,24):=by kernel_rfl
theorem qcF:(Tryz.prog.info? 102).map (fun i=>(i.zero,i.size,i.bytes))=some (some (.agg #[.int .i64 0,.pointer none]),2,16):=by kernel_rfl
theorem qd7 (A:Option Addr)(c n:Nat)(us:List Value)(w:World)(S:Nat→Prop)(h:SrcS w S 1 A n us)(h1:∀ u∈us,u.oneCell'=true)(hl:n≤1048576) :
  Calls Tryz.prog 89 #[.slice A n c] w fun e w'=>∃ A' cap,e=.returned (.slice A' n cap)∧Own w' w.heap.size 34 1 (.slice A' n cap) n us∧Below w.heap.size w w':=by
 obtain⟨i0,hi0,hz0,hz1,hz2⟩:=zaT qbP;have Ha:=zcp (P:=Tryz.prog) w 103 34 A n c 0 0 Tryz.underlying103;cases A with
 | none=>
  have h0:n=0:=by
   rcases zbN n with h0|h0
   ·exact h0
   ·obtain⟨_,_,e,_⟩:=h.form h0;cases e
  subst h0;obtain rfl:us=[]:=h.src.empty;simp only[zc4]at Ha;go_enter Tryz.func89,Tryz.ntmps89
  go_wp2;go_ret;exact⟨none,0,rfl,Own.nil ..,zai _ _⟩
 | some ad=>
  have HS:Hd (∀ o,Src (w.alloc o) 1 (some ad) n us):=zH fun o=>(h.below ((zai _ _).alloc (zac _) o)).src;have H1:=zH h1;clear h h1;simp only[zc5]at Ha;go_enter Tryz.func89,Tryz.ntmps89
  go_wp2_with (at_builtin;refine qai rfl (.tmp 5) (.tmp 6) 103 rfl w.heap.size 34 i0 _ 1 24 Tryz.underlying103 hi0 hz0 hz1 hz2 rfl (by decide) _ 0 [] rfl (Own.empty _ _ _ _ w.heap.size 0 (zac _) (by simp)) (some ad) n c us rfl (HS.o _) H1.o (by unfold maxLen;omega) (by omega) (by first|(simp;done)|(simp;omega)) ?_;intro A6 cap6 w6 hrow6 hgrow6)
  go_ret;simp only[zaO,zaA]at hrow6;exact⟨A6,cap6,by simp,hrow6,(zB _ _).trans hgrow6⟩
theorem qgn (A:Option Addr)(c n:Nat)(us:List Value)(w:World)(S:Nat→Prop)(h:SrcS w S 2 A n us)(h1:∀ u∈us,u.oneCell'=true)(hl:n≤1048576) :
  Calls Tryz.prog 90 #[.slice A n c] w fun e w'=>∃ A' cap,e=.returned (.slice A' n cap)∧Own w' w.heap.size 102 2 (.slice A' n cap) n us∧Below w.heap.size w w':=by
 obtain⟨i0,hi0,hz0,hz1,hz2⟩:=zaT qcF;have Ha:=zcp (P:=Tryz.prog) w 104 102 A n c 0 0 Tryz.underlying104;cases A with
 | none=>
  have h0:n=0:=by
   rcases zbN n with h0|h0
   ·exact h0
   ·obtain⟨_,_,e,_⟩:=h.form h0;cases e
  subst h0;obtain rfl:us=[]:=h.src.empty;simp only[zc4]at Ha;go_enter Tryz.func90,Tryz.ntmps90
  go_wp2;go_ret;exact⟨none,0,rfl,Own.nil ..,zai _ _⟩
 | some ad=>
  have HS:Hd (∀ o,Src (w.alloc o) 2 (some ad) n us):=zH fun o=>(h.below ((zai _ _).alloc (zac _) o)).src;have H1:=zH h1;clear h h1;simp only[zc5]at Ha;go_enter Tryz.func90,Tryz.ntmps90
  go_wp2_with (at_builtin;refine qai rfl (.tmp 5) (.tmp 6) 104 rfl w.heap.size 102 i0 _ 2 16 Tryz.underlying104 hi0 hz0 hz1 hz2 rfl (by decide) _ 0 [] rfl (Own.empty _ _ _ _ w.heap.size 0 (zac _) (by simp)) (some ad) n c us rfl (HS.o _) H1.o (by unfold maxLen;omega) (by omega) (by first|(simp;done)|(simp;omega)) ?_;intro A6 cap6 w6 hrow6 hgrow6)
  go_ret;simp only[zaO,zaA]at hrow6;exact⟨A6,cap6,by simp,hrow6,(zB _ _).trans hgrow6⟩
def RwF (w:World)(b:Nat)(k r:Bs)(e:Ending)(w':World):Prop:=
 ∃ A1 o2 c2,e=.returned (.tuple #[.slice A1 k.length k.length,.slice (some ⟨b,o2,none⟩) r.length c2,.bool true])∧(∀ ad,A1=some ad→ad.block=b)∧By w' A1 k∧By w' (some ⟨b,o2,none⟩) r∧r.length≤c2∧Below w.heap.size w w'
theorem qkN (ht:P.underlying t=some (.slice e))(hi:P.info? e=some i)(hsize:i.size=1)(b off n c m:Nat)(h0:1≤m)(h1:m≤n)(h2:n≤c) :
  ∃ A:Option Addr,(1<m→A=some ⟨b,off+1,none⟩)∧(∀ ad,A=some ad→ad.block=b)∧∀ W,(Instr.slice t (.slice (some ⟨b,off,none⟩) n c) (some (.int .i64 1)) (some (.int .u8 (m:Int))) (some (.int .u8 (m:Int)))).run P W=.ok (.slice A (m-1) (m-1)) W:=by
 have e1:m≤c:=by omega
 have e2:(1:Int)≤(m:Int):=by omega
 by_cases hc:m=1
 ·refine⟨some ⟨b,off,none⟩,fun h=>by omega,fun ad e=>by cases e;rfl,fun W=>?_⟩;simp[Instr.slice,Instr.sliceBounds,Instr.sliceBound,asIntOf,zaM ht,sizeOf,typeInfo,hi,hsize,go_sem,hc,(by omega:1≤c)];intro h;omega
 ·refine⟨some ⟨b,off+1,none⟩,fun _=>rfl,fun ad e=>by cases e;rfl,fun W=>?_⟩;simp[Instr.slice,Instr.sliceBounds,Instr.sliceBound,asIntOf,zaM ht,sizeOf,typeInfo,hi,hsize,go_sem,hc,e1,e2]
theorem qjE (ht:P.underlying t=some (.slice e))(hi:P.info? e=some i)(hsize:i.size=1)(b off n c m:Nat)(h1:m≤n)(h2:n≤c) :
  ∃ o2,(m<n→o2=off+m)∧∀ W,(Instr.slice t (.slice (some ⟨b,off,none⟩) n c) (some (.int .u8 (m:Int))) none none).run P W=.ok (.slice (some ⟨b,o2,none⟩) (n-m) (c-m)) W:=by
 by_cases hc:c=m
 ·refine⟨off,fun h=>by omega,fun W=>?_⟩;subst hc;simp[Instr.slice,Instr.sliceBounds,Instr.sliceBound,asIntOf,zaM ht,sizeOf,typeInfo,hi,hsize,go_sem,h1]
 ·refine⟨off+m,fun _=>rfl,fun W=>?_⟩;simp[Instr.slice,Instr.sliceBounds,Instr.sliceBound,asIntOf,zaM ht,sizeOf,typeInfo,hi,hsize,hc,go_sem,h1]
theorem qiZ (b off n c:Nat)(l k r:Bs)(w:World)(h:By w (some ⟨b,off,none⟩) l)(hn:l.length=n)(hc:n≤c)(hl:n≤1048576)(hr:rowD l=some (k,r))(hk:k.length≤254) :
  Calls Tryz.prog 80 #[.slice (some ⟨b,off,none⟩) n c] w (RwF w b k r):=by
 obtain⟨i0,hi0,hz0,hz1,hz2⟩:=zaT qdW;cases l with
 | nil=>simp[rowD]at hr
 | cons x t=>
  rw[qcm]at hr;split at hr
  ·cases hr
  ·rename_i hlt;simp only[zax,zaN]at hr;obtain⟨rfl,rfl⟩:=hr;have Hj:x.toNat≤t.length:=by omega
   have Ha:(t.take x.toNat).length=x.toNat:=by rw[zag];omega
   rw[Ha]at hk;have Hk:t.length+1=n:=by simpa using hn
   obtain⟨m,hm⟩:∃ m,x.toNat+1=m:=⟨_,rfl⟩;obtain⟨A1,a1,a2,a3⟩:=qkN (P:=Tryz.prog) Tryz.underlying34 hi0 hz1 b off n c m (by omega) (by omega) hc;obtain⟨o2,b1,b2⟩:=qjE (P:=Tryz.prog) Tryz.underlying34 hi0 hz1 b off n c m (by omega) hc;obtain⟨b',off',e',hbl,hcell⟩:=h.at_ (by simp);cases e';have Hi:w.cell? ⟨b,off,none⟩=some (.int .u8 (x.toNat:Int)):=by simpa using hcell 0 x rfl
   have He:=zH (show By w A1 (t.take x.toNat)from⟨fun h0=>by
    rw[Ha]at h0;refine⟨b,off+1,a1 (by omega),hbl,fun j q hj=>?_⟩;rw[zaV]at hj;split at hj
    ·have:=hcell (1+j) q (by rw[Nat.add_comm,zbd];exact hj)
     rwa [show off+1+j=off+(1+j) by omega]
    ·cases hj⟩)
   have Hf:=zH (show By w (some ⟨b,o2,none⟩) (t.drop x.toNat)from⟨fun h0=>by
    rw[zap]at h0;refine⟨b,o2,rfl,hbl,fun j q hj=>?_⟩;rw[zaK]at hj;have:=hcell (m+j) q (by rw[show m+j=(x.toNat+j)+1 by omega,zbd];exact hj)
    rwa [b1 (by omega),show off+m+j=off+(m+j) by omega]⟩)
   have Hh:=zH Ha;have Hb:=zH (show(t.drop x.toNat).length=n-m by rw[zap];omega);have Hc:=zH a2;obtain⟨y,hy⟩:∃ y,x.toNat=y:=⟨_,rfl⟩;rw[hy]at Hi hm hk Hj;have HY:=zH hy;have t0:((n:Int)==0)=false:=by rw[zaI];omega
   have t1:decide (((n:Int)-1)<(y:Int))=false:=zal (by omega);have e1:IntKind.u8.wrap (1+(y:Int))=(m:Int):=by rw[IntWalk.u8_in _ (by omega)];omega
   have n0:0<n:=by omega
   have Hg:=zH (show n-m≤c-m by omega);clear h hcell hn hy hlt a1 a2 b1 Ha;go_enter Tryz.func80,Tryz.ntmps80
   go_wp2
   go_quiet (fail)
   go_wp2;rename Nat=>nq;have hb:Below w.heap.size w (w.drewN nq):=⟨rfl,rfl,rfl,zac _,fun _ _=>rfl⟩
   (try simp only[Exit.inBlock,Exit.then])
   refine zbs (v:=.tuple #[.slice A1 (m-1) (m-1),.slice (some ⟨b,o2,none⟩) (n-m) (c-m),.bool true]) (by simp[results,Tryz.results80,go_sem]) rfl ?_;refine⟨A1,o2,c-m,?_,Hc.o,He.o.below hb,Hf.o.below hb,by rw[Hb.o];exact Hg.o,hb⟩;have ey:m-1=y:=by omega
   rw[Hh.o,Hb.o,HY.o,ey]
theorem qdD {P:Program}(b:Nat)(w:World):∀ (l:Bs) (off:Nat) (acc:ByteArray),(∀ k c,l[k]?=some c→w.cell? ⟨b,off+k,none⟩=some (.int .u8 (c.toNat:Int)))→(Extern.Bytes.loadBytes ⟨b,off,none⟩ l.length acc).run P w=.ok (ByteArray.mk (acc.data++l.toArray)) w
 | [],off,acc,_=>by
  cases acc;simp[Extern.Bytes.loadBytes]
 | c::l,off,acc,h=>by
  have h0:=h 0 c rfl;rw[zbX]at h0;have hl:(load ⟨b,off,none⟩).run P w=.ok (.int .u8 (c.toNat:Int)) w:=by simp[h0]
  have ih:=qdD (P:=P) b w l (off+1) (acc.push c) fun k d hk=>by
   have:=h (k+1) d (by simpa using hk)
   rwa [show off+1+k=off+(k+1) by omega]
  rw[zao];unfold Extern.Bytes.loadBytes;simp only[zbF,hl,zbh];have e1:((c.toNat:Int).toNat).toUInt8=c:=by simp
  have e2:(Addr.mk b off none).add 1=⟨b,off+1,none⟩:=Addr.add_at b off 1;rw[e1,e2,ih];congr 2;simp
theorem qfi {c:Nat}(h:By w A l)(hn:l.length=n):(Extern.Bytes.bytesOf (.slice A n c)).run P w=.ok (ByteArray.mk l.toArray) w:=by
 subst hn;cases l with
 | nil=>
  cases A with
  | none=>rfl
  | some ad=>simp[Extern.Bytes.bytesOf,Extern.Bytes.loadBytes];rfl
 | cons x l=>
  obtain⟨b,off,rfl,_,hc⟩:=h.at_ (by simp);have:=qdD (P:=P) b w (x::l) off ByteArray.empty hc;unfold Extern.Bytes.bytesOf;simp only;rw[this];congr 2;simp
theorem qd9:∀ a b:Bs,Lib.compareBytes a b=cmpB a b
 | [],[]=>by simp[Lib.compareBytes,cmpB,blt]
 | [],_::_=>by simp[Lib.compareBytes,cmpB,blt]
 | _::_,[]=>by simp[Lib.compareBytes,cmpB,blt]
 | a::s,b::t=>by
  have ih:=qd9 s t;unfold Lib.compareBytes;by_cases h1:a<b
  ·simp[h1,cmpB,blt]
  ·by_cases h2:b<a
   ·have:a≠b:=fun e=>by subst e;exact h1 h2
    simp[h1,h2,cmpB,blt,this]
   ·have:a=b:=by
     have x1:=UInt8.not_lt.1 h1;have x2:=UInt8.not_lt.1 h2;exact UInt8.le_antisymm x2 x1
    subst this;simp only[h1,zc8,ih];simp[cmpB,blt,h1]
theorem qmh {c d:Nat}(h:By w A l)(k:By w B r)(hn:l.length=n)(hm:r.length=m) :
  (Extern.BytealgCompare.compare #[.slice A n c,.slice B m d]).run P w=.ok (.int .i64 (cmpB l r)) w:=by
 change Sem.run P (do pure (goInt (Extern.BytealgCompare.cmp (←Extern.Bytes.bytesOf (.slice A n c)) (←Extern.Bytes.bytesOf (.slice B m d))))) w=_;simp only[zbF,qfi h hn,qfi k hm,zb2,zbh];rw[Lib.cmp_eq,qd9];rfl
theorem qdq (c d:Nat)(h:By w A l)(k:By w B r)(hn:l.length=n)(hm:r.length=m) :
  Calls Tryz.prog 35 #[.slice A n c,.slice B m d] w fun e w'=>e=.returned (.int .i64 (cmpB l r))∧w=w':=by
 have HR:=zH (qmh (P:=Tryz.prog) (c:=c) (d:=d) h k hn hm);clear h k hn hm;go_enter Tryz.func35,Tryz.ntmps35
 go_wp2;rw[run_callFunc_extern Tryz.func55 (by kernel_rfl) (by kernel_rfl) (by kernel_rfl) (e:=Extern.BytealgCompare.compare) (by kernel_rfl),HR.o];simp only[Result.andThen];rw[Oper.upon_value];go_wp2;go_ret;exact⟨rfl,rfl⟩
def BsF (ks:List Bs)(key:Bs)(w:World)(e:Ending)(w':World):Prop:=
 e=.returned (.tuple #[.int .i64 (lowB ks key:Nat),.bool (qbi ks key)])∧w=w'
theorem qhX {nk:Nat}(ck:Nat)(c:Nat)(hK:SrcS w S 1 K nk vk)(hr:RowV w S vk ks)(hn:ks.length=nk)(hs:ks.Pairwise fun a b=>blt a b=true)(hb:By w A key)(hkn:key.length=n)(hl:nk≤1048576) :
  Calls Tryz.prog 40 #[.slice K nk ck,.slice A n c,.func (.func 35) #[] #[]] w (BsF ks key w):=by
 have HL:=qic ks key;rw[hn]at HL;have HC:∀ (h:Nat) (k:Bs),ks[h]?=some k→∃ (b off:Nat) (B:Option Addr) (cc:Nat),K=some ⟨b,off,none⟩∧w.cell? ⟨b,off+h,none⟩=some (.slice B k.length cc)∧By w B k:=fun h k hk=>by
  obtain⟨B,cc,h1,h2,h3⟩:=hr.get hk;have Hm:=(zae.1 hk).1;obtain⟨b,off,e,_,hc⟩:=hK.at_ (by omega);exact⟨b,off,B,cc,e,hc h _ h1,h3.by_⟩
 have Hj:=zH (qhp key hs);have Hf:=zH HC;have HN:=zH hn;have HB:=zH hb;have Hh:=zH hkn;obtain⟨L,hL⟩:∃ L,lowB ks key=L:=⟨_,rfl⟩;unfold BsF;rw[hL]at HL Hj⊢;have Hi:=zH hL;clear hK hr hn hs hb hkn HC hL;go_enter Tryz.func40,Tryz.ntmps40
 go_wp2;go_loopw [9,10] (fun i j wr=>∃ a b:Nat,i=.int .i64 a∧j=.int .i64 b∧a≤L∧L≤b∧b≤nk∧w=wr) (fun i j _=>(intOf j).toNat-(intOf i).toNat)
 case atStart=>exact⟨0,nk,rfl,rfl,by omega,HL,by omega,rfl⟩
 case round=>
  obtain⟨a,b,rfl,rfl,ha,hLb,hbn,rfl⟩:=hrel;by_cases Hm:a<b
  ·obtain⟨s,hs⟩:∃ s,a+b=s:=⟨_,rfl⟩;obtain⟨h,hh⟩:∃ h,s / 2=h:=⟨_,rfl⟩;obtain⟨k,hk⟩:∃ k,ks[h]?=some k:=⟨_,zaa (by rw[HN.o];omega)⟩;obtain⟨b1,off,B,cc,rfl,hcell,hby⟩:=Hf.o h k hk;have Hq:h<nk:=by omega
   have e1:IntKind.i64.wrap ((a:Int)+(b:Int))=(s:Int):=by rw[zaJ _ (by omega)];omega
   have Hb:=zH (qdq cc c hby HB.o rfl Hh.o);have Hl:=Hj.o h k hk;rw[←cmpB_lt]at Hl;have Hg:=zH Hl;have He:=zH (show a≤h∧h<b by omega);by_cases hc:cmpB k key<0
   ·have Ho:=zas hc;have hx:=Hg.o.1 hc;go_wp2_with (go_at_call 35;refine Hb.o.mono ?_;rintro e w2 ⟨rfl,rfl⟩)
    have Hn:=He.o;exact⟨⟨h+1,b,by go_num,rfl,by omega,hLb,hbn,trivial⟩,by simp[intOf];omega⟩
   ·have Ho:=zal hc;have hx:¬h<L:=fun h2=>hc (Hg.o.2 h2);go_wp2_with (go_at_call 35;refine Hb.o.mono ?_;rintro e w2 ⟨rfl,rfl⟩)
    have Hn:=He.o;exact⟨⟨a,h,rfl,by congr 1;omega,ha,by omega,by omega,trivial⟩,by simp[intOf];omega⟩
  ·have Ha:a=L:=by omega
   have Hk:b=L:=by omega
   clear Hm ha hLb hbn;by_cases hn:L<nk
   ·obtain⟨k,hk⟩:∃ k,ks[L]?=some k:=⟨_,zaa (by rw[HN.o];omega)⟩;obtain⟨b1,off,B,cc,rfl,hcell,hby⟩:=Hf.o L k hk;have Hb:=zH (qdq cc c hby HB.o rfl Hh.o);have t0:¬a<b:=by omega
    rw[←Ha]at hcell;have Hp:a<nk:=by omega
    have HT:=zH (show qbi ks key=(cmpB k key==0)by
     unfold qbi;rw[Hi.o,hk];by_cases e:k=key
     ·subst e;simp[cmpB_eq.2 rfl]
     ·have:cmpB k key≠0:=fun h=>e (cmpB_eq.1 h);rw[zaI.2 this];simp[e])
    have Hc:=zH Ha;clear hk Ha Hk;go_wp2_with (go_at_call 35;refine Hb.o.mono ?_;rintro e w2 ⟨rfl,rfl⟩)
    refine zbs (v:=.tuple #[.int .i64 (a:Int),.bool (qbi ks key)]) (by rw[HT.o];simp[results,Tryz.results40,go_sem]) rfl ?_;exact⟨by rw[Hc.o],rfl⟩
   ·have t0:¬a<b:=by omega
    have t1:¬a<nk:=by omega
    have HT:=zH (show qbi ks key=false by
     unfold qbi;rw[Hi.o,zca (by rw[HN.o];omega)];rfl)
    have Hc:=zH Ha;clear Ha Hk;go_wp2;refine zbs (v:=.tuple #[.int .i64 (a:Int),.bool (qbi ks key)]) (by rw[HT.o];simp[results,Tryz.results40,go_sem]) rfl ?_;exact⟨by rw[Hc.o],rfl⟩
def DnF (ks:List Bs)(key:Bs)(w:World)(e:Ending)(w':World):Prop:=
 e=.returned (.int .i64 (down ks key:Nat))∧w=w'
theorem qeL {leaf:Bool}{nk:Nat}{V:Option Addr}{X:Option Addr}(h:Nc w N leaf K nk ck V nv cv X nx cx)(c:Nat)(hK:SrcS w S 1 K nk vk)(hr:RowV w S vk ks)(hn:ks.length=nk)(hs:ks.Pairwise fun a b=>blt a b=true)(hb:By w A key)(hkn:key.length=n)(hl:nk≤1048576) :
  Calls Tryz.prog 39 #[.pointer (some ⟨N,0,none⟩),.slice A n c] w (DnF ks key w):=by
 have Ha:=zH (qhX ck c hK hr hn hs hb hkn hl);have HD:=zH (qiD key hs);have Hb:=qic ks key;rw[hn]at Hb;obtain⟨-,c1,-,-,-,-,-⟩:=h;unfold DnF;unfold BsF at Ha;obtain⟨L,hL⟩:∃ L,lowB ks key=L:=⟨_,rfl⟩;rw[hL]at HD Ha Hb;clear hK hr hn hs hb hkn hL;cases ht:qbi ks key with
 | false=>
  rw[ht]at HD Ha;go_enter Tryz.func39,Tryz.ntmps39
  go_wp2_with (go_at_call 40;refine Ha.o.mono ?_;rintro e w2 ⟨rfl,rfl⟩)
  go_ret;exact⟨by rw[HD.o];simp,rfl⟩
 | true=>
  rw[ht]at HD Ha;go_enter Tryz.func39,Tryz.ntmps39
  go_wp2_with (go_at_call 40;refine Ha.o.mono ?_;rintro e w2 ⟨rfl,rfl⟩)
  go_ret;exact⟨by rw[HD.o];go_num,rfl⟩
structure NdO (w:World) (B N:Nat) (leaf:Bool) (K:Option Addr) (nk ck:Nat) (vk:List Value) (V:Option Addr) (nv cv:Nat) (vv:List Value) (X:Option Addr) (nx cx:Nat) (vx:List Value):Prop where
 nd:w.heap[N]?=some (.cells #[.bool leaf,.slice K nk ck,.slice V nv cv,.slice X nx cx] 106 (0,0))
 lo:B≤N
 k:Own w B 34 1 (.slice K nk ck) nk vk
 v:Own w B 34 1 (.slice V nv cv) nv vv
 x:Own w B 102 2 (.slice X nx cx) nx vx
 kN:∀ a,K=some a→a.block≠N
 vN:∀ a,V=some a→a.block≠N
 xN:∀ a,X=some a→a.block≠N
 kv:∀ a b,K=some a→V=some b→a.block≠b.block
 kx:∀ a b,K=some a→X=some b→a.block≠b.block
 vx:∀ a b,V=some a→X=some b→a.block≠b.block
def ClF (leaf:Bool)(nk:Nat)(vk:List Value)(nv:Nat)(vv:List Value)(nx:Nat)(vx:List Value)(w:World)(e:Ending)(w':World):Prop:=
 ∃ N K ck V cv X cx,e=.returned (.pointer (some ⟨N,0,none⟩))∧NdO w' w.heap.size N leaf K nk ck vk V nv cv vv X nx cx vx∧Below w.heap.size w w'
theorem qdM {leaf:Bool}{kA:Option Addr}{nk:Nat}{vA:Option Addr}{xA:Option Addr}{vv vx:List Value}(h:Nc w N leaf kA nk ck vA nv cv xA nx cx)
  (hk:SrcS w S 1 kA nk vk)(hv:SrcS w S 1 vA nv vv)(hx:SrcS w S 2 xA nx vx)(k1:∀ u∈vk,u.oneCell'=true)(v1:∀ u∈vv,u.oneCell'=true)(x1:∀ u∈vx,u.oneCell'=true)(lk:nk≤1048576)(lv:nv≤1048576)(lx:nx≤1048576) :
  Calls Tryz.prog 71 #[.pointer (some ⟨N,0,none⟩)] w (ClF leaf nk vk nv vv nx vx w):=by
 have He:=zH ((zai w.heap.size w).drew);have HS:=zH (show ∀ W:World,Below w.heap.size w W→W.cell? ⟨N,0,none⟩=some (.bool leaf)∧W.cell? ⟨N,1,none⟩=some (.slice kA nk ck)∧W.cell? ⟨N,2,none⟩=some (.slice vA nv cv)∧W.cell? ⟨N,3,none⟩=some (.slice xA nx cx)from fun W hb=>by
  have hl:N<w.heap.size:=cell_lt h.c0;exact⟨(hb.cell (p:=⟨N,0,none⟩) hl).trans h.c0,(hb.cell (p:=⟨N,1,none⟩) hl).trans h.c1,(hb.cell (p:=⟨N,2,none⟩) hl).trans h.c2,(hb.cell (p:=⟨N,3,none⟩) hl).trans h.c3⟩)
 have HK:=zH hk;have HV:=zH hv;have HX:=zH hx;have K1:=zH k1;have V1:=zH v1;have X1:=zH x1;clear h hk hv hx k1 v1 x1;go_enter Tryz.func71,Tryz.ntmps71
 go_upto_region 1 with fail
 refine wp_region_held_drew (S:=fun W=>W.cell? ⟨N,0,none⟩=some (.bool leaf)∧W.cell? ⟨N,1,none⟩=some (.slice kA nk ck)∧W.cell? ⟨N,2,none⟩=some (.slice vA nv cv)∧W.cell? ⟨N,3,none⟩=some (.slice xA nx cx)) (by kernel_rfl) (HS.o _ He.o) (fun hHeld=>?_);refine zV 0 3 (.pointer (some ⟨N,0,none⟩)) ?_;try simp only[zS]
 refine zV 1 4 (.pointer (some ⟨N,0,none⟩)) ?_;try simp only[zS]
 refine zV 2 5 (.pointer (some ⟨N,0,none⟩)) ?_;try simp only[zS]
 refine zT 3 6 (.bool leaf) rfl (Or.inl ⟨by rfl,fun W hS=>by obtain⟨hS1,hS2,hS3,hS4⟩:=hS;go_simp⟩) ?_;try simp only[zS]
 refine zV 4 7 (.pointer (some ⟨N,0,none⟩)) ?_;try simp only[zS]
 refine zV 5 8 (.pointer (some ⟨N,0,none⟩)) ?_;try simp only[zS]
 refine zV 6 9 (.pointer (some ⟨N,1,none⟩)) ?_;try simp only[zS]
 refine zT 7 10 (.slice kA nk ck) rfl (Or.inl ⟨by rfl,fun W hS=>by obtain⟨hS1,hS2,hS3,hS4⟩:=hS;go_simp⟩) ?_;try simp only[zS]
 refine zV 9 12 (.pointer (some ⟨N,0,none⟩)) ?_;try simp only[zS]
 refine zV 10 13 (.pointer (some ⟨N,0,none⟩)) ?_;try simp only[zS]
 refine zV 11 14 (.pointer (some ⟨N,2,none⟩)) ?_;try simp only[zS]
 refine zT 12 15 (.slice vA nv cv) rfl (Or.inl ⟨by rfl,fun W hS=>by obtain⟨hS1,hS2,hS3,hS4⟩:=hS;go_simp⟩) ?_;try simp only[zS]
 refine zV 14 17 (.pointer (some ⟨N,0,none⟩)) ?_;try simp only[zS]
 refine zV 15 18 (.pointer (some ⟨N,0,none⟩)) ?_;try simp only[zS]
 refine zV 16 19 (.pointer (some ⟨N,3,none⟩)) ?_;try simp only[zS]
 refine zT 17 20 (.slice xA nx cx) rfl (Or.inl ⟨by rfl,fun W hS=>by obtain⟨hS1,hS2,hS3,hS4⟩:=hS;go_simp⟩) ?_;try simp only[zS]
 refine wpAnyH_ready (rs:=[8]) (by kernel_rfl) (by simp) ?_;refine AllReadyH.cons rfl (fun K hK=>?_) AllReadyH.nil;go_simp;go_at_call 89
 refine(qd7 kA ck nk vk _ S (HK.o.below He.o) K1.o lk).mono ?_;rintro e w1 ⟨K2,ck2,rfl,ho,hb⟩;have Hh:=zH ho;have Ha:=zH (He.o.trans <| hb.mono He.o.size);have Hp:=zH hb;clear ho hb;refine hK.out _ _ (HS.o _ Ha.o) (fun hHeld2=>?_);clear hK K;try simp only[zS]
 refine wpAnyH_ready (rs:=[13]) (by kernel_rfl) (by simp) ?_;refine AllReadyH.cons rfl (fun K hK=>?_) AllReadyH.nil;go_simp;go_at_call 89
 refine(qd7 vA cv nv vv _ S (HV.o.below Ha.o) V1.o lv).mono ?_;rintro e w2 ⟨V2,cv2,rfl,ho,hb⟩;have Hi:=zH ho;have Hb:=zH (Ha.o.trans <| hb.mono Ha.o.size);have Hk:=zH hb;clear ho hb;refine hK.out _ _ (HS.o _ Hb.o) (fun hHeld3=>?_);clear hK K;try simp only[zS]
 refine wpAnyH_ready (rs:=[18]) (by kernel_rfl) (by simp) ?_;refine AllReadyH.cons rfl (fun K hK=>?_) AllReadyH.nil;go_simp;go_at_call 90
 refine(qgn xA cx nx vx _ S (HX.o.below Hb.o) X1.o lx).mono ?_;rintro e w3 ⟨X2,cx2,rfl,ho,hb⟩;have Hj:=zH ho;have Hc:=zH (Hb.o.trans <| hb.mono Hb.o.size);have Hl:=zH hb;clear ho hb;refine hK.out _ _ (HS.o _ Hc.o) (fun hHeld4=>?_);clear hK K;try simp only[zS]
 refine zV 19 22 (.agg #[.bool leaf,.slice K2 nk ck2,.slice V2 nv cv2,.slice X2 nx cx2]) ?_;try simp only[zS]
 refine wpAnyH_ready (rs:=[20]) (by kernel_rfl) (by simp) ?_;refine AllReadyH.cons rfl (fun K hK=>?_) AllReadyH.nil;go_simp;have HN:=zH (zaf w3 (.cells #[.bool leaf,.slice K2 nk ck2,.slice V2 nv cv2,.slice X2 nx cx2] 106));have Hg:=zH (show Below w.heap.size w (w3.alloc (.cells #[.bool leaf,.slice K2 nk ck2,.slice V2 nv cv2,.slice X2 nx cx2] 106))from Hc.o.alloc Hc.o.size _);have Hn:=zH (show Below w3.heap.size w3 (w3.alloc (.cells #[.bool leaf,.slice K2 nk ck2,.slice V2 nv cv2,.slice X2 nx cx2] 106))from zB _ _);generalize w3.alloc (.cells #[.bool leaf,.slice K2 nk ck2,.slice V2 nv cv2,.slice X2 nx cx2] 106)=w4 at HN Hg Hn⊢;refine hK.out _ _ (HS.o _ Hg.o) (fun hHeld5=>?_);clear hK K;try simp only[zS]
 refine zV 21 2 (.pointer (some ⟨w3.heap.size,0,none⟩)) ?_;try simp only[zS]
 refine wpAnyH_done (by kernel_rfl) ?_ _;clear hHeld hHeld2 hHeld3 hHeld4 hHeld5;go_wp2;go_ret;have s0:w.drew.heap.size=w.heap.size:=rfl;have Ho:=Hk.o;have Hm:=Hl.o;have Hf:=Hn.o;have s1:=Ha.o.size;have s2:=Ho.size;have s3:=Hm.size;have s4:=Hf.size;have Hq:Below w1.heap.size w1 w4:=Ho.trans ((Hm.mono s2).trans (Hf.mono (by omega)));have Hr:Below w2.heap.size w2 w4:=Hm.trans (Hf.mono s3);have o1:=Hh.o;have o2:=Hi.o;have o3:=Hj.o;have q1:∀ a,K2=some a→a.block<w1.heap.size:=fun a e=>(o1.blk a.block (by rw[e];rfl)).2;have q2:∀ a,V2=some a→w1.heap.size≤a.block∧a.block<w2.heap.size:=fun a e=>o2.blk a.block (by rw[e];rfl);have q3:∀ a,X2=some a→w2.heap.size≤a.block∧a.block<w3.heap.size:=fun a e=>o3.blk a.block (by rw[e];rfl);refine⟨w3.heap.size,K2,ck2,V2,cv2,X2,cx2,rfl,⟨HN.o,by omega,(o1.base (by omega)).below (zac _) Hq,(o2.base (by omega)).below (zac _) Hr,(o3.base (by omega)).below (zac _) Hf,?_,?_,?_,?_,?_,?_⟩,Hg.o⟩
 ·intro a e;have:=q1 a e;omega
 ·intro a e;have:=q2 a e;omega
 ·intro a e;have:=q3 a e;omega
 ·intro a b e e';have:=q1 a e;have:=q2 b e';omega
 ·intro a b e e';have:=q1 a e;have:=q3 b e';omega
 ·intro a b e e';have:=q2 a e;have:=q3 b e';omega
section
section
variable {P:Program}
theorem qbY {t e:TypeId}{i:TypeInfo}{size:Nat}(ht:P.underlying t=some (.slice e))(hi:P.info? e=some i)(hsize:i.size=size)(b off n c lo hi':Nat)(h1:lo≤hi')(h2:hi'≤c) :
  ∃ ad:Addr,(lo<c→ad=⟨b,off+lo*size,none⟩)∧∀ W,(Instr.slice t (.slice (some ⟨b,off,none⟩) n c) (some (.int .i64 (lo:Int))) (some (.int .i64 (hi':Int))) none).run P W=.ok (.slice (some ad) (hi' - lo) (c-lo)) W:=by
 by_cases hc:c=lo
 ·refine⟨⟨b,off,none⟩,fun h=>by omega,fun W=>?_⟩;have e1:(lo:Int)≤(hi':Int):=by omega
  have e2:hi'≤lo:=by omega
  subst hc;simp[Instr.slice,Instr.sliceBounds,Instr.sliceBound,asIntOf,zaM ht,sizeOf,typeInfo,hi,hsize,go_sem,h1,h2,e2]
 ·refine⟨⟨b,off+lo*size,none⟩,fun _=>rfl,fun W=>?_⟩;simp[Instr.slice,Instr.sliceBounds,Instr.sliceBound,asIntOf,zaM ht,sizeOf,typeInfo,hi,hsize,hc,go_sem,h1,h2]
theorem qam {t e:TypeId}{i:TypeInfo}{size:Nat}(ht:P.underlying t=some (.slice e))(hi:P.info? e=some i)(hsize:i.size=size)(b off n c lo:Nat)(h1:lo≤n)(h2:n≤c) :
  ∃ ad:Addr,(lo<c→ad=⟨b,off+lo*size,none⟩)∧∀ W,(Instr.slice t (.slice (some ⟨b,off,none⟩) n c) (some (.int .i64 (lo:Int))) none none).run P W=.ok (.slice (some ad) (n-lo) (c-lo)) W:=by
 by_cases hc:c=lo
 ·refine⟨⟨b,off,none⟩,fun h=>by omega,fun W=>?_⟩;subst hc;simp[Instr.slice,Instr.sliceBounds,Instr.sliceBound,asIntOf,zaM ht,sizeOf,typeInfo,hi,hsize,go_sem,h1]
 ·refine⟨⟨b,off+lo*size,none⟩,fun _=>rfl,fun W=>?_⟩;simp[Instr.slice,Instr.sliceBounds,Instr.sliceBound,asIntOf,zaM ht,sizeOf,typeInfo,hi,hsize,hc,go_sem,h1]
theorem qis {t e:TypeId}{i:TypeInfo}{size:Nat}(ht:P.underlying t=some (.slice e))(hi:P.info? e=some i)(hsize:i.size=size)(b off n c lo hi' mx:Nat)(h1:lo≤hi')(h2:hi'≤mx)(h3:mx≤c) :
  ∃ ad:Addr,(lo<mx→ad=⟨b,off+lo*size,none⟩)∧∀ W,(Instr.slice t (.slice (some ⟨b,off,none⟩) n c) (some (.int .i64 (lo:Int))) (some (.int .i64 (hi':Int))) (some (.int .i64 (mx:Int)))).run P W=.ok (.slice (some ad) (hi' - lo) (mx-lo)) W:=by
 by_cases hc:mx=lo
 ·refine⟨⟨b,off,none⟩,fun h=>by omega,fun W=>?_⟩;have e2:hi'≤lo:=by omega
  subst hc;simp[Instr.slice,Instr.sliceBounds,Instr.sliceBound,asIntOf,zaM ht,sizeOf,typeInfo,hi,hsize,go_sem,h1,h2,h3,e2]
 ·refine⟨⟨b,off+lo*size,none⟩,fun _=>rfl,fun W=>?_⟩;simp[Instr.slice,Instr.sliceBounds,Instr.sliceBound,asIntOf,zaM ht,sizeOf,typeInfo,hi,hsize,hc,go_sem,h1,h2,h3]
end
theorem qgK {w:World}{B:Nat}{e:TypeId}{size g n cap:Nat}{xs:List Value}(h:w.ownsRow B e size (.slice (some ⟨g,0,none⟩) n cap) n xs){i:Nat}(hi:i≤n):w.ownsRow B e size (.slice (some ⟨g,0,none⟩) i cap) i (xs.take (i*size)):=by
 obtain⟨hl,hv⟩:=h;rcases hv with⟨h0,_⟩|⟨g',cap',cur,hv,hbg,hg,hnc,hcm,hcs,htake⟩
 ·cases h0
 ·cases hv;have hm:i*size≤n*size:=Nat.mul_le_mul_right _ hi;refine⟨by rw[zag,hl];omega,.inr ⟨g,cap,cur,rfl,hbg,hg,by omega,hcm,hcs,?_⟩⟩;rw[←htake,zbY,zbE hm]
theorem own_cells {w:World}{B:Nat}{e:TypeId}{size g n cap:Nat}{xs:List Value}(h:w.ownsRow B e size (.slice (some ⟨g,0,none⟩) n cap) n xs):n≤cap∧cap≤maxLen∧xs.length=n*size∧B≤g∧g<w.heap.size∧(∀ j u,xs[j]?=some u→w.cell? ⟨g,j,none⟩=some u)∧∃ cur,w.heap[g]?=some (.cells cur e (0,0))∧cur.size=cap*size∧cur.toList.take (n*size)=xs:=by
 have h':=h;obtain⟨hl,hv⟩:=h;rcases hv with⟨h0,_⟩|⟨g',cap',cur,hv,hbg,hg,hnc,hcm,hcs,htake⟩
 ·cases h0
 ·cases hv;refine⟨hnc,hcm,hl,hbg,(zab.1 hg).1,fun j u hu=>?_,cur,hg,hcs,htake⟩;rw[h'.cellAt j (by have:=(zae.1 hu).1;omega)];exact hu
theorem qaR {w:World}{B:Nat}{e:TypeId}{size g n cap:Nat}{xs:List Value}{cur:Array Value}(hg:w.heap[g]?=some (.cells cur e (0,0)))(hB:B≤g)(hn:n≤cap)(hm:cap≤maxLen)(hs:cur.size=cap*size)(ht:cur.toList.take (n*size)=xs):w.ownsRow B e size (.slice (some ⟨g,0,none⟩) n cap) n xs:=by
 have Ha:n*size≤cap*size:=Nat.mul_le_mul_right _ hn;refine⟨?_,.inr ⟨g,cap,cur,rfl,hB,hg,hn,hm,hs,ht⟩⟩;rw[←ht,zag,za1,hs];omega
theorem uval:∀ w,(zeroValue 34).run Tryz.prog w=.ok (.slice none 0 0) w:=fun w=>by
 obtain⟨i0,hi0,hz0,_,_⟩:=zaT qbP;simp[zeroValue,typeInfo,hi0,hz0]
def DlF (B g n cap i:Nat)(xs:List Value)(w:World)(e:Ending)(w':World):Prop:=
 e=.returned (.slice (some ⟨g,0,none⟩) (n-1) cap)∧w'.ownsRow B 34 1 (.slice (some ⟨g,0,none⟩) (n-1) cap) (n-1) (xs.take i++xs.drop (i+1))∧Touch (fun b=>b=g) w w'
theorem qgt {w:World}{B g n cap:Nat}{xs:List Value}(h:w.ownsRow B 34 1 (.slice (some ⟨g,0,none⟩) n cap) n xs)(h1:∀ u∈xs,u.oneCell'=true){i:Nat}(hi:i<n)(hl:n≤1048576) :
  Calls Tryz.prog 72 #[.slice (some ⟨g,0,none⟩) n cap,.int .i64 i,.int .i64 ((i+1:Nat):Int)] w (DlF B g n cap i xs w):=by
 obtain⟨i0,hi0,hz0,hz1,hz2⟩:=zaT qbP;obtain⟨hnc,hcm,hxl,hBg,hgl,hcell,cur,hcur,hcs,htk⟩:=own_cells h;obtain⟨a1,_,r1⟩:=qis (P:=Tryz.prog) Tryz.underlying103 hi0 hz1 g 0 n cap i (i+1) n (by omega) (by omega) hnc;obtain⟨a2,b2,r2⟩:=qam (P:=Tryz.prog) Tryz.underlying103 hi0 hz1 g 0 n cap (i+1) (by omega) hnc;obtain⟨a3,b3,r3⟩:=qbY (P:=Tryz.prog) Tryz.underlying103 hi0 hz1 g 0 (n-1) cap (n-1) n (by omega) hnc;obtain⟨j,hj⟩:∃ j,i+1=j:=⟨_,rfl⟩;rw[hj]at r1 r2 b2⊢;have HJ:=zH hj;have t0:((i:Int)==(j:Int))=false:=by rw[zaI];omega
 have HT:=zH (qgK h (i:=i) (by omega));have H:=zH h;have H1:=zH h1;have Hi:=zH (show ∀ q u,(xs.drop j)[q]?=some u→w.drew.cell? (a2.add q)=some u from fun q u hq=>by
  rw[zaK]at hq;have Hn:=(zae.1 hq).1;rw[b2 (by omega),Addr.add_at];have:=hcell (j+q) u hq
  rwa [show 0+j*1+q=j+q by omega])
 have Hg:=zH (show(xs.drop j).length=(n-j)*1 by rw[zap];omega);have Hl:i+(n-j)=n-1:=by omega
 have Ha:=zH Hl;have n1:n-(n-1)=1:=by omega
 have Hm:i≤cap:=by omega
 rw[n1]at r3;have B3:=zH (b3 (by omega));have Hj:=zH (show xs.take (i*1)++xs.drop j=xs.take i++xs.drop (i+1)by rw[zbG,←hj]);have Hk:=zH (show ∀ u∈xs.drop j,u.oneCell'=true from fun u hu=>h1 u (zaU hu));clear h h1 hcell hcur hcs htk hj b2 b3;go_enter Tryz.func72,Tryz.ntmps72
 go_upto_region 5 with fail
 refine wp_region_held_drew (S:=fun _=>True) (by kernel_rfl) trivial (fun hHeld=>?_);refine zV 0 20 (.slice (some ⟨g,0,none⟩) n cap) ?_;try simp only[zS]
 refine zV 1 21 (.int .i64 (i:Int)) ?_;try simp only[zS]
 refine zV 2 22 (.slice (some ⟨g,0,none⟩) i cap) ?_;try simp only[zS]
 refine zV 3 23 (.slice (some ⟨g,0,none⟩) n cap) ?_;try simp only[zS]
 refine zV 4 24 (.int .i64 (j:Int)) ?_;try simp only[zS]
 refine zV 5 25 (.slice (some a2) (n-j) (cap-j)) ?_;try simp only[zS]
 refine wpAnyH_ready (rs:=[6]) (by kernel_rfl) (by simp) ?_;refine AllReadyH.cons rfl (fun K hK=>?_) AllReadyH.nil;refine Eq.mpr (zaw (by rfl)) ?_;refine Go.wp_append_own_spare w.drew (.tmp 22) (.tmp 25) 103 rfl B 34 i0 1 Tryz.underlying103 hi0 hz1 g i cap (xs.take (i*1)) rfl HT.o a2 (n-j) (cap-j) (xs.drop j) rfl Hg.o Hi.o Hk.o (by omega) ?_;intro w2 ho2 hg2;rw[Ha.o,Hj.o]at ho2;have Hh:=zH ho2;have He:=zH hg2;clear ho2 hg2;refine hK.out _ _ trivial (fun hHeld2=>?_);clear hK K;try simp only[zS]
 try rw[Ha.o]
 refine zV 7 0 (.slice (some ⟨g,0,none⟩) (n-1) cap) ?_;try simp only[zS]
 refine wpAnyH_done (by kernel_rfl) ?_ _;obtain⟨_,_,_,_,hgl2,_,cur2,hcur2,hcs2,htk2⟩:=own_cells Hh.o;have c1:((n-1:Nat):Int)=(n:Int)-1:=by omega
 have Hc:=zH hcur2;have Hb:=zH hcs2;have Hf:=zH htk2;clear hcur2 hcs2 htk2;go_wp2_with ((with_reducible show wpList _ _ _ (⟨none,.call _,_,_,_,_⟩::_) _ _);refine qa8 rfl (.tmp 31) 103 rfl Tryz.underlying103 uval (by kernel_rfl) (some ⟨g,n-1,none⟩) 1 (cap-(n-1)) rfl g (n-1) cur2 34 Hc.o (fun _=>⟨rfl,by rw[Hb.o];show n-1+1*1≤cap*1;omega⟩) ?_;intro w3 cs3 q1 q2 q3 q4;have Q1:=zH q1;have Q2:=zH q2;have Q3:=zH q3;have Q4:=zH q4;clear q1 q2 q3 q4)
 go_ret;refine⟨rfl,qaR Q1.o hBg (by omega) hcm (by rw[Q2.o];exact Hb.o) ?_,?_⟩
 ·rw[zbG,Q3.o,←Hf.o,zbG]
 ·exact((Touch.refl (fun b=>b=g) w).drew.trans (Touch.of_grown He.o (fun b e=>by cases e;rfl))).trans Q4.o
end
end Go.Proofs.YtpmebcgmgfcmiaaGreatDoor
namespace Go.Proofs.YtpmebcgmgfcmiaaGreatDoor
open Go.RowKit BT Go.Lib
section
theorem Row.cap {w:World}{base:Nat}{e:TypeId}{size:Nat}{A:Option Addr}{n cap:Nat}{xs:List Value}(h:Row w base e size (.slice A n cap) n xs):n≤cap:=by
 rcases h with h|⟨A0,e,rfl,_⟩
 ·rcases h.2 with⟨e,h0⟩|⟨g,cap',cur,e,_,_,h1,_⟩
  ·cases e;exact zac _
  ·cases e;exact h1
 ·exact za7 _
section
variable {P:Program}
theorem qbk {w w':World}{ops:Array Oper}{rest:List Oper}{o:Oper}{a:Act}{Q:Exit→Act→World→Prop}(hgd:o.guard=none)(s x:Operand)(t t':TypeId)
  (ho:o.op=.call { callee:=.builtin .append,args:=#[s,x],argTypes:=#[t,t'] })(v u v':Value)(hv:a.eval s=v)(hx:a.eval x=u)(hr:∀ ty,(Builtin.append_ #[t,t'] ty #[v,u]).run P w=.ok v' w')
  (h:wpList P ops Q rest (a.put o.dst v') w'):wpList P ops Q (o::rest) a w:=by
 refine zcs hgd fun K hK=>?_;unfold Oper.wp execOp;simp only[ho,resolve,invoke,builtin,zbF,zb2,zbh,zco,zbp,zbA,hv,hx,hr];exact hK _ _ h
end
theorem qjl (n:Nat)(w:World)(h0:0<n)(hl:n≤1048576) :
  Calls Tryz.prog 68 #[.slice none 0 0,.int .i64 n] w fun e w'=>∃ cap,e=.returned (.slice (some ⟨w.heap.size,0,none⟩) 0 cap)∧Own w' w.heap.size 3 1 (.slice (some ⟨w.heap.size,0,none⟩) 0 cap) 0 []∧Below w.heap.size w w':=by
 obtain⟨i0,hi0,hz0,hz1,hz2⟩:=zaT ql3;obtain⟨G,hG⟩:∃ G,grownCap w (0+n) 0 3=G:=⟨_,rfl⟩;have Hc:0+n≤G:=by rw[←hG];exact grownCap_ge w _ _ _
 have Ha:G≤maxLen:=by rw[←hG];exact zc7 w _ _ _ (by unfold maxLen;omega)
 have He:∀ ty,(Builtin.append_ #[23,3] ty #[.slice none 0 0,.int .i64 (n:Int)]).run Tryz.prog w=.ok (.slice (some ⟨w.heap.size,0,none⟩) n G) (w.drew.alloc (.cells (#[]++Builtin.zeroCells (Value.int .i64 0).cells n++Builtin.zeroCells (Value.int .i64 0).cells (G-n)) 3)):=fun ty=>by
  have h:=Lib.run_append_grow_zeros w 23 3 ty 3 i0 _ .i64 .i64 Tryz.underlying23 Tryz.underlying3 hi0 hz0 none 0 0 [] (run_firstCells_none w.drew i0.size 0 0 0) n h0 (by omega) (by omega) (by omega) (by rw[hz2];omega) (by
   rw[hz2];exact growslice_fits (by omega) (by omega))
  rw[hG,zaO]at h;exact h
 have Hf:=zH Hc;have Hb:=zH Ha;have Hg:=zH He;clear hG Hc Ha He;go_enter Tryz.func68,Tryz.ntmps68
 go_wp2_with (at_builtin;refine qbk rfl (.tmp 20) (.tmp 21) 23 3 rfl _ _ _ rfl rfl Hg.o ?_)
 go_ret;refine⟨G,rfl,Own.of_own ⟨by simp,.inr ⟨w.heap.size,G,_,rfl,zac _,zaf w _,za7 _,Hb.o,?_,by simp⟩⟩,(zB _ _).drew⟩;have:=Hf.o;rw[zcy,zcv,zcv];simp;omega
theorem qg1 (A B:Option Addr)(n m cA cB cc C:Nat)(l r:List Int)(w:World)(hA:Ints w A l)(hB:Ints w B r)(hn:l.length=n)(hm:r.length=m)(h0:0<n+m)(hl:n+m≤1048576)
  (hC:w.heap[C]?=some (.cells #[.slice A n cA,.slice B m cB] 23 (0,0))) :
  Calls Tryz.prog 47 #[.slice (some ⟨C,0,none⟩) 2 cc] w fun e w'=>∃ A' cap,e=.returned (.slice A' (n+m) cap)∧Ints w' A' (l++r)∧n+m≤cap∧(∀ ad,A'=some ad→w.heap.size≤ad.block)∧Below w.heap.size w w':=by
 obtain⟨i0,hi0,hz0,hz1,hz2⟩:=zaT ql3;have c0:w.cell? ⟨C,0,none⟩=some (.slice A n cA):=by rw[zan w C 0 _ _ _ hC];rfl
 have c1:w.cell? ⟨C,1,none⟩=some (.slice B m cB):=by rw[zan w C 1 _ _ _ hC];rfl
 have Hj:=zH (qjl (n+m) w h0 hl);have HA:=zH hA;have HB:=zH hB;have HN:=zH hn;have HM:=zH hm;have Hf:C<w.heap.size:=(zab.1 hC).1;have e1:IntKind.i64.wrap ((n:Int)+(m:Int))=((n+m:Nat):Int):=by rw[zaJ _ (by omega)];omega
 clear hA hB hC hn hm;go_enter Tryz.func47,Tryz.ntmps47
 go_wp2;go_loopw [3,5,11] (fun s _ i wr=>w=wr∧((i=.int .i64 0∧s=.int .i64 0)∨(i=.int .i64 1∧s=.int .i64 n)∨(i=.int .i64 2∧s=.int .i64 ((n+m:Nat):Int)))) (fun _ _ i _=>2-(RowKit.intOf i).toNat)
 case atStart=>exact⟨rfl,.inl ⟨rfl,rfl⟩⟩
 case round=>
  rcases hrel with⟨rfl,⟨rfl,rfl⟩|⟨rfl,rfl⟩|⟨rfl,rfl⟩⟩
  ·go_wp2;exact⟨⟨trivial,.inr (.inl ⟨rfl,rfl⟩)⟩,by decide⟩
  ·go_wp2;exact⟨⟨trivial,.inr (.inr ⟨rfl,rfl⟩)⟩,by decide⟩
  ·clear e1;go_wp2_with (go_at_call 68;refine Hj.o.mono ?_;rintro e w2 ⟨cap,rfl,ho2,hb2⟩;have Hk:=zH ho2;have Hg:=zH hb2;clear ho2 hb2)
   have d0:w2.cell? ⟨C,0,none⟩=some (.slice A n cA):=(Hg.o.cell (p:=⟨C,0,none⟩) Hf).trans c0;have Hi:=zH c1;have Hh:=zH c0;clear c0 c1 d0;go_loopw [6,8,27] (fun v _ i wr=>Below w.heap.size w wr∧((i=.int .i64 0∧∃ A' c',v=.slice A' 0 c'∧Own wr w.heap.size 3 1 v 0 [])∨(i=.int .i64 1∧∃ A' c',v=.slice A' n c'∧Own wr w.heap.size 3 1 v n (l.map (Value.int .i64)))∨(i=.int .i64 2∧∃ A' c',v=.slice A' (n+m) c'∧Own wr w.heap.size 3 1 v (n+m) ((l++r).map (Value.int .i64))))) (fun _ _ i _=>2-(RowKit.intOf i).toNat)
   case atStart=>exact⟨Hg.o,.inl ⟨rfl,_,_,rfl,Hk.o⟩⟩
   case round=>
    rename World=>wr;obtain⟨hbw,hcase⟩:=hrel;rcases hcase with⟨rfl,A',c',rfl,ho⟩|⟨rfl,A',c',rfl,ho⟩|⟨rfl,A',c',rfl,ho⟩
    ·have HO:=zH ho;have Ha:=zH hbw;have d0:wr.cell? ⟨C,0,none⟩=some (.slice A n cA):=(hbw.cell (p:=⟨C,0,none⟩) Hf).trans Hh.o;have Hb:=zH (show Src wr 1 A n (l.map (Value.int .i64))by
      have:=(HA.o.below hbw).src
      rwa [HN.o]at this)
     clear hbw ho;go_wp2_with (at_builtin;refine qai rfl (.tmp 31) (.tmp 32) 23 rfl w.heap.size 3 i0 _ 1 8 Tryz.underlying23 hi0 hz0 hz1 hz2 rfl (by decide) _ 0 _ rfl HO.o A n _ _ rfl Hb.o (qgC l) (by unfold maxLen;omega) (by omega) Ha.o.size ?_;intro A6 cap6 w6 hrow6 hgrow6;have He:=zH hrow6;have Hc:=zH hgrow6;clear hrow6 hgrow6)
     exact⟨⟨Ha.o.trans Hc.o,.inr (.inl ⟨rfl,A6,cap6,by simp,by simpa using He.o⟩)⟩,by decide⟩
    ·have HO:=zH ho;have Ha:=zH hbw;have d0:wr.cell? ⟨C,1,none⟩=some (.slice B m cB):=(hbw.cell (p:=⟨C,1,none⟩) Hf).trans Hi.o;have Hb:=zH (show Src wr 1 B m (r.map (Value.int .i64))by
      have:=(HB.o.below hbw).src
      rwa [HM.o]at this)
     clear hbw ho;go_wp2_with (at_builtin;refine qai rfl (.tmp 31) (.tmp 32) 23 rfl w.heap.size 3 i0 _ 1 8 Tryz.underlying23 hi0 hz0 hz1 hz2 rfl (by decide) _ n _ rfl HO.o B m _ _ rfl Hb.o (qgC r) (by unfold maxLen;omega) (by omega) Ha.o.size ?_;intro A6 cap6 w6 hrow6 hgrow6;have He:=zH hrow6;have Hc:=zH hgrow6;clear hrow6 hgrow6)
     exact⟨⟨Ha.o.trans Hc.o,.inr (.inr ⟨rfl,A6,cap6,rfl,by rw[zbD];exact He.o⟩)⟩,by decide⟩
    ·have HO:=zH ho;have Ha:=zH hbw;clear hbw ho;go_wp2;go_ret;refine⟨A',c',rfl,Own.ints HO.o (by rw[zad,HN.o,HM.o]) (by omega),?_,fun ad e=>(HO.o.blk ad.block (by rw[e];rfl)).1,Ha.o⟩;exact Row.cap HO.o.row
end
end Go.Proofs.YtpmebcgmgfcmiaaGreatDoor
