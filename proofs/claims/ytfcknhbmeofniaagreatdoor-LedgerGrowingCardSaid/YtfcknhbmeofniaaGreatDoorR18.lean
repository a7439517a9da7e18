/- Texts CmpA SrA SrB SlD SrC NdC SlE SlF SlG SlH NdD NdE HvA HvB HvC HvD JnA JnB. -/
import Derived.Test.YtfcknhbmeofniaaGreatDoorR14
import Derived.Lib.Bytealg
set_option linter.all false
set_option maxRecDepth 100000
set_option maxHeartbeats 16000000
namespace Go.Proofs.YtfcknhbmeofniaaGreatDoor
open Go.RowKit BT
variable {P:Program}{w:World}{A B K:Option Addr}{n m:Nat}{r key:Bs}{S:Nat→Prop}{vk:List Value}{ks:List Bs}
theorem qdx {P:Program}(b:Nat)(w:World):∀ (l:Bs) (off:Nat) (acc:ByteArray),(∀ k c,l[k]?=some c→w.cell? ⟨b,off+k,none⟩=some (.int .u8 (c.toNat:Int)))→(Extern.Bytes.loadBytes ⟨b,off,none⟩ l.length acc).run P w=.ok (ByteArray.mk (acc.data++l.toArray)) w
 | [],off,acc,_=>by
  cases acc;simp[Extern.Bytes.loadBytes]
 | c::l,off,acc,h=>by
  have h0:=h 0 c rfl;rw[zb8]at h0;have hl:(load ⟨b,off,none⟩).run P w=.ok (.int .u8 (c.toNat:Int)) w:=by simp[h0]
  have ih:=qdx (P:=P) b w l (off+1) (acc.push c) fun k d hk=>by
   have:=h (k+1) d (by simpa using hk)
   rwa [show off+1+k=off+(k+1) by omega]
  rw[zal];unfold Extern.Bytes.loadBytes;simp only[zbw,hl,zaO];have e1:((c.toNat:Int).toNat).toUInt8=c:=by simp
  have e2:(Addr.mk b off none).add 1=⟨b,off+1,none⟩:=Addr.add_at b off 1;rw[e1,e2,ih];congr 2;simp
theorem qfd {l:Bs}{c:Nat}(h:By w A l)(hn:l.length=n):(Extern.Bytes.bytesOf (.slice A n c)).run P w=.ok (ByteArray.mk l.toArray) w:=by
 subst hn;cases l with
 | nil=>
  cases A with
  | none=>rfl
  | some ad=>simp[Extern.Bytes.bytesOf,Extern.Bytes.loadBytes];rfl
 | cons x l=>
  obtain⟨b,off,rfl,_,hc⟩:=h.at_ (by simp);have:=qdx (P:=P) b w (x::l) off ByteArray.empty hc;unfold Extern.Bytes.bytesOf;simp only;rw[this];congr 2;simp
theorem qef:∀ a b:Bs,Lib.compareBytes a b=cmpB a b
 | [],[]=>by simp[Lib.compareBytes,cmpB,blt]
 | [],_::_=>by simp[Lib.compareBytes,cmpB,blt]
 | _::_,[]=>by simp[Lib.compareBytes,cmpB,blt]
 | a::s,b::t=>by
  have ih:=qef s t;unfold Lib.compareBytes;by_cases h1:a<b
  ·simp[h1,cmpB,blt]
  ·by_cases h2:b<a
   ·have:a≠b:=fun e=>by subst e;exact h1 h2
    simp[h1,h2,cmpB,blt,this]
   ·have:a=b:=by
     have x1:=UInt8.not_lt.1 h1;have x2:=UInt8.not_lt.1 h2;exact UInt8.le_antisymm x2 x1
    subst this;simp only[h1,zcP,ih];simp[cmpB,blt,h1]
theorem qmt {l:Bs}{c d:Nat}(h:By w A l)(k:By w B r)(hn:l.length=n)(hm:r.length=m) :
  (Extern.BytealgCompare.compare #[.slice A n c,.slice B m d]).run P w=.ok (.int .i64 (cmpB l r)) w:=by
 change Sem.run P (do pure (goInt (Extern.BytealgCompare.cmp (←Extern.Bytes.bytesOf (.slice A n c)) (←Extern.Bytes.bytesOf (.slice B m d))))) w=_;simp only[zbw,qfd h hn,qfd k hm,zbK,zaO];rw[Lib.cmp_eq,qef];rfl
theorem qdm {l:Bs}(c d:Nat)(h:By w A l)(k:By w B r)(hn:l.length=n)(hm:r.length=m) :
  Calls Tryz.prog 51 #[.slice A n c,.slice B m d] w fun e w'=>e=.returned (.int .i64 (cmpB l r))∧w=w':=by
 have HR:=zH (qmt (P:=Tryz.prog) (c:=c) (d:=d) h k hn hm);clear h k hn hm;go_enter Tryz.func51,Tryz.ntmps51
 go_wp2;rw[run_callFunc_extern Tryz.func87 (by kernel_rfl) (by kernel_rfl) (by kernel_rfl) (e:=Extern.BytealgCompare.compare) (by kernel_rfl),HR.o];simp only[Result.andThen];rw[Oper.upon_value];go_wp2;go_ret;exact⟨rfl,rfl⟩
def BsF (ks:List Bs)(key:Bs)(w:World)(e:Ending)(w':World):Prop:=
 e=.returned (.tuple #[.int .i64 (lowB ks key:Nat),.bool (qcs ks key)])∧w=w'
theorem ql3 {nk:Nat}(ck:Nat)(c:Nat)(hK:SrcS w S 1 K nk vk)(hr:RowV w S vk ks)(hn:ks.length=nk)(hs:ks.Pairwise fun a b=>blt a b=true)(hb:By w A key)(hkn:key.length=n)(hl:nk≤1048576) :
  Calls Tryz.prog 128 #[.slice K nk ck,.slice A n c,.func (.func 51) #[] #[]] w (BsF ks key w):=by
 have HL:=qkc ks key;rw[hn]at HL;have HC:∀ (h:Nat) (k:Bs),ks[h]?=some k→∃ (b off:Nat) (B:Option Addr) (cc:Nat),K=some ⟨b,off,none⟩∧w.cell? ⟨b,off+h,none⟩=some (.slice B k.length cc)∧By w B k:=fun h k hk=>by
  obtain⟨B,cc,h1,h2,h3⟩:=hr.get hk;have Hm:=(zac.1 hk).1;obtain⟨b,off,e,_,hc⟩:=hK.at_ (by omega);exact⟨b,off,B,cc,e,hc h _ h1,h3.by_⟩
 have Hj:=zH (qg7 key hs);have Hf:=zH HC;have HN:=zH hn;have HB:=zH hb;have Hh:=zH hkn;obtain⟨L,hL⟩:∃ L,lowB ks key=L:=⟨_,rfl⟩;unfold BsF;rw[hL]at HL Hj⊢;have Hi:=zH hL;clear hK hr hn hs hb hkn HC hL;go_enter Tryz.func128,Tryz.ntmps128
 go_wp2;go_loopw [9,10] (fun i j wr=>∃ a b:Nat,i=.int .i64 a∧j=.int .i64 b∧a≤L∧L≤b∧b≤nk∧w=wr) (fun i j _=>(intOf j).toNat-(intOf i).toNat)
 case atStart=>exact⟨0,nk,rfl,rfl,by omega,HL,by omega,rfl⟩
 case round=>
  obtain⟨a,b,rfl,rfl,ha,hLb,hbn,rfl⟩:=hrel;by_cases Hm:a<b
  ·obtain⟨s,hs⟩:∃ s,a+b=s:=⟨_,rfl⟩;obtain⟨h,hh⟩:∃ h,s / 2=h:=⟨_,rfl⟩;obtain⟨k,hk⟩:∃ k,ks[h]?=some k:=⟨_,zab (by rw[HN.o];omega)⟩;obtain⟨b1,off,B,cc,rfl,hcell,hby⟩:=Hf.o h k hk;have Hq:h<nk:=by omega
   have e1:IntKind.i64.wrap ((a:Int)+(b:Int))=(s:Int):=by rw[zaA _ (by omega)];omega
   have Hb:=zH (qdm cc c hby HB.o rfl Hh.o);have Hl:=Hj.o h k hk;rw[←cmpB_lt]at Hl;have Hg:=zH Hl;have He:=zH (show a≤h∧h<b by omega);by_cases hc:cmpB k key<0
   ·have Ho:=zaT hc;have hx:=Hg.o.1 hc;go_wp2_with (go_at_call 51;refine Hb.o.mono ?_;rintro e w2 ⟨rfl,rfl⟩)
    have Hn:=He.o;exact⟨⟨h+1,b,by go_num,rfl,by omega,hLb,hbn,trivial⟩,by simp[intOf];omega⟩
   ·have Ho:=zan hc;have hx:¬h<L:=fun h2=>hc (Hg.o.2 h2);go_wp2_with (go_at_call 51;refine Hb.o.mono ?_;rintro e w2 ⟨rfl,rfl⟩)
    have Hn:=He.o;exact⟨⟨a,h,rfl,by congr 1;omega,ha,by omega,by omega,trivial⟩,by simp[intOf];omega⟩
  ·have Ha:a=L:=by omega
   have Hk:b=L:=by omega
   clear Hm ha hLb hbn;by_cases hn:L<nk
   ·obtain⟨k,hk⟩:∃ k,ks[L]?=some k:=⟨_,zab (by rw[HN.o];omega)⟩;obtain⟨b1,off,B,cc,rfl,hcell,hby⟩:=Hf.o L k hk;have Hb:=zH (qdm cc c hby HB.o rfl Hh.o);have t0:¬a<b:=by omega
    rw[←Ha]at hcell;have Hp:a<nk:=by omega
    have HT:=zH (show qcs ks key=(cmpB k key==0)by
     unfold qcs;rw[Hi.o,hk];by_cases e:k=key
     ·subst e;simp[cmpB_eq.2 rfl]
     ·have:cmpB k key≠0:=fun h=>e (cmpB_eq.1 h);rw[zaN.2 this];simp[e])
    have Hc:=zH Ha;clear hk Ha Hk;go_wp2_with (go_at_call 51;refine Hb.o.mono ?_;rintro e w2 ⟨rfl,rfl⟩)
    refine za7 (v:=.tuple #[.int .i64 (a:Int),.bool (qcs ks key)]) (by rw[HT.o];simp[results,Tryz.results128,go_sem]) rfl ?_;exact⟨by rw[Hc.o],rfl⟩
   ·have t0:¬a<b:=by omega
    have t1:¬a<nk:=by omega
    have HT:=zH (show qcs ks key=false by
     unfold qcs;rw[Hi.o,zbU (by rw[HN.o];omega)];rfl)
    have Hc:=zH Ha;clear Ha Hk;go_wp2;refine za7 (v:=.tuple #[.int .i64 (a:Int),.bool (qcs ks key)]) (by rw[HT.o];simp[results,Tryz.results128,go_sem]) rfl ?_;exact⟨by rw[Hc.o],rfl⟩
def DnF (ks:List Bs)(key:Bs)(w:World)(e:Ending)(w':World):Prop:=
 e=.returned (.int .i64 (down ks key:Nat))∧w=w'
theorem qjT {N:Nat}{leaf:Bool}{nk ck:Nat}{V:Option Addr}{nv cv:Nat}{X:Option Addr}{nx cx:Nat}(h:Nc w N leaf K nk ck V nv cv X nx cx)(c:Nat)(hK:SrcS w S 1 K nk vk)(hr:RowV w S vk ks)(hn:ks.length=nk)(hs:ks.Pairwise fun a b=>blt a b=true)(hb:By w A key)(hkn:key.length=n)(hl:nk≤1048576) :
  Calls Tryz.prog 127 #[.pointer (some ⟨N,0,none⟩),.slice A n c] w (DnF ks key w):=by
 have Ha:=zH (ql3 ck c hK hr hn hs hb hkn hl);have HD:=zH (qip key hs);have Hb:=qkc ks key;rw[hn]at Hb;obtain⟨-,c1,-,-,-,-,-⟩:=h;unfold DnF;unfold BsF at Ha;obtain⟨L,hL⟩:∃ L,lowB ks key=L:=⟨_,rfl⟩;rw[hL]at HD Ha Hb;clear hK hr hn hs hb hkn hL;cases ht:qcs ks key with
 | false=>
  rw[ht]at HD Ha;go_enter Tryz.func127,Tryz.ntmps127
  go_wp2_with (go_at_call 128;refine Ha.o.mono ?_;rintro e w2 ⟨rfl,rfl⟩)
  go_ret;exact⟨by rw[HD.o];simp,rfl⟩
 | true=>
  rw[ht]at HD Ha;go_enter Tryz.func127,Tryz.ntmps127
  go_wp2_with (go_at_call 128;refine Ha.o.mono ?_;rintro e w2 ⟨rfl,rfl⟩)
  go_ret;exact⟨by rw[HD.o];go_num,rfl⟩
end Go.Proofs.YtfcknhbmeofniaaGreatDoor
namespace Go.Proofs.YtfcknhbmeofniaaGreatDoor
open Go.RowKit BT Go.Lib
end Go.Proofs.YtfcknhbmeofniaaGreatDoor
namespace Go.Proofs.YtfcknhbmeofniaaGreatDoor
open Go.RowKit BT
variable {met:List Nat}{w:World}{A:Option Addr}{n:Nat}
def nums (met:List Nat):List Value:=met.map fun p=>.int .i64 (p:Nat)
theorem qly {j p:Nat}(h:met[j]?=some p):(nums met)[j]?=some (.int .i64 (p:Nat)):=by
 unfold nums;rw[zaD,h];rfl
def NumsAt (w:World)(A:Option Addr)(met:List Nat):Prop:=∀ j q,met[j]?=some q→∃ g,A=some ⟨g,0,none⟩∧w.cell? ⟨g,j,none⟩=some (.int .i64 (q:Nat))
theorem NumsAt.of_row {B:Nat}{e:TypeId}{c:Nat}(h:Row w B e 1 (.slice A n c) n (nums met)):NumsAt w A met:=fun j q hq=>by
 obtain⟨A',c',e,hl,hf⟩:=h.form;cases e;have hm:(nums met).length=met.length:=by unfold nums;simp
 have hj:=(zac.1 hq).1;obtain⟨g,rfl,_,_,hc⟩:=hf (by omega);exact⟨g,rfl,(hc j (by omega)).trans (qly hq)⟩
theorem qi9 (c:Nat)(h:NumsAt w A met)(hn:met.length=n)(hl:n≤1048576)(p:Nat) :
  Calls Tryz.prog 149 #[.slice A n c,.int .i64 (p:Nat)] w fun e w'=>(∃ k:Int,e=.returned (.int .i64 k)∧decide (0≤k)=decide (p∈met))∧w=w':=by
 have HC:=zH h;have HN:=zH hn;clear h hn;go_enter Tryz.func149,Tryz.ntmps149
 go_wp2;go_loopw [8] (fun i wr=>∃ j:Nat,i=.int .i64 j∧j≤n∧p∉met.take j∧w=wr) (fun i _=>n-(intOf i).toNat)
 case atStart=>exact⟨0,rfl,by omega,by simp,rfl⟩
 case round=>
  obtain⟨j,rfl,hj,hno,rfl⟩:=hrel;have Hb:=zH hno;clear hno;by_cases hlt:j<n
  ·obtain⟨q,hq⟩:∃ q,met[j]?=some q:=⟨_,zab (by rw[HN.o];exact hlt)⟩;obtain⟨g,rfl,hcell⟩:=HC.o j q hq;have HQ:=zH hq;clear hq;by_cases hpq:p=q
   ·have Ha:=zH (show p∈met by rw[hpq];exact zak HQ.o);have Hf:((p:Int)==(q:Int))=true:=by rw[hpq];simp
    clear hpq;go_wp2;go_ret;exact⟨⟨_,rfl,by rw[zaT Ha.o,zaT (by omega)]⟩,rfl⟩
   ·have Hf:((p:Int)==(q:Int))=false:=by rw[zaN];omega
    have Ha:=zH hpq;clear hpq;go_wp2;refine⟨⟨j+1,by go_num,by omega,?_,trivial⟩,by simp[intOf];omega⟩;have Hc:j<met.length:=by rw[HN.o];exact hlt
    have ex:met[j]=q:=by have:=HQ.o;rw[zab Hc]at this;exact zaG this
    rw[zaw Hc,ex,zar];rintro(h|h)
    ·exact Hb.o h
    ·exact Ha.o (by simpa using h)
  ·obtain rfl:j=n:=by omega
   have He:=zH (show p∉met by have:=Hb.o;rwa [←HN.o,zbA]at this);go_wp2;go_ret;exact⟨⟨_,rfl,by rw[zan He.o];rfl⟩,rfl⟩
theorem qf2 (c:Nat)(h:NumsAt w A met)(hn:met.length=n)(hl:n≤1048576)(p:Nat) :
  Calls Tryz.prog 144 #[.slice A n c,.int .i64 (p:Nat)] w fun e w'=>e=.returned (.bool (decide (p∈met)))∧w=w':=by
 have HI:=zH (qi9 c h hn hl p);clear h hn;go_enter Tryz.func144,Tryz.ntmps144
 go_wp2_with (go_at_call 149;refine HI.o.mono ?_;rintro e w2 ⟨⟨k,rfl,hk⟩,rfl⟩)
 go_ret;exact⟨rfl,rfl⟩
end Go.Proofs.YtfcknhbmeofniaaGreatDoor
namespace Go.Proofs.YtfcknhbmeofniaaGreatDoor
open Go.RowKit BT Go.Lib
section
section
variable {P:Program}
end
end
section
section
variable {P:Program}
end
end
section
theorem Own.keepb {w w':World}{B:Nat}{e:TypeId}{size n:Nat}{v:Value}{xs:List Value}(h:Own w B e size v n xs)(hs:w.heap.size≤w'.heap.size)(hk:∀ b,v.ownBlock=some b→w'.heap[b]?=w.heap[b]?):Own w' B e size v n xs:=
 ⟨h.row.keep fun b hb _=>hk b hb,fun b e=>⟨(h.blk b e).1,zag (h.blk b e).2 hs⟩⟩
theorem Own.touch {w w':World}{B:Nat}{e:TypeId}{size n:Nat}{v:Value}{xs:List Value}{F:Nat→Prop}(h:Own w B e size v n xs)(ht:Touch F w w')(hd:∀ b,v.ownBlock=some b→¬F b):Own w' B e size v n xs:=
 h.keepb ht.size fun b hb=>ht.block b (h.blk b hb).2 (hd b hb)
theorem Own.len {w:World}{B:Nat}{e:TypeId}{size n:Nat}{v:Value}{xs:List Value}(h:Own w B e size v n xs):xs.length=n*size:=by
 obtain⟨A,c,_,hl,_⟩:=h.row.form;exact hl
theorem Own.slice {w:World}{B:Nat}{e:TypeId}{size n:Nat}{v:Value}{xs:List Value}(h:Own w B e size v n xs):∃ A c,v=.slice A n c∧n≤c:=by
 obtain⟨A,c,e,_,_⟩:=h.row.form;subst e;exact⟨A,c,rfl,h.row.cap⟩
theorem Own.srcS {w:World}{B:Nat}{e:TypeId}{size n c:Nat}{A:Option Addr}{xs:List Value}(h:Own w B e size (.slice A n c) n xs){S:Nat→Prop}(hS:∀ b,(Value.slice A n c).ownBlock=some b→S b):SrcS w S size A n xs:=
 ⟨h.row.src,fun h0=>by
  obtain⟨A',c',e,_,hf⟩:=h.row.form;cases e;obtain⟨g,rfl,_,_,_⟩:=hf h0;exact⟨g,0,rfl,hS g rfl⟩,fun h0 b o e=>by
  rcases h.row with hr|⟨A0,e1,e2,_⟩
  ·cases e;have hr0:=hr;rcases hr.2 with⟨e1,_⟩|⟨g,cap,cur,e1,_⟩
   ·cases e1
   ·cases e1;obtain⟨_,_,_,_,h1,_,cur2,h2,_⟩:=qhd hr0;exact⟨h1,fun i=>zbk _ _ _ _ _ h2⟩
  ·omega⟩
structure NdQ (w:World) (B N:Nat) (leaf:Bool) (c1 c2 c3:Value) (k:Value) (nk:Nat) (vk:List Value) (v:Value) (nv:Nat) (vv:List Value) (x:Value) (nx:Nat) (vx:List Value):Prop where
 nd:w.heap[N]?=some (.cells #[.bool leaf,c1,c2,c3] 225 (0,0))
 lo:B≤N
 ko:Own w B 40 1 k nk vk
 vo:Own w B 40 1 v nv vv
 xo:Own w B 222 2 x nx vx
 kN:k.ownBlock≠some N
 vN:v.ownBlock≠some N
 xN:x.ownBlock≠some N
 kv:∀ b,k.ownBlock=some b→v.ownBlock≠some b
 kx:∀ b,k.ownBlock=some b→x.ownBlock≠some b
 vx:∀ b,v.ownBlock=some b→x.ownBlock≠some b
theorem qbt {A:Option Addr}{n c b:Nat}(h:(Value.slice A n c).ownBlock=some b):∃ a,A=some a∧a.block=b:=by
 cases A with
 | none=>cases h
 | some a=>exact⟨a,rfl,by cases h;rfl⟩
theorem NdO.q {w:World}{B N:Nat}{leaf:Bool}{K:Option Addr}{nk ck:Nat}{vk:List Value}{V:Option Addr}{nv cv:Nat}{vv:List Value}{X:Option Addr}{nx cx:Nat}{vx:List Value}(h:NdO w B N leaf K nk ck vk V nv cv vv X nx cx vx) :
  NdQ w B N leaf (.slice K nk ck) (.slice V nv cv) (.slice X nx cx) (.slice K nk ck) nk vk (.slice V nv cv) nv vv (.slice X nx cx) nx vx:=by
 refine⟨h.nd,h.lo,h.k,h.v,h.x,fun e=>?_,fun e=>?_,fun e=>?_,fun b e e2=>?_,fun b e e2=>?_,fun b e e2=>?_⟩
 ·obtain⟨a,rfl,f⟩:=qbt e;exact h.kN a rfl f
 ·obtain⟨a,rfl,f⟩:=qbt e;exact h.vN a rfl f
 ·obtain⟨a,rfl,f⟩:=qbt e;exact h.xN a rfl f
 ·obtain⟨a,rfl,f⟩:=qbt e;obtain⟨a2,rfl,f2⟩:=qbt e2;exact h.kv a a2 rfl rfl (by rw[f,f2])
 ·obtain⟨a,rfl,f⟩:=qbt e;obtain⟨a2,rfl,f2⟩:=qbt e2;exact h.kx a a2 rfl rfl (by rw[f,f2])
 ·obtain⟨a,rfl,f⟩:=qbt e;obtain⟨a2,rfl,f2⟩:=qbt e2;exact h.vx a a2 rfl rfl (by rw[f,f2])
section
variable {w w':World} {B N:Nat} {leaf:Bool} {c1 c2 c3 k v x:Value} {nk nv nx:Nat} {vk vv vx:List Value}
theorem NdQ.lt (h:NdQ w B N leaf c1 c2 c3 k nk vk v nv vv x nx vx):N<w.heap.size:=(zaa.1 h.nd).1
theorem NdQ.c0' (h:NdQ w B N leaf c1 c2 c3 k nk vk v nv vv x nx vx):w.cell? ⟨N,0,none⟩=some (.bool leaf):=zC h.nd
theorem NdQ.c1' (h:NdQ w B N leaf c1 c2 c3 k nk vk v nv vv x nx vx):w.cell? ⟨N,1,none⟩=some c1:=zC h.nd
theorem NdQ.c2' (h:NdQ w B N leaf c1 c2 c3 k nk vk v nv vv x nx vx):w.cell? ⟨N,2,none⟩=some c2:=zC h.nd
theorem NdQ.c3' (h:NdQ w B N leaf c1 c2 c3 k nk vk v nv vv x nx vx):w.cell? ⟨N,3,none⟩=some c3:=zC h.nd
theorem NdQ.touch {F:Nat→Prop}(h:NdQ w B N leaf c1 c2 c3 k nk vk v nv vv x nx vx)(ht:Touch F w w')(hN:¬F N)(hk:∀ b,k.ownBlock=some b→¬F b)(hv:∀ b,v.ownBlock=some b→¬F b)(hx:∀ b,x.ownBlock=some b→¬F b):NdQ w' B N leaf c1 c2 c3 k nk vk v nv vv x nx vx:=
 ⟨(ht.block N h.lt hN).trans h.nd,h.lo,h.ko.touch ht hk,h.vo.touch ht hv,h.xo.touch ht hx,h.kN,h.vN,h.xN,h.kv,h.kx,h.vx⟩
theorem NdQ.below (h:NdQ w B N leaf c1 c2 c3 k nk vk v nv vv x nx vx)(hb:Below w.heap.size w w'):NdQ w' B N leaf c1 c2 c3 k nk vk v nv vv x nx vx:=
 h.touch (F:=fun _=>False) (Touch.of_below hb) id (fun _ _=>id) (fun _ _=>id) (fun _ _=>id)
theorem NdQ.updK (h:NdQ w B N leaf c1 c2 c3 k nk vk v nv vv x nx vx){k':Value}{nk':Nat}{vk':List Value}(ho:Own w' B 40 1 k' nk' vk')(hu:Upd w w' k k'):NdQ w' B N leaf c1 c2 c3 k' nk' vk' v nv vv x nx vx:=by
 have hl:=h.lt;refine⟨(hu.touch.block N hl h.kN).trans h.nd,h.lo,ho,h.vo.touch hu.touch fun b e e2=>h.kv b e2 e,h.xo.touch hu.touch fun b e e2=>h.kx b e2 e,fun e=>?_,h.vN,h.xN,fun b e e2=>?_,fun b e e2=>?_,h.vx⟩
 ·rcases hu.own N e with h2|h2
  ·exact h.kN h2
  ·omega
 ·rcases hu.own b e with h2|h2
  ·exact h.kv b h2 e2
  ·have:=(h.vo.blk b e2).2;omega
 ·rcases hu.own b e with h2|h2
  ·exact h.kx b h2 e2
  ·have:=(h.xo.blk b e2).2;omega
theorem NdQ.updV (h:NdQ w B N leaf c1 c2 c3 k nk vk v nv vv x nx vx){v':Value}{nv':Nat}{vv':List Value}(ho:Own w' B 40 1 v' nv' vv')(hu:Upd w w' v v'):NdQ w' B N leaf c1 c2 c3 k nk vk v' nv' vv' x nx vx:=by
 have hl:=h.lt;refine⟨(hu.touch.block N hl h.vN).trans h.nd,h.lo,h.ko.touch hu.touch fun b e e2=>h.kv b e e2,ho,h.xo.touch hu.touch fun b e e2=>h.vx b e2 e,h.kN,fun e=>?_,h.xN,fun b e e2=>?_,h.kx,fun b e e2=>?_⟩
 ·rcases hu.own N e with h2|h2
  ·exact h.vN h2
  ·omega
 ·rcases hu.own b e2 with h2|h2
  ·exact h.kv b e h2
  ·have:=(h.ko.blk b e).2;omega
 ·rcases hu.own b e with h2|h2
  ·exact h.vx b h2 e2
  ·have:=(h.xo.blk b e2).2;omega
theorem NdQ.updX (h:NdQ w B N leaf c1 c2 c3 k nk vk v nv vv x nx vx){x':Value}{nx':Nat}{vx':List Value}(ho:Own w' B 222 2 x' nx' vx')(hu:Upd w w' x x'):NdQ w' B N leaf c1 c2 c3 k nk vk v nv vv x' nx' vx':=by
 have hl:=h.lt;refine⟨(hu.touch.block N hl h.xN).trans h.nd,h.lo,h.ko.touch hu.touch fun b e e2=>h.kx b e e2,h.vo.touch hu.touch fun b e e2=>h.vx b e e2,ho,h.kN,h.vN,fun e=>?_,h.kv,fun b e e2=>?_,fun b e e2=>?_⟩
 ·rcases hu.own N e with h2|h2
  ·exact h.xN h2
  ·omega
 ·rcases hu.own b e2 with h2|h2
  ·exact h.kx b e h2
  ·have:=(h.ko.blk b e).2;omega
 ·rcases hu.own b e2 with h2|h2
  ·exact h.vx b e h2
  ·have:=(h.vo.blk b e).2;omega
theorem qaP {e:TypeId}{size n:Nat}{y:Value}{ys:List Value}(h:Own w B e size y n ys)(hN:y.ownBlock≠some N)(i:Nat)(u:Value):Own (w.setCell ⟨N,i,none⟩ u) B e size y n ys:=
 h.keepb (by simp) fun b hb=>zaV w _ u b (fun e=>hN (by rw[hb,e]))
theorem NdQ.st1 (h:NdQ w B N leaf c1 c2 c3 k nk vk v nv vv x nx vx)(u:Value):NdQ (w.setCell ⟨N,1,none⟩ u) B N leaf u c2 c3 k nk vk v nv vv x nx vx:=
 ⟨qac h.nd u,h.lo,qaP h.ko h.kN 1 u,qaP h.vo h.vN 1 u,qaP h.xo h.xN 1 u,h.kN,h.vN,h.xN,h.kv,h.kx,h.vx⟩
theorem NdQ.st2 (h:NdQ w B N leaf c1 c2 c3 k nk vk v nv vv x nx vx)(u:Value):NdQ (w.setCell ⟨N,2,none⟩ u) B N leaf c1 u c3 k nk vk v nv vv x nx vx:=
 ⟨qac h.nd u,h.lo,qaP h.ko h.kN 2 u,qaP h.vo h.vN 2 u,qaP h.xo h.xN 2 u,h.kN,h.vN,h.xN,h.kv,h.kx,h.vx⟩
theorem NdQ.st3 (h:NdQ w B N leaf c1 c2 c3 k nk vk v nv vv x nx vx)(u:Value):NdQ (w.setCell ⟨N,3,none⟩ u) B N leaf c1 c2 u k nk vk v nv vv x nx vx:=
 ⟨qac h.nd u,h.lo,qaP h.ko h.kN 3 u,qaP h.vo h.vN 3 u,qaP h.xo h.xN 3 u,h.kN,h.vN,h.xN,h.kv,h.kx,h.vx⟩
theorem NdQ.nc {K V X:Option Addr}{ck cv cx:Nat}(h:NdQ w B N leaf (.slice K nk ck) (.slice V nv cv) (.slice X nx cx) (.slice K nk ck) nk vk (.slice V nv cv) nv vv (.slice X nx cx) nx vx):Nc w N leaf K nk ck V nv cv X nx cx:=
 ⟨h.c0',h.c1',h.c2',h.c3',h.ko.row.cap,h.vo.row.cap,h.xo.row.cap⟩
end
theorem NdQ.leaf {w:World}{B N:Nat}{k v x:Value}{n:Nat}{vk vv vx:List Value}{ps:List Pr}(h:NdQ w B N true k v x k n vk v n vv x 0 vx)(hn:ps.length=n){S:Nat→Prop}(hN:S N)(hk:∀ b,k.ownBlock=some b→S b)(hv:∀ b,v.ownBlock=some b→S b)(hrk:RowV w S vk (ps.map Prod.fst))(hrv:RowV w S vv (ps.map Prod.snd)):NM w S (.leaf ps) N []:=by
 obtain⟨K,ck,rfl,_⟩:=h.ko.slice;obtain⟨V,cv,rfl,_⟩:=h.vo.slice;obtain⟨X,cx,rfl,_⟩:=h.xo.slice;subst hn;unfold NM;exact⟨rfl,hN,K,ck,V,cv,X,cx,vk,vv,h.nc,h.ko.srcS hk,hrk,h.vo.srcS hv,hrv⟩
end
variable {w:World}
theorem qc7 {B:Nat}{a b:World}{F:Nat→Prop}(h:Below B w a)(hB:B≤a.heap.size)(ht:Touch F a b)(hF:∀ k,F k→k<a.heap.size→B≤k):Below B w b:=
 ⟨ht.os.trans h.os,ht.tape.trans h.tape,ht.output.trans h.output,zam h.size ht.size,fun k hk=>
  (ht.block k (by omega) fun hf=>by have:=hF k hf (by omega);omega).trans (h.block k hk)⟩
def Fr (S:Nat→Prop)(w w':World):Nat→Prop:=fun b=>S b∨(w.heap.size≤b∧b<w'.heap.size)
def LfQ (w wx:World)(N:Nat)(k v:Value)(m:Nat)(vk vv:List Value):Prop:=∃ x vx,NdQ wx w.heap.size N true k v x k m vk v m vv x 0 vx
theorem LfQ.c {wx:World}{N m:Nat}{k v:Value}{vk vv:List Value}(h:LfQ w wx N k v m vk vv):wx.cell? ⟨N,1,none⟩=some k∧wx.cell? ⟨N,2,none⟩=some v:=by
 obtain⟨x,vx,h⟩:=h;exact⟨h.c1',h.c2'⟩
theorem qeX {W:World}{g:Nat}{x:Obj}(o:Obj)(h:W.heap[g]?=some x):(W.alloc o).heap[g]?=some x:=
 (((zai W.heap.size W).alloc (zad _) o).block g (zaa.1 h).1).trans h
section
section
variable {P:Program}
end
theorem qk3 {W:World}{a b c:Addr}{x y z:Value}(h:W.cell? a=some x∧W.cell? b=some y∧W.cell? c=some z)(o:Obj):(W.alloc o).cell? a=some x∧(W.alloc o).cell? b=some y∧(W.alloc o).cell? c=some z:=by
 have k:∀ (q:Addr) (v:Value),W.cell? q=some v→(W.alloc o).cell? q=some v:=fun q v hv=>by
  rw[World.cell?_alloc_some W q o (by rw[hv];rfl)];exact hv
 exact⟨k _ _ h.1,k _ _ h.2.1,k _ _ h.2.2⟩
end
variable {w a b w':World}{S:Nat→Prop}{k:Kd}{N B n:Nat}{v v' x:Value}{vk vx:List Value}
theorem qj5 (l:List Bs):l.length≤qaI l:=by
 induction l with
 | nil=>exact zad _
 | cons k l ih=>
  unfold qaI at ih⊢;simp only[zbD,List.sum_cons,zal]at ih⊢;omega
def NMs (w:World)(S:Nat→Prop):List Kd→List Nat→List (Nat×Nat)→Prop
 | [],Ns,L=>Ns=[]∧L=[]
 | k::ks,Ns,L=>∃ N r L1 L2,Ns=N::r∧L=L1++L2∧NM w S k N L1∧NMs w S ks r L2
def qms (N:Nat):Value:=.pointer (some ⟨N,0,none⟩)
theorem NMs.one {L:List (Nat×Nat)}(h:NM w S k N L):NMs w S [k] [N] L:=⟨N,[],L,[],rfl,by simp,h,rfl,rfl⟩
theorem NMs.two {a b:Kd}{Na Nb:Nat}{La Lb:List (Nat×Nat)}(h:NM w S a Na La)(h2:NM w S b Nb Lb):NMs w S [a,b] [Na,Nb] (La++Lb):=⟨Na,[Nb],La,Lb,rfl,rfl,h,Nb,[],Lb,[],rfl,by simp,h2,rfl,rfl⟩
structure Got (w':World) (S:Nat→Prop) (got:List Kd) (bet:List Bs) (L:List (Nat×Nat)) (g b:Value):Prop where
 ex:∃ A c B cb Ns vb,g=.slice A got.length c∧b=.slice B bet.length cb∧got.length≤c∧bet.length≤cb∧Ns.length=got.length∧SrcS w' S 1 A got.length (Ns.map qms)∧NMs w' S got Ns L∧SrcS w' S 1 B bet.length vb∧RowV w' S vb bet∧(bet.length=1→∃ C u,B=some ⟨C,0,none⟩∧vb=[u]∧w'.heap[C]?=some (.cells #[u] 40 (0,0))∧S C)
def BestM (w wr:World)(S:Nat→Prop)(L:List (Nat×Nat))(s4 s5:Value):Option (Kd×Kd×Bs)→Prop
 | none=>s4=.slice none 0 0∧s5=.slice none 0 0
 | some (a,b,k)=>∃ C Na Nb B c La Lb,s4=.slice (some ⟨C,0,none⟩) 2 2∧wr.heap[C]?=some (.cells #[qms Na,qms Nb] 219 (0,0))∧w.heap.size≤C∧NM wr (Fr S w wr) a Na La∧NM wr (Fr S w wr) b Nb Lb∧s5=.slice B k.length c∧k.length≤c∧ByS wr (Fr S w wr) B k∧(La++Lb).Perm L
theorem Fr.mono (h:a.heap.size≤b.heap.size):∀ k,Fr S w a k→Fr S w b k:=fun k hk=>by
 rcases hk with hk|hk
 ·exact .inl hk
 ·exact .inr ⟨hk.1,by omega⟩
theorem Fr.trans (h:w.heap.size≤a.heap.size)(h2:a.heap.size≤b.heap.size):∀ k,Fr (Fr S w a) a b k→Fr S w b k:=fun k hk=>by
 rcases hk with hk|hk
 ·exact Fr.mono h2 k hk
 ·exact .inr ⟨by omega,hk.2⟩
theorem Fr.base (h:w.heap.size≤a.heap.size):∀ k,Fr S a b k→Fr S w b k:=fun k hk=>by
 rcases hk with hk|hk
 ·exact .inl hk
 ·exact .inr ⟨by omega,hk.2⟩
theorem BestM.below {wr wx:World}{L:List (Nat×Nat)}{s4 s5:Value}{o:Option (Kd×Kd×Bs)}(h:BestM w wr S L s4 s5 o)(hb:Below wr.heap.size wr wx):BestM w wx S L s4 s5 o:=by
 match o,h with
 | none,h=>exact h
 | some (a,b,k),⟨C,Na,Nb,B,c,La,Lb,h1,h2,h3,h4,h5,h6,h7,h8,h9⟩=>
  have hm:=Fr.mono (S:=S) (w:=w) hb.size;exact⟨C,Na,Nb,B,c,La,Lb,h1,(hb.block C (zaa.1 h2).1).trans h2,h3,NM.mono hm _ _ _ (h4.below hb),NM.mono hm _ _ _ (h5.below hb),h6,h7,(h8.same (Same.of_below hb)).mono hm,h9⟩
theorem NM.drew {L:List (Nat×Nat)}(h:NM w S k N L):NM w.drew S k N L:=h.below (zai _ _).drew
theorem qbq (h:w.grownBy w' v.ownBlock)(h2:∀ b,v'.ownBlock=some b→v.ownBlock=some b∨(w.heap.size≤b∧b<w'.heap.size)):Upd w w' v v':=
 ⟨Touch.of_grown h (fun _ e=>e),h2⟩
theorem qaQ {e:TypeId}{size n':Nat}{xs ys:List Value}(h:Own w B e size v n xs)(hB:B≤w.heap.size)(r:Row w' B e size v' n' ys)(hu:Upd w w' v v'):Own w' B e size v' n' ys:=
 ⟨r,fun b e=>by
  rcases hu.own b e with h2|h2
  ·exact⟨(h.blk b h2).1,zag (h.blk b h2).2 hu.touch.size⟩
  ·exact⟨by omega,h2.2⟩⟩
theorem qjv {X:Option Addr}{us:List Value}(h:SrcS w S 2 X n us):∀ x∈qb8 X n,x.1<w.heap.size:=fun x hx=>by
 unfold qb8 at hx;split at hx
 ·cases hx
 ·obtain⟨j,hj,rfl⟩:=zbh.1 hx;have:=za9.1 hj;obtain⟨b,off,e,hS,hc⟩:=h.at_ (by omega);cases e;have hl:=h.src.len;exact qaq (hc 0 us[0] (zab (by omega)))
mutual
theorem NM.lts {S:Nat→Prop}{w:World}:∀ (k:Kd) (N:Nat) (L:List (Nat×Nat)),NM w S k N L→∀ x∈L,x.1<w.heap.size
 | .page _,N,L,hn=>by simp only[NM]at hn
 | .leaf ps,N,L,hn=>by
  simp only[NM]at hn;rw[hn.1];simp
 | .inner ks xs,N,L,hn=>by
  simp only[NM]at hn;obtain⟨a2,K,ck,V,cv,X,cx,vk,vs,L',b1,b2,b3,b4,b5,rfl⟩:=hn;intro x hx;rcases zar.1 hx with hx|hx
  ·exact qjv b4 x hx
  ·exact KM.lts xs vs L' b5 x hx
theorem KM.lts {S:Nat→Prop}{w:World}:∀ (xs:List Kd) (vs:List Kv) (L:List (Nat×Nat)),KM w S xs vs L→∀ x∈L,x.1<w.heap.size
 | [],vs,L,hk=>by simp only[KM]at hk;rw[hk.2];simp
 | x::xs,vs,L,hk=>by
  simp only[KM]at hk;obtain⟨v,r,L1,L2,rfl,rfl,h1,h2⟩:=hk;intro y hy;rcases zar.1 hy with hy|hy
  ·rcases h2 with⟨p,_,_,rfl⟩|⟨N,e,h2⟩
   ·cases hy
   ·exact NM.lts x N L1 h2 y hy
  ·exact KM.lts xs r L2 h1 y hy
end
structure Slo (B:Nat) (L L':List (Nat×Nat)):Prop where
 mem:∀ y∈L',y∈L∨B≤y.1
 nd:L.Nodup→L'.Nodup
theorem Slo.refl (B:Nat)(L:List (Nat×Nat)):Slo B L L:=⟨fun _ h=>.inl h,id⟩
theorem Slo.trans {C:Nat}{L M R:List (Nat×Nat)}(h:Slo B L M)(k:Slo C M R)(hc:B≤C):Slo B L R:=
 ⟨fun y hy=>by
  rcases k.mem y hy with h1|h1
  ·exact h.mem y h1
  ·exact .inr (by omega),fun hl=>k.nd (h.nd hl)⟩
theorem Slo.nil (B:Nat)(L:List (Nat×Nat)):Slo B L []:=⟨by simp,fun _=>zcJ⟩
theorem Slo.sub {L M:List (Nat×Nat)}(h:List.Sublist M L):Slo B L M:=⟨fun y hy=>.inl (h.subset hy),fun hl=>h.nodup hl⟩
theorem qgx (X:Option Addr)(n:Nat):(qb8 X n).Nodup:=by
 unfold qb8;split
 ·exact zcJ
 ·refine List.Pairwise.map _ (fun a b hab e=>hab ?_) (List.nodup_range (n:=n));have:=(Prod.mk.inj e).2;omega
theorem Slo.fresh {L M F:List (Nat×Nat)}(hF:F.Nodup)(hB:∀ x∈F,B≤x.1)(hl:∀ x∈L,x.1<B)(h:List.Sublist M L):Slo B L (F++M):=
 ⟨fun y hy=>by
  rcases zar.1 hy with h1|h1
  ·exact .inr (hB y h1)
  ·exact .inl (h.subset h1),fun hn=>za2.2 ⟨hF,h.nodup hn,fun a ha b hb e=>by
   subst e;have h1:=hB a ha;have h2:=hl a (h.subset hb);omega⟩⟩
theorem qlU {leaf:Bool}{c1 c2 c3 k:Value}{nk nv nx:Nat}{vv:List Value}(h:NdQ w' w.heap.size N leaf c1 c2 c3 k nk vk v nv vv x nx vx) :
  Fr S w w' N∧(∀ b,k.ownBlock=some b→Fr S w w' b)∧(∀ b,v.ownBlock=some b→Fr S w w' b)∧(∀ b,x.ownBlock=some b→Fr S w w' b):=
 ⟨.inr ⟨h.lo,h.lt⟩,fun b e=>.inr (h.ko.blk b e),fun b e=>.inr (h.vo.blk b e),fun b e=>.inr (h.xo.blk b e)⟩
theorem NdQ.inner {k:Value}{m:Nat}{ks:List Bs}{xs:List Kd}{vs:List Kv}{L':List (Nat×Nat)}(h:NdQ w B N false k v x k n vk v 0 [] x m vx)(hn:ks.length=n)(hm:xs.length=m)(hN:S N)(hk:∀ b,k.ownBlock=some b→S b)(hx:∀ b,x.ownBlock=some b→S b)
  (hrk:RowV w S vk ks)(hvx:vx=vs.flatMap qdS)(hkm:KM w S xs vs L'):∃ X,(∀ a,X=some a→x.ownBlock=some a.block)∧NM w S (.inner ks xs) N (qb8 X m++L'):=by
 obtain⟨K,ck,rfl,_⟩:=h.ko.slice;obtain⟨V,cv,rfl,_⟩:=h.vo.slice;obtain⟨X,cx,rfl,_⟩:=h.xo.slice;subst hn hm hvx;refine⟨X,fun a e=>by rw[e];rfl,?_⟩;unfold NM;exact⟨hN,K,ck,V,cv,X,cx,vk,vs,L',h.nc,h.ko.srcS hk,hrk,h.xo.srcS hx,hkm,rfl⟩
end Go.Proofs.YtfcknhbmeofniaaGreatDoor
