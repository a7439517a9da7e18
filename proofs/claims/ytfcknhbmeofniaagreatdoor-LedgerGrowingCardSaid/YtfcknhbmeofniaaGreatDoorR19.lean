/- Texts DcA. -/
import Derived.Test.YtfcknhbmeofniaaGreatDoorR18
set_option linter.all false
set_option maxRecDepth 100000
set_option maxHeartbeats 16000000
namespace Go.Proofs.YtfcknhbmeofniaaGreatDoor
open Go.RowKit BT Go.Lib
variable {prev:Option Bs}{r:Bs}{ks vs:List Bs}{m b off:Nat}{w:World}
def More (leaf:Bool)(m:Nat)(prev:Option Bs)(r:Bs)(ks vs:List Bs):Prop:=
 if leaf then ∃ ps,qf5 m prev r=some (ps,[])∧ks=ps.map Prod.fst∧vs=ps.map Prod.snd else qf4 m prev r=some (ks,[])∧vs=[]
theorem More.zero {leaf:Bool}(h:More leaf 0 prev r ks vs):ks=[]∧vs=[]∧r=[]:=by
 unfold More at h;cases leaf with
 | true=>
  simp only[zb5]at h;obtain⟨ps,h1,rfl,rfl⟩:=h;simp only[qf5,zau,zaE]at h1;obtain⟨rfl,rfl⟩:=h1;exact⟨rfl,rfl,rfl⟩
 | false=>
  simp only[zbY,zcP]at h;obtain⟨h1,rfl⟩:=h;simp only[qf4,zau,zaE]at h1;obtain⟨rfl,rfl⟩:=h1;exact⟨rfl,rfl,rfl⟩
theorem More.succ {leaf:Bool}(h:More leaf (m+1) prev r ks vs):∃ k r1 ks',rowD r=some (k,r1)∧ks=k::ks'∧qeY prev k=true∧
  (leaf=true→∃ v r2 vs',vs=v::vs'∧rowD r1=some (v,r2)∧v.length≤160∧More true m (some k) r2 ks' vs')∧(leaf=false→More false m (some k) r1 ks' vs):=by
 unfold More at h;cases leaf with
 | true=>
  simp only[zb5]at h;obtain⟨ps,h1,rfl,rfl⟩:=h;rw[qdN]at h1;split at h1
  ·cases h1
  ·rename_i k r1 hr;split at h1
   ·rename_i hk;split at h1
    ·cases h1
    ·rename_i v r2 hr2;split at h1
     ·rename_i hv;obtain⟨x,hx,he⟩:=zbd.1 h1;obtain⟨e1,e2⟩:=Prod.mk.inj he;subst e1;refine⟨k,r1,x.1.map Prod.fst,hr,by simp,hk,fun _=>⟨v,r2,x.1.map Prod.snd,by simp,hr2,hv,?_⟩,fun h=>by cases h⟩;unfold More;rw[zax rfl];exact⟨x.1,by rw[hx];exact congrArg some (Prod.ext rfl e2),rfl,rfl⟩
     ·cases h1
   ·cases h1
 | false=>
  simp only[zbY,zcP]at h;obtain⟨h1,rfl⟩:=h;rw[qdM]at h1;split at h1
  ·cases h1
  ·rename_i k r1 hr;split at h1
   ·rename_i hk;obtain⟨x,hx,he⟩:=zbd.1 h1;obtain⟨e1,e2⟩:=Prod.mk.inj he;subst e1;refine⟨k,r1,x.1,hr,rfl,hk,(fun h=>by cases h),fun _=>?_⟩;unfold More;rw[zaC (by simp)];exact⟨by rw[hx];exact congrArg some (Prod.ext rfl e2),rfl⟩
   ·cases h1
theorem qep {P:Program}{t e:TypeId}{i:TypeInfo}{size:Nat}(ht:P.underlying t=some (.slice e))(hi:P.info? e=some i)(hsize:i.size=size)(b off n c lo:Nat)(h1:lo≤n)(h2:n≤c) :
  ∃ o2:Nat,(lo<c→o2=off+lo*size)∧∀ W,(Instr.slice t (.slice (some ⟨b,off,none⟩) n c) (some (.int .i64 (lo:Int))) none none).run P W=.ok (.slice (some ⟨b,o2,none⟩) (n-lo) (c-lo)) W:=by
 by_cases hc:c=lo
 ·refine⟨off,fun h=>by omega,fun W=>?_⟩;subst hc;simp[Instr.slice,Instr.sliceBounds,Instr.sliceBound,asIntOf,zaU ht,sizeOf,typeInfo,hi,hsize,go_sem,h1]
 ·refine⟨off+lo*size,fun _=>rfl,fun W=>?_⟩;simp[Instr.slice,Instr.sliceBounds,Instr.sliceBound,asIntOf,zaU ht,sizeOf,typeInfo,hi,hsize,hc,go_sem,h1]
theorem By.tail {o2 c:Nat}{l:Bs}(h:By w (some ⟨b,off,none⟩) l)(hl:l.length≤c)(ho:m<c→o2=off+m*1):By w (some ⟨b,o2,none⟩) (l.drop m):=by
 by_cases hm:m<l.length
 ·rw[ho (by omega),zcA];exact h.drop m
 ·rw[List.drop_of_length_le (by omega)];exact By.nil _ _
theorem zip_fst_snd (ps:List Pr):(ps.map Prod.fst).zip (ps.map Prod.snd)=ps:=by
 induction ps with
 | nil=>rfl
 | cons p ps ih=>simp only[zbD,List.zip_cons_cons,ih]
theorem qf6 {nd:Kd}(h:qc9 m r=some nd):∃ ks vs,More true m none r ks vs∧nd=.leaf (ks.zip vs)∧0<m:=by
 unfold qc9 at h;obtain⟨x,h1,h2⟩:=zbF.1 h;split at h2
 ·rename_i h3;rw[zaQ,zbf,zcN]at h3;cases h2;refine⟨x.1.map Prod.fst,x.1.map Prod.snd,?_,by rw[zip_fst_snd],h3.2⟩;unfold More;rw[zax rfl];exact⟨x.1,by rw[h1];exact congrArg some (Prod.ext rfl h3.1),rfl,rfl⟩
 ·cases h2
theorem qfn {nd:Kd}(h:qcj m r=some nd):2*(m+1)≤r.length∧∃ ks,More false m none (r.drop (2*(m+1))) ks []∧nd=.inner ks (decKids (m+1) r):=by
 unfold qcj at h;split at h
 ·cases h
 ·rename_i h0;refine⟨by omega,?_⟩;obtain⟨x,h1,h2⟩:=zbF.1 h;split at h2
  ·rename_i h3;rw[zcN]at h3;cases h2;refine⟨x.1,?_,rfl⟩;unfold More;rw[zaC (by simp)];exact⟨by rw[h1];exact congrArg some (Prod.ext rfl h3),rfl⟩
  ·cases h2
theorem qeg:∀ (j:Nat) (r:Bs),decKids (j+1) r=decKids j r++[.page ((r.getD (2*j) 0).toNat*256+(r.getD (2*j+1) 0).toNat)]
 | 0,r=>by simp[decKids]
 | j+1,r=>by
  rw[decKids,qeg j (r.drop 2),decKids,za3];have e:∀ i,(r.drop 2).getD i 0=r.getD (2+i) 0:=fun i=>by
   rw[zaq,zaq,zaJ]
  rw[e,e,show 2+2*j=2*(j+1) by omega,show 2+(2*j+1)=2*(j+1)+1 by omega]
theorem qkr (n x:Nat)(hn:n<65536)(hx:x<256):bits BinOp.or IntKind.i64 ((n:Int)*256) (x:Int)=((n*256+x:Nat):Int):=by
 have e1:((n:Int)*256)=((n*256:Nat):Int):=by omega
 have Ha:n*256 ||| x<2 ^ 32:=Nat.or_lt_two_pow (by omega) (by omega)
 have h1:(BitVec.ofInt 64 ((n*256:Nat):Int)).toNat=n*256:=by
  rw[zbC,zbu];exact zbs (by omega)
 have h2:(BitVec.ofInt 64 (x:Int)).toNat=x:=by
  rw[zbC,zbu];exact zbs (by omega)
 rw[e1];show IntKind.i64.wrap ((BitVec.ofInt 64 ((n*256:Nat):Int) ||| BitVec.ofInt 64 (x:Int)).toNat:Int)=_;rw[BitVec.toNat_or,h1,h2,zaA _ (by omega)];have:=Nat.shiftLeft_add_eq_or_of_lt (i:=8) (by omega:x<2 ^ 8) n;rw[Nat.shiftLeft_eq]at this;rw[←this]
theorem qaO {W W':World}{S:Nat→Prop}:∀ {xs:List Kd} {vs:List Kv},(∀ x∈xs,∃ p,x=.page p)→KM W S xs vs []→KM W' S xs vs []
 | [],vs,_,h=>by
  simp only[KM]at h⊢;exact h
 | x::xs,vs,hp,h=>by
  obtain⟨v,r,L1,L2,rfl,hL,h1,h2⟩:=km_cons.1 h;obtain⟨rfl,rfl⟩:=zcF.1 hL.symm;refine km_cons.2 ⟨v,r,[],[],rfl,rfl,qaO (fun y hy=>hp y (zba _ hy)) h1,?_⟩;rcases h2 with h2|⟨N,e,h2⟩
  ·exact .inl h2
  ·obtain⟨p,rfl⟩:=hp x (by simp);simp only[NM]at h2
structure DcC (w wx:World) (S:Nat→Prop) (b N m:Nat) (leaf:Bool) (nd:Kd) (s0:Value):Prop where
 ex:∃ o cc xs r' ks vs x vx,s0=.slice (some ⟨b,o,none⟩) (List.length (α:=UInt8) r') cc∧r'.length≤cc∧r'.length≤1048576∧By wx (some ⟨b,o,none⟩) r'∧
  NdQ wx w.heap.size N leaf (.slice none 0 0) (.slice none 0 0) x (.slice none 0 0) 0 [] (.slice none 0 0) 0 [] x (List.length (α:=Kd) xs) (List.flatMap (α:=Kv) qdS vx)∧KM wx S xs vx []∧More leaf m none r' ks vs∧(leaf=true→nd=.leaf (ks.zip vs)∧0<m)∧(leaf=false→nd=.inner ks xs)∧Below w.heap.size w wx∧(∀ x∈xs,∃ p,x=.page p)∧(leaf=true→xs.length=0)
structure DcP (w wr:World) (S:Nat→Prop) (b N m:Nat) (leaf:Bool) (nd:Kd) (s0:Value) (j o cc:Nat) (r:Bs) (ks vs rks rvs:List Bs) (k v x:Value) (vk vv:List Value) (vx:List Kv) (xs:List Kd):Prop where
 hj:j≤m
 s0:s0=.slice (some ⟨b,o,none⟩) r.length cc
 hcc:r.length≤cc
 hl:r.length≤1048576
 by_:By wr (some ⟨b,o,none⟩) r
 hks:ks.length=j
 more:More leaf (m-j) ks.getLast? r rks rvs
 q:NdQ wr w.heap.size N leaf k v x k j vk v vs.length vv x xs.length (vx.flatMap qdS)
 rk:RowV wr (fun c=>c=b) vk ks
 rv:RowV wr (fun c=>c=b) vv vs
 v1:leaf=true→vs.length=j
 v2:leaf=false→vs=[]∧rvs=[]
 km:KM wr S xs vx []
 pg:∀ x∈xs,∃ p,x=.page p
 x0:leaf=true→xs.length=0
 n1:leaf=true→nd=.leaf ((ks++rks).zip (vs++rvs))∧0<m
 n2:leaf=false→nd=.inner (ks++rks) xs
 bw:Below w.heap.size w wr
def DcL (w wr:World)(S:Nat→Prop)(b N m:Nat)(leaf:Bool)(nd:Kd)(s0:Value)(j:Nat):Prop:=
 ∃ o cc r ks vs rks rvs k v x vk vv vx xs,DcP w wr S b N m leaf nd s0 j o cc r ks vs rks rvs k v x vk vv vx xs
theorem qbv {w':World}{F:Nat→Prop}{vs:List Value}(h:RowV w (fun c=>c=b) vs ks)(ht:Touch F w w')(hb:¬F b):RowV w' (fun c=>c=b) vs ks:=
 h.same (Same.of_touch ht (fun c hc=>by rw[hc];exact hb))
theorem qkD {k r1:Bs}(h:rowD r=some (k,r1)):r1.length≤r.length:=by
 cases r with
 | nil=>simp[rowD]at h
 | cons n r=>
  rw[qcg]at h;split at h
  ·cases h
  ·simp only[zau,zaE]at h;rw[←h.2,zap,zal];omega
def DcF (S:Nat→Prop)(n:Kd)(w:World)(e:Ending)(w':World):Prop:=
 ∃ N L,e=.returned (.tuple #[.pointer (some ⟨N,0,none⟩),.bool true])∧NM w' (Fr S w w') n N L∧Below w.heap.size w w'∧Slo w.heap.size [] L
theorem qhK {S:Nat→Prop}{c len:Nat}{l:Bs}{nd:Kd}(h:By w (some ⟨b,off,none⟩) l)(hS:S b)(hlen:l.length=len)(hc:len≤c)(hl:len≤1048576)(hd:decK l=some nd) :
  Calls Tryz.prog 146 #[.slice (some ⟨b,off,none⟩) len c] w (DcF S nd w):=by
 match l,hd with
 | t::mm::r,hd=>
  rw[qdn]at hd;obtain⟨m,hm⟩:∃ m,mm.toNat=m:=⟨_,rfl⟩;rw[hm]at hd;have Kq:m<256:=by rw[←hm];exact mm.toNat_lt
  obtain⟨b',o',e',hbl,hcell⟩:=h.at_ (by simp);cases e';have Kl:w.cell? ⟨b,off,none⟩=some (.int .u8 (t.toNat:Int)):=by simpa using hcell 0 t rfl
  have Km:w.cell? ⟨b,off+1,none⟩=some (.int .u8 (m:Int)):=by rw[←hm];exact hcell 1 mm rfl
  have kd:r.length+2=len:=by simpa using hlen
  have Kw:=zH (show By w (some ⟨b,off,none⟩) (t::mm::r)from h);obtain⟨tn,htn⟩:∃ n,t.toNat=n:=⟨_,rfl⟩;obtain⟨leaf,hlf,hgt,heq⟩:∃ leaf:Bool,(leaf=true→qc9 m r=some nd)∧decide ((tn:Int)>1)=false∧((tn:Int)==0)=leaf∧(leaf=false→qcj m r=some nd):=by
   split at hd
   ·rename_i h0;subst h0;subst htn;exact⟨true,fun _=>hd,rfl,rfl,fun h=>by cases h⟩
   ·split at hd
    ·rename_i h1;subst h1;subst htn;exact⟨false,fun h=>(by cases h),rfl,rfl,fun _=>hd⟩
    ·cases hd
  obtain⟨heq,hin⟩:=heq;rw[htn]at Kl;have KA:=zH hlf;have Ky:=zH hin;obtain⟨i0,hi0,hz0,hz1,hz2⟩:=zaY qcu;obtain⟨o2,ho2,r2⟩:=qep (P:=Tryz.prog) Tryz.underlying40 hi0 hz1 b off len c 2 (by omega) hc;have K6:0<len:=by omega
  have K7:1<len:=by omega
  have KC:=zH ho2;have K8:∀ W,(Instr.slice 40 (.slice (some ⟨b,off,none⟩) len c) (some (.int .i64 2)) none none).run Tryz.prog W=.ok (.slice (some ⟨b,o2,none⟩) (len-2) (c-2)) W:=r2;have kh:¬((len:Int)≤1):=by omega
  have kg:IntKind.i64.wrap (m:Int)=(m:Int):=zaA _ (by omega);clear h hcell ho2 hlf hin hd htn r2;have d0:decide ((len:Int)<2)=false:=zan (by omega);go_enter Tryz.func146,Tryz.ntmps146
  go_upto_region 4 with fail
  have hA:=zH (zae w (.cells #[.bool leaf,.slice none 0 0,.slice none 0 0,.slice none 0 0] 225));have H9:Hd (Below w.heap.size w (w.alloc (.cells #[.bool leaf,.slice none 0 0,.slice none 0 0,.slice none 0 0] 225))):=zH (zB _ _);have h7:=zH (show w.heap.size≤w.heap.size from zad _);obtain⟨N,hN⟩:∃ N,w.heap.size=N:=⟨_,rfl⟩;have K9:=zH hN;rw[hN]at hA⊢;rw[show(Hd (w.heap.size≤w.heap.size))=Hd (w.heap.size≤N)by rw[hN]]at h7;clear hN;generalize w.alloc (.cells #[.bool leaf,.slice none 0 0,.slice none 0 0,.slice none 0 0] 225)=w0 at hA H9⊢;have hb:Hd (NdQ w0.drew w.heap.size N leaf (.slice none 0 0) (.slice none 0 0) (.slice none 0 0) (.slice none 0 0) 0 [] (.slice none 0 0) 0 [] (.slice none 0 0) 0 []):=zH ⟨hA.o,h7.o,Own.nil _ _ _ _,Own.nil _ _ _ _,Own.nil _ _ _ _,(fun e=>by cases e),(fun e=>by cases e),(fun e=>by cases e),(fun _ e=>by cases e),(fun _ e=>by cases e),(fun _ e=>by cases e)⟩;have Ha:=zH (show w0.drew.cell? ⟨b,off+1,none⟩=some (.int .u8 (m:Int))from(H9.o.cell (p:=⟨b,off+1,none⟩) hbl).trans Km);refine qad (S:=fun W=>W.cell? ⟨b,off+1,none⟩=some (.int .u8 (m:Int))) [] (by kernel_rfl) Ha.o (fun _=>?_);refine zP 0 27 (.slice (some ⟨b,off,none⟩) len c) Ha.o ?_;try simp only[zS]
  refine zP 1 28 (.pointer (some ⟨b,off+1,none⟩)) Ha.o ?_;try simp only[zS]
  refine zL 2 29 (.int .u8 (m:Int)) rfl (Or.inl ⟨by rfl,fun W hS=>by go_simp⟩) (qab Ha.o) ?_;try simp only[zS]
  refine zP 3 30 (.int .i64 (m:Int)) Ha.o ?_;try simp only[zS]
  refine zP 4 31 (.slice (some ⟨b,off,none⟩) len c) Ha.o ?_;try simp only[zS]
  refine zP 5 32 (.slice (some ⟨b,o2,none⟩) (len-2) (c-2)) Ha.o ?_;try simp only[zS]
  refine zP 6 5 (.int .i64 (m:Int)) Ha.o ?_;try simp only[zS]
  refine zP 7 0 (.slice (some ⟨b,o2,none⟩) (len-2) (c-2)) Ha.o ?_;try simp only[zS]
  refine qaf (by kernel_rfl) ?_ _;have Hu:Below w.heap.size w w0.drew:=H9.o.drew;obtain⟨len2,hlen2⟩:∃ n,len-2=n:=⟨_,rfl⟩;obtain⟨c2,hc2⟩:∃ n,c-2=n:=⟨_,rfl⟩;have Hk:=zH (show r.length=len2∧len2≤c2∧By w0.drew (some ⟨b,o2,none⟩) r from⟨by omega,by omega,by
   have:=(Kw.o.tail (m:=2) (o2:=o2) (c:=c) (by simp;omega) KC.o).below Hu;simpa using this⟩)
  rw[hlen2,hc2];have HL:=hb.o.c0';clear Kl Km hgt heq d0 K8;generalize w0.drew=W0 at hb H9 Ha Hk Hu HL⊢;go_upto_if 37 with fail
  go_cut [0,37] (fun s0 s37 wx=>DcC w wx S b N m leaf nd s0)
  case first=>
   cases leaf with
   | true=>
    go_wp2;go_meet
    case rel=>
     obtain⟨ks,vs,h1,h2,h3⟩:=qf6 (KA.o (by trivial));refine⟨⟨o2,c2,[],r,ks,vs,.slice none 0 0,[],by rw[Hk.o.1],by rw[Hk.o.1];exact Hk.o.2.1,by rw[Hk.o.1];omega,Hk.o.2.2,hb.o,qj4,h1,fun _=>⟨h2,h3⟩,(fun h=>by cases h),Hu,by simp,fun _=>rfl⟩⟩
   | false=>
    obtain⟨hlr,ks,hmore,hnd⟩:=qfn (Ky.o (by trivial));have HY:=zH hmore;have KB:=zH hnd;have hz:=zH hlr;have KX:IntKind.i64.wrap ((m:Int)+1)=((m+1:Nat):Int):=by rw[zaA _ (by omega)];omega
    have Ks:IntKind.i64.wrap (2*((m+1:Nat):Int))=((2*(m+1):Nat):Int):=by rw[zaA _ (by omega)];omega
    have KZ:=Hk.o.1;have d1:decide ((len2:Int)<((2*(m+1):Nat):Int))=false:=zan (by omega);obtain⟨m1,hm1⟩:∃ x,m+1=x:=⟨_,rfl⟩;rw[hm1]at KX Ks d1;obtain⟨m2,hm22⟩:∃ x,2*m1=x:=⟨_,rfl⟩;have Kp:=hm22;rw[hm22]at Ks d1;have HF:¬((len2:Int)<(m2:Int)):=by omega
    clear hmore hnd hlr KZ;go_wp2;go_loopw [0,46] (fun s0 i wr=>∃ (j o cc:Nat) (x:Value) (vx:List Kv),i=.int .i64 j∧j≤m1∧s0=.slice (some ⟨b,o,none⟩) (r.drop (2*j)).length cc∧(r.drop (2*j)).length≤cc∧By wr (some ⟨b,o,none⟩) (r.drop (2*j))∧NdQ wr w.heap.size N false (.slice none 0 0) (.slice none 0 0) x (.slice none 0 0) 0 [] (.slice none 0 0) 0 [] x j (vx.flatMap qdS)∧KM wr S (decKids j r) vx []∧Below w.heap.size w wr) (fun _ i _=>m1-(RowKit.intOf i).toNat)
    case atStart=>exact⟨0,o2,c2,.slice none 0 0,[],rfl,by omega,by rw[Nat.mul_zero,zbS,Hk.o.1],by rw[Nat.mul_zero,zbS,Hk.o.1];exact Hk.o.2.1,Hk.o.2.2,hb.o,qj4,Hu⟩
    case round=>
     rename World=>wr;obtain⟨j,o,cc,x,vx,rfl,hj,rfl,hcc,hby,hq,hkm,hbw⟩:=hrel;by_cases hlt:j<m1
     ·obtain⟨b0,b1,hb0,hb1⟩:∃ b0 b1,r[2*j]?=some b0∧r[2*j+1]?=some b1:=⟨_,_,zab (by have:=hz.o;omega),zab (by have:=hz.o;omega)⟩;obtain⟨R,hR⟩:∃ R,r.drop (2*j)=R:=⟨_,rfl⟩;have KJ:R.length=r.length-2*j:=by rw[←hR,zap]
      obtain⟨q,hq0⟩:∃ q,R.length=q:=⟨_,rfl⟩;have KY:2≤q:=by have:=hz.o;omega
      have Ki:R[0]?=some b0:=by rw[←hR,zaJ];exact hb0
      have Kj:R[1]?=some b1:=by rw[←hR,zaJ];exact hb1
      rw[hR]at hcc hby⊢;obtain⟨b',o',e',hbl2,hcell⟩:=hby.at_ (by omega);cases e';have Hy:wr.cell? ⟨b,o,none⟩=some (.int .u8 (b0.toNat:Int)):=hcell 0 b0 Ki;have hW:wr.cell? ⟨b,o+1,none⟩=some (.int .u8 (b1.toNat:Int)):=hcell 1 b1 Kj;obtain⟨p,hp⟩:∃ p,b0.toNat*256+b1.toNat=p:=⟨_,rfl⟩;have KG:=zH (show decKids (j+1) r=decKids j r++[.page p]by
       rw[qeg,zaq,zaq,hb0,hb1];simp[←hp])
      obtain⟨y0,hy0⟩:∃ y,b0.toNat=y:=⟨_,rfl⟩;obtain⟨y1,hy1⟩:∃ y,b1.toNat=y:=⟨_,rfl⟩;have K5:y0<256:=by rw[←hy0];exact b0.toNat_lt
      have hY:y1<256:=by rw[←hy1];exact b1.toNat_lt
      rw[hy0,hy1]at hp;rw[hy0]at Hy;rw[hy1]at hW;rw[hq0]at hcc⊢;obtain⟨o3,ho3,r3⟩:=qep (P:=Tryz.prog) Tryz.underlying40 hi0 hz1 b o q cc 2 KY hcc;have kj:∀ W,(Instr.slice 40 (.slice (some ⟨b,o,none⟩) q cc) (some (.int .i64 2)) none none).run Tryz.prog W=.ok (.slice (some ⟨b,o3,none⟩) (q-2) (cc-2)) W:=r3;have HT:=zH (show By wr (some ⟨b,o3,none⟩) (R.drop 2)from hby.tail (c:=cc) (by omega) ho3);have He:=zH hq;have Hp:=zH hkm;have Hl:=zH hbw;have KF:=zH hR;have Hs:=zH (show ∀ x∈decKids j r,∃ p,x=.page p from fun x hx=>by obtain⟨p,e,_⟩:=(qb9 j r).2 x hx;exact⟨p,e⟩);have KE:=zH (show R.length=q from hq0);obtain⟨j0,hj0,jz0,jz1,jz2⟩:=zaY qhU;clear hcell hby hq hkm hbw hR Ki Kj ho3 r3 KJ;go_upto_region 10 with fail
      have Ha:=zH (show wr.drew.cell? ⟨N,3,none⟩=some x∧wr.drew.cell? ⟨b,o,none⟩=some (.int .u8 (y0:Int))∧wr.drew.cell? ⟨b,o+1,none⟩=some (.int .u8 (y1:Int))from⟨He.o.c3',Hy,hW⟩);have HP:=zH (He.o.below (zai _ _).drew);have ho:=zH Hl.o.drew;have h8:=zH (HT.o.below (zai _ _).drew);have HU:=zH (Hp.o.below (zai _ _).drew);have q0:¬(q=0):=by omega
      have q1:¬((q:Int)≤1):=by omega
      have ke:IntKind.i64.wrap (y0:Int)=(y0:Int):=zaA _ (by omega);have K3:IntKind.i64.wrap (y1:Int)=(y1:Int):=zaA _ (by omega);have kf:IntKind.i64.wrap ((y0:Int)*256)=(y0:Int)*256:=zaA _ (by omega);have kc:bits BinOp.or IntKind.i64 ((y0:Int)*256) (y1:Int)=(p:Int):=by rw[qkr y0 y1 (by omega) hY,hp]
      clear He Hl HT Hp Hy hW;refine qad (S:=fun W=>W.cell? ⟨N,3,none⟩=some x∧W.cell? ⟨b,o,none⟩=some (.int .u8 (y0:Int))∧W.cell? ⟨b,o+1,none⟩=some (.int .u8 (y1:Int))) [20] (by kernel_rfl) Ha.o (fun _=>?_);generalize wr.drew=W0 at Ha HP ho h8 HU⊢;refine zP 0 48 (.pointer (some ⟨N,0,none⟩)) Ha.o ?_;try simp only[zS]
      refine zP 1 49 (.pointer (some ⟨N,0,none⟩)) Ha.o ?_;try simp only[zS]
      refine zP 2 50 (.pointer (some ⟨N,0,none⟩)) Ha.o ?_;try simp only[zS]
      refine zP 3 51 (.pointer (some ⟨N,3,none⟩)) Ha.o ?_;try simp only[zS]
      refine zL 4 52 (x) rfl (Or.inl ⟨by rfl,fun W hS=>by obtain⟨hS1,hS2,hS3⟩:=hS;go_simp⟩) (qab Ha.o) ?_;try simp only[zS]
      refine zP 5 53 (.slice (some ⟨b,o,none⟩) q cc) Ha.o ?_;try simp only[zS]
      refine zP 6 54 (.pointer (some ⟨b,o,none⟩)) Ha.o ?_;try simp only[zS]
      refine zL 7 55 (.int .u8 (y0:Int)) rfl (Or.inl ⟨by rfl,fun W hS=>by obtain⟨hS1,hS2,hS3⟩:=hS;go_simp⟩) (qab Ha.o) ?_;try simp only[zS]
      refine zP 8 56 (.int .i64 (y0:Int)) Ha.o ?_;try simp only[zS]
      refine zP 9 57 (.int .i64 ((y0:Int)*256)) Ha.o ?_;try simp only[zS]
      refine zP 10 58 (.slice (some ⟨b,o,none⟩) q cc) Ha.o ?_;try simp only[zS]
      refine zP 11 59 (.pointer (some ⟨b,o+1,none⟩)) Ha.o ?_;try simp only[zS]
      refine zL 12 60 (.int .u8 (y1:Int)) rfl (Or.inl ⟨by rfl,fun W hS=>by obtain⟨hS1,hS2,hS3⟩:=hS;go_simp⟩) (qab Ha.o) ?_;try simp only[zS]
      refine zP 13 61 (.int .i64 (y1:Int)) Ha.o ?_;try simp only[zS]
      refine zP 14 62 (.int .i64 (p:Int)) Ha.o ?_;try simp only[zS]
      refine zP 15 63 (.agg #[.int .i64 (p:Int),.pointer none]) Ha.o ?_;try simp only[zS]
      refine zE 16 64 rfl (fun Kr hKr=>?_);refine Eq.mpr (zax (by rfl)) ?_;refine qaU 223 (.tmp 63) rfl Tryz.underlying223 hj0 jz0 jz1 (by decide) (by decide) (.agg #[.int .i64 (p:Int),.pointer none]) rfl [.int .i64 (p:Int),.pointer none] (by rfl) rfl ?_;have HC:=zH (HP.o.below ((zai _ _).alloc (zad _) (.cells #[.int .i64 (p:Int),.pointer none] 222)));have HR:=zH (ho.o.alloc ho.o.size (.cells #[.int .i64 (p:Int),.pointer none] 222));have h5:=zH (show Src (W0.alloc (.cells #[.int .i64 (p:Int),.pointer none] 222)) 2 (some ⟨W0.heap.size,0,none⟩) 1 [.int .i64 (p:Int),.pointer none]from qas (zae W0 (.cells #[.int .i64 (p:Int),.pointer none] 222)) rfl);have hM:Below W0.heap.size W0 (W0.alloc (.cells #[.int .i64 (p:Int),.pointer none] 222)):=zB _ _;have KH:=zH (h8.o.below hM);have hu:=zH (HU.o.below hM);have hr:=zH (show(W0.alloc (.cells #[.int .i64 (p:Int),.pointer none] 222)).cell? ⟨N,3,none⟩=some x∧(W0.alloc (.cells #[.int .i64 (p:Int),.pointer none] 222)).cell? ⟨b,o,none⟩=some (.int .u8 (y0:Int))∧(W0.alloc (.cells #[.int .i64 (p:Int),.pointer none] 222)).cell? ⟨b,o+1,none⟩=some (.int .u8 (y1:Int))from qk3 Ha.o _);clear hM;obtain⟨C,hC⟩:∃ C,W0.heap.size=C:=⟨_,rfl⟩;rw[hC]at h5⊢;clear hC;generalize W0.alloc (.cells #[.int .i64 (p:Int),.pointer none] 222)=W3 at *;refine hKr.out _ _ (qab hr.o) (fun _=>?_);clear hKr Kr;try simp only[zS]
      refine zE 17 65 rfl (fun Kr hKr=>?_);refine Eq.mpr (zax (by rfl)) ?_;refine qaS (.tmp 52) (.tmp 64) 223 rfl w.heap.size 222 j0 _ 2 16 Tryz.underlying223 hj0 jz0 jz1 jz2 rfl (by decide) x j (vx.flatMap qdS) rfl HC.o.xo.row (some ⟨C,0,none⟩) 1 1 [.int .i64 (p:Int),.pointer none] rfl h5.o (by simp;exact⟨rfl,rfl⟩) (by unfold maxLen;omega) (by omega) HR.o.size ?_;intro A4 c4 W4 q1' q2' q3';have HM:=qbq q2' q3';have Hf:=zH (HC.o.updX (qaQ HC.o.xo HR.o.size q1' HM) HM);have Hz:=zH (qc7 HR.o HR.o.size HM.touch (fun b e _=>(HC.o.xo.blk b e).1));have hh:x.ownBlock≠some b:=fun e=>by have:=(HC.o.xo.blk b e).1;omega
      have KI:=zH (KH.o.touch HM.touch (fun ad e=>by cases e;exact hh));have Hq:=zH (qaO (W':=W4) Hs.o hu.o);have Ko:b<W3.heap.size:=zag hbl HR.o.size;have hs:=zH (show W4.cell? ⟨N,3,none⟩=some x∧W4.cell? ⟨b,o,none⟩=some (.int .u8 (y0:Int))∧W4.cell? ⟨b,o+1,none⟩=some (.int .u8 (y1:Int))from⟨Hf.o.c3',(qaj HM.touch Ko hh).trans hr.o.2.1,(qaj HM.touch Ko hh).trans hr.o.2.2⟩);clear q1' q2' q3' HM hh;refine hKr.out _ _ (qab hs.o) (fun _=>?_);clear hKr Kr;try simp only[zS]
      refine zP 18 66 (.pointer (some ⟨N,0,none⟩)) hs.o ?_;try simp only[zS]
      refine zP 19 67 (.pointer (some ⟨N,3,none⟩)) hs.o ?_;try simp only[zS]
      have hD:=zH (show W4.there N 3 1 from there_of_block Hf.o.nd 3 (by simp));refine qam (rs:=[20]) (by kernel_rfl) (by simp) ?_;refine AllReadyG.store rfl 223 (.tmp 67) (.tmp 65) rfl rfl rfl N 3 (.slice A4 (j+1) c4) rfl rfl hD.o (by kernel_rfl) rfl (qaD 20 (by rfl) (by kernel_rfl)) ?_ AllReadyG.nil;have HD:=zH (Hf.o.st3 (.slice A4 (j+1) c4));have h4:=zH (Hz.o.setCell (p:=⟨N,3,none⟩) Hf.o.lo (.slice A4 (j+1) c4));have h9:=zH (KI.o.touch (Touch.setCell (F:=fun k=>k=N) (Touch.refl _ _) (p:=⟨N,3,none⟩) rfl (.slice A4 (j+1) c4)) (fun ad e=>by cases e;exact fun e=>by have:=Hf.o.lo;have h2:b=N:=e;omega));have HV:=zH (qaO (W':=W4.setCell ⟨N,3,none⟩ (.slice A4 (j+1) c4)) Hs.o Hq.o);generalize W4.setCell ⟨N,3,none⟩ (.slice A4 (j+1) c4)=W5 at HD h4 h9 HV⊢;try simp only[zS]
      refine qaf (by kernel_rfl) ?_ _;go_wp2;have ed:r.drop (2*(j+1))=R.drop 2:=by rw[←KF.o,zb2];congr 1
      have Kg:(R.drop 2).length=q-2:=by rw[zap,KE.o]
      refine⟨⟨j+1,o3,cc-2,.slice A4 (j+1) c4,vx++[((p:Int),none)],by simp,by omega,by rw[ed,Kg],by rw[ed,Kg];omega,by rw[ed];exact h9.o,?_,?_,h4.o⟩,by simp[RowKit.intOf];omega⟩
      ·rw[zaK];exact HD.o
      ·rw[KG.o];exact qg1 HV.o (qmK (.inl ⟨p,rfl,rfl,rfl⟩))
     ·obtain rfl:j=m1:=by omega
      have He:=zH hq;have Hp:=zH hkm;have Hl:=zH hbw;have Kx:=zH hby
      clear hby hq hkm hbw;go_wp2;go_meet
      case rel=>
       refine⟨o,cc,decKids j r,r.drop (2*j),ks,[],x,vx,rfl,hcc,by rw[zap];have:=Hk.o.1;omega,Kx.o,?_,Hp.o,?_,(fun h=>by cases h),fun _=>?_,Hl.o,fun x hx=>by obtain⟨p,e,_⟩:=(qb9 j r).2 x hx;exact⟨p,e⟩,fun h=>by cases h⟩
       ·rw[(qb9 j r).1];exact He.o
       ·rw[←hm1];exact HY.o
       ·rw[←hm1];exact KB.o
  case rest=>
   rename World=>wx;obtain⟨o,cc,xs,r',ks,vs,x,vx,e0,hcc,hrl',hby,hq,hkm,hmore,HF,hn2,hbw,hpg,Hy⟩:=hcut.ex;have hw:=zH (show DcL w wx S b N m leaf nd u0 0 from⟨o,cc,r',[],[],ks,vs,_,_,x,[],[],vx,xs,by omega,e0,hcc,hrl',hby,rfl,hmore,hq,rfl,rfl,fun _=>rfl,fun h=>⟨rfl,by subst h;unfold More at hmore;rw[zaC (by simp)]at hmore;exact hmore.2⟩,hkm,hpg,Hy,HF,hn2,hbw⟩);clear e0 hcc hrl' hby hq hkm hmore HF hn2 hbw hpg Hy hcut;obtain⟨i1,hi1,hy0,hy1,hy2⟩:=zaY qma;go_wp2;go_loopw [0,72] (fun s0 i wr=>∃ j:Nat,i=.int .i64 j∧DcL w wr S b N m leaf nd s0 j) (fun _ i _=>m-(RowKit.intOf i).toNat)
   case atStart=>exact⟨0,rfl,hw.o⟩
   case round=>
    rename World=>wr;obtain⟨j,rfl,o,cc,r1,ks1,vs1,rks,rvs,k,v,x1,vk,vv,vx1,xs1,hP⟩:=hrel;obtain⟨hj,rfl,hcc,hrl',hby,hks,hmore,hq,hrk,hrv,hv1,hv2,hkm,hpg,Hy,HF,hn2,hbw⟩:=hP;have Kb:=zH Hy;clear Hy;by_cases hlt:j<m
    ·obtain⟨mj,hmj⟩:∃ mj,m-j=mj+1:=⟨m-j-1,by omega⟩;rw[hmj]at hmore;obtain⟨key,ra,rks',hra,rfl,hok,hlf2,hin2⟩:=hmore.succ;have Hv:klen key:=by
      unfold qeY at hok;rw[zaQ,zaQ,zbf,zbf]at hok;exact⟨hok.1.1,hok.1.2⟩
     obtain⟨n1,hn1l⟩:∃ n,r1.length=n:=⟨_,rfl⟩;rw[hn1l]at hcc hrl'⊢;have HI:=zH (show ra.length≤1048576 by have:=qkD hra;omega);have hf:=zH (qiH b o n1 cc r1 key ra wr hby hn1l hcc hrl' hra (by have:=Hv.2;omega));obtain⟨K,ck,rfl,hkc⟩:=hq.ko.slice;have He:=zH hq;have HQ:=zH hrk;have H4:=zH hrv;have Hp:=zH hkm;have Hs:=zH hpg;have Hl:=zH hbw;have HX:=zH hlf2;have ht:=zH hin2;have ha:=zH HF;have hB:=zH hn2;have hI:=zH hv1;have hJ:=zH hv2;have KD:=zH hok;have Hr:=zH hks;obtain⟨kl,hkl⟩:∃ n,key.length=n:=⟨_,rfl⟩;have h6:=zH hkl;have KW:1≤kl:=by rw[←hkl];exact Hv.1
     have hQ:kl≤24:=by rw[←hkl];exact Hv.2
     unfold RwF at hf;rw[hkl]at hf;obtain⟨ral,hral⟩:∃ n,ra.length=n:=⟨_,rfl⟩;have Ht:=zH hral;rw[hral]at hf;clear hq hrk hrv hkm hpg hbw hlf2 hin2 HF hn2 hv1 hv2 hok hks hkl hral hmore hra hby Hv hw hn1l;go_upto_region 16 with(go_at_call 151;refine hf.o.mono ?_;rintro e w2 ⟨A1,o2,c2,rfl,hA1,hb1,hb2,hc2,hbw2⟩;have Kt:=zH hA1;have hL:=zH hb1;have Kc:=zH hb2;have Hb:=zH hbw2;clear hA1 hb1 hb2 hbw2)
     go_cut [116] (fun s116 wy=>s116=.bool false∧Below w2.heap.size w2 wy)
     case first=>
      have KV:¬(kl=0):=by omega
      have e1:((kl:Int)==0)=false:=by rw[zaN];omega
      have e2:decide ((kl:Int)>24)=false:=zan (by omega);have Kn:¬((kl:Int)>24):=by omega
      have hU:kl≤24:=hQ;have HP:=zH (He.o.below Hb.o);by_cases hj0:j=0
      ·subst hj0;have Ha:=zH (show w2.drew.cell? ⟨N,1,none⟩=some (.slice K 0 ck)from HP.o.c1');refine qad (S:=fun W=>W.cell? ⟨N,1,none⟩=some (.slice K 0 ck)) [] (by kernel_rfl) Ha.o (fun _=>?_);refine zP 0 80 (.bool true) Ha.o ?_;try simp only[zS]
       refine zP 1 81 (.bool false) Ha.o ?_;try simp only[zS]
       refine zP 2 82 (.bool false) Ha.o ?_;try simp only[zS]
       refine zP 3 83 (.slice A1 kl kl) Ha.o ?_;try simp only[zS]
       refine zP 4 84 (.int .i64 (kl:Int)) Ha.o ?_;try simp only[zS]
       refine zP 5 85 (.bool false) Ha.o ?_;try simp only[zS]
       refine zP 6 86 (.bool false) Ha.o ?_;try simp only[zS]
       refine zP 7 87 (.bool false) Ha.o ?_;try simp only[zS]
       refine zP 8 88 (.slice A1 kl kl) Ha.o ?_;try simp only[zS]
       refine zP 9 89 (.int .i64 (kl:Int)) Ha.o ?_;try simp only[zS]
       refine zP 10 90 (.bool false) Ha.o ?_;try simp only[zS]
       refine zP 11 91 (.bool false) Ha.o ?_;try simp only[zS]
       refine zP 12 92 (.bool false) Ha.o ?_;try simp only[zS]
       refine zP 13 93 (.pointer (some ⟨N,0,none⟩)) Ha.o ?_;try simp only[zS]
       refine zP 14 94 (.pointer (some ⟨N,0,none⟩)) Ha.o ?_;try simp only[zS]
       refine zP 15 95 (.pointer (some ⟨N,1,none⟩)) Ha.o ?_;try simp only[zS]
       refine zL 16 96 (.slice K 0 ck) rfl (Or.inl ⟨by rfl,fun W hS=>by go_simp⟩) (qab Ha.o) ?_;try simp only[zS]
       refine zP 17 97 (.int .i64 0) Ha.o ?_;try simp only[zS]
       refine zP 18 98 (.bool false) Ha.o ?_;try simp only[zS]
       refine zP 19 99 (.bool false) Ha.o ?_;try simp only[zS]
       refine zN 20 100 (qab Ha.o) ?_;try simp only[zS]
       refine zN 21 101 (qab Ha.o) ?_;try simp only[zS]
       refine zN 22 102 (qab Ha.o) ?_;try simp only[zS]
       refine zN 23 103 (qab Ha.o) ?_;try simp only[zS]
       refine zN 24 104 (qab Ha.o) ?_;try simp only[zS]
       refine zN 25 105 (qab Ha.o) ?_;try simp only[zS]
       refine zN 26 106 (qab Ha.o) ?_;try simp only[zS]
       refine zN 27 107 (qab Ha.o) ?_;try simp only[zS]
       refine zN 28 108 (qab Ha.o) ?_;try simp only[zS]
       refine zN 29 109 (qab Ha.o) ?_;try simp only[zS]
       refine zN 30 110 (qab Ha.o) ?_;try simp only[zS]
       refine zN 31 111 (qab Ha.o) ?_;try simp only[zS]
       refine zN 32 112 (qab Ha.o) ?_;try simp only[zS]
       refine zN 33 113 (qab Ha.o) ?_;try simp only[zS]
       refine zN 34 114 (qab Ha.o) ?_;try simp only[zS]
       refine zP 35 115 (.bool false) Ha.o ?_;try simp only[zS]
       refine zP 36 116 (.bool false) Ha.o ?_;try simp only[zS]
       refine qaf (by kernel_rfl) ?_ _;go_wp2;go_meet
       case rel=>exact⟨rfl,(zai _ _).drew⟩
      ·obtain⟨jj,hjj⟩:∃ jj,jj+1=j:=⟨j-1,by omega⟩;obtain⟨pk,hpk⟩:∃ pk,ks1[jj]?=some pk:=⟨_,zab (by have:=Hr.o;omega)⟩;have Ho:ks1.getLast?=some pk:=by rw[List.getLast?_eq_getElem?,Hr.o,←hpk];congr 1;omega
       obtain⟨PB,pc,hp1,hp2,hp3⟩:=((HQ.o.same (Same.of_below Hb.o)).get hpk);obtain⟨kb,ko,rfl,_,hkat⟩:=(HP.o.ko.srcS (S:=fun _=>True) (fun _ _=>trivial)).at_ (by omega);have Hi:=hkat jj _ hp1;obtain⟨ki,hki⟩:∃ ki,ko+jj=ki:=⟨_,rfl⟩;rw[hki]at Hi;have hV:blt pk key=true:=by
        have h1:=KD.o;unfold qeY at h1;rw[Ho,zaQ]at h1;exact h1.2
       obtain⟨cv,hcv⟩:∃ cv,cmpB pk key=cv:=⟨_,rfl⟩;have KK:cv<0:=by rw[←hcv];exact cmpB_lt.2 hV
       obtain⟨pl,hpl⟩:∃ n,pk.length=n:=⟨_,rfl⟩;rw[hpl]at Hi;have HS:=zH (qdm (w:=w2.drew) pc kl ((hp3.by_).below (zai _ _).drew) (hL.o.below (zai _ _).drew) hpl h6.o);rw[hcv]at HS;have Ha:=zH (show w2.drew.cell? ⟨N,1,none⟩=some (.slice (some ⟨kb,ko,none⟩) j ck)∧w2.drew.cell? ⟨kb,ki,none⟩=some (.slice PB pl pc)from⟨HP.o.c1',Hi⟩);have K3:IntKind.i64.wrap ((j:Int)-1)=(jj:Int):=by rw[zaA _ (by omega)];omega
       have KT:0<j:=by omega
       have ka:(jj:Int)<(j:Int):=by omega
       have KR:¬((j:Int)≤(jj:Int)):=by omega
       have KS:jj<j:=by omega
       have KL:¬(0≤cv):=by omega
       refine qad (S:=fun W=>W.cell? ⟨N,1,none⟩=some (.slice (some ⟨kb,ko,none⟩) j ck)∧W.cell? ⟨kb,ki,none⟩=some (.slice PB pl pc)) [] (by kernel_rfl) Ha.o (fun _=>?_);refine zP 0 80 (.bool true) Ha.o ?_;try simp only[zS]
       refine zP 1 81 (.bool false) Ha.o ?_;try simp only[zS]
       refine zP 2 82 (.bool false) Ha.o ?_;try simp only[zS]
       refine zP 3 83 (.slice A1 kl kl) Ha.o ?_;try simp only[zS]
       refine zP 4 84 (.int .i64 (kl:Int)) Ha.o ?_;try simp only[zS]
       refine zP 5 85 (.bool false) Ha.o ?_;try simp only[zS]
       refine zP 6 86 (.bool false) Ha.o ?_;try simp only[zS]
       refine zP 7 87 (.bool false) Ha.o ?_;try simp only[zS]
       refine zP 8 88 (.slice A1 kl kl) Ha.o ?_;try simp only[zS]
       refine zP 9 89 (.int .i64 (kl:Int)) Ha.o ?_;try simp only[zS]
       refine zP 10 90 (.bool false) Ha.o ?_;try simp only[zS]
       refine zP 11 91 (.bool false) Ha.o ?_;try simp only[zS]
       refine zP 12 92 (.bool false) Ha.o ?_;try simp only[zS]
       refine zP 13 93 (.pointer (some ⟨N,0,none⟩)) Ha.o ?_;try simp only[zS]
       refine zP 14 94 (.pointer (some ⟨N,0,none⟩)) Ha.o ?_;try simp only[zS]
       refine zP 15 95 (.pointer (some ⟨N,1,none⟩)) Ha.o ?_;try simp only[zS]
       refine zL 16 96 (.slice (some ⟨kb,ko,none⟩) j ck) rfl (Or.inl ⟨by rfl,fun W hS=>by obtain⟨hS1,hS2⟩:=hS;go_simp⟩) (qab Ha.o) ?_;try simp only[zS]
       refine zP 17 97 (.int .i64 (j:Int)) Ha.o ?_;try simp only[zS]
       refine zP 18 98 (.bool true) Ha.o ?_;try simp only[zS]
       refine zP 19 99 (.bool true) Ha.o ?_;try simp only[zS]
       refine zP 20 100 (.pointer (some ⟨N,0,none⟩)) Ha.o ?_;try simp only[zS]
       refine zP 21 101 (.pointer (some ⟨N,0,none⟩)) Ha.o ?_;try simp only[zS]
       refine zP 22 102 (.pointer (some ⟨N,1,none⟩)) Ha.o ?_;try simp only[zS]
       refine zL 23 103 (.slice (some ⟨kb,ko,none⟩) j ck) rfl (Or.inl ⟨by rfl,fun W hS=>by obtain⟨hS1,hS2⟩:=hS;go_simp⟩) (qab Ha.o) ?_;try simp only[zS]
       refine zP 24 104 (.pointer (some ⟨N,0,none⟩)) Ha.o ?_;try simp only[zS]
       refine zP 25 105 (.pointer (some ⟨N,0,none⟩)) Ha.o ?_;try simp only[zS]
       refine zP 26 106 (.pointer (some ⟨N,1,none⟩)) Ha.o ?_;try simp only[zS]
       refine zL 27 107 (.slice (some ⟨kb,ko,none⟩) j ck) rfl (Or.inl ⟨by rfl,fun W hS=>by obtain⟨hS1,hS2⟩:=hS;go_simp⟩) (qab Ha.o) ?_;try simp only[zS]
       refine zP 28 108 (.int .i64 (j:Int)) Ha.o ?_;try simp only[zS]
       refine zP 29 109 (.int .i64 (jj:Int)) Ha.o ?_;try simp only[zS]
       refine zP 30 110 (.pointer (some ⟨kb,ki,none⟩)) Ha.o ?_;try simp only[zS]
       refine zL 31 111 (.slice PB pl pc) rfl (Or.inl ⟨by rfl,fun W hS=>by obtain⟨hS1,hS2⟩:=hS;go_simp⟩) (qab Ha.o) ?_;try simp only[zS]
       refine zP 32 112 (.slice A1 kl kl) Ha.o ?_;try simp only[zS]
       refine zE 33 113 rfl (fun Kr hKr=>?_);go_simp;go_at_call 51
       refine HS.o.mono ?_;rintro e W9 ⟨rfl,rfl⟩;refine hKr.out _ _ (qab Ha.o) (fun _=>?_);clear hKr Kr;try simp only[zS]
       refine zP 34 114 (.bool false) Ha.o ?_;try simp only[zS]
       refine zP 35 115 (.bool false) Ha.o ?_;try simp only[zS]
       refine zP 36 116 (.bool false) Ha.o ?_;try simp only[zS]
       refine qaf (by kernel_rfl) ?_ _;go_wp2;go_meet
       case rel=>exact⟨rfl,(zai _ _).drew⟩
     case rest=>
      rename World=>wy;obtain⟨rfl,hby2⟩:=hcut;have Kz:=zH (hby2);have HC:=zH (He.o.below Hb.o);have Hf:=zH (HC.o.below hby2);have hg:=Hf.o.c0';have KN:=Hf.o.c1';have Hz:=zH (Below.trans Hl.o ((Hb.o.trans (hby2.mono Hb.o.size)).mono Hl.o.size));have HK:Below wr.heap.size wr wy:=Hb.o.trans (hby2.mono Hb.o.size);have H1:=zH (HQ.o.same (Same.of_below HK));have H5:=zH (H4.o.same (Same.of_below HK));have H7:=zH (hL.o.below hby2);have H8:=zH (Kc.o.below hby2);have Hq:=zH (qaO (W':=wy) Hs.o Hp.o);have Kk:b≠N:=by have:=Hf.o.lo;omega
      clear HK hby2 He HC HQ H4 hL Kc Hp Hl Hb Kz;go_upto_region 19 with(at_builtin;refine qba rfl (.tmp 121) (.tmp 123) 22 rfl w.heap.size 40 i1 _ 1 24 Tryz.underlying22 hi1 hy0 hy1 hy2 rfl (by decide) (.slice K j ck) j vk rfl ((Hf.o.below ((zai _ _).alloc (zad _) (.cells #[.slice A1 kl kl] 40))).ko.row) (some ⟨wy.heap.size,0,none⟩) 1 1 [.slice A1 kl kl] rfl (qas (zae wy _) rfl) (by simp;rfl) (by unfold maxLen;omega) (by omega) (zam Hz.o.size (by simp)) ?_;intro A5 c5 w5 q1 q2 q3;have Hx:=qbq q2 q3;have HD:=zH ((Hf.o.below ((zai _ _).alloc (zad _) (.cells #[.slice A1 kl kl] 40))).updK (qaQ (Hf.o.below ((zai _ _).alloc (zad _) (.cells #[.slice A1 kl kl] 40))).ko (zam Hz.o.size (by simp)) q1 Hx) Hx);have hE:=zH Hx;have hO:=HD.o.c1';have KP:w5.frozen? ⟨N,1,none⟩=false:=zbk _ _ _ _ _ HD.o.nd;clear q1 q2 q3 Hx)
      have HE:=zH (HD.o.st1 (.slice A5 (j+1) c5));have HA:=zH (((Hz.o.alloc Hz.o.size (.cells #[.slice A1 kl kl] 40)).trans (qc7 (zai w.heap.size _) (zam Hz.o.size (by simp)) hE.o.touch (fun b e _=>(Hf.o.ko.blk b e).1))).setCell (p:=⟨N,1,none⟩) HD.o.lo (.slice A5 (j+1) c5));have Hn:Touch (fun k=>(Value.slice K j ck).ownBlock=some k∨k=N) wy (w5.setCell ⟨N,1,none⟩ (.slice A5 (j+1) c5)):=(((Touch.refl _ _).alloc _).trans (hE.o.touch.mono (fun k _ h=>.inl h))).setCell (p:=⟨N,1,none⟩) (.inr rfl) _;have Hw:¬((Value.slice K j ck).ownBlock=some b∨b=N):=fun h=>by
       rcases h with h|h
       ·have:=(Hf.o.ko.blk b h).1;omega
       ·exact Kk h
      have Hg:=zH (show RowV (w5.setCell ⟨N,1,none⟩ (.slice A5 (j+1) c5)) (fun c=>c=b) (vk++[.slice A1 kl kl]) (ks1++[key])from(qbv H1.o Hn Hw).append (by
       have h1:ByS wy (fun c=>c=b) A1 key:=⟨H7.o,fun ad e _=>Kt.o ad e⟩;rw[←h6.o];exact RowV.one (zad _) (h1.same (Same.of_touch Hn (fun c hc=>by rw[hc];exact Hw)))))
      have Hh:=zH (qbv H5.o Hn Hw);have Hj:=zH (H8.o.touch Hn (fun ad e=>by cases e;exact Hw));have Hc:=zH (qaO (W':=w5.setCell ⟨N,1,none⟩ (.slice A5 (j+1) c5)) Hs.o Hq.o);clear Hn Hf HD Hz H1 H5 H7 H8 Hq hg KN hO KP hE;generalize w5.setCell ⟨N,1,none⟩ (.slice A5 (j+1) c5)=w6 at HE HA Hg Hh Hj Hc⊢;have hg:=HE.o.c0';have Ho:(ks1++[key]).getLast?=some key:=by simp
      have HB:=zH Ho;have KU:IntKind.i64.wrap ((j:Int)+1)=((j+1:Nat):Int):=by rw[zaA _ (by omega)];omega
      cases leaf with
      | false=>
       go_wp2;refine⟨⟨j+1,by simp,o2,c2,ra,ks1++[key],vs1,rks',rvs,.slice A5 (j+1) c5,v,x1,vk++[.slice A1 kl kl],vv,vx1,xs1,?_⟩,by simp[RowKit.intOf];omega⟩;exact⟨by omega,by rw[Ht.o],by rw[Ht.o];exact hc2,by have:=HI.o;omega,Hj.o,by simp[Hr.o],by rw[show m-(j+1)=mj by omega,HB.o];exact ht.o (by trivial),HE.o,Hg.o,Hh.o,(fun h=>by cases h),hJ.o,Hc.o,Hs.o,(fun h=>by cases h),(fun h=>by cases h),fun _=>by rw[zah];exact hB.o (by trivial),HA.o⟩
      | true=>
       obtain⟨val,rb,rvs',rfl,hrb,hvl,hmore2⟩:=HX.o (by trivial);have HG:=zH hmore2;have HN:=hI.o (by trivial);have Ka:=zH HN;have H3:=zH (qkD hrb);have HJ:=zH (qiH b o2 ral c2 ra val rb w6 Hj.o Ht.o hc2 (by have:=HI.o;have:=Ht.o;omega) hrb (by omega));obtain⟨vl,hvll⟩:∃ n,val.length=n:=⟨_,rfl⟩;obtain⟨rbl,hrbl⟩:∃ n,rb.length=n:=⟨_,rfl⟩;unfold RwF at HJ;rw[hvll,hrbl]at HJ;rw[hvll]at hvl;have hK:=zH hvll;have H0:=zH hrbl;have K0:¬(160<vl):=by omega
       have K1:¬((vl:Int)>160):=by omega
       have he:=HE;rw[HN]at he;obtain⟨V,cv,rfl,hvc⟩:=he.out.vo.slice;clear hmore2 HN hrb hvll hrbl HX HE KU;go_upto_region 23 with(go_at_call 151;refine HJ.o.mono ?_;rintro e w7 ⟨A2,o3,c3,rfl,hA2,hb1,hb2,hc3,hbw3⟩;have Ku:=zH hA2;have Ke:=zH hb1;have Kf:=zH hb2;have Hm:=zH hbw3;clear hA2 hb1 hb2 hbw3)
       have HH:=zH (he.out.below Hm.o);have HO:=zH (HA.o.trans (Hm.o.mono HA.o.size));have H2:=zH (Hg.o.same (Same.of_below Hm.o));have H6:=zH (Hh.o.same (Same.of_below Hm.o));have HW:=zH (qaO (W':=w7) Hs.o Hc.o);have hO:=HH.o.c2';clear he HA Hg Hh Hc Hm hg;go_upto_region 24 with(at_builtin;refine qba rfl (.tmp 149) (.tmp 151) 22 rfl w.heap.size 40 i1 _ 1 24 Tryz.underlying22 hi1 hy0 hy1 hy2 rfl (by decide) (.slice V j cv) j vv rfl ((HH.o.below ((zai _ _).alloc (zad _) (.cells #[.slice A2 vl vl] 40))).vo.row) (some ⟨w7.heap.size,0,none⟩) 1 1 [.slice A2 vl vl] rfl (qas (zae w7 _) rfl) (by simp;rfl) (by unfold maxLen;omega) (by omega) (zam HO.o.size (by simp)) ?_;intro A9 c9 w9 q1 q2 q3;have Hx:=qbq q2 q3;have HZ:=zH ((HH.o.below ((zai _ _).alloc (zad _) (.cells #[.slice A2 vl vl] 40))).updV (qaQ (HH.o.below ((zai _ _).alloc (zad _) (.cells #[.slice A2 vl vl] 40))).vo (zam HO.o.size (by simp)) q1 Hx) Hx);have hH:=zH Hx;have KO:=HZ.o.c2';have KQ:w9.frozen? ⟨N,2,none⟩=false:=zbk _ _ _ _ _ HZ.o.nd;clear q1 q2 q3 Hx)
       have HE:=zH (HZ.o.st2 (.slice A9 (j+1) c9));have HA:=zH (((HO.o.alloc HO.o.size (.cells #[.slice A2 vl vl] 40)).trans (qc7 (zai w.heap.size _) (zam HO.o.size (by simp)) hH.o.touch (fun b e _=>(HH.o.vo.blk b e).1))).setCell (p:=⟨N,2,none⟩) HZ.o.lo (.slice A9 (j+1) c9));have Hn:Touch (fun k=>(Value.slice V j cv).ownBlock=some k∨k=N) w7 (w9.setCell ⟨N,2,none⟩ (.slice A9 (j+1) c9)):=(((Touch.refl _ _).alloc _).trans (hH.o.touch.mono (fun k _ h=>.inl h))).setCell (p:=⟨N,2,none⟩) (.inr rfl) _;have Hw:¬((Value.slice V j cv).ownBlock=some b∨b=N):=fun h=>by
        rcases h with h|h
        ·have:=(HH.o.vo.blk b h).1;omega
        ·exact Kk h
       have Hh:=zH (show RowV (w9.setCell ⟨N,2,none⟩ (.slice A9 (j+1) c9)) (fun c=>c=b) (vv++[.slice A2 vl vl]) (vs1++[val])from(qbv H6.o Hn Hw).append (by
        have h1:ByS w7 (fun c=>c=b) A2 val:=⟨Ke.o,fun ad e _=>Ku.o ad e⟩;rw[←hK.o];exact RowV.one (zad _) (h1.same (Same.of_touch Hn (fun c hc=>by rw[hc];exact Hw)))))
       have Hg:=zH (qbv H2.o Hn Hw);have Hj:=zH (Kf.o.touch Hn (fun ad e=>by cases e;exact Hw));have Hc:=zH (qaO (W':=w9.setCell ⟨N,2,none⟩ (.slice A9 (j+1) c9)) Hs.o HW.o);clear Hn HH HZ HO H2 H6 Ke Kf HW hO KO KQ hH;generalize w9.setCell ⟨N,2,none⟩ (.slice A9 (j+1) c9)=wz at HE HA Hg Hh Hj Hc⊢;go_wp2;refine⟨⟨j+1,by simp,o3,c3,rb,ks1++[key],vs1++[val],rks',rvs',.slice A5 (j+1) c5,.slice A9 (j+1) c9,x1,vk++[.slice A1 kl kl],vv++[.slice A2 vl vl],vx1,xs1,?_⟩,by simp[RowKit.intOf];omega⟩;exact⟨by omega,by rw[H0.o],by rw[H0.o];exact hc3,by have:=HI.o;have:=H3.o;omega,Hj.o,by simp[Hr.o],by rw[show m-(j+1)=mj by omega,HB.o];exact HG.o,by rw[zaf,Ka.o];exact HE.o,Hg.o,Hh.o,(fun _=>by rw[zaf,Ka.o];rfl),(fun h=>by cases h),Hc.o,Hs.o,(fun _=>Kb.o (by trivial)),(fun _=>by rw[zah,zah];exact ha.o (by trivial)),(fun h=>by cases h),HA.o⟩
    ·obtain rfl:j=m:=by omega
     rw[zcd]at hmore;obtain⟨rfl,rfl,rfl⟩:=hmore.zero;have He:=zH hq;have HQ:=zH hrk;have H4:=zH hrv;have Hp:=zH hkm;have Hl:=zH hbw;have ha:=zH HF;have hB:=zH hn2;have hI:=zH hv1;have hJ:=zH hv2;have Hr:=zH hks;have hg:=hq.c0';clear hq hrk hrv hkm hpg hbw HF hn2 hv1 hv2 hks hmore hby hw;rw[show([]:Bs).length=0 from rfl];have Kh:DcF S nd w (.returned (.tuple #[.pointer (some ⟨N,0,none⟩),.bool true])) wr:=by
      cases leaf with
      | false=>
       have e:=hB.o (by trivial);obtain⟨rfl,_⟩:=hJ.o (by trivial);rw[zaP]at e;subst e;have hm:∀ c,c=b→Fr S w wr c:=fun c hc=>.inl (by rw[hc];exact hS);have K2:vv=[]:=zaX (by have:=H4.o.len;simpa using this);subst K2;obtain⟨g0,g1,g2,g3⟩:=qlU (S:=S) He.o;obtain⟨X,hX,hN⟩:=He.o.inner (ks:=ks1) (xs:=xs1) (L':=[]) Hr.o rfl g0 g1 g3 (HQ.o.mono hm) rfl (KM.mono (fun b h=>.inl h) _ _ _ Hp.o);refine⟨N,_,rfl,hN,Hl.o,⟨fun y hy=>.inr ?_,fun _=>by rw[zaP];exact qgx X xs1.length⟩⟩;rw[zaP]at hy;unfold qb8 at hy;split at hy
       ·cases hy
       ·obtain⟨i,_,rfl⟩:=zbh.1 hy;exact(He.o.xo.blk _ (hX _ rfl)).1
      | true=>
       have e:=(ha.o (by trivial)).1;have hv:=hI.o (by trivial);rw[zaP,zaP]at e;subst e;have hm:∀ c,c=b→Fr S w wr c:=fun c hc=>.inl (by rw[hc];exact hS);obtain⟨g0,g1,g2,g3⟩:=qlU (S:=S) He.o;have hq:=He.o;rw[hv]at hq;have h1:(ks1.zip vs1).map Prod.fst=ks1:=List.map_fst_zip (by rw[Hr.o,hv];exact zad _);have h2:(ks1.zip vs1).map Prod.snd=vs1:=List.map_snd_zip (by rw[Hr.o,hv];exact zad _);have hl:(ks1.zip vs1).length=j:=by rw[List.length_zip,Hr.o,hv,Nat.min_self]
       obtain⟨K,ck,rfl,hkc⟩:=hq.ko.slice;obtain⟨V,cv,rfl,hvc⟩:=hq.vo.slice;obtain⟨X,cx,rfl,hxc⟩:=hq.xo.slice;refine⟨N,[],rfl,?_,Hl.o,Slo.nil _ _⟩;have K4:xs1.length=0:=Kb.o (by trivial);rw[K4]at hq;unfold NM;refine⟨rfl,g0,K,ck,V,cv,X,cx,vk,vv,by rw[hl];exact hq.nc,by rw[hl];exact hq.ko.srcS g1,by rw[h1];exact HQ.o.mono hm,by rw[hl];exact hq.vo.srcS g2,by rw[h2];exact H4.o.mono hm⟩
     have hZ:=zH Kh;clear Kh;cases leaf with
     | false=>
      go_wp2;exact za7 (v:=.tuple #[.pointer (some ⟨N,0,none⟩),.bool true]) (by simp[results,Tryz.results146,go_sem]) rfl hZ.o
     | true=>
      have KT:0<j:=(ha.o (by trivial)).2;go_wp2;exact za7 (v:=.tuple #[.pointer (some ⟨N,0,none⟩),.bool true]) (by simp[results,Tryz.results146,go_sem]) rfl hZ.o
end Go.Proofs.YtfcknhbmeofniaaGreatDoor
