/- Texts AlA BtSpec NumSpec Pl PgSpec Kd KdA. -/
set_option linter.all false
set_option maxRecDepth 100000
set_option maxHeartbeats 16000000
namespace Go.Proofs.YtfcknhbmeofniaaGreatDoor
def zaa:=@Array.getElem?_eq_some_iff
def zab:=@List.getElem?_eq_getElem
def zac:=@List.getElem?_eq_some_iff
def zad:=@Nat.le_refl
def zaf:=@List.length_append
def zag:=@Nat.lt_of_lt_of_le
def zah:=@List.append_assoc
def zaj:=@List.length_take
def zak:=@List.mem_of_getElem?
def zal:=@List.length_cons
def zam:=@Nat.le_trans
def zan:=@decide_eq_false
def zap:=@List.length_drop
def zaq:=@List.getD_eq_getElem?_getD
def zar:=@List.mem_append
def zas:=@List.size_toArray
def zat:=@List.flatMap_cons
def zau:=@Option.some.injEq
def zaw:=@List.take_succ_eq_append_getElem
def zax:=@if_pos
def zay:=@List.take_append_drop
def zaz:=@List.getElem?_append_right
def zaB:=@List.mem_cons
def zaC:=@if_neg
def zaD:=@List.getElem?_map
def zaE:=@Prod.mk.injEq
def zaF:=@Nat.zero_add
def zaG:=@Option.some.inj
def zaH:=@List.getElem?_append_left
def zaI:=@List.nil_append
def zaJ:=@List.getElem?_drop
def zaK:=@List.flatMap_append
def zaL:=@List.take_of_length_le
def zaM:=@List.setIfInBounds_toArray
def zaN:=@beq_eq_false_iff_ne
def zaP:=@List.append_nil
def zaQ:=@Bool.and_eq_true
def zaR:=@List.getElem?_take
def zaS:=@List.mem_append_right
def zaT:=@decide_eq_true
def zaX:=@List.eq_nil_of_length_eq_zero
def zaZ:=@Array.getElem?_eq_none
def za0:=@List.drop_eq_nil_of_le
def za1:=@List.mem_singleton
def za2:=@List.nodup_append
def za3:=@List.cons_append
def za4:=@List.mem_flatMap
def za6:=@List.mem_append_left
def za8:=@List.getElem_cons_drop
def za9:=@List.mem_range
def zba:=@List.mem_cons_of_mem
def zbb:=@List.mem_of_mem_take
def zbc:=@List.length_map
def zbd:=@Option.map_eq_some_iff
def zbe:=@List.getElem?_cons_succ
def zbf:=@decide_eq_true_eq
def zbg:=@List.getElem?_toArray
def zbh:=@List.mem_map
def zbi:=@List.getElem_mem
def zbj:=@List.mem_filter
def zbl:=@List.length_nil
def zbm:=@List.mem_of_mem_drop
def zbn:=@List.pairwise_append
def zbo:=@List.take_left'
def zbp:=@Array.getElem?_eq_getElem
def zbq:=@List.all_eq_true
def zbr:=@List.pairwise_cons
def zbs:=@Nat.mod_eq_of_lt
def zbt:=@List.take_succ_cons
def zbu:=@BitVec.toNat_ofNat
def zbv:=@List.filter_append
def zbx:=@Array.length_toList
def zby:=@List.filter_cons_of_pos
def zbz:=@List.map_append
def zbA:=@List.take_length
def zbB:=@Option.map_some
def zbC:=@BitVec.ofInt_natCast
def zbD:=@List.map_cons
def zbF:=@Option.bind_eq_some_iff
def zbG:=@List.drop_left'
def zbH:=@List.exists_mem_of_ne_nil
def zbI:=@List.drop_succ_cons
def zbJ:=@Array.size_setIfInBounds
def zbM:=@List.filter_cons_of_neg
def zbN:=@List.mem_cons_self
def zbO:=@Nat.zero_le
def zbQ:=@List.flatMap_nil
def zbR:=@Array.toList_setIfInBounds
def zbS:=@List.drop_zero
def zbT:=@List.take_zero
def zbU:=@List.getElem?_eq_none
def zbV:=@List.map_nil
def zbW:=@Nat.and_two_pow_sub_one_eq_mod
def zbX:=@Nat.min_eq_left
def zbY:=@Bool.false_eq_true
def zbZ:=@beq_iff_eq
def zb1:=@List.take_append_of_le_length
def zb2:=@List.drop_drop
def zb3:=@Bool.not_eq_true'
def zb4:=@List.getElem?_range
def zb5:=@if_true
def zb6:=@Array.getElem?_toList
def zb7:=@List.length_singleton
def zb8:=@Nat.add_zero
def zb9:=@Nat.lt_irrefl
def zca:=@List.getElem?_of_mem
def zcb:=@List.mem_of_mem_eraseIdx
def zcc:=@Nat.lt_or_ge
def zcd:=@Nat.sub_self
def zcf:=@List.getElem?_cons_zero
def zch:=@List.not_mem_nil
def zck:=@Array.getElem?_setIfInBounds
def zcl:=@List.prefix_append_right_inj
def zcm:=@Nat.eq_zero_or_pos
def zcn:=@Nat.xor_lt_two_pow
def zco:=@UInt8.toNat_ofNat'
def zcp:=@List.Perm.append_left
def zcq:=@List.length_filter_le
def zcs:=@List.takeWhile_cons_of_pos
def zcu:=@List.pairwise_iff_getElem
def zcw:=@List.map_toArray
def zcx:=@Option.getD_some
def zcy:=@List.takeWhile_cons
def zcA:=@Nat.mul_one
def zcC:=@List.filter_nil
def zcD:=@Nat.add_assoc
def zcE:=@Nat.lt_of_le_of_lt
def zcF:=@List.append_eq_nil_iff
def zcG:=@List.filter_eq_nil_iff
def zcH:=@List.ext_getElem?
def zcI:=@List.length_range
def zcJ:=@List.nodup_nil
def zcK:=@List.take_take
def zcM:=@List.singleton_append
def zcN:=@List.isEmpty_iff
def zcO:=@List.map_map
def zcP:=@if_false
end Go.Proofs.YtfcknhbmeofniaaGreatDoor
namespace Go.Proofs.YtfcknhbmeofniaaGreatDoor.BT
variable {k d page h:Nat}
abbrev Bs:=List UInt8
def blt:Bs→Bs→Bool
 | [],[]=>false
 | [],_::_=>true
 | _::_,[]=>false
 | a::s,b::t=>a<b||(a==b&&blt s t)
theorem blt_irrefl:∀ s:Bs,blt s s=false
 | []=>rfl
 | a::s=>by
  have h:¬a<a:=UInt8.lt_irrefl a;simp[blt,h,blt_irrefl s]
theorem qaT:∀ {s t u:Bs},blt s t=true→blt t u=true→blt s u=true
 | [],_,[],h1,h2=>by cases ‹Bs›<;>simp[blt]at h1 h2
 | [],_,_::_,_,_=>rfl
 | _::_,[],_,h1,_=>by simp[blt]at h1
 | _::_,_::_,[],_,h2=>by simp[blt]at h2
 | a::s,b::t,c::u,h1,h2=>by
  simp only[blt,Bool.or_eq_true,zaQ,zbf,zbZ]at h1 h2⊢;rcases h1 with h1|⟨rfl,h1⟩
  ·rcases h2 with h2|⟨rfl,h2⟩
   ·exact .inl (UInt8.lt_trans h1 h2)
   ·exact .inl h1
  ·rcases h2 with h2|⟨rfl,h2⟩
   ·exact .inl h2
   ·exact .inr ⟨rfl,qaT h1 h2⟩
theorem blt_total:∀ s t:Bs,blt s t=true∨s=t∨blt t s=true
 | [],[]=>.inr (.inl rfl)
 | [],_::_=>.inl rfl
 | _::_,[]=>.inr (.inr rfl)
 | a::s,b::t=>by
  simp only[blt,Bool.or_eq_true,zaQ,zbf,zbZ];by_cases h:a=b
  ·subst h;rcases blt_total s t with h1|h1|h1
   ·exact .inl (.inr ⟨rfl,h1⟩)
   ·exact .inr (.inl (by rw[h1]))
   ·exact .inr (.inr (.inr ⟨rfl,h1⟩))
  ·have:a<b∨b<a:=by
    rw[UInt8.lt_iff_toNat_lt,UInt8.lt_iff_toNat_lt];have:a.toNat≠b.toNat:=fun e=>h (UInt8.toNat_inj.1 e);omega
   rcases this with h1|h1
   ·exact .inl (.inl h1)
   ·exact .inr (.inr (.inl h1))
theorem qcv {s t:Bs}(h:blt s t=true):blt t s=false:=by
 cases h2:blt t s with
 | false=>rfl
 | true=>have:=qaT h h2;rw[blt_irrefl]at this;cases this
abbrev Pr:=Bs×Bs
def putR (k v:Bs):List Pr→List Pr
 | []=>[(k,v)]
 | p::r=>if blt p.1 k then p::putR k v r else if p.1=k then(k,v)::r else(k,v)::p::r
def delR (k:Bs):List Pr→List Pr
 | []=>[]
 | p::r=>if blt p.1 k then p::delR k r else if p.1=k then r else p::r
def getR (k:Bs):List Pr→Option Bs
 | []=>none
 | p::r=>if blt p.1 k then getR k r else if p.1=k then some p.2 else none
def chgR (k:Bs)(v:Option Bs)(l:List Pr):List Pr:=match v with
 | some v=>putR k v l
 | none=>delR k l
def Tr:Nat→Type
 | 0=>List Pr
 | h+1=>List Bs×List (Option Nat×Tr h)
abbrev Kid (h:Nat):=Option Nat×Tr h
def qaK (l:List Pr):Nat:=(l.map fun p=>2+p.1.length+p.2.length).sum
def qaI (l:List Bs):Nat:=(l.map fun k=>1+k.length).sum
def size:(h:Nat)→Tr h→Nat
 | 0,l=>2+qaK l
 | _+1,(ks,kids)=>2+qaI ks+2*kids.length
def qme:(h:Nat)→Tr h→List Pr
 | 0,l=>l
 | h+1,(_,kids)=>kids.flatMap fun x=>qme h x.2
def pages:(h:Nat)→Tr h→List Nat
 | 0,_=>[]
 | h+1,(_,kids)=>kids.flatMap fun x=>x.1.toList++pages h x.2
def down (ks:List Bs)(k:Bs):Nat:=(ks.takeWhile fun x=>!blt k x).length
def qmJ:(h:Nat)→Tr h→Bs→Tr h→Tr h
 | 0,a,_,b=>List.append a b
 | _+1,(ka,xa),k,(kb,xb)=>(ka++k::kb,xa++xb)
def qmH:(h:Nat)→Tr h→Nat→Tr h×Tr h×Bs
 | 0,l,i=>(List.take i l,List.drop i l,((List.drop i l).head?.map Prod.fst).getD [])
 | _+1,(ks,xs),i=>((ks.take i,xs.take (i+1)),(ks.drop (i+1),xs.drop (i+1)),(ks.drop i).head?.getD [])
def qm1:(h:Nat)→Tr h→Nat
 | 0,l=>List.length l
 | _+1,(ks,_)=>ks.length
def best (h:Nat)(t:Tr h):Nat→Nat→Option (Tr h×Tr h×Bs)→Option (Tr h×Tr h×Bs)
 | 0,_,b=>b
 | n+1,i,b=>
  let x:=qmH h t i
  let b':=match b with
   | none=>some x
   | some y=>if max (size h x.1) (size h x.2.1)<max (size h y.1) (size h y.2.1)then some x else some y
  best h t n (i+1) b'
def cut (h:Nat)(t:Tr h):List (Tr h)×List Bs:=
 if size h t≤500 then([t],[])else match best h t (qm1 h t-1) 1 none with
  | none=>([],[[]])
  | some (a,b,k)=>([a,b],[k])
def qmj (h:Nat):Nat→Nat→Nat→List Bs→List (Kid h)→List Nat→List Bs×List (Kid h)×List Nat
 | 0,_,_,ks,xs,m=>(ks,xs,m)
 | f+1,at_,to,ks,xs,m=>
  if at_+1<xs.length∧at_≤to then
   match xs[at_]?,xs[at_+1]?,ks[at_]? with
   | some a,some b,some k=>
    let x:=qmJ h a.2 k b.2
    if size h x≤500 then qmj h f at_ to (ks.eraseIdx at_) (xs.take at_++(none,x)::xs.drop (at_+2)) (m++a.1.toList++b.1.toList)
    else qmj h f (at_+1) to ks xs m
   | _,_,_=>(ks,xs,m)
  else(ks,xs,m)
def change:(h:Nat)→Kid h→Bs→Option Bs→List (Tr h)×List Bs×List Nat
 | 0,(p,l),k,v=>
  let l':=chgR k v l
  if List.length l'=0 then([],[],p.toList)else let c:=cut 0 l';(c.1,c.2,p.toList)
 | h+1,(p,(ks,xs)),k,v=>
  let i:=down ks k
  match xs[i]? with
  | none=>([],[],p.toList)
  | some x=>
   let (got,bet,met):=change h x k v
   let xs':=xs.take i++got.map (fun t=>(none,t))++xs.drop (i+1)
   let ks':=if 0<got.length then ks.take i++bet++ks.drop i else ks.eraseIdx (i-1)
   let (ks2,xs2,m2):=qmj h (xs'.length+i+3) (i-1) (i+1) ks' xs' []
   if xs2.length=0 then([],[],p.toList++met++m2)else
    let c:=cut (h+1) (ks2,xs2)
    (c.1,c.2,p.toList++met++m2)
theorem qhg (k v:Bs):∀ (a m:List Pr),(∀ p∈a,blt p.1 k=true)→putR k v (a++m)=a++putR k v m
 | [],_,_=>rfl
 | p::a,m,h=>by
  rw[za3,putR,zax (h p (zbN ..)),qhg k v a m (fun q hq=>h q (zba _ hq))];rfl
theorem qfT (k v:Bs):∀ (m b:List Pr),(∀ p∈b,blt k p.1=true)→putR k v (m++b)=putR k v m++b
 | [],[],_=>rfl
 | [],p::b,h=>by
  have h1:=h p (zbN ..);show(if blt p.1 k=true then _ else if p.1=k then _ else _)=_;rw[zaC (by rw[qcv h1];decide),zaC (fun e=>by rw[e,blt_irrefl]at h1;cases h1)];rfl
 | p::m,b,h=>by
  rw[za3,putR,putR,qfT k v m b h];split
  ·rfl
  ·split<;>rfl
theorem qgK (k:Bs):∀ (a m:List Pr),(∀ p∈a,blt p.1 k=true)→delR k (a++m)=a++delR k m
 | [],_,_=>rfl
 | p::a,m,h=>by
  rw[za3,delR,zax (h p (zbN ..)),qgK k a m (fun q hq=>h q (zba _ hq))];rfl
theorem qfv (k:Bs):∀ (m b:List Pr),(∀ p∈b,blt k p.1=true)→delR k (m++b)=delR k m++b
 | [],[],_=>rfl
 | [],p::b,h=>by
  have h1:=h p (zbN ..);show(if blt p.1 k=true then _ else if p.1=k then _ else _)=_;rw[zaC (by rw[qcv h1];decide),zaC (fun e=>by rw[e,blt_irrefl]at h1;cases h1)];rfl
 | p::m,b,h=>by
  rw[za3,delR,delR,qfv k m b h];split
  ·rfl
  ·split<;>rfl
theorem qkZ (k:Bs)(v:Option Bs)(a m b:List Pr)(ha:∀ p∈a,blt p.1 k=true)(hb:∀ p∈b,blt k p.1=true):chgR k v (a++m++b)=a++chgR k v m++b:=by
 cases v with
 | none=>
  show delR k _=_++delR k m++_;rw[zah,qgK k a _ ha,qfv k m b hb,zah]
 | some v=>
  show putR k v _=_++putR k v m++_;rw[zah,qhg k v a _ ha,qfT k v m b hb,zah]
def In (lo hi:Option Bs)(k:Bs):Prop:=(∀ l,lo=some l→blt k l=false)∧∀ h,hi=some h→blt k h=true
structure qmW (lo hi:Option Bs) (l:List Pr):Prop where
 sorted:l.Pairwise fun a b=>blt a.1 b.1=true
 bd:∀ p∈l,In lo hi p.1
 klen:∀ p∈l,1≤p.1.length∧p.1.length≤24
 vlen:∀ p∈l,p.2.length≤160
def Between {α:Type}(P:Option Bs→Option Bs→α→Prop):Option Bs→Option Bs→List Bs→List α→Prop
 | lo,hi,[],[x]=>P lo hi x
 | lo,hi,k::ks,x::xs=>In lo hi k∧(∀ l,lo=some l→blt l k=true)∧1≤k.length∧k.length≤24∧P lo (some k) x∧Between P (some k) hi ks xs
 | _,_,_,_=>False
def Ok:(h:Nat)→Option Bs→Option Bs→Tr h→Prop
 | 0,lo,hi,l=>qmW lo hi l∧l≠[]
 | h+1,lo,hi,(ks,xs)=>Between (fun lo hi (x:Kid h)=>Ok h lo hi x.2) lo hi ks xs
theorem Between.len {α:Type}{P:Option Bs→Option Bs→α→Prop}:∀ {lo hi:Option Bs} {ks:List Bs} {xs:List α},Between P lo hi ks xs→xs.length=ks.length+1
 | _,_,[],[_],_=>rfl
 | _,_,[],[],h=>h.elim
 | _,_,[],_::_::_,h=>h.elim
 | _,_,_::_,[],h=>h.elim
 | _,_,_::ks,_::xs,h=>by
  have:=Between.len h.2.2.2.2.2;simp[this]
theorem qa0 {a b c:Bs}(h1:blt a b=true)(h2:blt c b=false):blt a c=true:=by
 rcases blt_total a c with h|h|h
 ·exact h
 ·subst h;rw[h2]at h1;cases h1
 ·have:=qaT h h1;rw[h2]at this;cases this
theorem qg2 {a b c:Bs}(h1:blt b a=false)(h2:blt b c=true):blt a c=true:=by
 rcases blt_total a c with h|h|h
 ·exact h
 ·subst h;rw[h1]at h2;cases h2
 ·have:=qaT h2 h;rw[h1]at this;cases this
theorem Ok.bd:∀ (h:Nat) {lo hi:Option Bs} {t:Tr h},Ok h lo hi t→∀ p∈qme h t,In lo hi p.1
 | 0,_,_,_,h=>h.1.bd
 | n+1,lo,hi,(ks,xs),h=>by
  have key:∀ (ks:List Bs) (xs:List (Kid n)) (lo hi:Option Bs),Between (fun lo hi (x:Kid n)=>Ok n lo hi x.2) lo hi ks xs→∀ x∈xs,∀ p∈qme n x.2,In lo hi p.1:=by
   intro ks
   induction ks with
   | nil=>
    intro xs lo hi h
    match xs,h with
    | [x],h=>
     intro y hy p hp;obtain rfl:y=x:=by simpa using hy
     exact Ok.bd n h p hp
   | cons k ks ih=>
    intro xs lo hi h
    match xs,h with
    | x::xs,h=>
     obtain⟨h1,h2,_,_,h3,h4⟩:=h;intro y hy p hp;rcases zaB.1 hy with rfl|hy
     ·obtain⟨q1,q2⟩:=Ok.bd n h3 p hp;refine⟨q1,fun b hb=>?_⟩;exact qaT (q2 k rfl) (h1.2 b hb)
     ·obtain⟨q1,q2⟩:=ih xs _ _ h4 y hy p hp;refine⟨fun l hl=>?_,q2⟩;have e1:=q1 k rfl;exact qcv (qa0 (h2 l hl) e1)
  intro p hp;obtain⟨x,hx,hp2⟩:=za4.1 hp;exact key ks xs lo hi h x hx p hp2
def hiN (l:Bs):Nat:=l.foldl (fun n c=>n*256+c.toNat) 0
theorem qge (l:Bs)(c:UInt8):hiN (l++[c])=hiN l*256+c.toNat:=by simp[hiN]
theorem qfJ (l:Bs):hiN l<256 ^ l.length:=by
 have:∀ r:Bs,hiN r.reverse<256 ^ r.length:=fun r=>by
  induction r with
  | nil=>simp[hiN]
  | cons c r ih=>
   rw[List.reverse_cons,qge,zal,Nat.pow_succ];have:=c.toNat_lt;omega
 have:=this l.reverse
 rwa [List.reverse_reverse,List.length_reverse]at this
theorem qld (l:Bs){c:UInt8}(h:l[k]?=some c):hiN (l.take (k+1))=hiN (l.take k)*256+c.toNat:=by
 have hk:=(zac.1 h).1;have e:=(zac.1 h).2;rw[zaw hk,qge,e]
def qbI (n i:Nat):UInt8:=UInt8.ofNat (n / 2 ^ (56-8*i))
def numB (n k:Nat):Bs:=((List.range 8).drop (8-k)).map (qbI n)
theorem qan (n k:Nat)(h:k≤8):(numB n k).length=k:=by simp[numB];omega
theorem qmP (n:Nat):numB n 2=[UInt8.ofNat (n / 256),UInt8.ofNat n]:=by simp[numB,List.range,List.range.loop,qbI]
theorem qmQ (n:Nat):numB n 4=[UInt8.ofNat (n / 16777216),UInt8.ofNat (n / 65536),UInt8.ofNat (n / 256),UInt8.ofNat n]:=by simp[numB,List.range,List.range.loop,qbI]
theorem qmR (n:Nat):numB n 8=[UInt8.ofNat (n / 72057594037927936),UInt8.ofNat (n / 281474976710656),UInt8.ofNat (n / 1099511627776),UInt8.ofNat (n / 4294967296),UInt8.ofNat (n / 16777216),UInt8.ofNat (n / 65536),UInt8.ofNat (n / 256),UInt8.ofNat n]:=by
 simp[numB,List.range,List.range.loop,qbI]
theorem qiu (n:Nat)(h:n<65536):hiN (numB n 2)=n:=by
 rw[qmP];simp[hiN];omega
theorem qcO (n:Nat)(h:n<4294967296):hiN (numB n 4)=n:=by
 rw[qmQ];simp[hiN];omega
theorem qlc (n:Nat)(h:n<18446744073709551616):hiN (numB n 8)=n:=by
 rw[qmR];simp[hiN];omega
def nibT:List Nat:=[0x00000000,0x1db71064,0x3b6e20c8,0x26d930ac,0x76dc4190,0x6b6b51f4,0x4db26158,0x5005713c,0xedb88320,0xf00f9344,0xd6d6a3e8,0xcb61b38c,0x9b64c2b0,0x86d3d2d4,0xa00ae278,0xbdbdf21c]
def qf3 (r:Nat):Nat:=nibT.getD (r % 16) 0 ^^^ (r / 16)
def qb0 (r:Nat)(c:UInt8):Nat:=qf3 (qf3 (r ^^^ c.toNat))
def crcMore (s:Nat)(l:Bs):Nat:=4294967295-l.foldl qb0 (4294967295-s)
def crcN (l:Bs):Nat:=crcMore 0 l
theorem qiW (s:Nat)(l:Bs):crcMore s l<4294967296:=by unfold crcMore;omega
theorem qc8 (l:Bs):crcN l<4294967296:=qiW 0 l
def hasB (u:Bs)(i:Nat):Bool:=(u.getD (i / 8) 0).toNat.testBit (i % 8)
def offN (c k:Nat):Nat:=c &&& (255-2 ^ k)
def setN (c k:Nat)(y:Bool):Nat:=if y then offN c k ||| 2 ^ k else offN c k
def setB (u:Bs)(i:Nat)(y:Bool):Bs:=u.set (i / 8) (UInt8.ofNat (setN (u.getD (i / 8) 0).toNat (i % 8) y))
theorem qdz (u:Bs)(i:Nat)(y:Bool):(setB u i y).length=u.length:=by simp[setB]
theorem qls (k j:Nat)(hk:k<8)(hj:j<8):(255-2 ^ k).testBit j=decide (j≠k):=by
 have h1:k=0∨k=1∨k=2∨k=3∨k=4∨k=5∨k=6∨k=7:=by omega
 have h2:j=0∨j=1∨j=2∨j=3∨j=4∨j=5∨j=6∨j=7:=by omega
 rcases h1 with rfl|rfl|rfl|rfl|rfl|rfl|rfl|rfl<;>rcases h2 with rfl|rfl|rfl|rfl|rfl|rfl|rfl|rfl<;>decide
theorem qkl (c k:Nat):offN c k<256:=zcE Nat.and_le_right (zcE (Nat.sub_le _ _) (by decide))
theorem qmu (c k:Nat)(y:Bool)(hk:k<8):setN c k y<256:=by
 unfold setN;split
 ·exact Nat.or_lt_two_pow (n:=8) (qkl c k) (Nat.pow_lt_pow_right (by omega) hk)
 ·exact qkl c k
theorem qlE (c k j:Nat)(y:Bool)(hk:k<8)(hj:j<8):(setN c k y).testBit j=if j=k then y else c.testBit j:=by
 have h1:(offN c k).testBit j=(c.testBit j&&decide (j≠k)):=by
  unfold offN;rw[Nat.testBit_and,qls k j hk hj]
 unfold setN;by_cases hjk:j=k
 ·subst hjk;cases y<;>simp[h1,Nat.testBit_or,Nat.testBit_two_pow_self]
 ·cases y
  ·simp[h1,hjk]
  ·rw[zax rfl,Nat.testBit_or,h1,Nat.testBit_two_pow_of_ne (fun e=>hjk e.symm)];simp[hjk]
theorem qga (u:Bs)(i j:Nat)(y:Bool)(hi:i<8*u.length):hasB (setB u i y) j=if j=i then y else hasB u j:=by
 unfold hasB setB;by_cases hb:j / 8=i / 8
 ·rw[hb,zaq,List.getElem?_set_self (by omega),zcx,zco,zbs (qmu _ _ _ (Nat.mod_lt _ (by omega))),qlE _ _ _ _ (Nat.mod_lt _ (by omega)) (Nat.mod_lt _ (by omega))];by_cases hij:j=i
  ·subst hij;simp
  ·rw[zaC (by omega),zaC hij]
 ·have:j≠i:=fun e=>hb (by rw[e]);rw[zaC this,zaq,List.getElem?_set_ne (by omega),←zaq]
def zeros (n:Nat):Bs:=List.replicate n 0
theorem zeros_len (n:Nat):(zeros n).length=n:=by simp[zeros]
theorem qfI (n i:Nat):hasB (zeros n) i=false:=by
 unfold hasB zeros;rw[zaq,List.getElem?_replicate];split<;>simp
abbrev qaZ:=Nat→Nat→Bs
structure Wt where
 dev:Nat
 place:Nat
 b:Bs
def setD (D:qaZ)(d k:Nat)(b:Bs):qaZ:=fun d' k'=>if d'=d∧k'=k then b else D d' k'
def lay (D:qaZ):List Wt→qaZ
 | []=>D
 | x::l=>lay (setD D x.dev x.place x.b) l
structure Tp where
 most:Nat
 len:Nat
 waits:Nat
structure Pl where
 most:List Nat
 tp:List Tp
 disk:qaZ
 waits:List Wt
 off:Bool
 fuse:Int
def Pl.seen (p:Pl):qaZ:=lay p.disk p.waits
def Pl.step (p:Pl):Bool×Pl:=if p.fuse=0 then(false,{ p with off:=true,fuse:=-1 })else(true,{ p with fuse:=if 0<p.fuse then p.fuse-1 else p.fuse })
def Pl.give (p:Pl)(x:Wt):Bool×Pl:=if p.step.1 then(true,{ p.step.2 with waits:=p.waits++[x] })else(false,p.step.2)
def Pl.write (p:Pl)(x:Wt):Bool×Pl:=if p.off then(false,p)else p.give x
def Pl.flush (p:Pl)(d:Nat):Bool×Pl:=
 if p.off then(false,p)else if p.step.1 then(true,{ p.step.2 with disk:=lay p.disk (p.waits.filter fun x=>x.dev=d),waits:=p.waits.filter fun x=>x.dev≠d })else(false,p.step.2)
def kept (keep:List Int):Nat→List Wt→List Wt
 | _,[]=>[]
 | i,x::l=>if 0<keep.length∧(keep.getD (i % keep.length) 0) % 2=1 then x::kept keep (i+1) l else kept keep (i+1) l
def Pl.boot (p:Pl)(keep:List Int):Pl:={ p with disk:=lay p.disk (kept keep 0 p.waits),waits:=[],off:=false,fuse:=-1 }
structure Pl.Ok (p:Pl):Prop where
 waits:∀ x∈p.waits,x.b.length=64∧∃ m,p.most[x.dev]?=some m∧x.place<m
 disk:∀ d k,(p.disk d k).length=64
 most:∀ m∈p.most,m≤4096
 devs:p.most.length+p.tp.length≤12
 fuse:-1≤p.fuse∧p.fuse≤9223372036854775807
theorem qbm (D:qaZ):∀ (a b:List Wt),lay D (a++b)=lay (lay D a) b
 | [],_=>rfl
 | x::a,b=>qbm _ a b
def qbi (gen root1:Nat)(ub:Bs):Bs:=numB gen 8++numB root1 2++ub
def superB (gen root1:Nat)(ub:Bs):Bs:=qbi gen root1 ub++numB (crcN (qbi gen root1 ub)) 4++zeros 2
structure Sb where
 gen:Nat
 root1:Nat
 ub:Bs
 ok:Bool
def readS (b:Bs):Sb:=
 ⟨hiN (b.take 8),hiN ((b.drop 8).take 2),(b.drop 10).take 48,decide (0<hiN (b.take 8))&&decide (hiN (b.take 8)<9223372036854775808)&&(hiN ((b.drop 58).take 4)==crcN (b.take 58))⟩
theorem qdD (gen root1:Nat)(ub:Bs)(h:ub.length=48):(qbi gen root1 ub).length=58:=by
 simp[qbi,qan,h]
theorem qjz (gen root1:Nat)(ub:Bs)(h:ub.length=48):(superB gen root1 ub).length=64:=by
 simp[superB,qdD,qan,h,zeros_len]
theorem qe7 (gen root1:Nat)(ub:Bs)(h0:0<gen)(h1:gen<9223372036854775808)(h2:root1<65536)(h:ub.length=48) :
  readS (superB gen root1 ub)=⟨gen,root1,ub,true⟩:=by
 have hl:=qdD gen root1 ub h;have e1:(superB gen root1 ub).take 58=qbi gen root1 ub:=by
  unfold superB;rw[zah,zbo hl]
 have e2:(superB gen root1 ub).drop 58=numB (crcN (qbi gen root1 ub)) 4++zeros 2:=by
  unfold superB;rw[zah,zbG hl]
 have e3:(superB gen root1 ub).take 8=numB gen 8:=by
  unfold superB qbi;simp only[zah];rw[zbo (qan _ _ (by omega))]
 have e4:((superB gen root1 ub).drop 8).take 2=numB root1 2:=by
  unfold superB qbi;simp only[zah];rw[zbG (qan _ _ (by omega)),zbo (qan _ _ (by omega))]
 have e5:((superB gen root1 ub).drop 10).take 48=ub:=by
  unfold superB qbi;rw[zah,zah,zbG (by simp[qan]),zbo h]
 have e6:((superB gen root1 ub).drop 58).take 4=numB (crcN (qbi gen root1 ub)) 4:=by
  rw[e2,zbo (qan _ _ (by omega))]
 unfold readS;rw[e3,e4,e5,e6,e1,qlc _ (by omega),qiu _ h2,qcO _ (qc8 _)];simp[h0,h1]
def slot (gen:Nat):Nat:=(gen+1) % 2
theorem qco (g:Nat):slot g<2:=Nat.mod_lt _ (by omega)
theorem qig (g:Nat):slot (g+1)≠slot g:=by unfold slot;omega
def pick (a:Sb)(g:Nat×Nat×Bs):Nat×Nat×Bs:=if a.ok&&decide (g.1<a.gen)then(a.gen,a.root1,a.ub)else g
def qev (s0 s1:Bs):Nat×Nat×Bs:=pick (readS s1) (pick (readS s0) (0,1,zeros 48))
def qjy (pages:Nat)(ub:Bs):Bool:=(List.range 384).any fun i=>decide (pages≤i)&&hasB ub i
def qek (pages:Nat)(c:Nat×Nat×Bs):Bool:=!qjy pages c.2.2&&!(decide (c.1=0)||decide (pages<c.2.1)||(decide (1≤c.2.1)&&!hasB c.2.2 (c.2.1-1)))
theorem stray_false {pages:Nat}{ub:Bs}:qjy pages ub=false↔∀ i,pages≤i→i<384→hasB ub i=false:=by
 unfold qjy;rw[List.any_eq_false];constructor
 ·intro h i h1 h2;have:=h i (za9.2 h2);simpa [h1] using this
 ·intro h i hi;have hi:=za9.1 hi;by_cases h1:pages≤i
  ·simp[h i h1 hi]
  ·simp[h1]
structure Cm where
 gen:Nat
 root1:Nat
 ub:Bs
structure Com (p:Pl) (d pages:Nat) (c:Cm):Prop where
 m:∃ m,p.most[d]?=some m∧pages=min ((m-2) / 8) 384∧0<pages
 g0:0<c.gen
 g1:c.gen<4611686018427387904
 ub:c.ub.length=48
 ubp:∀ i,pages≤i→i<384→hasB c.ub i=false
 root:c.root1=0∨(1≤c.root1∧c.root1≤pages∧hasB c.ub (c.root1-1)=true)
 sb:p.disk d (slot c.gen)=superB c.gen c.root1 c.ub
 other:(readS (p.disk d (slot (c.gen+1)))).ok=true→(readS (p.disk d (slot (c.gen+1)))).gen<c.gen
 wt:∀ x∈p.waits,x.dev=d→2≤x.place∧hasB c.ub ((x.place-2) / 8)=false
theorem qbP {d k:Nat}:∀ {l:List Wt} {D:qaZ},(∀ x∈l,¬(x.dev=d∧x.place=k))→lay D l d k=D d k
 | [],_,_=>rfl
 | x::l,D,h=>by
  rw[lay,qbP (fun y hy=>h y (zba _ hy))];unfold setD;rw[zaC];intro e;exact h x (zbN ..) ⟨e.1.symm,e.2.symm⟩
theorem qeE {keep:List Int}:∀ {i:Nat} {l:List Wt} {x:Wt},x∈kept keep i l→x∈l
 | _,[],_,h=>h
 | i,y::l,x,h=>by
  unfold kept at h;split at h
  ·rcases zaB.1 h with rfl|h
   ·exact zbN ..
   ·exact zba _ (qeE h)
  ·exact zba _ (qeE h)
theorem Com.lay {p:Pl}{d pages:Nat}{c:Cm}(h:Com p d pages c){l:List Wt}(hl:∀ x∈l,x∈p.waits){k:Nat}(hk:k<2∨hasB c.ub ((k-2) / 8)=true):lay p.disk l d k=p.disk d k:=by
 refine qbP fun x hx e=>?_;obtain⟨h1,h2⟩:=h.wt x (hl x hx) e.1;rcases hk with hk|hk
 ·omega
 ·rw[←e.2,h2]at hk;cases hk
theorem Com.seen {p:Pl}{pages:Nat}{c:Cm}(h:Com p d pages c)(hk:k<2∨hasB c.ub ((k-2) / 8)=true):p.seen d k=p.disk d k:=h.lay (fun _ h=>h) hk
theorem Com.to {p q:Pl}{pages:Nat}{c:Cm}(h:Com p d pages c)(hm:q.most=p.most)(hd:∀ k,k<2→q.disk d k=p.disk d k)(hw:∀ x∈q.waits,x.dev=d→2≤x.place∧hasB c.ub ((x.place-2) / 8)=false):Com q d pages c:=
 ⟨by rw[hm];exact h.m,h.g0,h.g1,h.ub,h.ubp,h.root,by rw[hd _ (qco _)];exact h.sb,by rw[hd _ (qco _)];exact h.other,hw⟩
theorem Com.boot {p:Pl}{pages:Nat}{c:Cm}(h:Com p d pages c)(keep:List Int):Com (p.boot keep) d pages c:=
 h.to rfl (fun k hk=>h.lay (fun _=>qeE) (.inl hk)) (fun x hx=>by cases hx)
theorem qkm {s0 s1:Bs}{gen root1:Nat}{ub:Bs}(g0:0<gen)(g1:gen<9223372036854775808)(hr:root1<65536)(hu:ub.length=48)
  (h:(s0=superB gen root1 ub∧((readS s1).ok=true→(readS s1).gen<gen))∨(s1=superB gen root1 ub∧((readS s0).ok=true→(readS s0).gen<gen))):qev s0 s1=(gen,root1,ub):=by
 have hs:=qe7 gen root1 ub g0 g1 hr hu;unfold qev;rcases h with⟨rfl,h⟩|⟨rfl,h⟩
 ·rw[hs];have e:pick ⟨gen,root1,ub,true⟩ (0,1,zeros 48)=(gen,root1,ub):=by simp[pick,g0]
  rw[e];unfold pick;rw[zaC];simp only[zaQ,zbf,not_and];intro h1;have:=h h1;omega
 ·rw[hs];unfold pick;rw[zax];split
  ·rename_i h1;simp only[zaQ,zbf]at h1;have:=h h1.1;simp only[Bool.true_and,zbf];exact this
  ·simp[g0]
theorem Com.open_ {p:Pl}{pages:Nat}{c:Cm}(h:Com p d pages c):qev (p.seen d 0) (p.seen d 1)=(c.gen,c.root1,c.ub)∧qek pages (c.gen,c.root1,c.ub)=true:=by
 obtain⟨m,m1,m2,m3⟩:=h.m;have g0:=h.g0;have g1:=h.g1;have hr:c.root1<65536:=by
  rcases h.root with h1|h1
  ·omega
  ·have:=h1.2.1;omega
 constructor
 ·rw[h.seen (.inl (by omega)),h.seen (.inl (by omega))];refine qkm g0 (by omega) hr h.ub ?_;have h1:=h.sb;have h2:=h.other;by_cases hs:slot c.gen=0
  ·have Ha:slot (c.gen+1)=1:=by unfold slot at *;omega
   rw[hs]at h1;rw[Ha]at h2;exact .inl ⟨h1,h2⟩
  ·have Hb:slot c.gen=1:=by have:=qco c.gen;omega
   have Ha:slot (c.gen+1)=0:=by unfold slot at *;omega
   rw[Hb]at h1;rw[Ha]at h2;exact .inr ⟨h1,h2⟩
 ·unfold qek;rw[stray_false.2 h.ubp];rcases h.root with h1|⟨h1,h2,h3⟩
  ·simp[h1];omega
  ·simp[h3];omega
def qcF (b:Bs):Bs:=numB b.length 2++numB (crcN b) 4++b
def qdf (b:Bs)(i:Nat):Bs:=((qcF b).drop (i*64)).take 64++zeros (64-((qcF b).drop (i*64)).length)
def qdW (s:Nat→Bs)(page:Nat):Bs:=(List.range 8).flatMap fun i=>s (2+page*8+i)
def qiE (all:Bs):Option Bs:=
 if 500<hiN (all.take 2)∨crcN ((all.drop 6).take (hiN (all.take 2)))≠hiN ((all.drop 2).take 4)then none else some ((all.drop 6).take (hiN (all.take 2)))
def qaX (s:Nat→Bs)(page:Nat):Option Bs:=qiE (qdW s page)
theorem qbJ {α β:Type}{l:List α}{f g:α→List β}(h:∀ a∈l,f a=g a):l.flatMap f=l.flatMap g:=by
 induction l with
 | nil=>rfl
 | cons a l ih=>rw[zat,zat,h a (by simp),ih fun b hb=>h b (by simp[hb])]
theorem qh4 (b:Bs):(qcF b).length=6+b.length:=by simp[qcF,qan];omega
theorem qlO (l:Bs):∀ n:Nat,((List.range n).flatMap fun i=>(l.drop (i*64)).take 64++zeros (64-(l.drop (i*64)).length))=l.take (n*64)++zeros (n*64-l.length)
 | 0=>by simp[zeros]
 | n+1=>by
  rw[List.range_succ,zaK,qlO l n];simp only[zat,zbQ,zaP,zap];by_cases h:n*64≤l.length
  ·rw[show n*64-l.length=0 by omega,show zeros 0=[]from rfl,zaP,←zah];congr 1
   ·rw[show(n+1)*64=n*64+64 by omega,List.take_add]
   ·congr 1;omega
  ·rw[za0 (by omega),List.take_nil,zaI,zaL (by omega),zaL (by omega),zah];congr 1;unfold zeros;rw[List.replicate_append_replicate];congr 1;omega
theorem qex {s:Nat→Bs}{b:Bs}(hb:b.length≤500)(h:∀ i,i<8→s (2+page*8+i)=qdf b i):qaX s page=some b:=by
 have e:qdW s page=qcF b++zeros (512-(qcF b).length):=by
  have:qdW s page=(List.range 8).flatMap fun i=>qdf b i:=by
   unfold qdW;exact qbJ fun i hi=>h i (za9.1 hi)
  rw[this];have:=qlO (qcF b) 8;rw[zaL (by rw[qh4];omega)]at this;exact this
 unfold qaX qiE;rw[e];unfold qcF;simp only[zah];have e1:(numB b.length 2++(numB (crcN b) 4++(b++zeros (512-(numB b.length 2++(numB (crcN b) 4++b)).length)))).take 2=numB b.length 2:=zbo (qan _ _ (by omega));have e2:((numB b.length 2++(numB (crcN b) 4++(b++zeros (512-(numB b.length 2++(numB (crcN b) 4++b)).length)))).drop 2).take 4=numB (crcN b) 4:=by
  rw[zbG (qan _ _ (by omega)),zbo (qan _ _ (by omega))]
 have e3:((numB b.length 2++(numB (crcN b) 4++(b++zeros (512-(numB b.length 2++(numB (crcN b) 4++b)).length)))).drop 6)=b++zeros (512-(numB b.length 2++(numB (crcN b) 4++b)).length):=by
  rw[←zah,zbG (by simp[qan])]
 rw[e1,e2,e3,qiu _ (by omega),qcO _ (qc8 _),zbo rfl,zaC];simp;omega
theorem readPage_len {s:Nat→Bs}{b:Bs}(h:qaX s page=some b):b.length≤500:=by
 unfold qaX qiE at h;split at h
 ·cases h
 ·rename_i h1;cases h;rw[zaj];omega
theorem qc0 {s s':Nat→Bs}(h:∀ i,i<8→s' (2+page*8+i)=s (2+page*8+i)):qaX s' page=qaX s page:=by
 unfold qaX qdW;congr 1;exact qbJ fun i hi=>h i (za9.1 hi)
inductive Kd where
 | page (p:Nat)
 | leaf (ps:List Pr)
 | inner (ks:List Bs) (xs:List Kd)
deriving Inhabited
abbrev Dsk:=Nat→Option Kd
def nd (D:Dsk):Kd→Option Kd
 | .page p=>D p
 | k=>some k
def isPage:Kd→Bool
 | .page _=>true
 | _=>false
def qah:Kd→List Nat
 | .page p=>[p]
 | _=>[]
def qaz:Kd→Nat
 | .page _=>0
 | .leaf ps=>2+qaK ps
 | .inner ks xs=>2+qaI ks+2*xs.length
def join (a:Kd)(k:Bs)(b:Kd):Option Kd:=match a,b with
 | .leaf p,.leaf q=>if qaz (.leaf (p++q))≤500 then some (.leaf (p++q))else none
 | .inner ks xs,.inner ls ys=>if qaz (.inner (ks++k::ls) (xs++ys))≤500 then some (.inner (ks++k::ls) (xs++ys))else none
 | _,_=>none
def nk:Kd→Nat
 | .page _=>0
 | .leaf ps=>ps.length
 | .inner ks _=>ks.length
def qaG:Kd→Nat→Kd×Kd×Bs
 | .leaf ps,i=>(.leaf (ps.take i),.leaf (ps.drop i),((ps[i]?).map Prod.fst).getD [])
 | .inner ks xs,i=>(.inner (ks.take i) (xs.take (i+1)),.inner (ks.drop (i+1)) (xs.drop (i+1)),(ks[i]?).getD [])
 | .page p,_=>(.page p,.page p,[])
def qjL (t:Kd):Nat→Option (Kd×Kd×Bs)
 | 0=>none
 | n+1=>if n=0 then none else
  let x:=qaG t n
  match qjL t n with
  | none=>some x
  | some y=>if max (qaz x.1) (qaz x.2.1)<max (qaz y.1) (qaz y.2.1)then some x else some y
def cutK (t:Kd):List Kd×List Bs:=
 if qaz t≤500 then([t],[])else match qjL t (nk t)with
  | none=>([],[[]])
  | some (a,b,k)=>([a,b],[k])
def qdV (D:Dsk)(met:List Nat):Kd→Option Kd
 | .page p=>if p∈met then none else D p
 | k=>some k
def qcC (D:Dsk):Nat→Nat→Nat→List Bs→List Kd→List Nat→Option (List Bs×List Kd×List Nat)
 | 0,_,_,ks,xs,met=>some (ks,xs,met)
 | f+1,at_,to,ks,xs,met=>
  if at_+1<xs.length∧at_≤to then
   match xs[at_]?,xs[at_+1]?,ks[at_]? with
   | some a,some b,some k=>
    match qdV D met a,qdV D met b with
    | some na,some nb=>
     match join na k nb with
     | some x=>qcC D f at_ to (ks.eraseIdx at_) (xs.take at_++x::xs.drop (at_+2)) (met++qah a++qah b)
     | none=>qcC D f (at_+1) to ks xs met
    | _,_=>none
   | _,_,_=>none
  else some (ks,xs,met)
def qbd (D:Dsk):Nat→List Nat→Kd→Bs→Option Bs→Option (List Kd×List Bs×List Nat)
 | 0,_,_,_,_=>none
 | f+1,met,k,key,v=>
  match qdV D met k with
  | none=>none
  | some (.page _)=>none
  | some (.leaf ps)=>
   let ps':=chgR key v ps
   if ps'.length=0 then some ([],[],met++qah k)else some ((cutK (.leaf ps')).1,(cutK (.leaf ps')).2,met++qah k)
  | some (.inner ks xs)=>
   let i:=down ks key
   match xs[i]? with
   | none=>none
   | some x=>
    match qbd D f (met++qah k) x key v with
    | none=>none
    | some (got,bet,met2)=>
     let xs1:=xs.take i++got++xs.drop (i+1)
     let ks1:=if 0<got.length then ks.take i++bet++ks.drop i else ks.eraseIdx (i-1)
     match qcC D (xs1.length+i+3) (i-1) (i+1) ks1 xs1 met2 with
     | none=>none
     | some (ks2,xs2,met3)=>
      if xs2.length=0 then some ([],[],met3)else some ((cutK (.inner ks2 xs2)).1,(cutK (.inner ks2 xs2)).2,met3)
def itemsK (D:Dsk):Nat→Kd→List Pr
 | 0,k=>match nd D k with
  | some (.leaf ps)=>ps
  | _=>[]
 | h+1,k=>match nd D k with
  | some (.inner _ xs)=>xs.flatMap (itemsK D h)
  | _=>[]
def pgs (D:Dsk):Nat→Kd→List Nat
 | 0,k=>qah k
 | h+1,k=>qah k++match nd D k with
  | some (.inner _ xs)=>xs.flatMap (pgs D h)
  | _=>[]
def klen (k:Bs):Prop:=1≤k.length∧k.length≤24
def plen (p:Pr):Prop:=klen p.1∧p.2.length≤160
def qiP (D:Dsk)(h:Nat)(a:Kd)(k:Bs)(b:Kd):Prop:=
 (∀ p∈itemsK D h a,blt p.1 k=true)∧∀ p∈itemsK D h b,blt p.1 k=false
def Sep (D:Dsk)(h:Nat)(ks:List Bs)(xs:List Kd):Prop:=
 ∀ (j:Nat) a k b,xs[j]?=some a→ks[j]?=some k→xs[j+1]?=some b→qiP D h a k b
def Body (D:Dsk):Nat→Kd→Prop
 | 0,n=>∃ ps,n=.leaf ps∧ps≠[]∧∀ p∈ps,plen p
 | h+1,n=>∃ ks xs,n=.inner ks xs∧xs.length=ks.length+1∧(∀ k∈ks,klen k)∧Sep D h ks xs∧∀ x∈xs,∃ m,nd D x=some m∧Body D h m∧qaz m≤500
def WF (D:Dsk)(h:Nat)(k:Kd):Prop:=∃ m,nd D k=some m∧Body D h m∧qaz m≤500
def Srt (l:List Pr):Prop:=l.Pairwise fun a b=>blt a.1 b.1=true
theorem Body.ne {D:Dsk}:∀ {h:Nat} {n:Kd},Body D h n→itemsK D h n≠[]:=by
 intro h
 induction h with
 | zero=>
  rintro n ⟨ps,rfl,h,_⟩;exact h
 | succ h ih=>
  rintro n ⟨ks,xs,rfl,hl,_,_,hx⟩ h0
  match xs,hl with
  | x::xs,_=>
   obtain⟨m,h1,h2,_⟩:=hx x (by simp);have h3:itemsK D h m=itemsK D h x:=by
    cases h<;>simp only[itemsK,h1]<;>cases m<;>simp_all [nd,Body]
   simp only[itemsK,nd,zat,zcF]at h0;exact ih h2 (h3.trans h0.1)
theorem Body.notPage {D:Dsk}{n:Kd}(hb:Body D h n):nd D n=some n:=by
 cases h with
 | zero=>obtain⟨_,rfl,_⟩:=hb;rfl
 | succ h=>obtain⟨_,_,rfl,_⟩:=hb;rfl
theorem qaE {D:Dsk}{k m:Kd}(h1:nd D k=some m)(hb:Body D h m):itemsK D h k=itemsK D h m:=by
 cases h<;>simp only[itemsK,h1,hb.notPage]
theorem WF.ne {D:Dsk}{k:Kd}(hw:WF D h k):itemsK D h k≠[]:=by
 obtain⟨m,h1,h2,_⟩:=hw;rw[qaE h1 h2];exact h2.ne
theorem qcy (ks:List Bs)(key:Bs):down ks key≤ks.length∧(∀ j k,j<down ks key→ks[j]?=some k→blt key k=false)∧(∀ k,ks[down ks key]?=some k→blt key k=true):=by
 unfold down
 induction ks with
 | nil=>simp
 | cons a ks ih=>
  by_cases ha:blt key a=true
  ·simp[zcy,ha]
  ·have Ha:blt key a=false:=by simpa using ha
   obtain⟨h1,h2,h3⟩:=ih;simp only[zcy,Ha,Bool.not_false,zb5,zal];refine⟨by omega,?_,?_⟩
   ·intro j k hj hk
    match j with
    | 0=>simp at hk;subst hk;exact Ha
    | j+1=>exact h2 j k (by omega) (by simpa using hk)
   ·intro k hk;exact h3 k (by simpa using hk)
theorem qbZ {D:Dsk}{ks:List Bs}{xs:List Kd}(hs:Sep D h ks xs)(hne:∀ x∈xs,itemsK D h x≠[])(hsrt:Srt (xs.flatMap (itemsK D h))){j:Nat}{k:Bs}(hk:ks[j]?=some k)(hl:j+1<xs.length) :
  (∀ p∈(xs.take (j+1)).flatMap (itemsK D h),blt p.1 k=true)∧∀ p∈(xs.drop (j+1)).flatMap (itemsK D h),blt p.1 k=false:=by
 have ea:xs[j]?=some xs[j]:=zab (by omega);have eb:xs[j+1]?=some xs[j+1]:=zab hl;obtain⟨h1,h2⟩:=hs j _ k _ ea hk eb;constructor
 ·intro p hp;rw[zaw (by omega),zaK,zar]at hp;rcases hp with hp|hp
  ·obtain⟨q,hq⟩:=zbH _ (hne xs[j] (zbi ..));have e:xs=xs.take j++xs[j]::xs.drop (j+1):=by
    rw[za8,zay]
   unfold Srt at hsrt;rw[e,zaK,zbn]at hsrt;have:=hsrt.2.2 p hp q (by rw[zat];exact za6 _ hq);exact qaT this (h1 q hq)
  ·simp only[zat,zbQ,zaP]at hp;exact h1 p hp
 ·intro p hp;rw[←za8 (h:=hl),zat,zar]at hp;rcases hp with hp|hp
  ·exact h2 p hp
  ·obtain⟨q,hq⟩:=zbH _ (hne xs[j+1] (zbi ..));have e:xs=xs.take (j+1)++xs[j+1]::xs.drop (j+2):=by
    rw[za8,zay]
   unfold Srt at hsrt;rw[e,zaK,zbn]at hsrt;have h3:=hsrt.2.1;rw[zat,zbn]at h3;have:=h3.2.2 q hq p hp;cases hc:blt p.1 k with
   | false=>rfl
   | true=>have:=qaT this hc;rw[h2 q hq]at this;cases this
theorem mem_chgR {key:Bs}{v:Option Bs}:∀ {l:List Pr} {p:Pr},p∈chgR key v l→p∈l∨(p.1=key∧v=some p.2):=by
 intro l;cases v with
 | none=>
  intro p hp;left
  induction l with
  | nil=>exact hp
  | cons q l ih=>
   simp only[chgR,delR]at hp ih⊢;split at hp
   ·rcases zaB.1 hp with rfl|hp
    ·simp
    ·exact zba _ (ih hp)
   ·split at hp
    ·exact zba _ hp
    ·exact hp
 | some v=>
  intro p hp
  induction l with
  | nil=>simp only[chgR,putR,za1]at hp;subst hp;exact .inr ⟨rfl,rfl⟩
  | cons q l ih=>
   simp only[chgR,putR]at hp ih⊢;split at hp
   ·rcases zaB.1 hp with rfl|hp
    ·simp
    ·rcases ih hp with h|h
     ·exact .inl (zba _ h)
     ·exact .inr h
   ·split at hp
    ·rcases zaB.1 hp with rfl|hp
     ·exact .inr ⟨rfl,rfl⟩
     ·exact .inl (zba _ hp)
    ·rcases zaB.1 hp with rfl|hp
     ·exact .inr ⟨rfl,rfl⟩
     ·exact .inl hp
theorem qg3 {a b:Bs}(h:blt a b=false)(hne:a≠b):blt b a=true:=by
 rcases blt_total a b with h1|h1|h1
 ·rw[h]at h1;cases h1
 ·exact absurd h1 hne
 ·exact h1
theorem Srt.chg {key:Bs}{v:Option Bs}:∀ {l:List Pr},Srt l→Srt (chgR key v l):=by
 intro l;unfold Srt;cases v with
 | none=>
  induction l with
  | nil=>intro h;exact h
  | cons q l ih=>
   intro h;rw[zbr]at h;simp only[chgR,delR]at ih⊢;split
   ·rw[zbr];refine⟨fun p hp=>?_,ih h.2⟩;rcases mem_chgR (v:=none) (l:=l) (key:=key) hp with h1|⟨_,h1⟩
    ·exact h.1 p h1
    ·cases h1
   ·split
    ·exact h.2
    ·exact zbr.2 h
 | some v=>
  induction l with
  | nil=>intro _;simp[chgR,putR]
  | cons q l ih=>
   intro h;rw[zbr]at h;simp only[chgR,putR]at ih⊢;split
   ·rename_i hq;rw[zbr];refine⟨fun p hp=>?_,ih h.2⟩;rcases mem_chgR (v:=some v) (l:=l) (key:=key) hp with h1|⟨h1,_⟩
    ·exact h.1 p h1
    ·rw[h1];exact hq
   ·rename_i hq;split
    ·rename_i he;rw[zbr];refine⟨fun p hp=>?_,h.2⟩;have:=h.1 p hp;rw[he]at this;exact this
    ·rename_i he;have hk:blt key q.1=true:=qg3 (by simpa using hq) he;rw[zbr];refine⟨fun p hp=>?_,zbr.2 h⟩;rcases zaB.1 hp with rfl|hp
     ·exact hk
     ·exact qaT hk (h.1 p hp)
structure Got (D:Dsk) (h:Nat) (got:List Kd) (bet:List Bs):Prop where
 len:got=[]∧bet=[]∨(∃ x,got=[x]∧bet=[])∨∃ x y k,got=[x,y]∧bet=[k]
 kids:∀ x∈got,isPage x=false∧WF D h x
 keys:∀ k∈bet,klen k
 sep:Sep D h bet got
theorem Got.nil (D:Dsk)(h:Nat):Got D h [] []:=⟨.inl ⟨rfl,rfl⟩,by simp,by simp,by intro j a k b h;simp at h⟩
end Go.Proofs.YtfcknhbmeofniaaGreatDoor.BT
