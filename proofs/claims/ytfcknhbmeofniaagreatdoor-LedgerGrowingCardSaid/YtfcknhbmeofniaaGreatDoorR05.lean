/- Texts AlB Mem HeldW Byt Own HeldX Leaf Num Crc. -/
import Derived.Test.YtfcknhbmeofniaaGreatDoorR00
import Derived.WalkLawsBesides
import Derived.Lib.Hide
import Derived.Handy
import Derived.Deep.AppendLies
import Derived.Deep.AppendSrc
import Derived.Test.YtfcknhbmeofniaaGreatDoorRows
import Derived.Deep.DeepCutAuto
import Derived.Deep.RegionHeld3
import Derived.Laws.CopyOwn
import Derived.WalkSpells
import Derived.Lib.LazyBuf
set_option linter.all false
set_option maxRecDepth 100000
set_option maxHeartbeats 16000000
namespace Go.Proofs.YtfcknhbmeofniaaGreatDoor
open Go.RowKit
def zae:=@heap_alloc_new
def zai:=@Below.refl
def zao:=@cell_of_row
def zav:=@World.block_lt_of_cell?
def zaA:=@IntWalk.i64_in
def zaO:=@Result.andThen_ok
def zaU:=@run_underlying
def zaV:=@Below.heap_setCell
def zaW:=@Below.heap_alloc
def zaY:=@info_parts
def za5:=@World.size_alloc
def za7:=@bodyPost_ret
def zbk:=@frozen_of_row
def zbw:=@Sem.run_bind
def zbE:=@World.size_setCell
def zbK:=@Sem.run_pure
def zbL:=@IntWalk.u64_in
def zbP:=@World.cell?_of_block
def zb0:=@Below.grown
def zce:=@wpList_plain
def zcg:=@getD_set_ne
def zci:=@wpList_make_full
def zcj:=@MapKept.run_getObj_map
def zcr:=@World.size_drew
def zct:=@MapKept.run_checkKey
def zcv:=@mem_ready
def zcz:=@MapKept.run_findKey
def zcB:=@Act.put_comm
def zcL:=@size_zeroCells
section
theorem qcH {k:IntKind}{a b:Int}(h:a=b):Ending.returned (.int k a)=.returned (.int k b):=by rw[h]
theorem qeH {a b:Bool}(h:a=b):Ending.returned (.bool a)=.returned (.bool b):=by rw[h]
def el (xs:List Int)(k:Nat):Int:=xs.getD k 0
structure Ints (w:World) (A:Option Addr) (xs:List Int):Prop where
 len:xs.length≤9223372036854775807
 at_:0<xs.length→∃ b off,A=some ⟨b,off,none⟩∧b<w.heap.size∧∀ k,k<xs.length→w.cell? ⟨b,off+k,none⟩=some (.int .i64 (el xs k))
theorem Ints.below {w w':World}{A:Option Addr}{xs:List Int}(h:Ints w A xs)(hb:Below w.heap.size w w'):Ints w' A xs:=
 ⟨h.len,fun hk=>by
  obtain⟨b,off,e,hl,hc⟩:=h.at_ hk;exact⟨b,off,e,zag hl hb.size,fun k hk=>(hb.cell (p:=⟨b,off+k,none⟩) hl).trans (hc k hk)⟩⟩
theorem Ints.alloc {w:World}{A:Option Addr}{xs:List Int}(h:Ints w A xs)(o:Obj):Ints (w.alloc o) A xs:=
 h.below ((zai _ _).alloc (zad _) o)
structure Src (w:World) (size:Nat) (A:Option Addr) (m:Nat) (us:List Value):Prop where
 len:us.length=m*size
 at_:0<m→∃ ad,A=some ad∧∀ j u,us[j]?=some u→w.cell? (ad.add j)=some u
theorem Src.zero {w:World}{size:Nat}(A:Option Addr):Src w size A 0 []:=⟨by simp,fun h=>absurd h (zb9 0)⟩
theorem Src.empty {w:World}{size:Nat}{A:Option Addr}{us:List Value}(h:Src w size A 0 us):us=[]:=zaX (by simpa using h.len)
section
variable {P:Program}
theorem run_app (w:World){base:Nat}{t e:TypeId}{i:TypeInfo}{z:Value}{size bytes:Nat}(ty:TypeId)(ht:P.underlying t=some (.slice e))(hi:P.info? e=some i)(hz:i.zero=some z)
  (hsize:i.size=size)(hby:i.bytes=bytes)(hzs:z.cells.size=size)(hsz:0<size)
  {v:Value}{n:Nat}{xs:List Value}(hown:w.ownsRow base e size v n xs)
  {A:Option Addr}{m:Nat}(c:Nat){us:List Value}(hs:Src w size A m us)(h1:∀ u∈us,u.oneCell'=true)
  (h63:n+m≤maxLen)(hb:(n+m)*bytes≤140737488355328)(hbase:base≤w.heap.size) :
  ∃ v' w',(Builtin.append_ #[t,t] ty #[v,.slice A m c]).run P w=.ok v' w'∧w'.ownsRow base e size v' (n+m) (xs++us)∧w.grownBy w' v.ownBlock∧
   (v'.ownBlock=v.ownBlock∨v'.ownBlock=some w.heap.size):=by
 cases A with
 | some ad=>
  have hc:∀ j u,us[j]?=some u→w.cell? (ad.add j)=some u:=fun j u hu=>by
   by_cases h0:0<m
   ·obtain⟨ad',e',h⟩:=hs.at_ h0;cases e';exact h j u hu
   ·obtain rfl:m=0:=by omega
    rw[hs.empty]at hu;simp at hu
  obtain⟨v',w',a1,a2,a3,_,a5⟩:=run_append_own_at (P:=P) w base t ty e i z size bytes ht hi hz hsize hby hzs hsz v n xs hown ad m c us hs.len hc h1 h63 hb hbase;exact⟨v',w',a1,a2,a3,a5⟩
 | none=>
  have hm:m=0:=by
   rcases zcm m with h0|h0
   ·exact h0
   ·obtain⟨_,h,_⟩:=hs.at_ h0;cases h
  subst hm;rw[hs.empty,zaP];refine⟨v,w,?_,hown,World.grownBy.refl w _,.inl rfl⟩;obtain⟨_,hv⟩:=hown;rcases hv with⟨rfl,rfl⟩|⟨g,cap,cur,rfl,_,_,hle,_⟩ <;>
   simp[Builtin.append_,zaU ht,sizeOf,typeInfo,Builtin.lenOf,Builtin.firstCells,storeCells, *]
def Row (w:World)(base:Nat)(e:TypeId)(size:Nat)(v:Value)(n:Nat)(xs:List Value):Prop:=
 w.ownsRow base e size v n xs∨∃ A0,v=.slice A0 0 0∧n=0∧xs=[]
theorem Row.below {w w':World}{base B:Nat}{e:TypeId}{size:Nat}{v:Value}{n:Nat}{xs:List Value}(h:Row w base e size v n xs)(hB:w.heap.size≤B)(hb:Below B w w'):Row w' base e size v n xs:=by
 rcases h with h|h
 ·refine .inl ⟨h.1,?_⟩;rcases h.2 with h2|⟨g,cap,cur,a,b,c,d⟩
  ·exact .inl h2
  ·exact .inr ⟨g,cap,cur,a,b,(hb.block g (zag (zaa.1 c).1 hB)).trans c,d⟩
 ·exact .inr h
theorem Row.form {w:World}{base:Nat}{e:TypeId}{size:Nat}{v:Value}{n:Nat}{xs:List Value}(h:Row w base e size v n xs) :
  ∃ A cap,v=.slice A n cap∧xs.length=n*size∧(0<n→∃ g,A=some ⟨g,0,none⟩∧base≤g∧g<w.heap.size∧∀ j,j<n*size→w.cell? ⟨g,j,none⟩=xs[j]?):=by
 rcases h with h|⟨A0,rfl,rfl,rfl⟩
 ·have Ha:=h;rcases h.2 with⟨rfl,rfl⟩|⟨g,cap,cur,rfl,hb,hh,_⟩
  ·exact⟨none,0,rfl,h.1,fun h0=>absurd h0 (zb9 0)⟩
  ·exact⟨_,cap,rfl,h.1,fun _=>⟨g,rfl,hb,(zaa.1 hh).1,fun j hj=>Ha.cellAt j hj⟩⟩
 ·exact⟨A0,0,rfl,by simp,fun h0=>absurd h0 (zb9 0)⟩
theorem qkG (w:World){t e:TypeId}{i:TypeInfo}{z:Value}{size bytes:Nat}(ty:TypeId)(ht:P.underlying t=some (.slice e))(hi:P.info? e=some i)(hz:i.zero=some z)
  (hsize:i.size=size)(hby:i.bytes=bytes)(hzs:z.cells.size=size)(_hsz:0<size)
  (A0:Option Addr){A:Option Addr}{m:Nat}(c:Nat){us:List Value}(hs:Src w size A m us)(h1:∀ u∈us,u.oneCell'=true)
  (h63:m≤maxLen)(hb:m*bytes≤140737488355328) :
  ∃ v' w',(Builtin.append_ #[t,t] ty #[.slice A0 0 0,.slice A m c]).run P w=.ok v' w'∧Row w' w.heap.size e size v' m us∧Below w.heap.size w w':=by
 by_cases h0:0<m
 ·obtain⟨ad,rfl,hc⟩:=hs.at_ h0;have hr:=run_append_grow_src (P:=P) w t t ty e i z ht hi hz A0 0 0 [] (by cases A0<;>simp[Builtin.firstCells]<;>rfl) (.slice (some ad) m c) m us
   (_root_.Go.Src.ofSlice w ht ad m c us (by rw[hsize];exact hs.len) hc h1) (by omega) (by unfold maxLen at h63;omega) (growslice_fits (by omega) (by rw[hby,zaF];exact hb))
  simp only[zaF,zaI]at hr;refine⟨_,_,hr,.inl ⟨hs.len,.inr ⟨w.heap.size,_,_,rfl,zad _,zae w.drew _,grownCap_ge _ _ _ _,grownCap_le_maxLen _ _ _ _ h63,?_,?_⟩⟩,((zai _ _).drew).alloc (zad _) _⟩
  ·have Ha:=grownCap_ge w m 0 e;simp only[Array.size_append,zas,zcL,hzs,hs.len,←Nat.add_mul];congr 1;omega
  ·simp only[Array.toList_append];rw[←hs.len];exact List.take_left
 ·obtain rfl:m=0:=by omega
  rw[hs.empty];refine⟨.slice A0 0 0,w,?_,.inr ⟨A0,rfl,rfl,rfl⟩,zai _ _⟩;cases A<;>cases A0<;>simp[Builtin.append_,zaU ht,sizeOf,typeInfo,hi,Builtin.lenOf,Builtin.firstCells,storeCells]<;>rfl
theorem Ints.src {w:World}{A:Option Addr}{xs:List Int}(h:Ints w A xs):Src w 1 A xs.length (xs.map (Value.int .i64)):=by
 refine⟨by simp,fun h0=>?_⟩;obtain⟨b,off,rfl,_,hc⟩:=h.at_ h0;refine⟨_,rfl,fun j u hu=>?_⟩;rw[zaD]at hu;have hj:j<xs.length:=by
  by_cases hj:j<xs.length
  ·exact hj
  ·rw[zbU (by omega)]at hu;cases hu
 rw[zab hj]at hu;cases hu;have:=hc j hj;unfold el at this;rw[zaq,zab hj,zcx]at this;rw[←this];unfold Addr.add;by_cases h1:j=0
 ·subst h1;simp
 ·rw[zaC h1]
theorem qgf (xs:List Int):∀ u∈xs.map (Value.int .i64),u.oneCell'=true:=fun u hu=>by
 obtain⟨_,_,rfl⟩:=zbh.1 hu;rfl
theorem Row.ints {w:World}{base:Nat}{e:TypeId}{v:Value}{xs:List Int}(h:Row w base e 1 v xs.length (xs.map (Value.int .i64)))(hl:xs.length≤9223372036854775807) :
  ∃ A cap,v=.slice A xs.length cap∧Ints w A xs:=by
 obtain⟨A,cap,rfl,_,hf⟩:=h.form;refine⟨A,cap,rfl,hl,fun h0=>?_⟩;obtain⟨g,rfl,_,hg,hc⟩:=hf h0;refine⟨g,0,rfl,hg,fun k hk=>?_⟩;rw[zaF,hc k (by omega),zaD,zab hk];unfold el;rw[zaq,zab hk];rfl
def In (lo hi:Nat)(A:Option Addr)(n:Nat):Prop:=0<n→∃ g,A=some ⟨g,0,none⟩∧lo≤g∧g<hi
theorem Ints.setCell {w:World}{A:Option Addr}{xs:List Int}{lo hi:Nat}(h:Ints w A xs)(hi_:In lo hi A xs.length){p:Addr}(hp:p.block<lo∨hi≤p.block)(u:Value):Ints (w.setCell p u) A xs:=
 ⟨h.len,fun h0=>by
  obtain⟨b,off,rfl,hb,hc⟩:=h.at_ h0;obtain⟨g,e,hlo,hhi⟩:=hi_ h0;cases e;refine⟨b,0,rfl,by simpa using hb,fun k hk=>?_⟩;rw[World.cell?_setCell_other _ _ _ _ (fun e=>by subst e;simp at hp;omega)];exact hc k hk⟩
end
theorem Row.own {w:World}{base:Nat}{e:TypeId}{size:Nat}{A:Option Addr}{n cap:Nat}{xs:List Value}(h:Row w base e size (.slice A n cap) n xs)(hn:0<n) :
  ∃ g,A=some ⟨g,0,none⟩∧base≤g∧g<w.heap.size∧w.ownsRow base e size (.slice (some ⟨g,0,none⟩) n cap) n xs:=by
 rcases h with h|⟨_,_,h0,_⟩
 ·obtain⟨g,cap',e',hb,hlt⟩:=h.form hn;cases e';exact⟨g,rfl,hb,hlt,h⟩
 ·omega
section
variable {w w':World} {base:Nat} {e:TypeId} {size g n cap:Nat} {xs:List Value}
theorem qbG (h:w.ownsRow base e size (.slice (some ⟨g,0,none⟩) n cap) n xs)(hb:w'.heap[g]?=w.heap[g]?):w'.ownsRow base e size (.slice (some ⟨g,0,none⟩) n cap) n xs:=by
 refine⟨h.1,?_⟩;rcases h.2 with⟨h0,_⟩|⟨g',cap',cur,hv,a,b,c⟩
 ·cases h0
 ·cases hv;exact .inr ⟨g,cap,cur,rfl,a,hb.trans b,c⟩
theorem qgl {base':Nat}{v:Value}(h:w.ownsRow base e size v n xs)(hb:base'≤base):w.ownsRow base' e size v n xs:=by
 refine⟨h.1,?_⟩;rcases h.2 with h0|⟨g',cap',cur,hv,a,b,c⟩
 ·exact .inl h0
 ·exact .inr ⟨g',cap',cur,hv,zam hb a,b,c⟩
theorem qlX (h:w.ownsRow base e size (.slice (some ⟨g,0,none⟩) n cap) n xs):g<w.heap.size:=(h.lt g rfl).2
end
section
variable {P:Program}
theorem Src.below {w w':World}{size:Nat}{A:Option Addr}{m:Nat}{us:List Value}{B:Nat}(h:Src w size A m us)(hA:∀ ad,A=some ad→0<m→ad.block<B)(hb:Below B w w'):Src w' size A m us:=
 ⟨h.len,fun h0=>by
  obtain⟨ad,rfl,hc⟩:=h.at_ h0;refine⟨ad,rfl,fun j u hu=>?_⟩;have hbl:(ad.add j).block=ad.block:=by unfold Addr.add;split<;>rfl
  exact(hb.cell (by rw[hbl];exact hA ad rfl h0)).trans (hc j u hu)⟩
theorem Src.take {w:World}{A:Option Addr}{n:Nat}{us:List Value}(h:Src w 1 A n us){j:Nat}(hj:j≤n):Src w 1 A j (us.take j):=by
 have hl:=h.len;refine⟨by rw[zaj];omega,fun h0=>?_⟩;obtain⟨ad,rfl,hc⟩:=h.at_ (by omega);refine⟨ad,rfl,fun i u hu=>?_⟩;rw[zaR]at hu;split at hu
 ·exact hc i u hu
 ·cases hu
theorem Src.drop {w:World}{b off n:Nat}{us:List Value}(h:Src w 1 (some ⟨b,off,none⟩) n us)(j:Nat){A:Option Addr}(hA:j<n→A=some ⟨b,off+j,none⟩):Src w 1 A (n-j) (us.drop j):=by
 have hl:=h.len;refine⟨by rw[zap];omega,fun h0=>?_⟩;obtain⟨ad,e,hc⟩:=h.at_ (by omega);cases e;refine⟨_,hA (by omega),fun i u hu=>?_⟩;rw[zaJ]at hu;have h1:=hc (j+i) u hu;have e1:(⟨b,off,none⟩:Addr).add (j+i)=⟨b,off+(j+i),none⟩:=by unfold Addr.add;split<;>simp_all
 have e2:(⟨b,off+j,none⟩:Addr).add i=⟨b,off+j+i,none⟩:=by unfold Addr.add;split<;>simp_all
 rw[e1]at h1;rw[e2,zcD];exact h1
end
theorem qjr {P:Program}{t e:TypeId}{i:TypeInfo}(ht:P.underlying t=some (.slice e))(hi:P.info? e=some i)(hsize:i.size=1)(b off n c lo:Nat)(h1:lo≤n)(h2:n≤c) :
  ∃ A:Option Addr,(lo<n→A=some ⟨b,off+lo,none⟩)∧∀ W,(Instr.slice t (.slice (some ⟨b,off,none⟩) n c) (some (.int .i64 (lo:Int))) none none).run P W=.ok (.slice A (n-lo) (c-lo)) W:=by
 by_cases hc:c=lo
 ·refine⟨some ⟨b,off,none⟩,fun h=>by omega,fun W=>?_⟩;have e1:(lo:Int)≤(n:Int):=by omega
  subst hc;simp[Instr.slice,Instr.sliceBounds,Instr.sliceBound,asIntOf,zaU ht,sizeOf,typeInfo,hi,hsize,go_sem];intro h;omega
 ·refine⟨some ⟨b,off+lo,none⟩,fun _=>rfl,fun W=>?_⟩;have e1:(lo:Int)≤(n:Int):=by omega
  simp[Instr.slice,Instr.sliceBounds,Instr.sliceBound,asIntOf,zaU ht,sizeOf,typeInfo,hi,hsize,hc,go_sem];intro h;omega
theorem Row.keep {w w':World}{base:Nat}{e:TypeId}{size:Nat}{v:Value}{n:Nat}{xs:List Value}(h:Row w base e size v n xs)(hk:∀ b,v.ownBlock=some b→b<w.heap.size→w'.heap[b]?=w.heap[b]?):Row w' base e size v n xs:=by
 rcases h with h|h
 ·refine .inl ⟨h.1,?_⟩;rcases h.2 with h0|⟨g,cap,cur,rfl,a,b,c⟩
  ·exact .inl h0
  ·exact .inr ⟨g,cap,cur,rfl,a,(hk g rfl (zaa.1 b).1).trans b,c⟩
 ·exact .inr h
theorem qas {W:World}{b m size:Nat}{us:List Value}{t:TypeId}{fr:Nat×Nat}(h:W.heap[b]?=some (.cells us.toArray t fr))(hl:us.length=m*size):Src W size (some ⟨b,0,none⟩) m us:=
 ⟨hl,fun _=>⟨_,rfl,fun j v hv=>by
  have hadd:(⟨b,0,none⟩:Addr).add j=⟨b,j,none⟩:=by unfold Addr.add;split<;>simp_all
  rw[hadd,zao _ _ j _ _ _ h];simpa using hv⟩⟩
theorem Row.src {w:World}{base:Nat}{e:TypeId}{size:Nat}{A:Option Addr}{c n:Nat}{xs:List Value}(h:Row w base e size (.slice A n c) n xs):Src w size A n xs:=by
 obtain⟨A',c',e1,hl,hf⟩:=h.form;cases e1;refine⟨hl,fun h0=>?_⟩;obtain⟨g,rfl,_,_,hc⟩:=hf h0;refine⟨_,rfl,fun j u hu=>?_⟩;have Ha:(⟨g,0,none⟩:Addr).add j=⟨g,j,none⟩:=by unfold Addr.add;split<;>simp_all
 have hj:j<n*size:=by
  rw[←hl];exact(zac.1 hu).1
 rw[Ha,hc j hj,hu]
theorem Src.take2 {w:World}{A:Option Addr}{n size:Nat}{us:List Value}(h:Src w size A n us){j:Nat}(hj:j≤n):Src w size A j (us.take (j*size)):=by
 have hl:=h.len;have hm:j*size≤n*size:=Nat.mul_le_mul_right _ hj;refine⟨by rw[zaj];omega,fun h0=>?_⟩;obtain⟨ad,rfl,hc⟩:=h.at_ (by omega);refine⟨ad,rfl,fun i u hu=>?_⟩;rw[zaR]at hu;split at hu
 ·exact hc i u hu
 ·cases hu
theorem Src.drop2 {w:World}{b off n size:Nat}{us:List Value}(h:Src w size (some ⟨b,off,none⟩) n us)(j:Nat){A:Option Addr}(hA:j<n→A=some ⟨b,off+j*size,none⟩):Src w size A (n-j) (us.drop (j*size)):=by
 have hl:=h.len;refine⟨by rw[zap,hl,Nat.sub_mul],fun h0=>?_⟩;obtain⟨ad,e,hc⟩:=h.at_ (by omega);cases e;refine⟨_,hA (by omega),fun i u hu=>?_⟩;rw[zaJ]at hu;have h1:=hc (j*size+i) u hu;have e1:(⟨b,off,none⟩:Addr).add (j*size+i)=⟨b,off+(j*size+i),none⟩:=by unfold Addr.add;split<;>simp_all
 have e2:(⟨b,off+j*size,none⟩:Addr).add i=⟨b,off+j*size+i,none⟩:=by unfold Addr.add;split<;>simp_all
 rw[e1]at h1;rw[e2,zcD];exact h1
theorem Src.lt {w:World}{A:Option Addr}{m:Nat}{us:List Value}(h:Src w 1 A m us):∀ ad,A=some ad→0<m→ad.block<w.heap.size:=fun ad e h0=>by
 obtain⟨ad',e',hc⟩:=h.at_ h0;rw[e]at e';cases e';have hl:=h.len;have h1:=hc 0 us[0] (zab (by omega));have h2:=zav w _ h1;simpa [Addr.add] using h2
section
variable {P:Program}
theorem qen (w:World){base:Nat}{t e:TypeId}{i:TypeInfo}{z:Value}{size bytes:Nat}(ty:TypeId)(ht:P.underlying t=some (.slice e))(hi:P.info? e=some i)(hz:i.zero=some z)
  (hsize:i.size=size)(hby:i.bytes=bytes)(hzs:z.cells.size=size)(hsz:0<size)
  {v:Value}{n:Nat}{xs:List Value}(hrow:Row w base e size v n xs)
  {A:Option Addr}{m:Nat}(c:Nat){us:List Value}(hs:Src w size A m us)(h1:∀ u∈us,u.oneCell'=true)
  (h63:n+m≤maxLen)(hb:(n+m)*bytes≤140737488355328)(hbase:base≤w.heap.size) :
  ∃ A' cap w',(Builtin.append_ #[t,t] ty #[v,.slice A m c]).run P w=.ok (.slice A' (n+m) cap) w'∧Row w' base e size (.slice A' (n+m) cap) (n+m) (xs++us)∧w.grownBy w' v.ownBlock∧
   (∀ b,(Value.slice A' (n+m) cap).ownBlock=some b→v.ownBlock=some b∨(w.heap.size≤b∧b<w'.heap.size)):=by
 rcases hrow with hown|⟨A0,rfl,rfl,rfl⟩
 ·obtain⟨v',w',a1,a2,a3,a4⟩:=run_app (P:=P) w ty ht hi hz hsize hby hzs hsz hown c hs h1 h63 hb hbase;obtain⟨A',cap,rfl,_⟩:=Row.form (.inl a2);refine⟨A',cap,w',a1,.inl a2,a3,?_⟩;intro b e;rcases a4 with h|h
  ·exact .inl (h.symm.trans e)
  ·exact .inr ⟨Nat.le_of_eq (zaG (h.symm.trans e)),(World.ownsRow.lt a2 b e).2⟩
 ·rw[zaF]at h63 hb⊢;rw[zaI];by_cases h0:0<m
  ·obtain⟨v',w',a1,a2,a3⟩:=qkG (P:=P) w ty ht hi hz hsize hby hzs hsz A0 c hs h1 h63 hb;obtain⟨A',cap,rfl,_⟩:=a2.form;obtain⟨g,rfl,hg,hgl,hO⟩:=a2.own h0;exact⟨_,cap,w',a1,.inl (qgl hO hbase),⟨a3.os,a3.tape,a3.output,a3.size,fun k hk _=>a3.block k hk⟩,fun b e=>by cases e;exact .inr ⟨hg,hgl⟩⟩
  ·obtain rfl:m=0:=by omega
   rw[hs.empty];refine⟨A0,0,w,?_,.inr ⟨A0,rfl,rfl,rfl⟩,World.grownBy.refl w _,fun b e=>.inl e⟩;cases A<;>cases A0<;>simp[Builtin.append_,zaU ht,sizeOf,typeInfo,hi,Builtin.lenOf,Builtin.firstCells,storeCells]<;>rfl
theorem qaS {w:World}{o:Oper}{a:Act}{K:Act→World→Prop}{Q:Exit→Act→World→Prop}(s x:Operand)(t:TypeId)
  (ho:o.op=.call { callee:=.builtin .append,args:=#[s,x],argTypes:=#[t,t] })
  (base:Nat)(e:TypeId)(i:TypeInfo)(z:Value)(size bytes:Nat)(ht:P.underlying t=some (.slice e))(hi:P.info? e=some i)(hz:i.zero=some z)
  (hsize:i.size=size)(hby:i.bytes=bytes)(hzs:z.cells.size=size)(hsz:0<size)
  (v:Value)(n:Nat)(xs:List Value)(hv:a.eval s=v)(hrow:Row w base e size v n xs)
  (A:Option Addr)(m c:Nat)(us:List Value)(hx:a.eval x=.slice A m c)(hs:Src w size A m us)(h1:∀ u∈us,u.oneCell'=true)
  (h63:n+m≤maxLen)(hb:(n+m)*bytes≤140737488355328)(hbase:base≤w.heap.size)
  (h:∀ A' cap w',Row w' base e size (.slice A' (n+m) cap) (n+m) (xs++us)→w.grownBy w' v.ownBlock→(∀ b,(Value.slice A' (n+m) cap).ownBlock=some b→v.ownBlock=some b∨(w.heap.size≤b∧b<w'.heap.size))→K (a.put o.dst (.slice A' (n+m) cap)) w'):o.wp P a w K Q:=by
 obtain⟨A',cap,w',hr,a2,a3,a4⟩:=qen (P:=P) w o.type ht hi hz hsize hby hzs hsz hrow c hs h1 h63 hb hbase;unfold Oper.wp execOp;simp only[ho,resolve,invoke,builtin,zbw,zbK,zaO,zcw,zbD,zbV,hv,hx,hr];exact h A' cap w' a2 a3 a4
theorem qba {w:World}{ops:Array Oper}{rest:List Oper}{o:Oper}{a:Act}{Q:Exit→Act→World→Prop}(hgd:o.guard=none)(s x:Operand)(t:TypeId)
  (ho:o.op=.call { callee:=.builtin .append,args:=#[s,x],argTypes:=#[t,t] })
  (base:Nat)(e:TypeId)(i:TypeInfo)(z:Value)(size bytes:Nat)(ht:P.underlying t=some (.slice e))(hi:P.info? e=some i)(hz:i.zero=some z)
  (hsize:i.size=size)(hby:i.bytes=bytes)(hzs:z.cells.size=size)(hsz:0<size)
  (v:Value)(n:Nat)(xs:List Value)(hv:a.eval s=v)(hrow:Row w base e size v n xs)
  (A:Option Addr)(m c:Nat)(us:List Value)(hx:a.eval x=.slice A m c)(hs:Src w size A m us)(h1:∀ u∈us,u.oneCell'=true)
  (h63:n+m≤maxLen)(hb:(n+m)*bytes≤140737488355328)(hbase:base≤w.heap.size)
  (h:∀ A' cap w',Row w' base e size (.slice A' (n+m) cap) (n+m) (xs++us)→w.grownBy w' v.ownBlock→(∀ b,(Value.slice A' (n+m) cap).ownBlock=some b→v.ownBlock=some b∨(w.heap.size≤b∧b<w'.heap.size))→wpList P ops Q rest (a.put o.dst (.slice A' (n+m) cap)) w'):wpList P ops Q (o::rest) a w:=
 zce hgd fun _ hK=>qaS s x t ho base e i z size bytes ht hi hz hsize hby hzs hsz v n xs hv hrow A m c us hx hs h1 h63 hb hbase fun A' cap w' b2 b3 b4=>hK _ _ (h A' cap w' b2 b3 b4)
end
end
end Go.Proofs.YtfcknhbmeofniaaGreatDoor
namespace Go.Proofs.YtfcknhbmeofniaaGreatDoor
def Hd (p:Prop):Prop:=p
theorem Hd.o {p:Prop}(h:Hd p):p:=h
theorem Hd.out {p:Prop}(h:Hd p):p:=h
theorem zH {p:Prop}(h:p):Hd p:=h
end Go.Proofs.YtfcknhbmeofniaaGreatDoor
namespace Go.Proofs.YtfcknhbmeofniaaGreatDoor
open Go.RowKit BT
variable {w:World}{A:Option Addr}
theorem qcu:(Tryz.prog.info? 5).map (fun i=>(i.zero,i.size,i.bytes))=some (some (.int .u8 0),1,1):=by kernel_rfl
def bv (l:Bs):List Value:=l.map fun c=>Value.int .u8 (c.toNat:Int)
theorem bv_len (l:Bs):(bv l).length=l.length:=by simp[bv]
theorem qao (a b:Bs):bv (a++b)=bv a++bv b:=by simp[bv]
theorem qak (l:Bs):∀ u∈bv l,u.oneCell'=true:=fun u hu=>by
 obtain⟨_,_,rfl⟩:=zbh.1 hu;rfl
theorem qfr {l:Bs}{k:Nat}{c:UInt8}(h:l[k]?=some c):(bv l)[k]?=some (.int .u8 (c.toNat:Int)):=by simp[bv,h]
structure By (w:World) (A:Option Addr) (l:Bs):Prop where
 at_:0<l.length→∃ b off,A=some ⟨b,off,none⟩∧b<w.heap.size∧∀ k c,l[k]?=some c→w.cell? ⟨b,off+k,none⟩=some (.int .u8 (c.toNat:Int))
theorem By.nil (w:World)(A:Option Addr):By w A []:=⟨fun h=>absurd h (by simp)⟩
theorem By.below {w':World}{l:Bs}(h:By w A l)(hb:Below w.heap.size w w'):By w' A l:=
 ⟨fun h0=>by
  obtain⟨b,off,e,hl,hc⟩:=h.at_ h0;exact⟨b,off,e,zag hl hb.size,fun k c hk=>(hb.cell (p:=⟨b,off+k,none⟩) hl).trans (hc k c hk)⟩⟩
theorem By.src {l:Bs}(h:By w A l):Src w 1 A l.length (bv l):=by
 refine⟨by simp[bv],fun h0=>?_⟩;obtain⟨b,off,rfl,_,hc⟩:=h.at_ h0;refine⟨_,rfl,fun j u hu=>?_⟩;unfold bv at hu;rw[zaD]at hu;cases hl:l[j]? with
 | none=>rw[hl]at hu;cases hu
 | some c=>
  rw[hl]at hu;cases hu;rw[←hc j c hl];unfold Addr.add;by_cases h1:j=0
  ·subst h1;simp
  ·rw[zaC h1]
theorem By.of_row {base:Nat}{e:TypeId}{cap:Nat}{l:Bs}(h:Row w base e 1 (.slice A l.length cap) l.length (bv l)):By w A l:=by
 obtain⟨A',c',e1,_,hf⟩:=h.form;cases e1;refine⟨fun h0=>?_⟩;obtain⟨g,rfl,_,hg,hc⟩:=hf h0;refine⟨g,0,rfl,hg,fun k c hk=>?_⟩;have Ha:k<l.length:=(zac.1 hk).1;rw[zaF,hc k (by omega)];exact qfr hk
theorem By.take {l:Bs}(h:By w A l)(n:Nat):By w A (l.take n):=by
 refine⟨fun h0=>?_⟩;obtain⟨b,off,e,hb,hc⟩:=h.at_ (by rw[zaj]at h0;omega);refine⟨b,off,e,hb,fun k c hk=>hc k c ?_⟩;rw[zaR]at hk;split at hk
 ·exact hk
 ·cases hk
theorem qmq (n x:Nat)(hn:n<72057594037927936)(hx:x<256):bits BinOp.or IntKind.u64 ((n:Int)*256) (x:Int)=((n*256+x:Nat):Int):=by
 have e1:((n:Int)*256)=((n*256:Nat):Int):=by omega
 rw[e1,bits_or_u64_nat _ _ (by omega) (by omega)];have:=Nat.shiftLeft_add_eq_or_of_lt (i:=8) (by omega:x<2 ^ 8) n;rw[Nat.shiftLeft_eq]at this;rw[←this]
theorem qj1 (A:Option Addr)(c:Nat)(l:Bs)(w:World)(h:By w A l)(hl:l.length≤8) :
  Calls Tryz.prog 138 #[.slice A l.length c] w fun e w'=>e=.returned (.tuple #[.int .u64 (hiN l:Int),.int .i64 l.length])∧w=w':=by
 go_enter Tryz.func138,Tryz.ntmps138
 go_wp2;go_loopw [4,9] (fun n i wr=>∃ k:Nat,i=.int .i64 k∧k≤l.length∧n=.int .u64 (hiN (l.take k):Int)∧wr=w) (fun _ i _=>l.length-(intOf i).toNat)
 case atStart=>exact⟨0,rfl,by omega,rfl,rfl⟩
 case round=>
  obtain⟨k,rfl,hk,rfl,rfl⟩:=hrel;by_cases hlt:k<l.length
  ·obtain⟨b,off,rfl,hb,hc⟩:=h.at_ (by omega);have Ha:=hc k l[k] (zab hlt);have HN:=zH (qld l (zab hlt));have hB:=qfJ (l.take k);obtain⟨n,hn⟩:∃ n,hiN (l.take k)=n:=⟨_,rfl⟩;obtain⟨x,hx⟩:∃ x,l[k].toNat=x:=⟨_,rfl⟩;have Hc:x<256:=by rw[←hx];exact UInt8.toNat_lt _
   have Hb:n<72057594037927936:=by
    rw[hn,zaj,zbX hk]at hB;exact zag hB (Nat.pow_le_pow_right (by omega) (by omega:k≤7))
   have HO:=zH (qmq n x Hb Hc);have HE:Hd (hiN (l.take (k+1))=n*256+x):=zH (by rw[HN.o,hn,hx]);rw[hx]at Ha;rw[hn];clear hn hx hB hc h;have k1:(k:Int)<(l.length:Int):=by omega
   have k0:(0:Int)≤(k:Int):=by omega
   go_wp2;exact⟨⟨k+1,by go_num,by omega,by rw[HO.o,HE.o],trivial⟩,by simp[intOf];omega⟩
  ·obtain rfl:k=l.length:=by omega
   go_wp2
   go_ret2
   rw[zbA];exact⟨rfl,rfl⟩
section
structure Own (w:World) (base:Nat) (e:TypeId) (size:Nat) (v:Value) (n:Nat) (xs:List Value):Prop where
 row:Row w base e size v n xs
 blk:∀ b,v.ownBlock=some b→base≤b∧b<w.heap.size
theorem Own.below {w w':World}{base B:Nat}{e:TypeId}{size:Nat}{v:Value}{n:Nat}{xs:List Value}(h:Own w base e size v n xs)(hB:w.heap.size≤B)(hb:Below B w w'):Own w' base e size v n xs:=
 ⟨h.row.below hB hb,fun b e=>⟨(h.blk b e).1,zag (h.blk b e).2 hb.size⟩⟩
theorem Own.nil (w:World)(base:Nat)(e:TypeId)(size:Nat):Own w base e size (.slice none 0 0) 0 []:=⟨.inr ⟨none,rfl,rfl,rfl⟩,fun b e=>by cases e⟩
theorem Own.empty (w:World)(base:Nat)(e:TypeId)(size:Nat)(b off:Nat)(h:base≤b)(h2:b<w.heap.size):Own w base e size (.slice (some ⟨b,off,none⟩) 0 0) 0 []:=⟨.inr ⟨_,rfl,rfl,rfl⟩,fun c e=>by cases e;exact⟨h,h2⟩⟩
theorem Own.of_own {w:World}{base:Nat}{e:TypeId}{size:Nat}{v:Value}{n:Nat}{xs:List Value}(h:w.ownsRow base e size v n xs):Own w base e size v n xs:=
 ⟨.inl h,fun b hb=>by
  rcases h.2 with⟨rfl,_⟩|⟨g,cap,cur,rfl,hg,hh,_⟩
  ·cases hb
  ·cases hb;exact⟨hg,(zaa.1 hh).1⟩⟩
theorem Own.base {w:World}{base base':Nat}{e:TypeId}{size:Nat}{v:Value}{n:Nat}{xs:List Value}(h:Own w base e size v n xs)(hb:base'≤base):Own w base' e size v n xs:=by
 refine⟨?_,fun b e=>⟨zam hb (h.blk b e).1,(h.blk b e).2⟩⟩;rcases h.row with h1|h1
 ·exact .inl (qgl h1 hb)
 ·exact .inr h1
theorem Own.keep {w w':World}{base:Nat}{e:TypeId}{size:Nat}{v:Value}{n:Nat}{xs:List Value}(h:Own w base e size v n xs)(hs:w.heap.size≤w'.heap.size)(hk:∀ b,base≤b→b<w.heap.size→w'.heap[b]?=w.heap[b]?):Own w' base e size v n xs:=
 ⟨h.row.keep fun b hb hl=>hk b (h.blk b hb).1 hl,fun b e=>⟨(h.blk b e).1,zag (h.blk b e).2 hs⟩⟩
theorem Own.by {w:World}{base:Nat}{e:TypeId}{A:Option Addr}{cap:Nat}{l:Bs}(h:Own w base e 1 (.slice A l.length cap) l.length (bv l)):By w A l:=By.of_row h.row
section
variable {P:Program}
theorem qkF (w:World){base:Nat}{t e:TypeId}{i:TypeInfo}{z:Value}{size bytes:Nat}(ty:TypeId)(ht:P.underlying t=some (.slice e))(hi:P.info? e=some i)(hz:i.zero=some z)
  (hsize:i.size=size)(hby:i.bytes=bytes)(hzs:z.cells.size=size)(hsz:0<size)
  {v:Value}{n:Nat}{xs:List Value}(hrow:Own w base e size v n xs)
  {A:Option Addr}{m:Nat}(c:Nat){us:List Value}(hs:Src w size A m us)(h1:∀ u∈us,u.oneCell'=true)
  (h63:n+m≤maxLen)(hb:(n+m)*bytes≤140737488355328)(hbase:base≤w.heap.size) :
  ∃ A' cap w',(Builtin.append_ #[t,t] ty #[v,.slice A m c]).run P w=.ok (.slice A' (n+m) cap) w'∧Own w' base e size (.slice A' (n+m) cap) (n+m) (xs++us)∧Below base w w':=by
 obtain⟨A',cap,w',h2,h3,h4,h5⟩:=qen (P:=P) w ty ht hi hz hsize hby hzs hsz hrow.row c hs h1 h63 hb hbase;refine⟨A',cap,w',h2,⟨h3,fun b hb=>?_⟩,zb0 (zai _ _) h4 hbase (fun b hb=>(hrow.blk b hb).1)⟩;rcases h5 b hb with h6|h6
 ·exact⟨(hrow.blk b h6).1,zag (hrow.blk b h6).2 h4.size⟩
 ·exact⟨zam hbase h6.1,h6.2⟩
theorem qgB {w:World}{o:Oper}{a:Act}{K:Act→World→Prop}{Q:Exit→Act→World→Prop}(s x:Operand)(t:TypeId)
  (ho:o.op=.call { callee:=.builtin .append,args:=#[s,x],argTypes:=#[t,t] })
  (base:Nat)(e:TypeId)(i:TypeInfo)(z:Value)(size bytes:Nat)(ht:P.underlying t=some (.slice e))(hi:P.info? e=some i)(hz:i.zero=some z)
  (hsize:i.size=size)(hby:i.bytes=bytes)(hzs:z.cells.size=size)(hsz:0<size)
  (v:Value)(n:Nat)(xs:List Value)(hv:a.eval s=v)(hrow:Own w base e size v n xs)
  (A:Option Addr)(m c:Nat)(us:List Value)(hx:a.eval x=.slice A m c)(hs:Src w size A m us)(h1:∀ u∈us,u.oneCell'=true)
  (h63:n+m≤maxLen)(hb:(n+m)*bytes≤140737488355328)(hbase:base≤w.heap.size)
  (h:∀ A' cap w',Own w' base e size (.slice A' (n+m) cap) (n+m) (xs++us)→Below base w w'→K (a.put o.dst (.slice A' (n+m) cap)) w'):o.wp P a w K Q:=by
 obtain⟨A',cap,w',hr,a2,a3⟩:=qkF (P:=P) w o.type ht hi hz hsize hby hzs hsz hrow c hs h1 h63 hb hbase;unfold Oper.wp execOp;simp only[ho,resolve,invoke,builtin,zbw,zbK,zaO,zcw,zbD,zbV,hv,hx,hr];exact h A' cap w' a2 a3
theorem qai {w:World}{ops:Array Oper}{rest:List Oper}{o:Oper}{a:Act}{Q:Exit→Act→World→Prop}(hgd:o.guard=none)(s x:Operand)(t:TypeId)
  (ho:o.op=.call { callee:=.builtin .append,args:=#[s,x],argTypes:=#[t,t] })
  (base:Nat)(e:TypeId)(i:TypeInfo)(z:Value)(size bytes:Nat)(ht:P.underlying t=some (.slice e))(hi:P.info? e=some i)(hz:i.zero=some z)
  (hsize:i.size=size)(hby:i.bytes=bytes)(hzs:z.cells.size=size)(hsz:0<size)
  (v:Value)(n:Nat)(xs:List Value)(hv:a.eval s=v)(hrow:Own w base e size v n xs)
  (A:Option Addr)(m c:Nat)(us:List Value)(hx:a.eval x=.slice A m c)(hs:Src w size A m us)(h1:∀ u∈us,u.oneCell'=true)
  (h63:n+m≤maxLen)(hb:(n+m)*bytes≤140737488355328)(hbase:base≤w.heap.size)
  (h:∀ A' cap w',Own w' base e size (.slice A' (n+m) cap) (n+m) (xs++us)→Below base w w'→wpList P ops Q rest (a.put o.dst (.slice A' (n+m) cap)) w'):wpList P ops Q (o::rest) a w:=
 zce hgd fun _ hK=>qgB s x t ho base e i z size bytes ht hi hz hsize hby hzs hsz v n xs hv hrow A m c us hx hs h1 h63 hb hbase fun A' cap w' b2 b3=>hK _ _ (h A' cap w' b2 b3)
end
end
end Go.Proofs.YtfcknhbmeofniaaGreatDoor
namespace Go.Proofs.YtfcknhbmeofniaaGreatDoor
open Go.RowKit
theorem zB (w:World)(o:Obj):Below w.heap.size w (w.alloc o):=(Below.refl _ _).alloc (Nat.le_refl _) _
theorem zC {w:World}{b i:Nat}{cs:Array Value}{t:TypeId}{fr:Nat×Nat}{v:Value}(h:w.heap[b]?=some (.cells cs t fr))(e:cs[i]?=some v:=by rfl):w.cell? ⟨b,i,none⟩=some v:=by rw[cell_of_row _ _ _ _ _ _ h];exact e
end Go.Proofs.YtfcknhbmeofniaaGreatDoor
namespace Go.Proofs.YtfcknhbmeofniaaGreatDoor
open Go.RowKit BT
variable {w w':World}{g n:Nat}{e:TypeId}{xs:List Value}
theorem qaC (A:Option Addr)(c:Nat)(l:Bs)(w:World)(h:By w A l)(hl:l.length≤1048576) :
  Calls Tryz.prog 28 #[.slice A l.length c] w fun e w'=>∃ A' cap,e=.returned (.slice A' l.length cap)∧Own w' w.heap.size 5 1 (.slice A' l.length cap) l.length (bv l)∧Below w.heap.size w w':=by
 obtain⟨i0,hi0,hz0,hz1,hz2⟩:=zaY qcu;have Ha:=Lib.run_eql_slice_nil (P:=Tryz.prog) w 40 5 A l.length c 0 0 Tryz.underlying40;cases A with
 | none=>
  have h0:l.length=0:=by
   rcases zcm l.length with h0|h0
   ·exact h0
   ·obtain⟨_,_,e,_⟩:=h.at_ h0;cases e
  obtain rfl:l=[]:=zaX h0;simp only[Option.isNone_none,zbl]at Ha;go_enter Tryz.func28,Tryz.ntmps28
  go_wp2;go_ret;exact⟨none,0,rfl,Own.nil ..,zai _ _⟩
 | some ad=>
  have HS:Hd (∀ o,Src (w.alloc o) 1 (some ad) l.length (bv l)):=zH fun o=>(h.below ((zai _ _).alloc (zad _) o)).src;simp only[Option.isNone_some]at Ha;go_enter Tryz.func28,Tryz.ntmps28
  go_wp2_with (at_builtin;refine qai rfl (.tmp 5) (.tmp 6) 40 rfl w.heap.size 5 i0 _ 1 1 Tryz.underlying40 hi0 hz0 hz1 hz2 rfl (by decide) _ 0 [] rfl (Own.empty _ _ _ _ w.heap.size 0 (zad _) (by simp)) (some ad) l.length c (bv l) rfl (HS.o _) (qak l) (by unfold maxLen;omega) (by omega) (by first|(simp;done)|(simp;omega)) ?_;intro A6 cap6 w6 hrow6 hgrow6)
  go_ret;simp only[zaF,zaI]at hrow6;exact⟨A6,cap6,by simp,hrow6,(zB _ _).trans hgrow6⟩
theorem qcT {base:Nat}(h:w.ownsRow base e 1 (.slice (some ⟨g,0,none⟩) n n) n xs):w.heap[g]?=some (.cells xs.toArray e (0,0)):=by
 rcases h.2 with⟨h0,_⟩|⟨g',cap,cur,e1,_,hh,h3,_,h4,h5⟩
 ·cases h0
 ·cases e1;rw[hh];rw[zcA]at h4 h5;rw[←h4,←zbx,zbA]at h5;rw[←h5]
theorem qbQ {base:Nat}(hb:base≤g)(hn:xs.length=n)(hn2:n≤maxLen)(h:w.heap[g]?=some (.cells xs.toArray e (0,0))):w.ownsRow base e 1 (.slice (some ⟨g,0,none⟩) n n) n xs:=by
 refine⟨by omega,.inr ⟨g,n,xs.toArray,rfl,hb,h,zad _,hn2,by simp[hn],by simp[←hn]⟩⟩
theorem By.dropCells {b off:Nat}{l:Bs}(h:By w (some ⟨b,off,none⟩) l)(k:Nat)(hb:Below w.heap.size w w'):∀ j v,(bv (l.drop k))[j]?=some v→w'.cell? ((⟨b,off+k,none⟩:Addr).add j)=some v:=by
 intro j v hv;unfold bv at hv;rw[zaD,zaJ]at hv;cases hl:l[k+j]? with
 | none=>rw[hl]at hv;cases hv
 | some c=>
  rw[hl]at hv;cases hv;have Ha:=(zac.1 hl).1;obtain⟨b',off',e,hbl,hc⟩:=h.at_ (by omega);cases e;have e2:(⟨b,off+k,none⟩:Addr).add j=⟨b,off+(k+j),none⟩:=by unfold Addr.add;split<;>simp_all<;>omega
  rw[e2];exact(hb.cell (p:=⟨b,off+(k+j),none⟩) hbl).trans (hc (k+j) c hl)
theorem qi7 (A:Option Addr)(c n:Nat)(l:Bs)(hn:l.length=n)(w:World)(h:By w A l)(hl:n≤8) :
  Calls Tryz.prog 138 #[.slice A n c] w fun e w'=>e=.returned (.tuple #[.int .u64 (hiN l:Int),.int .i64 n])∧w=w':=by
 subst hn;exact qj1 A c l w h hl
theorem qfg (b off:Nat)(c:Nat)(l:Bs)(k:Nat)(w:World)(h:By w (some ⟨b,off,none⟩) l)(h1:1≤k)(h8:k≤8)(hk:k≤l.length)(hl:l.length≤1048576)(hc:l.length≤c) :
  Calls Tryz.prog 111 #[.slice (some ⟨b,off,none⟩) l.length c,.int .i64 k] w fun e w'=>e=.returned (.tuple #[.int .u64 (hiN (l.take k):Int),.slice (some ⟨w.heap.size,0,none⟩) (l.length-k) (l.length-k),.int .i64 0])∧
   w'.ownsRow w.heap.size 5 1 (.slice (some ⟨w.heap.size,0,none⟩) (l.length-k) (l.length-k)) (l.length-k) (bv (l.drop k))∧Below w.heap.size w w':=by
 obtain⟨i0,hi0,hz0,hz1,hz2⟩:=zaY qcu;have t1:decide ((k:Int)<1)=false:=zan (by omega);have t2:decide ((8:Int)<(k:Int))=false:=zan (by omega);have t3:decide ((l.length:Int)<(k:Int))=false:=zan (by omega);have k0:(0:Int)≤(k:Int):=by omega
 have k1:(k:Int)≤(l.length:Int):=by omega
 have k2:(k:Int)≤(c:Int):=by omega
 have k3:¬l.length<k:=by omega
 have hT:=h.take k;have Ha:(l.take k).length=k:=by rw[zaj];omega
 have HQ:=zH h;have Hb:=zH Ha;clear Ha;go_enter Tryz.func111,Tryz.ntmps111
 go_wp2_with (first|(go_at_call 138;refine(qi7 _ c k (l.take k) Hb.o _ hT h8).mono ?_;rintro e w1 ⟨rfl,rfl⟩)|(refine zci _ rfl (.tmp 29) (.tmp 29) 40 rfl w.heap.size 5 i0 _ 1 Tryz.underlying40 hi0 hz0 hz1 .i64 .i64 _ _ (l.length-k) rfl rfl (by omega) (by omega) (by rw[hz2];omega) (by unfold maxLen;omega) (zad _) ?_;intro w2 hown2 hg2)|(with_reducible show wpList _ _ _ (⟨some 35,_,_,_,_,_⟩::_) _ _;(refine wpList_copy_splice rfl (.tmp 31) (.tmp 34) 40 40 rfl 5 Tryz.underlying40 (by kernel_rfl) (some ⟨w.heap.size,0,none⟩) (if c=k then some ⟨b,off,none⟩else some ⟨b,off+k,none⟩) (l.length-k) (l.length-k) (l.length-k) (c-k) rfl rfl w.heap.size 0 _ 5 (qcT hown2) (bv (l.drop k)) (by simp[bv]) (fun hp=>⟨rfl,⟨b,off+k,none⟩,zaC (by rw[bv_len,zap]at hp;omega),HQ.o.dropCells k (zb0 (zai _ _) hg2 (zad _) (fun b e=>by cases e))⟩) (by simp[bv,madeCells]) (qak _) w.heap.size w (zb0 (zai _ _) hg2 (zad _) (fun b e=>by cases e)) (zad _) ?_;intro w4 HG4 hb4)))
 all_goals go_ret3
 all_goals
  refine⟨rfl,qbQ (zad _) (by rw[bv_len,zap]) (by unfold maxLen;omega) ?_,hb4⟩;rw[HG4.out];have e:(bv (l.drop k)).length=l.length-k:=by rw[bv_len,zap]
  simp[splice,e,madeCells]
theorem qac {i:Nat}{cs:Array Value}{t:TypeId}{fr:Nat×Nat}(h:w.heap[g]?=some (.cells cs t fr))(u:Value):(w.setCell ⟨g,i,none⟩ u).heap[g]?=some (.cells (cs.setIfInBounds i u) t fr):=by
 simp[World.setCell,Array.getElem?_modify,h]
def rowB (n k:Nat):List Value:=((List.range 8).map fun i=>if i<k then Value.int .u8 ((qbI n i).toNat:Int)else .int .u8 0)
theorem qlD (n k:Nat)(h:k<8):(rowB n k).toArray.setIfInBounds k (.int .u8 ((qbI n k).toNat:Int))=(rowB n (k+1)).toArray:=by
 apply Array.ext';rw[zbR];apply zcH;intro j;unfold rowB;simp only[List.getElem?_set,zaD,zbc,zcI];by_cases hj:k=j
 ·subst hj;simp[h]
 ·rw[zaC hj];by_cases hj8:j<8
  ·rw[zb4 hj8];simp only[zbB];congr 1;by_cases hjk:j<k
   ·rw[zax hjk,zax (by omega)]
   ·rw[zaC hjk,zaC (by omega)]
  ·rw[zbU (by simp;omega)];rfl
theorem qdk (n m:Nat):(n:Int) / 2 ^ m % 256=((UInt8.ofNat (n / 2 ^ m)).toNat:Int):=by
 have:((n:Int) / 2 ^ m)=((n / 2 ^ m:Nat):Int):=by simp
 rw[this];simp
theorem qkC (n k:Nat)(h:k≤8):(rowB n 8).drop (8-k)=bv (numB n k):=by
 unfold rowB numB bv;rw[List.map_drop,List.map_drop,zcO];congr 1
theorem alen174:Tryz.prog.arrayLen 174=8:=by kernel_rfl
theorem aelem174:Tryz.prog.underlying 174=some (.array (Tryz.prog.arrayLen 174) (Tryz.prog.elem 174)):=by kernel_rfl
theorem asize174(W:World):(sizeOf (Tryz.prog.elem 174)).run Tryz.prog W=.ok 1 W:=by kernel_rfl
theorem qfX (g k:Nat)(h1:1≤k)(h8:k≤8)(W:World):(Instr.sliceAt 174 (.pointer (some ⟨g,0,none⟩)) (some (.int .i64 (8-(k:Int)))) none none).run Tryz.prog W=.ok (.slice (some ⟨g,8-k,none⟩) k k) W:=by
 rw[run_sliceAt_array_l (P:=Tryz.prog) W 174 ⟨g,0,none⟩ aelem174 .i64 (8-(k:Int)) (by omega) (by rw[alen174];omega),asize174,alen174];have e:(8-(k:Int)).toNat=8-k:=by omega
 rw[e];simp only[Result.andThen,slicedAt];rw[zaC (by omega)];have e2:(⟨g,0,none⟩:Addr).add ((8-k)*1)=⟨g,8-k,none⟩:=by unfold Addr.add;split<;>simp_all
 rw[e2,show 8-(8-k)=k by omega]
theorem qh2 (A:Option Addr)(c:Nat)(l:Bs)(n k:Nat)(w:World)(h:By w A l)(hl:l.length≤1000000)(hn:n<18446744073709551616)(h1:1≤k)(h8:k≤8) :
  Calls Tryz.prog 55 #[.slice A l.length c,.int .u64 n,.int .i64 k] w fun e w'=>∃ A' cap,e=.returned (.slice A' (l.length+k) cap)∧Own w' w.heap.size 5 1 (.slice A' (l.length+k) cap) (l.length+k) (bv (l++numB n k))∧Below w.heap.size w w':=by
 obtain⟨i0,hi0,hz0,hz1,hz2⟩:=zaY qcu;have t1:decide ((k:Int)<1)=false:=zan (by omega);have t2:decide ((8:Int)<(k:Int))=false:=zan (by omega);have k0:(0:Int)≤8-(k:Int):=by omega
 have k1:8-(k:Int)≤8:=by omega
 have Hg:=qfX;have Hh:=qfX (k:=k) (h1:=h1) (h8:=h8);clear Hg;go_enter Tryz.func55,Tryz.ntmps55
 go_wp2_with (go_at_call 28;refine(qaC A c l w h (by omega)).mono ?_;rintro e w1 ⟨A1,cap1,rfl,hrow1,hb1⟩)
 go_loopw [19] (fun i wr=>∃ j:Nat,i=.int .i64 j∧j≤8∧wr.heap[w1.heap.size]?=some (.cells (rowB n j).toArray 174 (0,0))∧Below w1.heap.size w1 wr) (fun i _=>8-(intOf i).toNat)
 case atStart=>
  refine⟨0,rfl,by omega,?_,by go_grown⟩;exact zae w1 _
 case round=>
  obtain⟨j,rfl,hj,hblk,hb⟩:=hrel;have hz:=hb.size;by_cases hlt:j<8
  ·have j1:(j:Int)<8:=by omega
   have j0:(0:Int)≤(j:Int):=by omega
   have s0:(0:Int)≤56-8*(j:Int):=by omega
   have s1:56-8*(j:Int)≤64:=by omega
   have Hb:wr.cell? ⟨w1.heap.size,j,none⟩=(rowB n j)[j]?:=by
    rw[zao wr _ j _ _ _ hblk];simp
   have Hi:wr.frozen? ⟨w1.heap.size,j,none⟩=false:=by simp[World.frozen?,hblk]
   obtain⟨v0,hv0⟩:∃ v0,(rowB n j)[j]?=some v0:=⟨_,zab (by simp[rowB];omega)⟩;rw[hv0]at Hb;clear hv0;have Hf:=zH hblk;clear hblk;go_wp2;refine⟨⟨j+1,by go_num,by omega,?_,hb.setCell (by simp) _⟩,by simp[intOf];omega⟩;rw[qac Hf.o,qdk];have:=qlD n j hlt;unfold qbI at this;rw[this]
  ·obtain rfl:j=8:=by omega
   have t3:decide ((8:Int)<8)=false:=rfl;have Ha:Own wr w.heap.size 5 1 (.slice A1 l.length cap1) l.length (bv l):=hrow1.below (zad _) hb;have Hc:Src wr 1 (some ⟨w1.heap.size,8-k,none⟩) k (bv (numB n k)):=by
    have h9:=qas (m:=8) (size:=1) hblk (by simp[rowB]);have He:=h9.drop (8-k) (A:=some ⟨w1.heap.size,8-k,none⟩) (fun _=>by simp);rw[qkC n k h8,show 8-(8-k)=k by omega]at He;exact He
   have HS:=zH Hc;have HR:=zH Ha;clear Hc Ha hblk hrow1;go_wp2_with (at_builtin;refine qai rfl (.tmp 31) (.tmp 34) 40 rfl w.heap.size 5 i0 _ 1 1 Tryz.underlying40 hi0 hz0 hz1 hz2 rfl (by decide) (.slice A1 l.length cap1) l.length (bv l) rfl HR.o (some ⟨w1.heap.size,8-k,none⟩) k k (bv (numB n k)) rfl HS.o (qak _) (by unfold maxLen;omega) (by omega) (by have:=hb1.size;omega) ?_;intro A6 cap6 w6 hrow6 hgrow6)
   go_ret;rw[←qao]at hrow6;exact⟨A6,cap6,rfl,hrow6,(hb1.trans (hb.mono hb1.size)).trans hgrow6⟩
def Nib (w:World):Prop:=∀ i,i<16→w.cell? ⟨2,i,none⟩=some (.int .u32 (nibT.getD i 0:Nat))
theorem Nib.below (h:Nib w)(hb:Below w.heap.size w w'):Nib w':=fun i hi=>(hb.cell (p:=⟨2,i,none⟩) (zav w ⟨2,i,none⟩ (h i hi))).trans (h i hi)
theorem qbE (a b:Nat)(ha:a<4294967296)(hb:b<4294967296):bits .xor .u32 (a:Int) (b:Int)=((a ^^^ b:Nat):Int):=by
 have hx:a ^^^ b<2 ^ 32:=zcn (by omega) (by omega);have h1:(BitVec.ofInt 32 (a:Int)).toNat=a:=by
  rw[zbC,zbu];exact zbs (by omega)
 have h2:(BitVec.ofInt 32 (b:Int)).toNat=b:=by
  rw[zbC,zbu];exact zbs (by omega)
 show IntKind.u32.wrap ((BitVec.ofInt 32 (a:Int) ^^^ BitVec.ofInt 32 (b:Int)).toNat:Int)=_;rw[BitVec.toNat_xor,h1,h2,IntKind.wrap_u32];omega
theorem qcY (a:Nat)(ha:a<4294967296):bits .and .u32 (a:Int) 15=((a % 16:Nat):Int):=by
 have hx:a &&& 15=a % 16:=zbW a 4;have h1:(BitVec.ofInt 32 (a:Int)).toNat=a:=by
  rw[zbC,zbu];exact zbs (by omega)
 show IntKind.u32.wrap ((BitVec.ofInt 32 (a:Int) &&& BitVec.ofInt 32 15).toNat:Int)=_;rw[BitVec.toNat_and,h1,show(BitVec.ofInt 32 15).toNat=15 from rfl,hx,IntKind.wrap_u32];omega
theorem qkT (s:Nat)(h:s<4294967296):(4294967295:Nat) ^^^ s=4294967295-s:=by
 have e:((4294967295#32:BitVec 32) ^^^ BitVec.ofNat 32 s) = ~~~ BitVec.ofNat 32 s:=by
  rw[show(4294967295#32:BitVec 32)=BitVec.allOnes 32 from rfl,BitVec.allOnes_xor]
 have e2:=congrArg BitVec.toNat e;rw[BitVec.toNat_xor,BitVec.toNat_not,zbu,zbu,zbs (by omega:s<2 ^ 32)]at e2;simpa using e2
theorem qh0 (i:Nat):nibT.getD i 0<4294967296:=by
 by_cases h:i<16
 ·have:i=0∨i=1∨i=2∨i=3∨i=4∨i=5∨i=6∨i=7∨i=8∨i=9∨i=10∨i=11∨i=12∨i=13∨i=14∨i=15:=by omega
  rcases this with rfl|rfl|rfl|rfl|rfl|rfl|rfl|rfl|rfl|rfl|rfl|rfl|rfl|rfl|rfl|rfl<;>decide
 ·have:nibT.length≤i:=by simp[nibT];omega
  rw[zaq,zbU this];decide
theorem qft (r:Nat)(h:r<4294967296):qf3 r<4294967296:=zcn (n:=32) (qh0 _) (by omega)
theorem qiV (r:Nat)(c:UInt8)(h:r<4294967296):qb0 r c<4294967296:=
 qft _ (qft _ (zcn (n:=32) h (zag c.toNat_lt (by decide))))
theorem qfs:∀ (l:Bs) (r:Nat),r<4294967296→l.foldl qb0 r<4294967296
 | [],_,h=>h
 | c::l,r,h=>qfs l _ (qiV r c h)
theorem qkf (s:Nat)(A:Option Addr)(c:Nat)(l:Bs)(w:World)(h:By w A l)(hn:Nib w)(hs:s<4294967296)(hl:l.length≤1048576) :
  Calls Tryz.prog 137 #[.int .u32 s,.slice A l.length c] w fun e w'=>e=.returned (.int .u32 (crcMore s l:Nat))∧w=w':=by
 go_enter Tryz.func137,Tryz.ntmps137
 go_wp2;go_loopw [5,12] (fun r i wr=>∃ k:Nat,i=.int .i64 k∧k≤l.length∧r=.int .u32 ((l.take k).foldl qb0 (4294967295-s):Nat)∧wr=w) (fun _ i _=>l.length-(intOf i).toNat)
 case atStart=>
  refine⟨0,rfl,by omega,?_,rfl⟩;have:=qbE 4294967295 s (by omega) hs;rw[qkT s hs]at this;have hm:IntKind.u32.max=((4294967295:Nat):Int):=by decide
  rw[hm,this];rfl
 case round=>
  obtain⟨k,rfl,hk,rfl,rfl⟩:=hrel;have Hb:=qfs (l.take k) (4294967295-s) (by omega);by_cases hlt:k<l.length
  ·obtain⟨b,off,rfl,hb,hc⟩:=h.at_ (by omega);have Ha:=hc k l[k] (zab hlt);have HT:Hd ((l.take (k+1)).foldl qb0 (4294967295-s)=qb0 ((l.take k).foldl qb0 (4294967295-s)) l[k]):=zH (by
    rw[zaw hlt,List.foldl_append];rfl)
   obtain⟨r,hr⟩:∃ n,(l.take k).foldl qb0 (4294967295-s)=n:=⟨_,rfl⟩;obtain⟨y,hy⟩:∃ y,l[k]=y:=⟨_,rfl⟩;rw[hr]at HT Hb;rw[hy]at HT Ha;obtain⟨x,hx⟩:∃ x,y.toNat=x:=⟨_,rfl⟩;have Hi:x<256:=by rw[←hx];exact UInt8.toNat_lt _
   rw[hx]at Ha;rw[hr];obtain⟨a,ha⟩:∃ a,r ^^^ x=a:=⟨_,rfl⟩;have Hf:a<4294967296:=by rw[←ha];exact zcn (n:=32) Hb (by omega)
   have e1:=qbE r x Hb (by omega);rw[ha]at e1;have e2:=qcY a Hf;have c1:=hn (a % 16) (by omega);obtain⟨n1,hn1⟩:∃ n,nibT.getD (a % 16) 0=n:=⟨_,rfl⟩;have He:n1<4294967296:=by rw[←hn1];exact qh0 _
   rw[hn1]at c1;obtain⟨a2,ha2⟩:∃ a2,n1 ^^^ (a / 16)=a2:=⟨_,rfl⟩;have Hc:a2<4294967296:=by rw[←ha2];exact zcn (n:=32) He (by omega)
   have e3:bits .xor .u32 (n1:Int) ((a:Int) / 16)=(a2:Int):=by
    have:=qbE n1 (a / 16) He (by omega);rw[ha2]at this;simpa using this
   have e4:=qcY a2 Hc;have c2:=hn (a2 % 16) (by omega);obtain⟨n2,hn2⟩:∃ n,nibT.getD (a2 % 16) 0=n:=⟨_,rfl⟩;have Hg:n2<4294967296:=by rw[←hn2];exact qh0 _
   rw[hn2]at c2;have e5:bits .xor .u32 (n2:Int) ((a2:Int) / 16)=((n2 ^^^ (a2 / 16):Nat):Int):=by
    have:=qbE n2 (a2 / 16) Hg (by omega);simpa using this
   have HF:Hd (qb0 r y=n2 ^^^ (a2 / 16)):=zH (by unfold qb0 qf3;rw[hx,ha,hn1,ha2,hn2]);obtain⟨z,hz⟩:∃ z,n2 ^^^ (a2 / 16)=z:=⟨_,rfl⟩;rw[hz]at e5 HF;clear hr hy hx ha hn1 ha2 hn2 hz hc;have Hh:=zH hn;clear hn h;have k1:(k:Int)<(l.length:Int):=by omega
   have k0:(0:Int)≤(k:Int):=by omega
   go_wp2;exact⟨⟨k+1,by go_num,by omega,by rw[HT.o,HF.o],trivial⟩,by simp[intOf];omega⟩
  ·obtain rfl:k=l.length:=by omega
   go_wp2;go_ret;rw[zbA]at Hb⊢;refine⟨?_,rfl⟩;have:=qbE 4294967295 _ (by omega) Hb;rw[qkT _ Hb]at this;have hm:IntKind.u32.max=((4294967295:Nat):Int):=by decide
   rw[hm];exact qcH this
theorem qiJ (A:Option Addr)(c:Nat)(l:Bs)(w:World)(h:By w A l)(hn:Nib w)(hl:l.length≤1048576) :
  Calls Tryz.prog 108 #[.slice A l.length c] w fun e w'=>e=.returned (.int .u32 (crcN l:Nat))∧w=w':=by
 have H:=qkf 0 A c l w h hn (by omega) hl;go_enter Tryz.func108,Tryz.ntmps108
 go_wp2_with (go_at_call 137;refine H.mono ?_;rintro e w1 ⟨rfl,rfl⟩)
 go_ret;exact⟨rfl,rfl⟩
end Go.Proofs.YtfcknhbmeofniaaGreatDoor
