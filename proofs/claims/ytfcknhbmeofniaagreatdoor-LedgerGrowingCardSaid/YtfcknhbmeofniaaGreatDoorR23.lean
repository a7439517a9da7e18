/- Texts LiF LiG CtD. -/
import Derived.Test.YtfcknhbmeofniaaGreatDoorR22
set_option linter.all false
set_option maxRecDepth 100000
set_option maxHeartbeats 16000000
namespace Go.Proofs.YtfcknhbmeofniaaGreatDoor
open Go.RowKit BT Go.Lib
section
section
variable {n:Nat} {P:Program} {ops:Array Oper} {Q:Exit→Act→World→Prop} {md:Region.Mode} {S:World→Prop}
def qgj (ops:Array Oper):Bool:=ops.all fun o=>match o.op with | .defer _=>false|_=>true
theorem qhb (h:qgj ops=true){j:Nat}{o:Oper}(ho:ops[j]?=some o)(c:Call):o.op≠.defer c:=fun heq=>by
 have:=Array.all_eq_true_iff_forall_mem.1 h o (Array.mem_of_getElem? ho);simp[heq]at this
theorem qfq {l i:Nat}{K:Act→World→Prop}{a:Act}{w:World}(hnd:qgj ops=true)(hq:¬LetsOut Q)(h:wpOp P ops Q i K a w):wpOpIn (Fence.wide.inRound l) n P ops Q i K a w:=by
 unfold wpOpIn;unfold wpOp at h;split
 ·rename_i h0;simp only[h0]at h;exact h
 ·rename_i o ho;simp only[ho]at h;split
  ·rename_i hw;simp only[hw,zb5]at h;rcases h with h|h
   ·refine⟨fun _ _=>trivial,?_⟩;rw[Oper.semAt_plain _ _ _ (qhb hnd ho)];unfold Oper.wp at h;generalize (execOp a.eval o).run P w=r at *;cases r with
    | ok x w'=>
     cases x<;>simp only[Oper.upon,Oper.uponIn]at h⊢
     case value u=>exact h
     case skip=>exact h
     case defer d=>exact h
     case enter f args=>exact⟨fun h=>(by cases h),trivial,fun cs _=>let ⟨e,w',fr,r,s,x⟩:=h cs;⟨e,w',fr,r,comesIn_wide.2 s,x⟩⟩
     case row row args=>exact⟨fun h=>(by cases h),fun c cs _=>let ⟨v,w',r,s⟩:=h c cs;⟨v,w',r,stepsIn_wide.2 s⟩⟩
    | halt x w'=>cases x<;>simp only[Oper.upon,Oper.uponIn]at h⊢<;> exact h
   ·exact absurd h.2 hq
  ·rename_i hw;simp only[hw]at h;exact⟨fun _ _=>trivial,h⟩
theorem qct {l:Nat}(hnd:qgj ops=true)(hq:¬LetsOut Q):∀ (f:Nat) (ls:Array Bool) (a:Act) (w:World),wpAny P md ops Q f ls a w→wpAnyIn (Fence.wide.inRound l) n P md ops Q f ls a w
 | 0,_,_,_,h=>h
 | f+1,_,_,_,h=>⟨h.1,fun i hi=>qfq hnd hq (wpOp_mono (fun a' w'=>qct hnd hq f _ a' w') (h.2 i hi))⟩
theorem qcM (st:List Nat){l id:Nat}{a:Act}{w:World}(hm:P.follows .mixedOrders=true)(hnd:qgj ops=true)(hq:¬LetsOut Q)(hS:S w.drew)
  (h:Gate st (Array.replicate ops.size false) S w.drew→qaN P .any ops Q S st ops.size (Array.replicate ops.size false) a w.drew):(Code.region id ops true).wpIn (Fence.wide.inRound l) n P Q a w:=
 wpIn_region_any hm (qct hnd hq _ _ _ _ (qaF st _ _ _ _ (h fun _=>hS)))
end
def fl2 (x:Pr):List Bs:=[x.1,x.2]
structure LCv (w0:World) (B b5 bo dd l:Nat) (HA:Option Addr) (hn hc:Nat) (C:Nat→Prop) (pre:List Pr) (vo:Value) (cs:List Value) (W:World):Prop where
 base:Touch (fun b=>B≤b) w0 W
 out:W.heap[bo]?=some (.cells #[vo] 65 (0,0))
 own:Own W B 71 2 vo pre.length cs
 row:RowV W (fun b=>C b∧¬(b=bo∨b=b5∨b=l∨b=dd∨vo.ownBlock=some b)) cs (pre.flatMap fl2)
 vC:∀ b,vo.ownBlock=some b→C b∧¬(b=bo∨b=b5∨b=l∨b=dd)
 hi:W.heap[b5]?=some (.cells #[.slice HA hn hc] 40 (0,0))
 df:W.heap[dd]?=some (.deferred (some []))
 Co:C bo∧C b5∧C dd∧C l
 lt:∀ b,C b→B≤b∧b<W.heap.size
 ne:bo≠b5∧bo≠l∧bo≠dd∧b5≠l∧b5≠dd∧dd≠l
section
variable {w0 W W2 W5:World} {B b5 bo dd l:Nat} {HA:Option Addr} {hn hc:Nat} {C:Nat→Prop} {pre:List Pr} {vo:Value} {cs:List Value}
theorem LCv.keep (h:LCv w0 B b5 bo dd l HA hn hc C pre vo cs W){M:Nat→Prop}(ht:Touch M W W2)(hM:∀ b,M b→B≤b∧(¬C b∨b=l)):LCv w0 B b5 bo dd l HA hn hc C pre vo cs W2:=by
 have hx:∀ b,C b→b≠l→¬M b:=fun b hb hl hm=>(hM b hm).2.elim (fun h=>h hb) hl;obtain⟨n1,n2,n3,n4,n5,n6⟩:=h.ne;refine⟨h.base.trans (ht.mono fun b _ hm=>(hM b hm).1),(ht.block bo (h.lt _ h.Co.1).2 (hx _ h.Co.1 n2)).trans h.out,h.own.touch ht (fun b hb=>hx b (h.vC b hb).1 (fun e=>(h.vC b hb).2 (.inr (.inr (.inl e))))),h.row.same (Same.of_touch ht (fun b hb=>hx b hb.1 (fun e=>hb.2 (.inr (.inr (.inl e)))))),h.vC,
  (ht.block b5 (h.lt _ h.Co.2.1).2 (hx _ h.Co.2.1 n4)).trans h.hi,(ht.block dd (h.lt _ h.Co.2.2.1).2 (hx _ h.Co.2.2.1 n6)).trans h.df,h.Co,fun b hb=>⟨(h.lt b hb).1,zag (h.lt b hb).2 ht.size⟩,h.ne⟩
theorem LCv.snoc {x:Pr}{A1 A2:Option Addr}{c1 c2:Nat}{v':Value}(h:LCv w0 B b5 bo dd l HA hn hc C pre vo cs W)(hB:B≤W.heap.size)(hb2:Below W.heap.size W W2)(hk:By W2 A1 x.1)(hkb:∀ ad,A1=some ad→W.heap.size≤ad.block∧ad.block<W2.heap.size)(hkc:x.1.length≤c1)
  (hv:By W2 A2 x.2)(hvb:∀ ad,A2=some ad→W.heap.size≤ad.block∧ad.block<W2.heap.size)(hvc:x.2.length≤c2)(ht:Touch (fun b=>b=bo∨vo.ownBlock=some b) W2 W5)(hbo:W5.heap[bo]?=some (.cells #[v'] 65 (0,0)))
  (ho:Own W5 B 71 2 v' (pre.length+1) (cs++[.slice A1 x.1.length c1,.slice A2 x.2.length c2]))(hown:∀ b,v'.ownBlock=some b→vo.ownBlock=some b∨(W2.heap.size≤b∧b<W5.heap.size)) :
  ∃ C',EvM C C' W W5∧W5.heap[l]?=W.heap[l]?∧∃ v' cs',LCv w0 B b5 bo dd l HA hn hc C' (pre++[x]) v' cs' W5:=by
 have Hf:=hb2.size;have Hg:=ht.size;obtain⟨n1,n2,n3,n4,n5,n6⟩:=h.ne;have hT:Touch (fun b=>b=bo∨vo.ownBlock=some b) W W5:=(Touch.of_below hb2).trans ht;have hF:∀ b,(b=bo∨vo.ownBlock=some b)→C b∧b<W.heap.size:=fun b hb=>by
  rcases hb with rfl|hb
  ·exact⟨h.Co.1,(h.lt _ h.Co.1).2⟩
  ·exact⟨(h.vC b hb).1,(h.lt _ (h.vC b hb).1).2⟩
 have Hb:∀ b,b=b5∨b=l∨b=dd→¬(b=bo∨vo.ownBlock=some b):=fun b hb hm=>by
  rcases hm with hm|hm
  ·rcases hb with hb|hb|hb<;>omega
  ·exact(h.vC b hm).2 (by rcases hb with hb|hb|hb<;>simp[hb])
 have He:∀ b,b=b5∨b=l∨b=dd→C b:=fun b hb=>by
  rcases hb with rfl|rfl|rfl
  ·exact h.Co.2.1
  ·exact h.Co.2.2.2
  ·exact h.Co.2.2.1
 have Hc:∀ b,b=b5∨b=l∨b=dd→W5.heap[b]?=W.heap[b]?:=fun b hb=>hT.block b (h.lt b (He b hb)).2 (Hb b hb);have Ha:∀ b,W.heap.size≤b→¬(b=bo∨b=b5∨b=l∨b=dd∨vo.ownBlock=some b):=fun b hb hm=>by
  have:∀ b,C b→b<W.heap.size:=fun b hb=>(h.lt b hb).2;rcases hm with rfl|rfl|rfl|rfl|hm
  ·have:=this _ h.Co.1;omega
  ·have:=this _ h.Co.2.1;omega
  ·have:=this _ h.Co.2.2.2;omega
  ·have:=this _ h.Co.2.2.1;omega
  ·have:=this _ (h.vC b hm).1;omega
 refine⟨fun b=>C b∨(W.heap.size≤b∧b<W5.heap.size),⟨hT.mono (fun b _ hb=>(hF b hb).1),fun b hb=>hb⟩,Hc l (.inr (.inl rfl)),v',cs++[.slice A1 x.1.length c1,.slice A2 x.2.length c2],h.base.trans (hT.mono fun b _ hb=>(h.lt b (hF b hb).1).1),hbo,?_,?_,fun b hb=>?_,(Hc b5 (.inl rfl)).trans h.hi,(Hc dd (.inr (.inr rfl))).trans h.df,⟨.inl h.Co.1,.inl h.Co.2.1,.inl h.Co.2.2.1,.inl h.Co.2.2.2⟩,fun b hb=>?_,h.ne⟩
 ·rw[zaf,zb7];exact ho
 ·rw[zaK];have h1:RowV W5 (fun b=>(C b∨(W.heap.size≤b∧b<W5.heap.size))∧¬(b=bo∨b=b5∨b=l∨b=dd∨v'.ownBlock=some b)) cs (pre.flatMap fl2):=by
   have q:=h.row.same (Same.of_touch hT (fun b hb hm=>by
    rcases hm with hm|hm
    ·exact hb.2 (.inl hm)
    ·exact hb.2 (.inr (.inr (.inr (.inr hm))))))
   refine RowV.mono (fun b hb=>⟨.inl hb.1,fun hm=>?_⟩) q;rcases hm with hm|hm|hm|hm|hm
   ·exact hb.2 (.inl hm)
   ·exact hb.2 (.inr (.inl hm))
   ·exact hb.2 (.inr (.inr (.inl hm)))
   ·exact hb.2 (.inr (.inr (.inr (.inl hm))))
   ·rcases hown b hm with h1|h1
    ·exact hb.2 (.inr (.inr (.inr (.inr h1))))
    ·have:=(h.lt b hb.1).2;omega
  have key:∀ {A:Option Addr} {s:Bs},By W2 A s→(∀ ad,A=some ad→W.heap.size≤ad.block∧ad.block<W2.heap.size)→ByS W5 (fun b=>(C b∨(W.heap.size≤b∧b<W5.heap.size))∧¬(b=bo∨b=b5∨b=l∨b=dd∨v'.ownBlock=some b)) A s:=fun {A s} hb hbb=>by
   refine⟨hb.touch ht (fun ad e hm=>Ha _ (hbb ad e).1 (by rcases hm with hm|hm<;>simp[hm])),fun ad e _=>⟨.inr ⟨(hbb ad e).1,by have:=(hbb ad e).2;omega⟩,fun hm=>?_⟩⟩;have h3:=Ha _ (hbb ad e).1;rcases hm with hm|hm|hm|hm|hm
   ·exact h3 (.inl hm)
   ·exact h3 (.inr (.inl hm))
   ·exact h3 (.inr (.inr (.inl hm)))
   ·exact h3 (.inr (.inr (.inr (.inl hm))))
   ·rcases hown _ hm with h1|h1
    ·exact h3 (.inr (.inr (.inr (.inr h1))))
    ·have:=(hbb ad e).2;omega
  exact RowV.append h1 (RowV.append (RowV.one hkc (key hk hkb)) (RowV.one hvc (key hv hvb)))
 ·rcases hown b hb with h1|h1
  ·exact⟨.inl (h.vC b h1).1,(h.vC b h1).2⟩
  ·refine⟨.inr ⟨by omega,h1.2⟩,fun hm=>Ha b (by omega) ?_⟩;rcases hm with hm|hm|hm|hm<;>simp[hm]
 ·rcases hb with hb|hb
  ·exact⟨(h.lt b hb).1,by have:=(h.lt b hb).2;omega⟩
  ·exact⟨by omega,hb.2⟩
end
end
section
attribute [local go_sem] Oper.semAt_some
theorem qli:(Tryz.prog.info? 71).map (fun i=>(i.zero,i.size,i.bytes))=some (some (.agg #[.slice none 0 0,.slice none 0 0]),2,48):=by kernel_rfl
theorem qcK {w:World}(l:Nat)(o:Obj):Touch (fun b=>b=l) w (w.putObj l o):=⟨rfl,rfl,rfl,by simp,fun k _ hn=>World.putObj_heap_other hn⟩
theorem qeJ {l n:Nat}{f:FuncId}{args:Array Value}{w:World}{R:Ending→World→Prop}(h:Calls Tryz.prog f args w R):CallsIn (Fence.wide.inRound l) n Tryz.prog f args w R:=
 ⟨trivial,fun cs _=>let ⟨e,w',fr,r,s,x⟩:=h cs;⟨e,w',fr,r,comesIn_wide.2 s,x⟩⟩
def LsF (its:List Pr)(w:World)(e:Ending)(w':World):Prop:=
 Below w.heap.size w w'∧∃ A c cs,e=.returned (.tuple #[.slice A its.length c,.int .i64 0])∧Own w' w.heap.size 71 2 (.slice A its.length c) its.length cs∧RowV w' (fun b=>w.heap.size≤b) cs (its.flatMap fl2)
theorem qg4 {w:World}{a:PA}{G d T:Nat}{F:Nat→Prop}{p:Pl}{g:Pg}{root1:Nat}{A HA:Option Addr}{lo hi:Bs}{n c hn hc:Nat}{its:List Pr}(ht:TrM w a G d T F p g root1)(hoff:p.off=false)(hI:LiI (qax (p.seen d) g.pages g.use) root1 lo its)(hlo:By w A lo)(hhi:By w HA hi)(hln:lo.length=n)(hhn:hi.length=hn)(hlen:its.length≤100000)(hpl:∀ x∈its,x.1.length≤1048576∧x.2.length≤1048576) :
  Calls Tryz.prog 54 #[.pointer (some ⟨T,0,none⟩),.slice A n c,.slice HA hn hc] w (LsF (its.takeWhile (ltB hi)) w):=by
 refine(callsIn_wide (n:=100)).1 (callsIn_of_wp_marks Tryz.func54 rfl trivial ?_ rfl);simp only[Tryz.ntmps54,zas,zal,zbl,Nat.reduceAdd,Nat.reduceSub,Array.replicate_succ,Array.replicate_zero,List.push_toArray,List.append_toArray,zaI,za3];obtain⟨w5,hw5⟩:∃ x,((((w.alloc (.cells #[.slice HA hn hc] 40)).alloc (.cells #[.pointer (some ⟨T,0,none⟩),.slice none 0 0,.int .i64 0] 170)).alloc (.cells #[.slice none 0 0] 65)).alloc (.cells #[.pointer (some ⟨w.heap.size+1,0,none⟩)] 168)).alloc (.cells #[.slice A n c] 40)=x:=⟨_,rfl⟩;have Hb:Below w.heap.size w w5:=by rw[←hw5];exact(((((zai _ w).alloc (zad _) _).alloc (by simp) _).alloc (by simp;omega) _).alloc (by simp;omega) _).alloc (by simp;omega) _
 have hR:w5.heap.size=w.heap.size+5:=by rw[←hw5];simp
 have k4:w5.heap[w.heap.size+4]?=some (.cells #[.slice A n c] 40 (0,0)):=by
  rw[←hw5];have h:=zae ((((w.alloc (.cells #[.slice HA hn hc] 40)).alloc (.cells #[.pointer (some ⟨T,0,none⟩),.slice none 0 0,.int .i64 0] 170)).alloc (.cells #[.slice none 0 0] 65)).alloc (.cells #[.pointer (some ⟨w.heap.size+1,0,none⟩)] 168)) (.cells #[.slice A n c] 40);simpa using h
 have k3:w5.heap[w.heap.size+3]?=some (.cells #[.pointer (some ⟨w.heap.size+1,0,none⟩)] 168 (0,0)):=by
  rw[←hw5];refine(zaW _ _ _ (by simp)).trans ?_;have h:=zae (((w.alloc (.cells #[.slice HA hn hc] 40)).alloc (.cells #[.pointer (some ⟨T,0,none⟩),.slice none 0 0,.int .i64 0] 170)).alloc (.cells #[.slice none 0 0] 65)) (.cells #[.pointer (some ⟨w.heap.size+1,0,none⟩)] 168);simpa using h
 have k2:w5.heap[w.heap.size+2]?=some (.cells #[.slice none 0 0] 65 (0,0)):=by
  rw[←hw5];refine(zaW _ _ _ (by simp)).trans ((zaW _ _ _ (by simp)).trans ?_);have h:=zae ((w.alloc (.cells #[.slice HA hn hc] 40)).alloc (.cells #[.pointer (some ⟨T,0,none⟩),.slice none 0 0,.int .i64 0] 170)) (.cells #[.slice none 0 0] 65);simpa using h
 have k1:w5.heap[w.heap.size+1]?=some (.cells #[.pointer (some ⟨T,0,none⟩),.slice none 0 0,.int .i64 0] 170 (0,0)):=by
  rw[←hw5];refine(zaW _ _ _ (by simp)).trans ((zaW _ _ _ (by simp)).trans ((zaW _ _ _ (by simp)).trans ?_));have h:=zae (w.alloc (.cells #[.slice HA hn hc] 40)) (.cells #[.pointer (some ⟨T,0,none⟩),.slice none 0 0,.int .i64 0] 170);simpa using h
 have k0:w5.heap[w.heap.size]?=some (.cells #[.slice HA hn hc] 40 (0,0)):=by
  rw[←hw5];exact(zaW _ _ _ (by simp;omega)).trans ((zaW _ _ _ (by simp;omega)).trans ((zaW _ _ _ (by simp;omega)).trans ((zaW _ _ _ (by simp)).trans (zae w _))))
 have HT:=zH ht;have HI:=zH hI;have H7:=zH hlo;have H6:=zH hhi;have HK:=zH (⟨k0,k1,k2,k3,k4⟩:_∧_∧_∧_∧_);have HQ:=zH Hb;clear ht hI hlo hhi k0 k1 k2 k3 k4 Hb
 gi_wp2_with (refine⟨trivial,(callsIn_wide.2 (qjj _ _ A n c)).mono ?_⟩;rintro e w' ⟨rfl,rfl⟩)
 clear hw5;obtain⟨bo,hbo⟩:∃ b,w.heap.size+1+1=b:=⟨_,rfl⟩;rw[hbo];obtain⟨b1,hb1⟩:∃ b,bo+1=b:=⟨_,rfl⟩;rw[hb1];obtain⟨b2,hb2⟩:∃ b,b1+1=b:=⟨_,rfl⟩;rw[hb2];obtain⟨Wk,hWk⟩:∃ b,w.heap.size+1=b:=⟨_,rfl⟩;rw[hWk];obtain⟨b5,Hb⟩:∃ b,w.heap.size=b:=⟨_,rfl⟩;rw[Hb];obtain⟨l,hl⟩:∃ b,w5.heap.size+1=b:=⟨_,rfl⟩;obtain⟨dd,hdd⟩:∃ b,w5.heap.size=b:=⟨_,rfl⟩;have HE:=zH (show bo=b5+2∧b1=b5+3∧b2=b5+4∧Wk=b5+1∧l=b5+6∧dd=b5+5 from⟨by omega,by omega,by omega,by omega,by omega,by omega⟩);have k2:w5.heap[bo]?=some (.cells #[.slice none 0 0] 65 (0,0)):=by rw[←hbo];exact HK.o.2.2.1
 have k1:w5.heap[Wk]?=some (.cells #[.pointer (some ⟨T,0,none⟩),.slice none 0 0,.int .i64 0] 170 (0,0)):=by rw[←hWk];exact HK.o.2.1
 have k0:w5.heap[b5]?=some (.cells #[.slice HA hn hc] 40 (0,0)):=by rw[←Hb];exact HK.o.1
 have k3:w5.heap[b1]?=some (.cells #[.pointer (some ⟨Wk,0,none⟩)] 168 (0,0)):=by rw[←hb1,←hbo,←hWk];exact HK.o.2.2.2.1
 have k4:w5.heap[b2]?=some (.cells #[.slice A n c] 40 (0,0)):=by rw[←hb2,←hb1,←hbo];exact HK.o.2.2.2.2
 refine qkv (gf:=131) (lb:=#[.pointer (some ⟨b1,0,none⟩),.pointer (some ⟨b2,0,none⟩)]) rfl (enters_of Tryz.func131 (by kernel_rfl) rfl) rfl
  (fun C pre W=>(∃ vo cs,LCv w b5 b5 bo dd l HA hn hc C pre vo cs W)∧∀ x∈pre,ltB hi x=true)
  (fun cd C pre W=>cd=.exit 0∧∃ p0 x,pre=p0++[x]∧ltB hi x=false∧(∃ vo cs,LCv w b5 b5 bo dd l HA hn hc C p0 vo cs W)∧∀ x∈p0,ltB hi x=true)
  (fun W=>∃ mv met,WkM W b5 Wk T mv met 0∧¬MW Wk mv l) (fun b=>b=bo∨b=b5∨b=dd∨b=l) its ?put ?putx ?putX ?cl
  (fun kv vv=>{ tmps:=#[.pointer (some ⟨T,0,none⟩),.slice A n c,.slice HA hn hc,undef,undef,.pointer (some ⟨b5,0,none⟩),.slice none 0 0,.int .i64 0,.pointer (some ⟨Wk,0,none⟩),.pointer (some ⟨bo,0,none⟩),kv,vv,.pointer (some ⟨T,0,none⟩),.agg #[.pointer (some ⟨T,0,none⟩),.slice none 0 0,.int .i64 0],.pointer (some ⟨Wk,0,none⟩),.pointer (some ⟨Wk,0,none⟩),.slice A n c,.func (.func 131) #[] #[.pointer (some ⟨b1,0,none⟩),.pointer (some ⟨b2,0,none⟩)],kv,vv,undef,undef,undef,undef,undef,undef,undef,undef,undef,undef,undef,undef,undef,undef,undef,undef,undef,undef,undef,undef,undef,undef,undef,undef,undef,undef,undef],defers:=[] })
  ?assign ?body ?h0 ?iter ?done ?stop
 case put=>
  rintro C pre W o ⟨⟨vo,cs,h⟩,h2⟩;rw[hl];exact⟨⟨vo,cs,h.keep (qcK l o) (fun b hb=>⟨by rw[hb];have:=HE.o;omega,.inr hb⟩)⟩,h2⟩
 case putx=>
  rintro cd C pre W o ⟨h1,p0,x,h2,h3,⟨vo,cs,h⟩,h4⟩;rw[hl];exact⟨h1,p0,x,h2,h3,⟨vo,cs,h.keep (qcK l o) (fun b hb=>⟨by rw[hb];have:=HE.o;omega,.inr hb⟩)⟩,h4⟩
 case putX=>
  rintro W o ⟨mv,met,h1,h2⟩;rw[hl];exact⟨mv,met,h1.touch (qcK l o) (fun b hb=>by rw[hb];exact h2),h2⟩
 case cl=>
  rintro C pre W ⟨⟨vo,cs,h⟩,h2⟩;rw[hl];exact h.Co.2.2.2
 case assign=>
  intro kv vv W K hK;rw[hl]
  gi_wp2
  exact hK
 case body=>
  rw[hl];rintro C pre x KA VA kc vc W ⟨⟨vo,cs,hL⟩,hall⟩ hpre hk hv hkc hvc
  dsimp only
  have hh:x∈its:=hpre.subset (by simp);obtain⟨hx1,hx2⟩:=hpl x hh;have hP:pre.length+1≤100000:=by
   have:=hpre.length_le;rw[zaf,zb7]at this;omega
  have g0:W.cell? ⟨b5,0,none⟩=some (.slice HA hn hc):=zC hL.hi;have hB:b5≤W.heap.size:=by have:=hL.base.size;omega
  have hd:By W HA hi:=by
   refine H6.o.touchL hL.base (fun ad e h0 hm=>?_);obtain⟨b,off,e2,h3,_⟩:=H6.o.at_ h0;rw[e]at e2;cases e2;simp only at hm;omega
  have g1:W.drew.cell? ⟨bo,0,none⟩=some vo:=by
   show W.cell? _=_;rw[zao _ _ _ _ _ _ hL.out];rfl
  have hg:=fun(W2 W5:World) (A1 A2:Option Addr) (c1 c2:Nat) (v':Value)=>hL.snoc (W2:=W2) (W5:=W5) (x:=x) (A1:=A1) (A2:=A2) (c1:=c1) (c2:=c2) (v':=v') hB;have H8:=zH hg;have HL:=zH hL;have Hm:=zH hall;have hr:=zH hpre;have HW:=zH hk;have H9:=zH hv;have ho:=zH hd;have H5:=zH g1;obtain⟨j0,hj0,jz0,jz1,jz2⟩:=zaY qli;clear hg hL hall hpre hk hv hh hd g1;by_cases h0:hn=0
  ·subst h0;have hA:hi=[]:=List.length_eq_zero_iff.1 hhn;have Hh:ltB hi x=true:=by simp[ltB,hA]
   gi_wp2
   refine⟨trivial,?_⟩
   gi_wp2
   have Hv:=zH (qaC KA kc x.1 W.drew (HW.o.below ((zai _ _).drew)) hx1);have Hf:=zH (show Below W.heap.size W W.drew from(zai _ _).drew);have Hc:=zH (show W.drew.cell? ⟨bo,0,none⟩=some vo from H5.o);refine qcM (S:=fun W'=>W'.cell? ⟨bo,0,none⟩=some vo) [8] (by kernel_rfl) (by kernel_rfl) (by rintro⟨_,_,h⟩;exact h) Hc.o (fun _=>?_);generalize W.drew=W0 at Hc Hv Hf⊢;refine zL 0 29 (vo) rfl (Or.inl ⟨by rfl,fun W' hS=>by go_simp⟩) (qab Hc.o) ?_;try simp only[zS]
   refine zP 1 30 (.slice KA x.1.length kc) Hc.o ?_;try simp only[zS]
   refine zP 3 32 (.slice VA x.2.length vc) Hc.o ?_;try simp only[zS]
   refine zE 2 31 rfl (fun Kr hKr=>?_);go_simp;go_at_call 28
   refine Hv.o.mono ?_;rintro e W1 ⟨A1,c1,rfl,ho1,hd1⟩;have He:=Hf.o.trans (hd1.mono Hf.o.size);have HB:=zH ho1;have Hx:=zH He;have Hn:=zH (show W1.cell? ⟨bo,0,none⟩=some vo from(zbP (hd1.block _ (qaq Hc.o))).trans Hc.o);have HR:=zH (qaC VA vc x.2 W1 (H9.o.below He) hx2);have H0:=zH hd1.size;clear ho1 hd1 He;refine hKr.out (.slice A1 x.1.length c1) _ (qab Hn.o) (fun _=>?_);clear hKr Kr;try simp only[zS]
   refine zE 4 33 rfl (fun Kr hKr=>?_);go_simp;go_at_call 28
   refine HR.o.mono ?_;rintro e W2 ⟨A2,c2,rfl,ho2,hd2⟩;have Ha:=Hx.o.trans (hd2.mono Hx.o.size);have Hp:=zH ho2;have HU:=zH Ha;have Hj:=zH (show W2.cell? ⟨bo,0,none⟩=some vo from(zbP (hd2.block _ (qaq Hn.o))).trans Hn.o);have Hg:=zH (HB.o.touch (F:=fun _=>False) (Touch.of_below hd2) (fun _ _ h=>h.elim));have HX:=zH (show Own W2 b5 71 2 vo pre.length cs from HL.o.own.touch (F:=fun _=>False) (Touch.of_below Ha) (fun _ _ h=>h.elim));have Hu:=zH ((Ha.block bo (HL.o.lt _ HL.o.Co.1).2).trans HL.o.out);have hs:=zH hd2.size;have HO:=zH (show b5≤W2.heap.size from zam hB Ha.size);clear ho2 hd2 Ha;refine hKr.out (.slice A2 x.2.length c2) _ (qab Hj.o) (fun _=>?_);clear hKr Kr;try simp only[zS]
   refine zP 5 34 (.agg #[.slice A1 x.1.length c1,.slice A2 x.2.length c2]) Hj.o ?_;try simp only[zS]
   refine zE 6 35 rfl (fun Kr hKr=>?_);refine Eq.mpr (zax (by rfl)) ?_;refine qaU 65 (.tmp 34) rfl Tryz.underlying65 hj0 jz0 jz1 (by decide) (by decide) (.agg #[.slice A1 x.1.length c1,.slice A2 x.2.length c2]) rfl [.slice A1 x.1.length c1,.slice A2 x.2.length c2] (by rfl) rfl ?_;have Hs:Below W2.heap.size W2 (W2.alloc (.cells [Value.slice A1 x.1.length c1,.slice A2 x.2.length c2].toArray 71)):=zB _ _;have Hi:=zH Hs;have H1:=zH (show(W2.alloc (.cells [Value.slice A1 x.1.length c1,.slice A2 x.2.length c2].toArray 71)).heap.size=W2.heap.size+1 by simp);have Hw:=zH (show Src (W2.alloc (.cells [Value.slice A1 x.1.length c1,.slice A2 x.2.length c2].toArray 71)) 2 (some ⟨W2.heap.size,0,none⟩) 1 [.slice A1 x.1.length c1,.slice A2 x.2.length c2]from qas (zae W2 _) rfl);have Hy:=zH (show(W2.alloc (.cells [Value.slice A1 x.1.length c1,.slice A2 x.2.length c2].toArray 71)).cell? ⟨bo,0,none⟩=some vo from(zbP (Hs.block _ (qaq Hj.o))).trans Hj.o);clear Hs;obtain⟨C3,hC3⟩:∃ C,W2.heap.size=C:=⟨_,rfl⟩;have hp:=zH hC3;rw[hC3]at Hw⊢;clear hC3;generalize W2.alloc (.cells [Value.slice A1 x.1.length c1,.slice A2 x.2.length c2].toArray 71)=W3 at *;refine hKr.out (.slice (some ⟨C3,0,none⟩) 1 1) _ (qab Hy.o) (fun _=>?_);clear hKr Kr;try simp only[zS]
   refine zE 7 36 rfl (fun Kr hKr=>?_);refine Eq.mpr (zax (by rfl)) ?_;have Ht:Own W3 b5 71 2 vo pre.length cs:=HX.o.touch (F:=fun _=>False) (Touch.of_below Hi.o) (fun _ _ h=>h.elim);have HC:b5≤W3.heap.size:=zam HO.o Hi.o.size;refine qaS (.tmp 29) (.tmp 35) 65 rfl b5 71 j0 _ 2 48 Tryz.underlying65 hj0 jz0 jz1 jz2 rfl (by decide) vo pre.length cs rfl Ht.row (some ⟨C3,0,none⟩) 1 1 [.slice A1 x.1.length c1,.slice A2 x.2.length c2] rfl Hw.o (by simp[Value.oneCell']) (by unfold maxLen;omega) (by omega) HC ?_;intro A4 c4 W4 q1 q2 q3;have Hl:=qbq q2 q3;have HY:=zH (qaQ Ht HC q1 Hl);have Hr:=zH Hl;have H2:bo<W3.heap.size:=qaq Hy.o;have HG:vo.ownBlock≠some bo:=fun e=>(HL.o.vC bo e).2 (.inl rfl);have Ho:=zH ((Hl.touch.block bo H2 HG).trans ((Hi.o.block bo (by have:=Hu.o;exact(zaa.1 this).1)).trans Hu.o));have HV:=zH (show W4.cell? ⟨bo,0,none⟩=some vo from zC Ho.o);clear q1 q2 q3 Hl Ht;refine hKr.out (.slice A4 (pre.length+1) c4) _ (qab HV.o) (fun _=>?_);clear hKr Kr;try simp only[zS]
   have Hq:=zH (show W4.there bo 0 1 from there_of_block Ho.o 0 (by simp));refine qam (rs:=[8]) (by kernel_rfl) (by simp) ?_;refine AllReadyG.store rfl 65 (.tmp 9) (.tmp 36) rfl rfl rfl bo 0 (.slice A4 (pre.length+1) c4) rfl rfl Hq.o (by kernel_rfl) rfl (qaD 8 (by rfl) (by kernel_rfl)) ?_ AllReadyG.nil;have HF:Touch (fun b=>b=bo) W4 (W4.setCell ⟨bo,0,none⟩ (.slice A4 (pre.length+1) c4)):=Touch.setCell (F:=fun b=>b=bo) (Touch.refl _ _) (p:=⟨bo,0,none⟩) rfl _;have Hz:=zH (show(W4.setCell ⟨bo,0,none⟩ (.slice A4 (pre.length+1) c4)).heap[bo]?=some (.cells #[.slice A4 (pre.length+1) c4] 65 (0,0))from qac Ho.o _);have Hk:=zH HF;clear HF;generalize W4.setCell ⟨bo,0,none⟩ (.slice A4 (pre.length+1) c4)=W5 at Hz Hk⊢;try simp only[zS]
   refine qaf (by kernel_rfl) ?_ _;have H4:∀ b,(Value.slice A4 (pre.length+1) c4).ownBlock=some b→vo.ownBlock=some b∨(W2.heap.size≤b∧b<W5.heap.size):=fun b e=>by
    have h1:=Hk.o.size;have h2:=H1.o;rcases Hr.o.own b e with h|h
    ·exact .inl h
    ·exact .inr ⟨by omega,by omega⟩
   have HM:∀ {A:Option Addr} {m cc base:Nat} {ys:List Value} {W':World},Own W' base 5 1 (.slice A m cc) m ys→∀ ad,A=some ad→base≤ad.block∧ad.block<W'.heap.size:=fun h ad e=>by subst e;exact h.blk _ rfl
   obtain⟨C',he,hl5,v',cs',hlc⟩:=H8.o W2 W5 A1 A2 c1 c2 _ HU.o (Hg.o.byN rfl) (fun ad e=>by have:=HM Hg.o ad e;have:=Hf.o.size;omega) (by obtain⟨_,_,e,h⟩:=HB.o.slice;cases e;exact h) (Hp.o.byN rfl) (fun ad e=>by have:=HM Hp.o ad e;have:=H0.o;have:=Hf.o.size;omega) (by obtain⟨_,_,e,h⟩:=Hp.o.slice;cases e;exact h)
    (((Touch.of_below Hi.o).trans (Hr.o.touch.mono (fun b _ h=>.inr h))).trans (Hk.o.mono (fun b _ h=>.inl h))) Hz.o (HY.o.touch Hk.o (fun b e hb=>by
     subst hb;rcases Hr.o.own _ e with h|h
     ·exact HG h
     ·omega)) H4
   exact⟨C',he,hl5,⟨v',cs',hlc⟩,fun y hy=>by
    rcases zar.1 hy with h|h
    ·exact Hm.o y h
    ·rw[za1.1 h];exact Hh⟩
  ·have hf:(0:Int)<(hn:Int):=by omega
   have hN:decide ((hn:Int)>0)=true:=zaT hf;have hO:decide ((0:Int)<(hn:Int))=true:=zaT hf;have hC:hi.isEmpty=false:=by
    cases hi with
    | nil=>simp at hhn;omega
    | cons _ _=>rfl
   have HS:=zH (qdm (w:=W) kc hc HW.o ho.o rfl hhn);obtain⟨cv,hcv⟩:∃ v,cmpB x.1 hi=v:=⟨_,rfl⟩;rw[hcv]at HS;by_cases hb:blt x.1 hi=true
   ·have Hh:ltB hi x=true:=by simp[ltB,hb]
    have HN:=cmpB_lt.2 hb;rw[hcv]at HN;have hD:decide (cv≥0)=false:=zan (by omega);have hE:decide (0≤cv)=false:=zan (by omega);have hQ:¬(0≤cv):=by omega
    gi_wp2_with (refine⟨trivial,(qeJ HS.o).mono ?_⟩;rintro e w' ⟨rfl,rfl⟩)
    have Hv:=zH (qaC KA kc x.1 W.drew (HW.o.below ((zai _ _).drew)) hx1);have Hf:=zH (show Below W.heap.size W W.drew from(zai _ _).drew);have Hc:=zH (show W.drew.cell? ⟨bo,0,none⟩=some vo from H5.o);refine qcM (S:=fun W'=>W'.cell? ⟨bo,0,none⟩=some vo) [8] (by kernel_rfl) (by kernel_rfl) (by rintro⟨_,_,h⟩;exact h) Hc.o (fun _=>?_);generalize W.drew=W0 at Hc Hv Hf⊢;refine zL 0 29 (vo) rfl (Or.inl ⟨by rfl,fun W' hS=>by go_simp⟩) (qab Hc.o) ?_;try simp only[zS]
    refine zP 1 30 (.slice KA x.1.length kc) Hc.o ?_;try simp only[zS]
    refine zP 3 32 (.slice VA x.2.length vc) Hc.o ?_;try simp only[zS]
    refine zE 2 31 rfl (fun Kr hKr=>?_);go_simp;go_at_call 28
    refine Hv.o.mono ?_;rintro e W1 ⟨A1,c1,rfl,ho1,hd1⟩;have He:=Hf.o.trans (hd1.mono Hf.o.size);have HB:=zH ho1;have Hx:=zH He;have Hn:=zH (show W1.cell? ⟨bo,0,none⟩=some vo from(zbP (hd1.block _ (qaq Hc.o))).trans Hc.o);have HR:=zH (qaC VA vc x.2 W1 (H9.o.below He) hx2);have H0:=zH hd1.size;clear ho1 hd1 He;refine hKr.out (.slice A1 x.1.length c1) _ (qab Hn.o) (fun _=>?_);clear hKr Kr;try simp only[zS]
    refine zE 4 33 rfl (fun Kr hKr=>?_);go_simp;go_at_call 28
    refine HR.o.mono ?_;rintro e W2 ⟨A2,c2,rfl,ho2,hd2⟩;have Ha:=Hx.o.trans (hd2.mono Hx.o.size);have Hp:=zH ho2;have HU:=zH Ha;have Hj:=zH (show W2.cell? ⟨bo,0,none⟩=some vo from(zbP (hd2.block _ (qaq Hn.o))).trans Hn.o);have Hg:=zH (HB.o.touch (F:=fun _=>False) (Touch.of_below hd2) (fun _ _ h=>h.elim));have HX:=zH (show Own W2 b5 71 2 vo pre.length cs from HL.o.own.touch (F:=fun _=>False) (Touch.of_below Ha) (fun _ _ h=>h.elim));have Hu:=zH ((Ha.block bo (HL.o.lt _ HL.o.Co.1).2).trans HL.o.out);have hs:=zH hd2.size;have HO:=zH (show b5≤W2.heap.size from zam hB Ha.size);clear ho2 hd2 Ha;refine hKr.out (.slice A2 x.2.length c2) _ (qab Hj.o) (fun _=>?_);clear hKr Kr;try simp only[zS]
    refine zP 5 34 (.agg #[.slice A1 x.1.length c1,.slice A2 x.2.length c2]) Hj.o ?_;try simp only[zS]
    refine zE 6 35 rfl (fun Kr hKr=>?_);refine Eq.mpr (zax (by rfl)) ?_;refine qaU 65 (.tmp 34) rfl Tryz.underlying65 hj0 jz0 jz1 (by decide) (by decide) (.agg #[.slice A1 x.1.length c1,.slice A2 x.2.length c2]) rfl [.slice A1 x.1.length c1,.slice A2 x.2.length c2] (by rfl) rfl ?_;have Hs:Below W2.heap.size W2 (W2.alloc (.cells [Value.slice A1 x.1.length c1,.slice A2 x.2.length c2].toArray 71)):=zB _ _;have Hi:=zH Hs;have H1:=zH (show(W2.alloc (.cells [Value.slice A1 x.1.length c1,.slice A2 x.2.length c2].toArray 71)).heap.size=W2.heap.size+1 by simp);have Hw:=zH (show Src (W2.alloc (.cells [Value.slice A1 x.1.length c1,.slice A2 x.2.length c2].toArray 71)) 2 (some ⟨W2.heap.size,0,none⟩) 1 [.slice A1 x.1.length c1,.slice A2 x.2.length c2]from qas (zae W2 _) rfl);have Hy:=zH (show(W2.alloc (.cells [Value.slice A1 x.1.length c1,.slice A2 x.2.length c2].toArray 71)).cell? ⟨bo,0,none⟩=some vo from(zbP (Hs.block _ (qaq Hj.o))).trans Hj.o);clear Hs;obtain⟨C3,hC3⟩:∃ C,W2.heap.size=C:=⟨_,rfl⟩;have hp:=zH hC3;rw[hC3]at Hw⊢;clear hC3;generalize W2.alloc (.cells [Value.slice A1 x.1.length c1,.slice A2 x.2.length c2].toArray 71)=W3 at *;refine hKr.out (.slice (some ⟨C3,0,none⟩) 1 1) _ (qab Hy.o) (fun _=>?_);clear hKr Kr;try simp only[zS]
    refine zE 7 36 rfl (fun Kr hKr=>?_);refine Eq.mpr (zax (by rfl)) ?_;have Ht:Own W3 b5 71 2 vo pre.length cs:=HX.o.touch (F:=fun _=>False) (Touch.of_below Hi.o) (fun _ _ h=>h.elim);have HC:b5≤W3.heap.size:=zam HO.o Hi.o.size;refine qaS (.tmp 29) (.tmp 35) 65 rfl b5 71 j0 _ 2 48 Tryz.underlying65 hj0 jz0 jz1 jz2 rfl (by decide) vo pre.length cs rfl Ht.row (some ⟨C3,0,none⟩) 1 1 [.slice A1 x.1.length c1,.slice A2 x.2.length c2] rfl Hw.o (by simp[Value.oneCell']) (by unfold maxLen;omega) (by omega) HC ?_;intro A4 c4 W4 q1 q2 q3;have Hl:=qbq q2 q3;have HY:=zH (qaQ Ht HC q1 Hl);have Hr:=zH Hl;have H2:bo<W3.heap.size:=qaq Hy.o;have HG:vo.ownBlock≠some bo:=fun e=>(HL.o.vC bo e).2 (.inl rfl);have Ho:=zH ((Hl.touch.block bo H2 HG).trans ((Hi.o.block bo (by have:=Hu.o;exact(zaa.1 this).1)).trans Hu.o));have HV:=zH (show W4.cell? ⟨bo,0,none⟩=some vo from zC Ho.o);clear q1 q2 q3 Hl Ht;refine hKr.out (.slice A4 (pre.length+1) c4) _ (qab HV.o) (fun _=>?_);clear hKr Kr;try simp only[zS]
    have Hq:=zH (show W4.there bo 0 1 from there_of_block Ho.o 0 (by simp));refine qam (rs:=[8]) (by kernel_rfl) (by simp) ?_;refine AllReadyG.store rfl 65 (.tmp 9) (.tmp 36) rfl rfl rfl bo 0 (.slice A4 (pre.length+1) c4) rfl rfl Hq.o (by kernel_rfl) rfl (qaD 8 (by rfl) (by kernel_rfl)) ?_ AllReadyG.nil;have HF:Touch (fun b=>b=bo) W4 (W4.setCell ⟨bo,0,none⟩ (.slice A4 (pre.length+1) c4)):=Touch.setCell (F:=fun b=>b=bo) (Touch.refl _ _) (p:=⟨bo,0,none⟩) rfl _;have Hz:=zH (show(W4.setCell ⟨bo,0,none⟩ (.slice A4 (pre.length+1) c4)).heap[bo]?=some (.cells #[.slice A4 (pre.length+1) c4] 65 (0,0))from qac Ho.o _);have Hk:=zH HF;clear HF;generalize W4.setCell ⟨bo,0,none⟩ (.slice A4 (pre.length+1) c4)=W5 at Hz Hk⊢;try simp only[zS]
    refine qaf (by kernel_rfl) ?_ _;have H4:∀ b,(Value.slice A4 (pre.length+1) c4).ownBlock=some b→vo.ownBlock=some b∨(W2.heap.size≤b∧b<W5.heap.size):=fun b e=>by
     have h1:=Hk.o.size;have h2:=H1.o;rcases Hr.o.own b e with h|h
     ·exact .inl h
     ·exact .inr ⟨by omega,by omega⟩
    have HM:∀ {A:Option Addr} {m cc base:Nat} {ys:List Value} {W':World},Own W' base 5 1 (.slice A m cc) m ys→∀ ad,A=some ad→base≤ad.block∧ad.block<W'.heap.size:=fun h ad e=>by subst e;exact h.blk _ rfl
    obtain⟨C',he,hl5,v',cs',hlc⟩:=H8.o W2 W5 A1 A2 c1 c2 _ HU.o (Hg.o.byN rfl) (fun ad e=>by have:=HM Hg.o ad e;have:=Hf.o.size;omega) (by obtain⟨_,_,e,h⟩:=HB.o.slice;cases e;exact h) (Hp.o.byN rfl) (fun ad e=>by have:=HM Hp.o ad e;have:=H0.o;have:=Hf.o.size;omega) (by obtain⟨_,_,e,h⟩:=Hp.o.slice;cases e;exact h)
     (((Touch.of_below Hi.o).trans (Hr.o.touch.mono (fun b _ h=>.inr h))).trans (Hk.o.mono (fun b _ h=>.inl h))) Hz.o (HY.o.touch Hk.o (fun b e hb=>by
      subst hb;rcases Hr.o.own _ e with h|h
      ·exact HG h
      ·omega)) H4
    exact⟨C',he,hl5,⟨v',cs',hlc⟩,fun y hy=>by
     rcases zar.1 hy with h|h
     ·exact Hm.o y h
     ·rw[za1.1 h];exact Hh⟩
   ·have ha:blt x.1 hi=false:=by simpa using hb
    have Hh:ltB hi x=false:=by simp[ltB,ha,hC]
    have HN:=cmpB_ge.2 ha;rw[hcv]at HN;have hD:decide (cv≥0)=true:=zaT (by omega);have hE:decide (0≤cv)=true:=zaT HN
    gi_wp2_with (refine⟨trivial,(qeJ HS.o).mono ?_⟩;rintro e w' ⟨rfl,rfl⟩)
    exact⟨C,EvM.refl _ _,rfl,rfl,pre,x,rfl,Hh,⟨vo,cs,HL.o⟩,Hm.o⟩
 case h0=>
  intro W1 hbW hz1 hd1 hr1;rw[hdd]at hd1;have hJ:bo<w5.heap.size:=by have:=HE.o;omega
  have hM:b5<w5.heap.size:=by have:=HE.o;omega
  refine⟨⟨.slice none 0 0,[],⟨(Touch.of_below HQ.o).trans (Touch.of_below hbW),(hbW.block bo hJ).trans k2,Own.nil _ _ _ _,rfl,fun b hb=>(by cases hb),(hbW.block b5 hM).trans k0,hd1,⟨.inl rfl,.inr (.inl rfl),.inr (.inr (.inl rfl)),.inr (.inr (.inr rfl))⟩,fun b hb=>?_,?_⟩⟩,fun x hx=>by cases hx⟩
  ·have:=HE.o;rcases hb with rfl|rfl|rfl|rfl<;>omega
  ·have:=HE.o;omega
 case iter=>
  intro J Jx W1 hJ1 hJx hJ2 hY hj hbW hz1;rw[hl]at hY⊢;have h6:=HE.o;have Hh:∀ b,b<b5+5→b<w5.heap.size:=fun b hb=>by omega
  have hu:TrB W1 b5 a G d T F p g root1:=⟨(HT.o.below (by rw[Hb];exact Hb▸HQ.o)).below hbW,by rw[←Hb];exact HT.o.pg.pl.hF,by rw[←Hb];exact HT.o.pg.lt,by rw[←Hb];exact HT.o.lt,by rw[←Hb];exact qaq (HT.o.pg.nib 0 (by omega))⟩;have hz:qhE b5 J:=fun C pre X Y hx ht=>hJ2 C pre X Y hx (fun b hb Hh=>ht.block b Hh (fun h=>h.2 hb)) (by
   obtain⟨⟨vo,cs,h⟩,h2⟩:=hJ1 _ _ _ hx;exact⟨⟨vo,cs,h.keep ht (fun b hb=>⟨hb.1,.inl hb.2⟩)⟩,h2⟩)
  have hH:WkM W1 b5 Wk T (.slice none 0 0) [] 0:=⟨(hbW.block Wk (Hh _ (by omega))).trans k1,by omega,Own.nil _ _ _ _,by simp[Value.ownBlock]⟩;have hlo:By W1 A lo:=(H7.o.below (by rw[Hb];exact Hb▸HQ.o)).below hbW;have HP:=qh6 (W:=Wk) (n:=n) (c:=c) (C:=fun b=>b=bo∨b=b5∨b=dd∨b=l) (its:=its) (mv:=.slice none 0 0) (b1:=b1) (b2:=b2) hoff hz hY hln HI.o hu hH hlo (fun ad e h0=>by
    obtain⟨b,off,e2,h3,_⟩:=H7.o.at_ h0;rw[e]at e2;cases e2;simp only;omega) ((hbW.block b1 (Hh _ (by omega))).trans k3) ((hbW.block b2 (Hh _ (by omega))).trans k4) (fun b hb=>by omega) (fun b hb=>⟨by omega,(fun hm=>by rcases hm with hm|hm;omega;cases hm),by omega,by omega⟩)
   (fun hm=>by rcases hm with hm|hm;omega;cases hm) (fun hm=>by rcases hm with hm|hm;omega;cases hm) (by omega) hj
  refine(callsIn_wide.2 HP).mono ?_;rintro e W' ⟨rfl,C',mv',met',he,hwk',hap',hres⟩;refine⟨⟨_,rfl⟩,⟨mv',met',hwk',hap' l ?_⟩,C',hres⟩;rcases hres with h|⟨q,hq,h⟩
  ·obtain⟨⟨vo,cs,h⟩,_⟩:=hJ1 _ _ _ h;exact h.Co.2.2.2
  ·obtain⟨cd,_,p0,x,_,_,⟨vo,cs,h⟩,_⟩:=hJx _ _ _ h;exact h.Co.2.2.2
 case done=>
  rintro C W ⟨⟨vo,cs,h⟩,h2⟩ ⟨mv,met,hw,hml⟩;have HZ:=zH (show its.takeWhile (ltB hi)=its by
   have:=qcp (q:=ltB hi) (a:=its) [] (zbq.2 h2);simpa using this)
  clear h2;have HJ:W.heap[w5.heap.size]?=some (.deferred (some [])):=by rw[hdd];exact h.df
  have g0:W.cell? ⟨Wk,2,none⟩=some (.int .i64 0):=hw.c2;have g1:W.cell? ⟨bo,0,none⟩=some vo:=zC h.out;obtain⟨Ao,co,hvo,_⟩:=h.own.slice;subst hvo;have HH:=zH h;have HD:=zH HJ;have H3:=h.lt _ h.Co.2.2.1;clear h HJ hw hml
  gi_wp2
  refine⟨by simp,.inl ⟨_,_,rfl,run_takeDeferred HD.o,?_⟩⟩;refine⟨_,by simp[results,Tryz.results54,go_sem];rfl,?_⟩;rw[hdd];have ht:Touch (fun b=>b=dd) W (W.putObj dd (.deferred none)):=qcK dd _;refine⟨Hb▸(qcX HH.o.base (by omega)).trans ⟨ht.os,ht.tape,ht.output,ht.size,fun b hb=>ht.block b (by have:=HH.o.base.size;omega) (by omega)⟩,?_⟩;rw[HZ.o];exact⟨_,_,cs,rfl,by rw[Hb];exact HH.o.own.touch ht (fun b e hb=>(HH.o.vC b e).2 (.inr (.inr (.inr hb)))),(HH.o.row.same (Same.of_touch ht (fun b hb e=>hb.2 (.inr (.inr (.inr (.inl e))))))).mono (fun b hb=>by rw[Hb];exact(HH.o.lt b hb.1).1)⟩
 case stop=>
  rintro cd C q W hq ⟨rfl,p0,x,rfl,hx,⟨vo,cs,h⟩,h2⟩ ⟨mv,met,hw,hml⟩;have HZ:=zH (show its.takeWhile (ltB hi)=p0 by
   obtain⟨t,rfl⟩:=hq;rw[zah,qcp (q:=ltB hi) _ (zbq.2 h2)];simp[List.takeWhile,hx])
  clear h2 hx;have HJ:W.heap[w5.heap.size]?=some (.deferred (some [])):=by rw[hdd];exact h.df
  have g0:W.cell? ⟨Wk,2,none⟩=some (.int .i64 0):=hw.c2;have g1:W.cell? ⟨bo,0,none⟩=some vo:=zC h.out;obtain⟨Ao,co,hvo,_⟩:=h.own.slice;subst hvo;have HH:=zH h;have HD:=zH HJ;have H3:=h.lt _ h.Co.2.2.1;clear h HJ hw hml
  gi_wp2
  refine⟨by simp,.inl ⟨_,_,rfl,run_takeDeferred HD.o,?_⟩⟩;refine⟨_,by simp[results,Tryz.results54,go_sem];rfl,?_⟩;rw[hdd];have ht:Touch (fun b=>b=dd) W (W.putObj dd (.deferred none)):=qcK dd _;refine⟨Hb▸(qcX HH.o.base (by omega)).trans ⟨ht.os,ht.tape,ht.output,ht.size,fun b hb=>ht.block b (by have:=HH.o.base.size;omega) (by omega)⟩,?_⟩;rw[HZ.o];exact⟨_,_,cs,rfl,by rw[Hb];exact HH.o.own.touch ht (fun b e hb=>(HH.o.vC b e).2 (.inr (.inr (.inr hb)))),(HH.o.row.same (Same.of_touch ht (fun b hb e=>hb.2 (.inr (.inr (.inr (.inl e))))))).mono (fun b hb=>by rw[Hb];exact(HH.o.lt b hb.1).1)⟩
end
end Go.Proofs.YtfcknhbmeofniaaGreatDoor
set_option linter.all false
namespace Go.Proofs.YtfcknhbmeofniaaGreatDoor
open Go.RowKit BT
structure CaM (w:World) (K T:Nat) (a:PA) (G j:Nat) (F:Nat→Prop) (q:Pl) (g:Pg):Prop where
 ex:∃ V,w.heap[K]?=some (.cells #[.pointer (some ⟨V,0,none⟩),.pointer (some ⟨G,0,none⟩),.pointer (some ⟨T,0,none⟩),.int .i64 0] 107 (0,0))
 tr:TrM w a G j T F q g 0
 off:q.off=false
structure CaQ (q:Pl) (i j m n g x t gg:Nat):Prop where
 ct:CtP q i j m n
 sure:Sure q
 wt:q.waits=[]
 new:newH (q.disk i 0) (q.disk i 1)=(g,x,t)
 g0:g≠0
 g1:g<4294967294
 x0:x≠0
 x1:x<4294967296
 none:q.disk i 2=zeros 64
 com:Com q j (min ((n-2) / 8) 384) ⟨gg,0,zeros 48⟩
theorem CaQ.lay {q:Pl}{i j m n g x t gg:Nat}(h:CaQ q i j m n g x t gg):Sure (layH q i (g+1) x).2∧(layH q i (g+1) x).2.most=q.most∧(layH q i (g+1) x).2.waits=[]∧Com (layH q i (g+1) x).2 j (min ((n-2) / 8) 384) ⟨gg,0,zeros 48⟩:=by
 obtain⟨_,l⟩:=qcq h.sure ⟨i,(g+1) % 2,hdrB (g+1) x⟩;have hw:(layH q i (g+1) x).2.waits=[]:=by
  have:=l.waits;rw[h.wt]at this;exact this
 refine⟨l.sure,l.most,hw,h.com.to l.most (fun k _=>l.other j k h.ct.ne.symm) (fun x hx=>by rw[hw]at hx;cases hx)⟩
theorem TrM.setOther {w:World}{a:PA}{G d T:Nat}{F:Nat→Prop}{p:Pl}{g:Pg}{root1 K k:Nat}{u:Value}(h:TrM w a G d T F p g root1)(_:0≤k)(h1:¬F K)(h2:K≠G)(h3:K≠T)(h4:K≠2):TrM (w.setCell ⟨K,k,none⟩ u) a G d T F p g root1:=by
 have ht:Touch (fun b=>b=K) w (w.setCell ⟨K,k,none⟩ u):=Touch.setCell (F:=fun b=>b=K) (p:=⟨K,k,none⟩) (Touch.refl _ w) rfl u;exact⟨h.pg.touch ht (fun b hb e=>by subst e;rcases hb with hb|hb;exact h1 hb;exact h2 hb) (fun e=>h4 e.symm),(ht.block T h.lt (fun e=>h3 e.symm)).trans h.t,h.nT⟩
theorem Ext.setNew {F F':Nat→Prop}{w w':World}{K k:Nat}(h:Ext F F' w w')(hK:w.heap.size≤K)(u:Value):Ext F F' w (w'.setCell ⟨K,k,none⟩ u):=
 ⟨⟨h.touch.os,h.touch.tape,h.touch.output,by have:=h.touch.size;simpa using this,fun b hb hf=>(zaV w' ⟨K,k,none⟩ u b (fun e=>by have e2:b=K:=e;omega)).trans (h.touch.block b hb hf)⟩,h.sub⟩
theorem qiU {w:World}{a:PA}{F:Nat→Prop}{q:Pl}(h:PlM w a F q)(hn:Nib w)(hnF:¬F 2){i j m n g x t gg:Nat}(hc:CaQ q i j m n g x t gg) :
  Calls Tryz.prog 21 #[.pointer (some ⟨a.P,0,none⟩),.int .i64 i,.int .i64 j] w fun e w'=>∃ K,e=.returned (.tuple #[.pointer (some ⟨K,0,none⟩),.int .i64 0])∧∃ G T F',CaM w' K T a G j F' (layH q i (g+1) x).2 ⟨min ((n-2) / 8) 384,gg,0,zeros 48,zeros 48⟩∧Ext F F' w w'∧w.heap.size≤K:=by
 have HM:=zH (qiA h hc.ct);have HW:=zH (fun(W:World) (hb:Below w.heap.size w W)=>qjC (h.below hb) hc.sure (hn.below hb) hc.ct.jd (by have:=hc.ct.jm;omega) (by rw[hc.wt];simp) (by rw[qdy hc.wt,qdy hc.wt];exact hc.new) hc.g0 hc.g1 hc.x0 hc.x1 (by rw[qdy hc.wt];exact hc.none));obtain⟨l1,l2,l3,l4⟩:=hc.lay;obtain⟨Q,hQ⟩:∃ Q,(layH q i (g+1) x).2=Q:=⟨_,rfl⟩;obtain⟨o1,o2⟩:=l4.open_;obtain⟨pages,hpg⟩:∃ z,min ((n-2) / 8) 384=z:=⟨_,rfl⟩;have Hw:0<min ((n-2) / 8) 384:=by have:=hc.ct.tm;omega
 have HP:=zH (show ∀ (W:World) (F':Nat→Prop),PlM W a F' (layH q i (g+1) x).2→Ext F F' w W→Calls Tryz.prog 46 #[.pointer (some ⟨a.P,0,none⟩),.int .i64 j] W fun e w'=>∃ G,e=.returned (.tuple #[.pointer (some ⟨G,0,none⟩),.int .i64 0])∧W.heap.size≤G∧PgM w' a G j F' (layH q i (g+1) x).2 ⟨min ((n-2) / 8) 384,gg,0,zeros 48,zeros 48⟩∧Below W.heap.size W w' from fun W F' hp he=>by
  have HJ:¬F' 2:=fun hf=>by
   rcases he.sub _ hf with h1|h1
   ·exact hnF h1
   ·have:=qaq (hn 0 (by omega));omega
  have:=qko hp (hn.touch he.touch hnF) HJ (d:=j) (m:=n) (by rw[l2];exact hc.ct.td) Hw l1.1;unfold OpF at this;rw[o1,o2]at this;refine this.mono ?_;rintro e w' ⟨hb,⟨_,G,rfl,hG,hpm⟩|⟨h1,_⟩⟩
  ·exact⟨G,rfl,hG,hpm,hb⟩
  ·cases h1)
 rw[hQ]at HP l1;unfold WoF at HW;rw[hQ]at HW;rw[hQ];rw[hpg]at HP;rw[hpg];have Hb:=zH l1.1;clear h hn hnF hc l1 l2 l3 l4 hQ Hw hpg o1 o2;go_enter Tryz.func21,Tryz.ntmps21
 go_upto_region 9 with(first
  | (go_at_call 42;refine HM.o.mono ?_;rintro e w1 ⟨rfl,hb1⟩;have Ho:=zH hb1;clear hb1)
  | (go_at_call 45;go_loud (refine(HW.o _ Ho.o).mono ?_;rintro e w2 ⟨V,rfl,hV1,hV2,F2,hp2,he2,hnV⟩;have HV:=zH hV2;have HF:=zH hp2;have Hk:=zH ((Ext.of (Touch.of_below Ho.o)).trans he2);clear hV1 hV2 hp2 he2 hnV))
  | (go_at_call 46;go_loud (refine(HP.o _ _ HF.o Hk.o).mono ?_;rintro e w3 ⟨G,rfl,hG,hpm,hb3⟩;have HG:=zH hpm;have Hg:=zH hb3;have HE:=zH (qkq hpm);clear hG hpm hb3)))
 go_upto_region 10 with(go_at_call 47;go_loud (refine HE.o.mono ?_;rintro e w4 ⟨T,rfl,ht4,hb4,_⟩;have Hc:=zH ht4;have Hh:=zH hb4;clear ht4 hb4))
 have Hu:=zae w4 (.cells #[.pointer (some ⟨V,0,none⟩),.pointer (some ⟨G,0,none⟩),.pointer (some ⟨T,0,none⟩),.int .i64 0] 107);have Hm:Below w4.heap.size w4 (w4.alloc (.cells #[.pointer (some ⟨V,0,none⟩),.pointer (some ⟨G,0,none⟩),.pointer (some ⟨T,0,none⟩),.int .i64 0] 107)):=zB _ _;generalize w4.alloc (.cells #[.pointer (some ⟨V,0,none⟩),.pointer (some ⟨G,0,none⟩),.pointer (some ⟨T,0,none⟩),.int .i64 0] 107)=W5 at *;have Hq:=zH Hu;have HH:=zH (Hc.o.below Hm);have Hx:=zH (Hk.o.trans (Ext.of (Touch.of_below (Hg.o.trans ((Hh.o.trans (Hm.mono Hh.o.size)).mono Hg.o.size)))));have HB:=zH (show w.heap.size≤w4.heap.size∧¬F2 w4.heap.size∧w4.heap.size≠G∧w4.heap.size≠T∧w4.heap.size≠2 by
  refine⟨by have:=Hk.o.touch.size;have:=Hg.o.size;have:=Hh.o.size;omega,fun hf=>?_,?_,?_,?_⟩
  ·have:=Hc.o.pg.pl.hF _ hf;omega
  ·have:=Hc.o.pg.lt;omega
  ·have:=Hc.o.lt;omega
  ·have:=qaq (Hc.o.pg.nib 0 (by omega));omega)
 clear Hu Hm;generalize w4.heap.size=K at *;have HC:=zH (qj6 W5);go_upto_region 14 with(go_at_call 48;go_loud (refine HC.o.mono ?_;rintro e w6 ⟨rfl,hm6,hb6⟩;have He:=zH hm6;have Hp:=zH hb6;clear hm6 hb6))
 obtain⟨M,hM⟩:∃ M,W5.heap.size=M:=⟨_,rfl⟩;have HL:=zH hM;rw[hM]at He;rw[hM];clear hM;have HK:=run_range_map (P:=Tryz.prog) w6 108 _ _ M #[] 0 Tryz.underlying108 He.o;go_wp2;have Ht:=zae w6 (.mapIter (some M) 0 #[] 0);have Hn:Below w6.heap.size w6 (w6.alloc (.mapIter (some M) 0 #[] 0)):=zB _ _;have Hv:=(Hn.block M (zaa.1 He.o).1).trans He.o;clear HK;have Hi:=zH (Hn.mono Hp.o.size);generalize w6.alloc (.mapIter (some M) 0 #[] 0)=W7 at *;generalize w6.heap.size=R at *;have HD:=zH (show ∀ ty,(Instr.next (.pointer (some ⟨R,0,none⟩)) false ty).run Tryz.prog W7=.ok (.tuple #[.bool false]) W7 from fun ty=>by
  rcases run_next_at (P:=Tryz.prog) W7 ty R M 0 0 #[] #[] 0 Ht Hv (fun x hx=>by cases hx) (zad _)with⟨_,h1⟩|⟨e,he,_⟩
  ·exact h1
  ·simp[leftOf]at he)
 clear Ht Hv Hn;go_loopw [15] (fun v Y=>v=.slice none 0 0∧Below W5.heap.size W5 Y∧∀ ty,(Instr.next (.pointer (some ⟨R,0,none⟩)) false ty).run Tryz.prog Y=.ok (.tuple #[.bool false]) Y) (fun _ _=>0)
 case atStart=>exact⟨rfl,Hp.o.trans Hi.o,HD.o⟩
 case round=>
  rename World=>Y;obtain⟨rfl,hb67,hnx⟩:=hrel;go_upto_region 20 with(go_at_call 49;refine(qkL _ _).mono ?_;rintro e w8 ⟨rfl,rfl⟩)
  clear hnx;go_loopw [73] (fun v Z=>v=.int .i64 0∧Below W5.heap.size W5 Z) (fun _ _=>0)
  case atStart=>exact⟨rfl,hb67⟩
  case round=>
   rename World=>W7;obtain⟨rfl,hb67⟩:=hrel;have Hl:=zH ((hb67.block K (zaa.1 Hq.o).1).trans Hq.o);have Hs:=zH (HH.o.below hb67);have Hy:=zH (Hx.o.trans (Ext.of (Touch.of_below hb67)));have t2:W7.cell? ⟨K,2,none⟩=some (.pointer (some ⟨T,0,none⟩)):=zC Hl.o;have Hr:=zH (qg4 (A:=none) (HA:=none) (lo:=[]) (hi:=[]) (n:=0) (c:=0) (hn:=0) (hc:=0) (its:=[]) Hs.o Hb.o (.inl ⟨rfl,rfl⟩) (By.nil _ _) (By.nil _ _) rfl rfl (by simp) (fun x hx=>by cases hx));unfold LsF at Hr;clear hb67;go_upto_region 29 with(go_at_call 54;go_loud (refine Hr.o.mono ?_;rintro e w8 ⟨hb8,A8,c8,cs8,rfl,_,_⟩;have Hj:=zH hb8;clear hb8))
   have Hf:=(Hj.o.block K (zaa.1 Hl.o).1).trans Hl.o;have d0:w8.cell? ⟨K,3,none⟩=some (.int .i64 0):=zC Hf;have d1:w8.frozen? ⟨K,3,none⟩=false:=zbk _ _ _ _ _ Hf;have Hz:=zH Hf;have HI:=zH (Hs.o.below Hj.o);clear Hf;go_wp2
   go_ret2
   have Ha:=HB.o;refine⟨K,rfl,G,T,F2,⟨⟨V,qac Hz.o _⟩,HI.o.setOther (by omega) Ha.2.1 Ha.2.2.1 Ha.2.2.2.1 Ha.2.2.2.2,Hb.o⟩,(Hy.o.trans (Ext.of (Touch.of_below Hj.o))).setNew Ha.1 _,Ha.1⟩
end Go.Proofs.YtfcknhbmeofniaaGreatDoor
