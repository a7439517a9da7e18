/- Texts CoA LwA PNw. -/
import Derived.Test.YtpmebcgmgfcmiaaGreatDoorQ31
set_option linter.all false
set_option maxRecDepth 100000
set_option maxHeartbeats 16000000
namespace Go.Proofs.YtpmebcgmgfcmiaaGreatDoor
open Go.RowKit BT Go.Lib
variable {w:World}{a:PA}{G d T:Nat}{F:Nat→Prop}{p:Pl}{g:Pg}
def qaW (d:Nat)(t:Ts):Nat×Ts:=
 if(commitP t.p d t.g.gen t.root1 t.g.use).1 then(0,⟨(commitP t.p d t.g.gen t.root1 t.g.use).2,{ t.g with gen:=t.g.gen+1,root1:=t.root1,was:=t.g.use },t.root1⟩)else(2,⟨(commitP t.p d t.g.gen t.root1 t.g.use).2,t.g,t.root1⟩)
theorem qkU {w':World}{F':Nat→Prop}{q:Pl}{g':Pg}{root1:Nat}(h:TrM w a G d T F p g root1)(hx:Ext (GF F G) (GF F' G) w w')(hp:PgM w' a G d F' q g'):TrM w' a G d T F' q g' root1∧Ext (TF F G T) (TF F' G T) w w':=by
 refine⟨⟨hp,(hx.touch.block T h.lt h.nT.1).trans h.t,fun hb=>?_,h.nT.2⟩,hx.touch.mono (fun b _ hb=>.inl hb),fun b hb=>?_⟩
 ·rcases hx.sub T hb with h1|h1
  ·exact h.nT.1 h1
  ·have:=h.lt;omega
 ·rcases hb with hb|hb
  ·exact(hx.sub b hb).imp .inl id
  ·exact .inl (.inr hb)
theorem qeH {t:Ts}(ht:TrM w a G d T F t.p t.g t.root1)(hoff:t.p.off=false)(hwt:t.p.waits.length≤1099511627776)(hr:t.root1=0∨inUseB t.g ((t.root1:Int)-1)=true)(hg:t.g.gen+1<4611686018427387904) :
  Calls Tryz.prog 18 #[.pointer (some ⟨T,0,none⟩)] w (ApF a G d T F (qaW d t) w):=by
 have HT:=zH ht;have Hj:Below w.heap.size w w.drew:=(zai _ _).drew;have Hb:=ht.below Hj;have Hg:=zH (Hb.pg.commit_call t.root1 hr hoff hwt hg);unfold ComF at Hg;have Hl:=zH Hb;have Ha:=zH (show w.drew.cell? ⟨T,0,none⟩=some (.pointer (some ⟨G,0,none⟩))∧w.drew.cell? ⟨T,1,none⟩=some (.int .i64 ((t.root1:Int)-1))from⟨Hb.c0,Hb.c1⟩);have Hi:=zH (show Touch (TF F G T) w w.drew from(Touch.refl _ _).drew);obtain⟨r,hr⟩:∃ r,qaW d t=r:=⟨_,rfl⟩;have HR:=zH hr;rw[hr];clear hr ht Hj Hb;go_enter Tryz.func18,Tryz.ntmps18
 go_upto_region 1 with fail
 refine qac (S:=fun W'=>W'.cell? ⟨T,0,none⟩=some (.pointer (some ⟨G,0,none⟩))∧W'.cell? ⟨T,1,none⟩=some (.int .i64 ((t.root1:Int)-1))) [] (by kernel_rfl) Ha.o (fun _=>?_);generalize w.drew=W0 at *;refine zP 0 3 (.pointer (some ⟨T,0,none⟩)) Ha.o ?_;try simp only[zS]
 refine zP 1 4 (.pointer (some ⟨T,0,none⟩)) Ha.o ?_;try simp only[zS]
 refine zP 2 5 (.pointer (some ⟨T,0,none⟩)) Ha.o ?_;try simp only[zS]
 refine zL 3 6 (.pointer (some ⟨G,0,none⟩)) rfl (Or.inl ⟨by rfl,fun W' hS=>by obtain⟨hS1,hS2⟩:=hS;go_simp⟩) (qaa Ha.o) ?_;try simp only[zS]
 refine zP 4 7 (.pointer (some ⟨T,0,none⟩)) Ha.o ?_;try simp only[zS]
 refine zP 5 8 (.pointer (some ⟨T,0,none⟩)) Ha.o ?_;try simp only[zS]
 refine zP 6 9 (.pointer (some ⟨T,1,none⟩)) Ha.o ?_;try simp only[zS]
 refine zL 7 10 (.int .i64 ((t.root1:Int)-1)) rfl (Or.inl ⟨by rfl,fun W' hS=>by obtain⟨hS1,hS2⟩:=hS;go_simp⟩) (qaa Ha.o) ?_;try simp only[zS]
 refine zE 8 11 rfl (fun Kr hKr=>?_);go_simp;go_at_call 41
 refine Hg.o.mono ?_;rintro e W1 ⟨F1,hx,hc⟩;have Hf:∃ n:Nat,e=.returned (.int .i64 (n:Int))∧r.1=n∧PgM W1 a G d F1 r.2.p r.2.g∧r.2.root1=t.root1:=by
  rw[←HR.o];unfold qaW;rcases hc with⟨h1,h2,h3⟩|⟨h1,h2,h3⟩
  ·rw[zaw h1];exact⟨0,h2,rfl,h3,rfl⟩
  ·rw[zaB (by rw[h1];simp)];exact⟨2,h2,rfl,h3,rfl⟩
 obtain⟨n,rfl,hn,hpg,hroot⟩:=Hf;have Hc:=qkU Hl.o hx hpg;have He:=zH Hc;have HN:=zH hn;have Hk:=zH hroot;have Hh:=zH (show W1.cell? ⟨T,0,none⟩=some (.pointer (some ⟨G,0,none⟩))∧W1.cell? ⟨T,1,none⟩=some (.int .i64 ((t.root1:Int)-1))from⟨Hc.1.c0,Hc.1.c1⟩);clear hx hc hn hpg hroot Hc;refine hKr.out (.int .i64 (n:Int)) _ (qaa Hh.o) (fun _=>?_);clear hKr Kr;try simp only[zS]
 refine zP 9 2 (.int .i64 (n:Int)) Hh.o ?_;try simp only[zS]
 refine qad (by kernel_rfl) ?_ _;go_wp2;go_ret;refine⟨F1,by rw[HN.o];rfl,by rw[Hk.o];exact He.o.1,Hi.o.trans He.o.2.touch,fun b hb=>?_⟩;rcases He.o.2.sub b hb with h|h
 ·exact .inl h
 ·exact .inr (zah Hi.o.size h)
theorem qe4 (h:PgM w a G d F p g) :
  Calls Tryz.prog 20 #[.pointer (some ⟨G,0,none⟩)] w (fun e w'=>∃ T,e=.returned (.pointer (some ⟨T,0,none⟩))∧TrM w' a G d T F p g g.root1∧Below w.heap.size w w'∧w.heap.size≤T):=by
 have Ha:=zH (qkF h);have H:=zH h;clear h;go_enter Tryz.func20,Tryz.ntmps20
 go_wp2_with (go_at_call 45;refine Ha.o.mono ?_;rintro e w2 ⟨rfl,rfl⟩)
 go_ret;have hb:Below w.heap.size w (w.alloc (.cells #[.pointer (some ⟨G,0,none⟩),.int .i64 ((g.root1:Int)-1)] 98)):=zB _ _;refine⟨w.heap.size,rfl,⟨H.o.below hb,zaf w _,fun hg=>?_,fun e=>?_⟩,hb,zac _⟩
 ·rcases hg with hg|hg
  ·have:=H.o.pl.hF _ hg;omega
  ·have:=H.o.lt;omega
 ·have:=cell_lt (H.o.nib 0 (by omega));omega
def wh (c:Int)(n:Nat):Nat:=((if c<0 then -(c+1)else c) % (n:Int)).toNat
theorem qlJ (c:Int){n:Nat}(h:0<n):wh c n<n:=by
 unfold wh;have h1:=Int.emod_nonneg (if c<0 then -(c+1)else c) (show(n:Int)≠0 by omega);have h2:=Int.emod_lt_of_pos (if c<0 then -(c+1)else c) (show(0:Int)<(n:Int) by omega);omega
theorem qc4 (c:Int)(hc:-9223372036854775808≤c∧c≤9223372036854775807)(n:Nat)(hn:0<n)(hn2:n≤1000000) :
  Calls Tryz.prog 8 #[.int .i64 c,.int .i64 (n:Int)] w fun e w'=>e=.returned (.int .i64 (wh c n:Int))∧w=w':=by
 have Ha:((wh c n:Nat):Int)=(if c<0 then -(c+1)else c) % (n:Int):=by
  unfold wh;have h1:=Int.emod_nonneg (if c<0 then -(c+1)else c) (show(n:Int)≠0 by omega);omega
 obtain⟨k,hk⟩:∃ k:Nat,wh c n=k:=⟨_,rfl⟩;rw[hk]at Ha⊢;have Hg:k<n:=by rw[←hk];exact qlJ c hn
 have Hh:¬((n:Int)=0):=by omega
 have Hi:((n:Int)==0)=false:=by simp;omega
 go_enter Tryz.func8,Tryz.ntmps8
 by_cases h:c<0
 ·rw[zaw h]at Ha;obtain⟨d,hd⟩:∃ d:Int,-(c+1)=d:=⟨_,rfl⟩;rw[hd]at Ha;have Hc:0≤d:=by omega
  have Hb:d.tmod (n:Int)=(k:Int):=by rw[zb3 Hc];exact Ha.symm
  have Hf:d≤9223372036854775807:=by omega
  have He:decide (c<0)=true:=zas h;clear Ha hk;go_wp2;go_ret;exact⟨rfl,rfl⟩
 ·rw[zaB h]at Ha;have Hb:c.tmod (n:Int)=(k:Int):=by rw[zb3 (by omega)];exact Ha.symm
  have He:decide (c<0)=false:=zal h;clear Ha hk;go_wp2;go_ret;exact⟨rfl,rfl⟩
end Go.Proofs.YtpmebcgmgfcmiaaGreatDoor
namespace Go.Proofs.YtpmebcgmgfcmiaaGreatDoor
open Go.RowKit BT
def qdl (nd:Nat):Nat→List Nat→List Nat→List Value
 | i,m::ms,M::Ms=>[.bool (decide (nd≤i)),.int .i64 (m:Int),.map (some M),.int .i64 0,.int .i64 0]++qdl nd (i+1) ms Ms
 | _,_,_=>[]
theorem qf9 (nd:Nat):∀ (i:Nat) (ms Ms:List Nat) (m M:Nat),ms.length=Ms.length→qdl nd i (ms++[m]) (Ms++[M])=qdl nd i ms Ms++[.bool (decide (nd≤i+ms.length)),.int .i64 (m:Int),.map (some M),.int .i64 0,.int .i64 0]
 | i,[],[],m,M,_=>by simp[qdl]
 | i,a::ms,b::Ms,m,M,h=>by
  have:=qf9 nd (i+1) ms Ms m M (by simpa using h);simp only[zaW,qdl,zaj,this,zao];rw[show i+1+ms.length=i+(ms.length+1) by omega]
 | i,[],b::Ms,m,M,h=>by simp at h
 | i,a::ms,[],m,M,h=>by simp at h
theorem qfg (nd:Nat):∀ (i:Nat) (ds ts Ms Ns:List Nat),ds.length=Ms.length→i+ds.length≤nd→(0<ts.length→nd≤i+ds.length)→qdl nd i (ds++ts) (Ms++Ns)=((List.zip ds Ms).flatMap fun x=>qcz x.1 x.2)++qdl nd (i+ds.length) ts Ns
 | i,[],ts,[],Ns,_,_,_=>by simp
 | i,m::ds,ts,M::Ms,Ns,h,h1,h2=>by
  have:=qfg nd (i+1) ds ts Ms Ns (by simpa using h) (by simp at h1;omega) (fun h0=>by have:=h2 h0;simp at this;omega);simp only[zaW,qdl,List.zip_cons_cons,zaq,this,zao,zaj];rw[show i+1+ds.length=i+(ds.length+1) by omega];simp only[zao]at h1;rw[show decide (nd≤i)=false from zal (by omega)];rfl
 | i,[],ts,M::Ms,Ns,h,_,_=>by simp at h
 | i,m::ds,ts,[],Ns,h,_,_=>by simp at h
theorem qfh (nd:Nat):∀ (i:Nat) (ts Ns:List Nat),nd≤i→ts.length=Ns.length→qdl nd i ts Ns=(List.zip (ts.map fun t=>(⟨t,0,0⟩:Tp)) Ns).flatMap fun x=>qi2 x.1 x.2
 | i,[],[],_,_=>rfl
 | i,t::ts,N::Ns,h,h1=>by
  have:=qfh nd (i+1) ts Ns (by omega) (by simpa using h1);simp only[qdl,zbp,List.zip_cons_cons,zaq,this];rw[show decide (nd≤i)=true from zas h];rfl
 | i,[],N::Ns,_,h=>by simp at h
 | i,t::ts,[],_,h=>by simp at h
def fresh (ds ts:List Nat):Pl:=⟨ds,ts.map fun t=>⟨t,0,0⟩,fun _ _=>zeros 64,[],false,-1⟩
def NwF (ds ts:List Nat)(w:World)(e:Ending)(w':World):Prop:=
 ∃ a F,e=.returned (.tuple #[.pointer (some ⟨a.P,0,none⟩),.int .i64 0])∧PlM w' a F (fresh ds ts)∧(∀ b,F b→w.heap.size≤b)∧Below w.heap.size w w'
theorem ql2:(Tryz.prog.info? 84).map (fun i=>(i.zero,i.size,i.bytes))=some (some (.agg #[.bool false,.int .i64 0,.map none,.int .i64 0,.int .i64 0]),5,40):=by kernel_rfl
structure NwM (w0 w:World) (P B:Nat) (dA tA:Option Addr) (nd dC nt tC nn:Nat) (all:List Nat) (k:Nat):Prop where
 ex:∃ v Ms,w.heap[P]?=some (.cells #[.slice dA nd dC,.slice tA nt tC,v,.slice none 0 0,.bool false,.int .i64 (-1),.int .i64 0,.int .i64 0] 71 (0,0))∧
  Own w B 84 5 v k (qdl nd 0 (all.take k) Ms)∧Ms.length=k∧Ms.Nodup∧(∀ M∈Ms,B≤M∧IMap w M []∧∀ b,v.ownBlock=some b→b≠M)∧∃ A c,v=.slice A k c
 touch:Touch (fun b=>b=P) w0 w
theorem qig {w4 wr Wb w5:World}{P:Nat}{dA tA:Option Addr}{nd dC nt tC nn k m:Nat}{all Ms:List Nat}{vA A5:Option Addr}{vc cap5:Nat}{V0:Value}
  (q1:wr.heap[P]?=some (.cells #[.slice dA nd dC,.slice tA nt tC,.slice vA k vc,.slice none 0 0,.bool false,.int .i64 (-1),.int .i64 0,.int .i64 0] 71 (0,0)))
  (q2:Own wr w4.heap.size 84 5 (.slice vA k vc) k (qdl nd 0 (all.take k) Ms))(q3:Ms.length=k)(q4:Ms.Nodup)(q5:∀ M∈Ms,w4.heap.size≤M∧IMap wr M []∧∀ b,(Value.slice vA k vc).ownBlock=some b→b≠M)
  (q6:Touch (fun b=>b=P) w4 wr)(hPB:P<w4.heap.size)(hk:k<all.length)(hm:all[k]=m)(hmb:Wb.heap[wr.heap.size]?=some (.map #[] 0))(hbb:Below wr.heap.size wr Wb)
  (hrow:Row w5 w4.heap.size 84 5 (.slice A5 (k+1) cap5) (k+1) (qdl nd 0 (all.take k) Ms++[V0,.int .i64 (m:Int),.map (some wr.heap.size),.int .i64 0,.int .i64 0]))
  (hgrow:Wb.grownBy w5 (Value.slice vA k vc).ownBlock)(hown:∀ b,(Value.slice A5 (k+1) cap5).ownBlock=some b→(Value.slice vA k vc).ownBlock=some b∨(Wb.heap.size≤b∧b<w5.heap.size))(hV:Value.bool (decide (nd≤k))=V0) :
  w5.heap[P]?=some (.cells #[.slice dA nd dC,.slice tA nt tC,.slice vA k vc,.slice none 0 0,.bool false,.int .i64 (-1),.int .i64 0,.int .i64 0] 71 (0,0))∧(∀ b,b<w4.heap.size→w5.heap[b]?=wr.heap[b]?)∧
   NwM w4 (w5.setCell ⟨P,2,none⟩ (.slice A5 (k+1) cap5)) P w4.heap.size dA tA nd dC nt tC nn all (k+1):=by
 have Hg:wr.heap.size<Wb.heap.size:=(zab.1 hmb).1;have Hj:w4.heap.size≤wr.heap.size:=q6.size;have Ha:=q2.blk;have Hc:∀ b,b<wr.heap.size→(∀ c,(Value.slice vA k vc).ownBlock=some c→b≠c)→w5.heap[b]?=wr.heap[b]?:=fun b hb hc=>
  (hgrow.block b (zam hb (Nat.le_of_lt Hg)) (fun e=>hc b e.symm rfl)).trans (hbb.block b hb)
 have He:∀ b,b<w4.heap.size→w5.heap[b]?=wr.heap[b]?:=fun b hb=>Hc b (by omega) (fun c e h=>by have:=(Ha c e).1;omega);have Hi:w5.heap[wr.heap.size]?=some (.map #[] 0):=(hgrow.block _ Hg (fun e=>by have:=(Ha _ e.symm).2;omega)).trans hmb;have Hf:=(He P hPB).trans q1;have Hb:∀ b,b≠P→(w5.setCell ⟨P,2,none⟩ (.slice A5 (k+1) cap5)).heap[b]?=w5.heap[b]?:=fun b hb=>za5 w5 ⟨P,2,none⟩ _ b hb;have Hk:Wb.heap.size≤w5.heap.size:=hgrow.size;have Hh:∀ b,(Value.slice A5 (k+1) cap5).ownBlock=some b→w4.heap.size≤b∧b<w5.heap.size:=fun b e=>by
  rcases hown b e with h|h
  ·have:=Ha b h;omega
  ·omega
 refine⟨Hf,He,⟨.slice A5 (k+1) cap5,Ms++[wr.heap.size],?_,⟨?_,fun b e=>?_⟩,by simp[q3],?_,?_,A5,cap5,rfl⟩,?_⟩
 ·rw[qab Hf];rfl
 ·have e1:all.take (k+1)=all.take k++[m]:=by rw[zaP hk,hm]
  have e2:(all.take k).length=Ms.length:=by rw[zag,q3];omega
  rw[e1,qf9 nd 0 _ Ms m _ e2,e2,q3,zaO,hV];exact hrow.keep fun b e _=>Hb b (by have:=(Hh b e).1;omega)
 ·have:=Hh b e;simp;omega
 ·rw[zaD];refine⟨q4,by simp,fun a ha b hb e=>?_⟩;obtain rfl:=za3.1 hb;have:=(q5 a ha).2.1.lt;omega
 ·intro M hM;rcases zar.1 hM with hM|hM
  ·obtain⟨a1,a2,a3⟩:=q5 M hM;have hl:=a2.lt;refine⟨a1,a2.of_heap ((Hb M (by omega)).trans (Hc M hl (fun c e h=>a3 c e h.symm))),fun b e h=>?_⟩;rcases hown b e with h1|h1
   ·exact a3 b h1 h
   ·omega
  ·obtain rfl:=za3.1 hM;refine⟨Hj,⟨#[],0,(Hb _ (by omega)).trans Hi,rfl⟩,fun b e h=>?_⟩;rcases hown b e with h1|h1
   ·have:=(Ha b h1).2;omega
   ·omega
 ·refine⟨?_,?_,?_,?_,fun b hb hn=>?_⟩
  ·exact hgrow.os.trans (hbb.os.trans q6.os)
  ·exact hgrow.tape.trans (hbb.tape.trans q6.tape)
  ·exact hgrow.output.trans (hbb.output.trans q6.output)
  ·simp;omega
  ·exact(Hb b hn).trans ((He b hb).trans (q6.block b hb hn))
theorem qln (A B:Option Addr)(nd nt cA cB:Nat)(ds ts:List Nat)(w:World)(hA:Ints w A (ds.map fun(m:Nat)=>(m:Int)))(hB:Ints w B (ts.map fun(m:Nat)=>(m:Int)))(hnd:ds.length=nd)(hnt:ts.length=nt)(h0:0<nd+nt)(h12:nd+nt≤12)
  (hds:∀ m∈ds,1≤m∧m≤4096)(hts:∀ m∈ts,1≤m∧m≤4096)(hcA:nd≤cA)(hcB:nt≤cB) :
  Calls Tryz.prog 21 #[.agg #[.slice A nd cA,.slice B nt cB]] w (NwF ds ts w):=by
 obtain⟨i0,hi0,hz0,hz1,hz2⟩:=zaT ql2;have ha:Hd (∀ V,Below w.heap.size w V→Ints V A (ds.map fun(m:Nat)=>(m:Int))):=zH fun V hb=>hA.below hb;have hd:Hd (∀ V,Below w.heap.size w V→Ints V B (ts.map fun(m:Nat)=>(m:Int))):=zH fun V hb=>hB.below hb;have HR:=zH hnd;have HS:=zH hnt;have H6:=zH hds;have hD:=zH hts;have t0:(((nd+nt:Nat):Int)==0)=false:=by rw[zaI];omega
 have t1:decide ((12:Int)<((nd+nt:Nat):Int))=false:=zal (by omega);have e1:IntKind.i64.wrap ((nd:Int)+(nt:Int))=((nd+nt:Nat):Int):=by rw[zaJ _ (by omega)];omega
 obtain⟨nn,HL⟩:∃ n,nd+nt=n:=⟨_,rfl⟩;rw[HL]at t0 t1 e1 h12 h0;have Hu:=zH HL;have hn:nd≤12:=by omega
 have hp:nt≤12:=by omega
 clear hA hB hds hts HL;go_enter Tryz.func21,Tryz.ntmps21
 go_upto_region 4 with fail
 obtain⟨W0,hW0⟩:∃ W,w.alloc (.cells #[.slice A nd cA,.slice B nt cB] 66)=W:=⟨_,rfl⟩;have Hh:=zH (show Below w.heap.size w W0.drew by subst hW0;exact(zB _ _).drew);have Hc:W0.drew.cell? ⟨w.heap.size,0,none⟩=some (.slice A nd cA):=by
  subst hW0;show(World.alloc _ _).cell? _=_;rw[zan _ _ 0 _ _ _ (zaf w _)];rfl
 have HH:W0.drew.cell? ⟨w.heap.size,1,none⟩=some (.slice B nt cB):=by
  subst hW0;show(World.alloc _ _).cell? _=_;rw[zan _ _ 1 _ _ _ (zaf w _)];rfl
 have Hz:=zH (show w.heap.size<W0.drew.heap.size from zaH _ ⟨w.heap.size,0,none⟩ Hc);obtain⟨T,hT⟩:∃ T,w.heap.size=T:=⟨_,rfl⟩;have HT:=zH hT;rw[hT]at Hc HH Hz;rw[hW0];simp only[hT];clear hW0;refine wp_region_held_drew (S:=fun V=>V.cell? ⟨T,0,none⟩=some (.slice A nd cA)∧V.cell? ⟨T,1,none⟩=some (.slice B nt cB)) (by kernel_rfl) ⟨Hc,HH⟩ (fun hHeld=>?_);refine zV 0 21 (.pointer (some ⟨T,0,none⟩)) ?_;try simp only[zS]
 refine zT 1 22 (.slice A nd cA) rfl (Or.inl ⟨by rfl,fun W hS=>by obtain⟨hS1,hS2⟩:=hS;go_simp⟩) ?_;try simp only[zS]
 refine zV 3 24 (.pointer (some ⟨T,1,none⟩)) ?_;try simp only[zS]
 refine zT 4 25 (.slice B nt cB) rfl (Or.inl ⟨by rfl,fun W hS=>by obtain⟨hS1,hS2⟩:=hS;go_simp⟩) ?_;try simp only[zS]
 refine wpAnyH_ready (rs:=[2]) (by kernel_rfl) (by simp) ?_;refine AllReadyH.cons rfl (fun K hK=>?_) AllReadyH.nil;go_simp;go_at_call 46
 refine(qcn A cA nd _ _ (ha.o _ Hh.o) (by rw[zaE];exact HR.o) (by omega)).mono ?_;rintro e w1 ⟨A1,c1,rfl,ho1,hb1⟩;have HU:=zH ho1;have Hi:=zH hb1;clear ho1 hb1;refine hK.out _ _ ⟨(Hi.o.cell (p:=⟨T,0,none⟩) Hz.o).trans Hc,(Hi.o.cell (p:=⟨T,1,none⟩) Hz.o).trans HH⟩ (fun hHeld2=>?_);clear hK K;try simp only[zS]
 refine wpAnyH_ready (rs:=[5]) (by kernel_rfl) (by simp) ?_;refine AllReadyH.cons rfl (fun K hK=>?_) AllReadyH.nil;go_simp;go_at_call 46
 refine(qcn B cB nt _ _ (hd.o _ (Hh.o.trans (Hi.o.mono Hh.o.size))) (by rw[zaE];exact HS.o) (by omega)).mono ?_;rintro e w2 ⟨B1,c2,rfl,ho2,hb2⟩;have H8:=zH ho2;have Hn:=zH hb2;clear ho2 hb2;refine hK.out _ _ ⟨(Hn.o.cell (p:=⟨T,0,none⟩) (zam Hz.o Hi.o.size)).trans hHeld2.1,(Hn.o.cell (p:=⟨T,1,none⟩) (zam Hz.o Hi.o.size)).trans hHeld2.2⟩ (fun hHeld3=>?_);clear hK K;try simp only[zS]
 refine zV 6 27 (.agg #[.slice A1 nd c1,.slice B1 nt c2]) ?_;try simp only[zS]
 refine zV 7 28 (.agg #[.slice A1 nd c1,.slice B1 nt c2,.slice none 0 0,.slice none 0 0,.bool false,.int .i64 (-1),.int .i64 0,.int .i64 0]) ?_;try simp only[zS]
 refine wpAnyH_ready (rs:=[8]) (by kernel_rfl) (by simp) ?_;refine AllReadyH.cons rfl (fun K hK=>?_) AllReadyH.nil;go_simp;have HG:=zH (zaf w2 (.cells #[.slice A1 nd c1,.slice B1 nt c2,.slice none 0 0,.slice none 0 0,.bool false,.int .i64 (-1),.int .i64 0,.int .i64 0] 71));have Hk:=zH (show Below w2.heap.size w2 (w2.alloc (.cells #[.slice A1 nd c1,.slice B1 nt c2,.slice none 0 0,.slice none 0 0,.bool false,.int .i64 (-1),.int .i64 0,.int .i64 0] 71))from zB _ _);generalize w2.alloc (.cells #[.slice A1 nd c1,.slice B1 nt c2,.slice none 0 0,.slice none 0 0,.bool false,.int .i64 (-1),.int .i64 0,.int .i64 0] 71)=w3 at HG Hk⊢;obtain⟨P,hP⟩:∃ P,w2.heap.size=P:=⟨_,rfl⟩;have HV:=zH hP;rw[hP]at HG;simp only[hP];have HI:T<w2.heap.size:=zaH _ ⟨T,0,none⟩ hHeld3.1;refine hK.out _ _ ⟨(Hk.o.cell (p:=⟨T,0,none⟩) HI).trans hHeld3.1,(Hk.o.cell (p:=⟨T,1,none⟩) HI).trans hHeld3.2⟩ (fun hHeld4=>?_);clear hK K;try simp only[zS]
 refine zV 9 5 (.pointer (some ⟨P,0,none⟩)) ?_;try simp only[zS]
 refine wpAnyH_done (by kernel_rfl) ?_ _;obtain⟨g0,g1⟩:=hHeld4;have Hg:=zH (show T<P by rw[←hP];exact HI);clear hHeld hHeld2 hHeld3 Hc HH hP hT HI;have H4:=zH (show Below w.heap.size w w3 from(Hh.o.trans (Hi.o.mono Hh.o.size)).trans ((Hn.o.mono (zah Hh.o.size Hi.o.size)).trans (Hk.o.mono (zah (zah Hh.o.size Hi.o.size) Hn.o.size))));have Hj:Below w.heap.size w (w3.alloc (.cells #[.slice A nd cA,.slice B nt cB] 23)):=H4.o.alloc H4.o.size _;have H3:=(qg1 A B nd nt cA cB 2 w3.heap.size (ds.map fun(m:Nat)=>(m:Int)) (ts.map fun(m:Nat)=>(m:Int)) _ (ha.o _ Hj) (hd.o _ Hj) (by rw[zaE];exact HR.o) (by rw[zaE];exact HS.o) (by rw[Hu.o];exact h0) (by omega) (zaf w3 _));rw[Hu.o]at H3;have ht:=zH H3;clear H3;have Hv:P<w3.heap.size:=(zab.1 HG.o).1;have Hw:=zH Hj;clear Hj;go_upto_region 6 with(go_at_call 47;refine ht.o.mono ?_;rintro e w4 ⟨A4,c4,rfl,hi4,hc4,ha4,hb4⟩;have hw:=zH hi4;have hr:=zH ha4;have H5:=zH hb4;clear hi4 ha4 hb4)
 have Hb:=zH (show Below w3.heap.size w3 w4 from(zB _ _).trans (H5.o.mono (by simp)));have Hf:(ds++ts).length=nn:=by rw[zad,HR.o,HS.o,Hu.o]
 obtain⟨all,hal⟩:∃ l,ds++ts=l:=⟨_,rfl⟩;have HM:=zH hal;have HA:Ints w4 A4 (all.map fun(m:Nat)=>(m:Int)):=by rw[←hal,zbD];exact hw.o
 have HB:∀ m∈all,1≤m∧m≤4096:=by
  intro m hm;rw[←hal]at hm;rcases zar.1 hm with h|h
  ·exact H6.o m h
  ·exact hD.o m h
 rw[hal]at Hf;have Hx:=zH Hf;have HN:=zH HB;obtain⟨b4,o4,rfl,hb4l,hc4c⟩:=HA.at_ (by rw[zaE];omega);have hO:P<b4:=zam Hv (zah (by simp) (hr.o _ rfl));have hs:=zH hc4c;have hz:=zH (show NwM w4 w4 P w4.heap.size A1 B1 nd c1 nt c2 nn all 0 from⟨⟨.slice none 0 0,[],(Hb.o.block P Hv).trans HG.o,by simpa [qdl] using Own.nil w4 w4.heap.size 84 5,rfl,zch,by simp,none,0,rfl⟩,Touch.refl _ _⟩);have H7:=zH (show w4.cell? ⟨T,0,none⟩=some (.slice A nd cA)from(Hb.o.cell (p:=⟨T,0,none⟩) (Nat.lt_trans Hg.o Hv)).trans g0);clear g0 g1 hal HA HB hc4c Hf;go_loopw [6,7,37] (fun _ _ i wr=>∃ k:Nat,i=.int .i64 k∧k≤nn∧NwM w4 wr P w4.heap.size A1 B1 nd c1 nt c2 nn all k) (fun _ _ i _=>nn-(intOf i).toNat)
 case atStart=>exact⟨0,rfl,by omega,hz.o⟩
 case round=>
  rename World=>wr;obtain⟨k,rfl,hk,hnw⟩:=hrel;have hC:=zH hnw;obtain⟨⟨v,Ms,q1,q2,q3,q4,q5,vA,vc,rfl⟩,q6⟩:=hnw;by_cases hlt:k<nn
  ·have HC:k<all.length:=by rw[Hx.o];exact hlt
   obtain⟨m,hm⟩:∃ m,all[k]=m:=⟨_,rfl⟩;have hV:=HN.o m (by rw[←hm];exact zbj ..);have HE:wr.cell? ⟨b4,o4+k,none⟩=some (.int .i64 (m:Int)):=by
    rw[qag q6 hb4l (show ¬b4=P by omega)];have:=hs.o k (by rw[zaE];exact HC);rw[this];congr 2;unfold el;rw[zaC,zbc,zaa HC,hm];rfl
   have Hc:wr.cell? ⟨T,0,none⟩=some (.slice A nd cA):=(qag q6 (zaH _ ⟨T,0,none⟩ H7.o) (show ¬T=P by have:=Hg.o;omega)).trans H7.o;have H0:wr.cell? ⟨P,2,none⟩=some (.slice vA k vc):=by rw[zan wr P 2 _ _ _ q1];rfl
   have z2:wr.frozen? ⟨P,2,none⟩=false:=zaQ _ _ _ _ _ q1;have Q1:=zH q1;have Q2:=zH q2;have Q5:=zH q5;have Q6:=zH q6;have t2:decide ((m:Int)<1)=false:=zal (by omega);have t3:decide ((4096:Int)<(m:Int))=false:=zal (by omega);clear q1 q2 q5 q6;go_upto_region 10 with fail
   obtain⟨bo,hV0⟩:∃ V,decide (nd≤k)=V:=⟨_,rfl⟩;have hg:w4.heap.size≤wr.heap.size:=Q6.o.size;have H1:P<wr.heap.size:=zam (zam Hv Hb.o.size) hg;have hl:T<wr.heap.size:=Nat.lt_trans Hg.o H1;have hQ:=zH (show ∀ b,(Value.slice vA k vc).ownBlock=some b→w4.heap.size≤b∧b<wr.heap.size from fun b e=>Q2.o.blk b e);have Hr:P<w4.heap.size:=zam Hv Hb.o.size;have HF:=zH ((zai wr.heap.size wr).drew.alloc (zac _) (.map #[] 0));have Ho:=zH (HF.o.alloc HF.o.size (.cells #[.bool bo,.int .i64 (m:Int),.map (some wr.heap.size),.int .i64 0,.int .i64 0] 84));have HW:=zH (Q2.o.row.below (zac _) Ho.o);have hh:wr.drew.cell? ⟨T,0,none⟩=some (.slice A nd cA):=Hc;have H2:=(HF.o.cell (p:=⟨T,0,none⟩) hl).trans Hc;have HJ:=(Ho.o.cell (p:=⟨T,0,none⟩) hl).trans Hc;have hJ:wr.drew.cell? ⟨P,2,none⟩=some (.slice vA k vc):=H0;have hL:=(HF.o.cell (p:=⟨P,2,none⟩) H1).trans H0;have hI:=(Ho.o.cell (p:=⟨P,2,none⟩) H1).trans H0;have HP:=zH (show(((wr.drew.alloc (.map #[] 0)).alloc (.cells #[.bool bo,.int .i64 (m:Int),.map (some wr.heap.size),.int .i64 0,.int .i64 0] 84))).heap[wr.heap.size]?=some (.map #[] 0)by
    have h1:=za9 (wr.drew.alloc (.map #[] 0)) (.cells #[.bool bo,.int .i64 (m:Int),.map (some wr.heap.size),.int .i64 0,.int .i64 0] 84) wr.heap.size (by simp);rw[h1];exact zaf wr.drew _)
   have HQ:=zH (show k+1≤maxLen by unfold maxLen;omega);have HO:=zH (show(k+1)*40≤140737488355328 by omega);have HX:=zH (show w4.heap.size≤(((wr.drew.alloc (.map #[] 0)).alloc (.cells #[.bool bo,.int .i64 (m:Int),.map (some wr.heap.size),.int .i64 0,.int .i64 0] 84))).heap.size from zah hg Ho.o.size);have HY:=zH hV0;have hW:=@run_makeMap Tryz.prog;refine wp_region_held_drew (S:=fun V=>V.cell? ⟨T,0,none⟩=some (.slice A nd cA)) (by kernel_rfl) hh (fun hHeld=>?_);refine zV 0 48 (.pointer (some ⟨P,0,none⟩)) ?_;try simp only[zS]
   refine zV 1 49 (.pointer (some ⟨P,0,none⟩)) ?_;try simp only[zS]
   refine zV 2 50 (.pointer (some ⟨P,0,none⟩)) ?_;try simp only[zS]
   refine zV 3 51 (.pointer (some ⟨P,2,none⟩)) ?_;try simp only[zS]
   refine zV 5 53 (.int .i64 (k:Int)) ?_;try simp only[zS]
   refine zV 6 54 (.pointer (some ⟨T,0,none⟩)) ?_;try simp only[zS]
   refine zU 7 55 (.slice A nd cA) ?_;try simp only[zS]
   refine zV 8 56 (.int .i64 (nd:Int)) ?_;try simp only[zS]
   refine zT 9 57 (.bool bo) rfl (Or.inl ⟨by rfl,fun W hS=>by clear hS;rw[←hV0];go_simp⟩) ?_;try simp only[zS]
   refine zV 10 58 (.int .i64 (m:Int)) ?_;try simp only[zS]
   clear hV0;have Hq:=zH (show Src ((wr.drew.alloc (.map #[] 0)).alloc (.cells #[.bool bo,.int .i64 (m:Int),.map (some wr.heap.size),.int .i64 0,.int .i64 0] 84)) 5 (some ⟨wr.heap.size+1,0,none⟩) 1 [.bool bo,.int .i64 (m:Int),.map (some wr.heap.size),.int .i64 0,.int .i64 0]by
    have:=qaE (size:=5) (m:=1) (us:=[.bool bo,.int .i64 (m:Int),.map (some wr.heap.size),.int .i64 0,.int .i64 0]) (zaf (wr.drew.alloc (.map #[] 0)) (.cells #[.bool bo,.int .i64 (m:Int),.map (some wr.heap.size),.int .i64 0,.int .i64 0] 84)) rfl;simpa only [za2,zcQ] using this)
   have Hp:=zH (show ∀ u∈([.bool bo,.int .i64 (m:Int),.map (some wr.heap.size),.int .i64 0,.int .i64 0]:List Value),u.oneCell'=true by
    intro u hu;simp only[za0,zcD,or_false]at hu;rcases hu with rfl|rfl|rfl|rfl|rfl<;>rfl)
   refine wpAnyH_ready (rs:=[4,11]) (by kernel_rfl) (by simp) ?_;refine AllReadyH.cons rfl (fun K hK=>?_) (AllReadyH.cons rfl (fun K hK=>?_) AllReadyH.nil)
   ·go_simp;refine hK.out _ _ hh (fun hHeldl=>?_);clear hK K;try simp only[zS]
    refine wpAnyH_ready (rs:=[11]) (by kernel_rfl) (by simp) ?_;refine AllReadyH.cons rfl (fun K hK=>?_) AllReadyH.nil;go_simp;refine hK.out _ _ H2 (fun hHeldm=>?_);clear hK K;try simp only[zS]
    refine zV 12 60 (.agg #[.bool bo,.int .i64 (m:Int),.map (some wr.heap.size),.int .i64 0,.int .i64 0]) ?_;try simp only[zS]
    refine wpAnyH_ready (rs:=[13]) (by kernel_rfl) (by simp) ?_;refine AllReadyH.cons rfl (fun K hK=>?_) AllReadyH.nil;refine qbG rfl 68 (.tmp 60) rfl Tryz.underlying68 hi0 hz0 hz1 (by decide) (by decide) (.agg #[.bool bo,.int .i64 (m:Int),.map (some wr.heap.size),.int .i64 0,.int .i64 0]) rfl [.bool bo,.int .i64 (m:Int),.map (some wr.heap.size),.int .i64 0,.int .i64 0] rfl rfl ?_;refine hK.out _ _ HJ (fun hHeldb=>?_);clear hK K;try simp only[zS]
    try simp only[za2,zcQ]
    refine wpAnyH_ready (rs:=[14]) (by kernel_rfl) (by simp) ?_;refine AllReadyH.cons rfl (fun K hK=>?_) AllReadyH.nil;refine qbA rfl (.tmp 52) (.tmp 61) 68 rfl w4.heap.size 84 i0 _ 5 40 Tryz.underlying68 hi0 hz0 hz1 hz2 (by kernel_rfl) (by decide) (.slice vA k vc) _ _ rfl HW.o (some ⟨wr.heap.size+1,0,none⟩) 1 1 [.bool bo,.int .i64 (m:Int),.map (some wr.heap.size),.int .i64 0,.int .i64 0] rfl Hq.o Hp.o HQ.o HO.o HX.o ?_;intro A5 cap5 w5 hrow5 hgrow5 hown5;have Ha:=zH (qig (nn:=nn) Q1.o Q2.o q3 q4 Q5.o Q6.o Hr HC hm HP.o Ho.o hrow5 hgrow5 hown5 (by rw[HY.o]));have Hm:=Ha.o.2.1 T (Nat.lt_trans Hg.o Hr);have Hl:w5.cell? ⟨T,0,none⟩=some (.slice A nd cA):=by
     unfold World.cell? at Hc⊢;rw[Hm];exact Hc
    have He:=Ha.o.1;have H9:w5.cell? ⟨P,2,none⟩=some (.slice vA k vc):=by rw[zan w5 P 2 _ _ _ He];rfl
    have hq:w5.frozen? ⟨P,2,none⟩=false:=zaQ _ _ _ _ _ He;have Hy:=zH (show ∀ u,(w5.setCell ⟨P,2,none⟩ u).cell? ⟨T,0,none⟩=some (.slice A nd cA)from fun u=>(World.cell?_setCell_far w5 ⟨P,2,none⟩ ⟨T,0,none⟩ u (show P≠T by have:=Hg.o;omega)).trans Hl);clear hrow5 hgrow5 hown5 He Hm;refine hK.out _ _ Hl (fun hHeld5=>?_);clear hK K;try simp only[zS]
    refine zV 15 63 (.pointer (some ⟨P,0,none⟩)) ?_;try simp only[zS]
    refine zV 16 64 (.pointer (some ⟨P,2,none⟩)) ?_;try simp only[zS]
    refine wpAnyH_ready (rs:=[17]) (by kernel_rfl) (by simp) ?_;refine AllReadyH.cons rfl (fun K hK=>?_) AllReadyH.nil;go_simp;refine hK.out _ _ (Hy.o _) (fun hHeld6=>?_);clear hK K;try simp only[zS]
    refine wpAnyH_done (by kernel_rfl) ?_ _;go_wp2;exact⟨⟨k+1,by go_num,by omega,Ha.o.2.2⟩,by simp[intOf];omega⟩
   ·go_simp;refine hK.out _ _ H2 (fun hHeldm=>?_);clear hK K;try simp only[zS]
    refine zV 12 60 (.agg #[.bool bo,.int .i64 (m:Int),.map (some wr.heap.size),.int .i64 0,.int .i64 0]) ?_;try simp only[zS]
    refine wpAnyH_ready (rs:=[4,13]) (by kernel_rfl) (by simp) ?_;refine AllReadyH.cons rfl (fun K hK=>?_) (AllReadyH.cons rfl (fun K hK=>?_) AllReadyH.nil)
    ·go_simp;refine hK.out _ _ H2 (fun hHeldl=>?_);clear hK K;try simp only[zS]
     refine wpAnyH_ready (rs:=[13]) (by kernel_rfl) (by simp) ?_;refine AllReadyH.cons rfl (fun K hK=>?_) AllReadyH.nil;refine qbG rfl 68 (.tmp 60) rfl Tryz.underlying68 hi0 hz0 hz1 (by decide) (by decide) (.agg #[.bool bo,.int .i64 (m:Int),.map (some wr.heap.size),.int .i64 0,.int .i64 0]) rfl [.bool bo,.int .i64 (m:Int),.map (some wr.heap.size),.int .i64 0,.int .i64 0] rfl rfl ?_;refine hK.out _ _ HJ (fun hHeldb=>?_);clear hK K;try simp only[zS]
     try simp only[za2,zcQ]
     refine wpAnyH_ready (rs:=[14]) (by kernel_rfl) (by simp) ?_;refine AllReadyH.cons rfl (fun K hK=>?_) AllReadyH.nil;refine qbA rfl (.tmp 52) (.tmp 61) 68 rfl w4.heap.size 84 i0 _ 5 40 Tryz.underlying68 hi0 hz0 hz1 hz2 (by kernel_rfl) (by decide) (.slice vA k vc) _ _ rfl HW.o (some ⟨wr.heap.size+1,0,none⟩) 1 1 [.bool bo,.int .i64 (m:Int),.map (some wr.heap.size),.int .i64 0,.int .i64 0] rfl Hq.o Hp.o HQ.o HO.o HX.o ?_;intro A5 cap5 w5 hrow5 hgrow5 hown5;have Ha:=zH (qig (nn:=nn) Q1.o Q2.o q3 q4 Q5.o Q6.o Hr HC hm HP.o Ho.o hrow5 hgrow5 hown5 (by rw[HY.o]));have Hm:=Ha.o.2.1 T (Nat.lt_trans Hg.o Hr);have Hl:w5.cell? ⟨T,0,none⟩=some (.slice A nd cA):=by
      unfold World.cell? at Hc⊢;rw[Hm];exact Hc
     have He:=Ha.o.1;have H9:w5.cell? ⟨P,2,none⟩=some (.slice vA k vc):=by rw[zan w5 P 2 _ _ _ He];rfl
     have hq:w5.frozen? ⟨P,2,none⟩=false:=zaQ _ _ _ _ _ He;have Hy:=zH (show ∀ u,(w5.setCell ⟨P,2,none⟩ u).cell? ⟨T,0,none⟩=some (.slice A nd cA)from fun u=>(World.cell?_setCell_far w5 ⟨P,2,none⟩ ⟨T,0,none⟩ u (show P≠T by have:=Hg.o;omega)).trans Hl);clear hrow5 hgrow5 hown5 He Hm;refine hK.out _ _ Hl (fun hHeld5=>?_);clear hK K;try simp only[zS]
     refine zV 15 63 (.pointer (some ⟨P,0,none⟩)) ?_;try simp only[zS]
     refine zV 16 64 (.pointer (some ⟨P,2,none⟩)) ?_;try simp only[zS]
     refine wpAnyH_ready (rs:=[17]) (by kernel_rfl) (by simp) ?_;refine AllReadyH.cons rfl (fun K hK=>?_) AllReadyH.nil;go_simp;refine hK.out _ _ (Hy.o _) (fun hHeld6=>?_);clear hK K;try simp only[zS]
     refine wpAnyH_done (by kernel_rfl) ?_ _;go_wp2;exact⟨⟨k+1,by go_num,by omega,Ha.o.2.2⟩,by simp[intOf];omega⟩
    ·refine qbG rfl 68 (.tmp 60) rfl Tryz.underlying68 hi0 hz0 hz1 (by decide) (by decide) (.agg #[.bool bo,.int .i64 (m:Int),.map (some wr.heap.size),.int .i64 0,.int .i64 0]) rfl [.bool bo,.int .i64 (m:Int),.map (some wr.heap.size),.int .i64 0,.int .i64 0] rfl rfl ?_;refine hK.out _ _ HJ (fun hHeldb=>?_);clear hK K;try simp only[zS]
     try simp only[za2,zcQ]
     refine wpAnyH_ready (rs:=[4]) (by kernel_rfl) (by simp) ?_;refine AllReadyH.cons rfl (fun K hK=>?_) AllReadyH.nil;go_simp;refine hK.out _ _ HJ (fun hHeldl=>?_);clear hK K;try simp only[zS]
     refine wpAnyH_ready (rs:=[14]) (by kernel_rfl) (by simp) ?_;refine AllReadyH.cons rfl (fun K hK=>?_) AllReadyH.nil;refine qbA rfl (.tmp 52) (.tmp 61) 68 rfl w4.heap.size 84 i0 _ 5 40 Tryz.underlying68 hi0 hz0 hz1 hz2 (by kernel_rfl) (by decide) (.slice vA k vc) _ _ rfl HW.o (some ⟨wr.heap.size+1,0,none⟩) 1 1 [.bool bo,.int .i64 (m:Int),.map (some wr.heap.size),.int .i64 0,.int .i64 0] rfl Hq.o Hp.o HQ.o HO.o HX.o ?_;intro A5 cap5 w5 hrow5 hgrow5 hown5;have Ha:=zH (qig (nn:=nn) Q1.o Q2.o q3 q4 Q5.o Q6.o Hr HC hm HP.o Ho.o hrow5 hgrow5 hown5 (by rw[HY.o]));have Hm:=Ha.o.2.1 T (Nat.lt_trans Hg.o Hr);have Hl:w5.cell? ⟨T,0,none⟩=some (.slice A nd cA):=by
      unfold World.cell? at Hc⊢;rw[Hm];exact Hc
     have He:=Ha.o.1;have H9:w5.cell? ⟨P,2,none⟩=some (.slice vA k vc):=by rw[zan w5 P 2 _ _ _ He];rfl
     have hq:w5.frozen? ⟨P,2,none⟩=false:=zaQ _ _ _ _ _ He;have Hy:=zH (show ∀ u,(w5.setCell ⟨P,2,none⟩ u).cell? ⟨T,0,none⟩=some (.slice A nd cA)from fun u=>(World.cell?_setCell_far w5 ⟨P,2,none⟩ ⟨T,0,none⟩ u (show P≠T by have:=Hg.o;omega)).trans Hl);clear hrow5 hgrow5 hown5 He Hm;refine hK.out _ _ Hl (fun hHeld5=>?_);clear hK K;try simp only[zS]
     refine zV 15 63 (.pointer (some ⟨P,0,none⟩)) ?_;try simp only[zS]
     refine zV 16 64 (.pointer (some ⟨P,2,none⟩)) ?_;try simp only[zS]
     refine wpAnyH_ready (rs:=[17]) (by kernel_rfl) (by simp) ?_;refine AllReadyH.cons rfl (fun K hK=>?_) AllReadyH.nil;go_simp;refine hK.out _ _ (Hy.o _) (fun hHeld6=>?_);clear hK K;try simp only[zS]
     refine wpAnyH_done (by kernel_rfl) ?_ _;go_wp2;exact⟨⟨k+1,by go_num,by omega,Ha.o.2.2⟩,by simp[intOf];omega⟩
  ·have HK:k=nn:=by omega
   have tk:decide (k<nn)=false:=zal hlt;have hy:=zH HK;have Q1:=zH q1;have Q2:=zH q2;have Q5:=zH q5;have Q6:=zH q6;have Hr:P<w4.heap.size:=zam Hv Hb.o.size;clear q1 q2 q5 q6 HK;go_wp2
   go_ret2
   have HK:=hy.o;have q1:=Q1.o;have q2:=Q2.o;have q5:=Q5.o;have q6:=Q6.o;rw[HK]at q1 q2 q3 q5;obtain⟨g,rfl,hg1,hg2,hown⟩:=q2.row.own h0;have h4:Below w.heap.size w w4:=Hw.o.trans (H5.o.mono Hw.o.size);have hX:=HT.o;have HL:=Hu.o;have hU:=Hg.o;have HZ:=q6.size;have Hf:all.take nn=all:=zbe (by rw[Hx.o];exact zac _);have HE:qdl nd 0 all Ms=qcZ ds (Ms.take nd) (ts.map fun t=>(⟨t,0,0⟩:Tp)) (Ms.drop nd):=by
    rw[←HM.o]
    conv=>lhs;rw[←zav nd Ms]
    rw[qfg nd 0 ds ts _ _ (by rw[zag,q3,hnd];omega) (by omega) (fun _=>by omega),qfh nd _ ts _ (by omega) (by rw[zap,q3,hnt];omega)];rfl
   rw[Hf,HE]at hown;have Ht:∀ M,M∈Ms.take nd++Ms.drop nd→M∈Ms:=fun M hM=>by rwa [zav]at hM
   have Hs:∀ (X:Option Addr) (V:World) (lo hi:Nat) (xs:List Value) (c n:Nat),Own V lo 3 1 (.slice X n c) n xs→∀ ad,X=some ad→lo≤ad.block∧ad.block<V.heap.size:=fun X V lo hi xs c n ho ad e=>by
    subst e;exact ho.blk ad.block rfl
   have hc:∀ ad,A1=some ad→w.heap.size≤ad.block∧ad.block<P:=fun ad e=>by
    have:=Hs A1 w1 _ 0 _ c1 nd HU.o ad e;have h1:=Hh.o.size;have h2:=Hn.o.size;have h3:=HV.o;omega
   have he:∀ ad,B1=some ad→w.heap.size≤ad.block∧ad.block<P:=fun ad e=>by
    have:=Hs B1 w2 _ 0 _ c2 nt H8.o ad e;have h1:=Hh.o.size;have h2:=Hi.o.size;have h3:=HV.o;omega
   have hR:=HV.o;have HD:∀ b,b<P→wr.heap[b]?=w2.heap[b]?:=fun b hb=>(q6.block b (by omega) (show ¬b=P by omega)).trans ((Hb.o.block b (by have:=Hk.o.size;omega)).trans (Hk.o.block b (by omega)));have hE:Ints wr A1 (ds.map fun(m:Nat)=>(m:Int)):=qaM (Own.ints HU.o (by rw[zaE];exact hnd) (by omega)) (zah Hn.o.size (zah Hk.o.size (zah Hb.o.size HZ))) fun b off e=>by
    have hb:=hc _ e;have:=Hs A1 w1 _ 0 _ c1 nd HU.o _ e;exact(HD b hb.2).trans (Hn.o.block b this.2)
   have hH:Ints wr B1 (ts.map fun(m:Nat)=>(m:Int)):=qaM (Own.ints H8.o (by rw[zaE];exact hnt) (by omega)) (zah Hk.o.size (zah Hb.o.size HZ)) fun b off e=>HD b (he _ e).2;have hN:P<wr.heap.size:=by omega
   refine⟨⟨P,g,vc,Ms.take nd,Ms.drop nd,A1,c1,B1,c2⟩,fun b=>w.heap.size≤b∧b<wr.heap.size,rfl,⟨⟨.slice none 0 0,0,0,?_,?_⟩,?_⟩,fun b hb=>hb.1,?_⟩
   ·rw[q1];unfold qcA fresh;simp only[zaE,hnd,hnt,Hu.o]
   ·refine⟨⟨by show w.heap.size≤P;omega,hN⟩,fun b hb=>hb.2,?_,⟨⟨by show w.heap.size≤g;omega,hg2⟩,by show g≠P;omega⟩,?_,?_,by rw[zav];exact q4,?_,?_,⟨.inr ⟨none,rfl,rfl,rfl⟩,(fun b e=>by cases e)⟩,(fun b e=>by cases e),?_,hE,?_⟩
    ·have:=qgI hown (za7 w4.heap.size);unfold fresh;simp only[zaE,hnd,hnt,Hu.o];exact this
    ·show(Ms.take nd).length=ds.length;rw[zag,q3,hnd];omega
    ·show(Ms.drop nd).length=(ts.map _).length;rw[zap,zaE,q3,hnt];omega
    ·intro M hM;obtain⟨m1,m2,m3⟩:=q5 M (Ht M hM);have:=m2.lt;exact⟨⟨by omega,this⟩,by show M≠P;omega,fun e=>m3 g rfl e.symm⟩
    ·intro d M hM;obtain⟨_,m2,_⟩:=q5 M (Ht M (zak hM));exact⟨[],m2,fun k=>.inr ⟨rfl,rfl⟩⟩
    ·intro ad e;have hb:w.heap.size≤ad.block∧ad.block<P:=by
      rcases e with e|e
      ·exact hc ad e
      ·exact he ad e
     refine⟨⟨hb.1,by omega⟩,by show ad.block≠P;omega,by show ad.block≠g;omega,fun hM=>?_⟩;have:=(q5 _ (Ht _ hM)).1;omega
    ·show Ints wr B1 ((ts.map fun t=>(⟨t,0,0⟩:Tp)).map fun(t:Tp)=>(t.most:Int));rw[zcN];exact hH
   ·refine⟨by simp[fresh],fun d k=>zeros_len 64,fun m hm=>(H6.o m hm).2,?_,?_⟩
    ·show ds.length+(ts.map _).length≤12;rw[zaE];omega
    ·show(-1:Int)≤-1∧(-1:Int)≤9223372036854775807;decide
   ·exact⟨q6.os.trans h4.os,q6.tape.trans h4.tape,q6.output.trans h4.output,zah h4.size HZ,fun b hb=>(q6.block b (zam hb h4.size) (show ¬b=P by omega)).trans (h4.block b hb)⟩
end Go.Proofs.YtpmebcgmgfcmiaaGreatDoor
