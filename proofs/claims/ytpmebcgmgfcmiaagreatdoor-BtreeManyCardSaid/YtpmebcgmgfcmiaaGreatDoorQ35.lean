/- Texts LwS LwK LwI. -/
import Derived.Test.YtpmebcgmgfcmiaaGreatDoorQ34
set_option linter.all false
set_option maxRecDepth 100000
set_option maxHeartbeats 16000000
namespace Go.Proofs.YtpmebcgmgfcmiaaGreatDoor
open Go.RowKit BT Go.Lib
section
def AnF (B D pages:Nat)(p:Pl)(c:Cm)(l:List Pr)(a:PA)(dims:Int)(F:Nat→Prop)(U:Nat→Prop)(w:World)(e:Ending)(w':World):Prop:=
 e=.returned (.bool true)∧∃ V' G' T' Rn' Ro',StM V' w' B D ⟨p,⟨pages,c.gen,c.root1,c.ub,c.ub⟩,c.root1⟩ l l pages dims a G' T' F Rn' Ro'∧Ext U (SU F G' T' D Rn' Ro') w w'
section
variable {V:Nat→Prop} {w:World} {B D L pages kc mn mc mb mo G T Rn Ro:Nat} {t:Ts} {now old l:List Pr} {dims:Int} {a:PA} {F:Nat→Prop} {keep:List Int} {KA:Option Addr} {rs:List (Nat×List Pr)} {c:Cm}
theorem StM.may (h:StM V w B D t now old pages dims a G T F Rn Ro)(hb:mb≠D)(hlen:now.length≤1000∧old.length≤1000)(hrs:∀ r∈rs,r=(Ro,old)∨r=(Rn,now))(hc:∀ k r,rs[k]?=some r→w.cell? ⟨mb,mo+k,none⟩=some (.pointer (some ⟨r.1,0,none⟩))) :
  MayM w D V (some ⟨mb,mo,none⟩) rs:=by
 refine⟨mb,mo,rfl,hb,fun k r hk=>⟨hc k r hk,?_⟩⟩;rcases hrs r (zak hk)with rfl|rfl
 ·exact⟨fun e=>h.ne.2.1 e.symm,hlen.2,h.ro⟩
 ·exact⟨fun e=>h.ne.1 e.symm,hlen.1,h.rn⟩
theorem StM.nF (h:StM V w B D t now old pages dims a G T F Rn Ro):∀ b,F b→SU F G T D Rn Ro b:=fun _ hb=>.inl (.inl (.inl hb))
theorem qfA (h:StM V w B D t now old pages dims a G T F Rn Ro)(hoff:t.p.off=true)(htp:t.p.tp=[])(hm:t.p.most=[2+8*pages])(hpg:pages≤384)(ho:OldIs (t.p.boot keep) 0 pages L c l)(hlen:now.length≤1000∧old.length≤1000)(hl:l.length≤1000)
  (hk:Ints w KA keep)(hrng:∀ x∈keep,-9223372036854775808≤x∧x≤9223372036854775807)(hKA:∀ ad,KA=some ad→¬SU F G T D Rn Ro ad.block)(hb:¬SU F G T D Rn Ro mb)(hrs:∀ r∈rs,r=(Ro,old)∨r=(Rn,now))(hc:∀ k r,rs[k]?=some r→w.cell? ⟨mb,mo+k,none⟩=some (.pointer (some ⟨r.1,0,none⟩)))
  (hmn:rs.length=mn)(hmc:mn≤100)(hin:∃ r∈rs,r.2=l)(hd:0≤dims∧dims≤1000000) :
  Calls Tryz.prog 25 #[.pointer (some ⟨D,0,none⟩),.slice KA keep.length kc,.slice (some ⟨mb,mo,none⟩) mn mc] w (AnF B D pages (t.p.boot keep) c l a (dims+1) F (SU F G T D Rn Ro) w):=by
 have hD:D≠1:=fun e=>h.n1 (.inr (.inl e.symm));refine(qjW (MS:=V) h.sd.box h.sd.tr.pg.pl h.sd.tr.pg.nib h.sd.tr.pg.n1.1 hoff htp hm hpg ho hl ⟨fun hf=>h.nD (.inl (.inl hf)),hD⟩ hk hrng (fun ad e hf=>hKA ad e (h.nF _ hf)) (fun b hb=>⟨(h.vs b hb).1,fun e=>(h.vs b hb).2 (.inr (.inl e)),fun hf=>(h.vs b hb).2 (h.nF _ hf)⟩) (fun ad e hf=>?_) (fun r hr hf=>?_) (h.may (fun e=>hb (.inr (.inl e))) hlen hrs hc) hmn hmc hin hd).mono fun e w' ho2=>?_
 ·cases e;exact hb (h.nF _ hf)
 ·rcases hrs r hr with rfl|rfl
  ·exact h.nRo (.inl (.inl hf))
  ·exact h.nRn (.inl (.inl hf))
 ·obtain⟨e1,G',T',Rn',Ro',h1,h2⟩:=h.anew (fun b hb=>hb.elim (h.nF b) fun e=>.inr (.inl e)) ho2;exact⟨e1,_,G',T',Rn',Ro',h1,h2⟩
theorem qht (h:StM V w B D t now old pages dims a G T F Rn Ro)(hoff:t.p.off=false)(hm:t.p.most=[2+8*pages])(hpg:pages≤384)(ho:OldIs t.p 0 pages L c l)(hlen:now.length≤1000∧old.length≤1000)(hl:l.length≤1000)
  {kn:Nat}(hb:¬SU F G T D Rn Ro mb)(hrs:∀ r∈rs,r=(Ro,old)∨r=(Rn,now))(hc:∀ k r,rs[k]?=some r→w.cell? ⟨mb,mo+k,none⟩=some (.pointer (some ⟨r.1,0,none⟩)))
  (hmn:rs.length=mn)(hmc:mn≤100)(hin:∃ r∈rs,r.2=l) :
  Calls Tryz.prog 11 #[.pointer (some ⟨D,0,none⟩),.slice KA kn kc,.slice (some ⟨mb,mo,none⟩) mn mc] w (AnF B D pages t.p c l a dims F (SU F G T D Rn Ro) w):=by
 have hD:D≠1:=fun e=>h.n1 (.inr (.inl e.symm));refine(qe5 (MS:=V) h.sd.box h.sd.tr.pg.pl h.sd.tr.pg.nib h.sd.tr.pg.n1.1 hoff (m:=2+8*pages) (by rw[hm];rfl) (by omega) ho hl ⟨fun hf=>h.nD (.inl (.inl hf)),hD⟩ (fun b hb=>⟨(h.vs b hb).1,fun e=>(h.vs b hb).2 (.inr (.inl e))⟩) (h.may (fun e=>hb (.inr (.inl e))) hlen hrs hc) hmn hmc hin).mono fun e w' ho2=>?_;obtain⟨e1,G',T',Rn',Ro',h1,h2⟩:=h.anew (fun b hb=>.inr (.inl hb)) ho2;exact⟨e1,_,G',T',Rn',Ro',h1,h2⟩
end
theorem StM.commit {V S:Nat→Prop}{w w1:World}{B D R c:Nat}{t:Ts}{now old:List Pr}{pages:Nat}{dims:Int}{a:PA}{G T:Nat}{F:Nat→Prop}{Rn Ro:Nat}{A:Option Addr}(h:StM V w B D t now old pages dims a G T F Rn Ro)(hb:Below w.heap.size w w1)(hR:w.heap.size≤R)(hr:RowM w1 R S A c now)(hS:∀ b,S b→V b∨(w.heap.size≤b∧b<R)) :
  StM (fun b=>V b∨(w.heap.size≤b∧b<R)) (w1.setCell ⟨D,4,none⟩ (.pointer (some ⟨R,0,none⟩))) B D t now now pages dims a G T F Rn R∧Ext (SU F G T D Rn Ro) (SU F G T D Rn R) w (w1.setCell ⟨D,4,none⟩ (.pointer (some ⟨R,0,none⟩))):=by
 have h1:=h.below hb;obtain⟨A1,c1,hr1⟩:=h1.rn;have tE:Touch (fun b=>b=D) w1 (w1.setCell ⟨D,4,none⟩ (.pointer (some ⟨R,0,none⟩))):=Touch.setCell (F:=fun b=>b=D) (Touch.refl _ _) (p:=⟨D,4,none⟩) rfl _;have Hc:=h.live D (.inr (.inl rfl));have He:=h.live Rn (.inr (.inr (.inl rfl)));have Hb:=hr.lt;have hz:=hb.size;have Hf:=tE.size;have Ha:∀ b,w.heap.size≤b→¬TF F G T b:=fun b hb hf=>by have:=h.live b (.inl hf);omega
 refine⟨⟨⟨qab h1.sd.box _,h1.sd.tr.touch tE (fun b hb e=>h.nD (e▸hb)) (fun e=>h.n1 (.inr (.inl e)))⟩,⟨A1,c1,(hr1.touch tE (fun e=>h.ne.1 e.symm) fun b hb e=>(h.vs b hb).2 (.inr (.inl e))).mono fun b hb=>.inl hb⟩,⟨A,c,(hr.touch tE (by omega) fun b hb e=>?_).mono hS⟩,fun b hb=>?_,?_,h.nD,h.nRn,Ha R hR,⟨h.ne.1,by omega,by omega⟩,h.b1⟩,(Touch.of_below hb).trans (tE.mono fun b _ e=>.inr (.inl e)),?_⟩
 ·rcases hS b hb with hv|hv
  ·exact(h.vs b hv).2 (.inr (.inl e))
  ·omega
 ·rcases hb with hv|hv
  ·have:=h.vs b hv;refine⟨by omega,?_⟩;rintro(hu|hu|hu|hu)
   ·exact this.2 (.inl hu)
   ·exact this.2 (.inr (.inl hu))
   ·exact this.2 (.inr (.inr (.inl hu)))
   ·omega
  ·refine⟨by omega,?_⟩;rintro(hu|hu|hu|hu)
   ·exact Ha b hv.1 hu
   ·omega
   ·omega
   ·omega
 ·rintro b (hu|hu|hu|hu)
  ·exact h.lo b (.inl hu)
  ·exact h.lo b (.inr (.inl hu))
  ·exact h.lo b (.inr (.inr (.inl hu)))
  ·have:=h.lo D (.inr (.inl rfl));omega
 ·rintro b (hu|hu|hu|hu)
  ·exact .inl (.inl hu)
  ·exact .inl (.inr (.inl hu))
  ·exact .inl (.inr (.inr (.inl hu)))
  ·exact .inr (by omega)
end
end Go.Proofs.YtpmebcgmgfcmiaaGreatDoor
namespace Go.Proofs.YtpmebcgmgfcmiaaGreatDoor
open Go.RowKit BT
section
section
variable {P:Program}
theorem qbs {op:Oper}{a:Act}{w:World}{K:Act→World→Prop}{Q:Exit→Act→World→Prop}(ty:TypeId)(x:Operand)(ho:op.op=.load ty x)(g o:Nat)(v:Value)(d:TypeDesc)
  (hx:a.eval x=.pointer (some ⟨g,o,none⟩))(hc:w.cell? ⟨g,o,none⟩=some v)(hu:P.underlying ty=some d)(hd:(match d with | .struct _ | .array _ _=>false|_=>true)=true)(h:K (a.put op.dst v) w):op.wp P a w K Q:=by
 have Ha:(isAgg ty).run P w=.ok false w:=by
  unfold isAgg;rw[zbF,zaM hu w];cases d<;>simp_all
 have hr:(loadVar ty ⟨g,o,none⟩).run P w=.ok v w:=by
  simp[loadVar,zbF,Ha,hc,go_sem]
 unfold Oper.wp execOp;simp only[ho,hx,Instr.loadAt,Instr.sureAddr,zbF,zb2,zbh,hr];exact h
end
end
end Go.Proofs.YtpmebcgmgfcmiaaGreatDoor
namespace Go.Proofs.YtpmebcgmgfcmiaaGreatDoor
open Go.RowKit BT Go.Lib
variable {key:Bs}{w w':World}{n g:Nat}{A:Option Addr}{xs:List Value}
def StF (L pages n m B D:Nat)(a:PA)(dims:Int)(U:Nat→Prop)(w:World)(e:Ending)(w':World):Prop:=
 e=.returned (.bool true)∧∃ V' t' now' old' dims' G' T' F' Rn' Ro',StM V' w' B D t' now' old' pages dims' a G' T' F' Rn' Ro'∧Ext U (SU F' G' T' D Rn' Ro') w w'∧Gd L pages n m t' now' old'∧dims≤dims'∧dims'≤dims+1
theorem RgF.out {l:List Pr}{e:Ending}(h:RgF key l w e w'):Below w.heap.size w w'∧∃ A k c,e=.returned (.tuple #[.slice A k c,.bool (getR key l).isSome])∧(∀ v,getR key l=some v→By w' A v∧v.length=k)∧(getR key l=none→k=0):=by
 obtain⟨h1,h2⟩:=h;refine⟨h1,?_⟩;cases hr:getR key l with
 | none=>
  rw[hr]at h2;exact⟨_,_,_,h2,(fun v e=>by cases e),fun _=>rfl⟩
 | some v=>
  rw[hr]at h2;obtain⟨A,c,e1,e2⟩:=h2;exact⟨_,_,_,e1,(fun u e=>by cases e;exact⟨e2,rfl⟩),fun e=>by cases e⟩
theorem qkq {base c:Nat}(h:Own w base 5 1 (.slice A n c) n xs)(h0:0<n):∃ g cur,A=some ⟨g,0,none⟩∧base≤g∧g<w.heap.size∧w.heap[g]?=some (.cells cur 5 (0,0))∧n≤cur.size:=by
 rcases h.row with h1|⟨_,_,h1,_⟩
 ·obtain⟨hl,hv⟩:=h1;rcases hv with⟨h0,_⟩|⟨g,cap,cur,hv,hbg,hg,hnc,hcm,hcs,htake⟩
  ·cases h0;omega
  ·cases hv;exact⟨g,cur,rfl,hbg,(zab.1 hg).1,hg,by omega⟩
 ·omega
theorem qcJ {base c:Nat}{l:Bs}(h:Own w base 5 1 (.slice A n c) n (bv l))(hn:l.length=n):ByS w (fun b=>base≤b∧b<w.heap.size) A l:=
 ⟨h.byN hn,fun ad e h0=>by
  obtain⟨g,_,e2,h1,h2,_⟩:=qkq h (by omega);rw[e2]at e;cases e;exact⟨h1,h2⟩⟩
theorem qiL:(Tryz.prog.info? 30).map (fun i=>(i.zero,i.size,i.bytes))=some (some (.pointer none),1,8):=by kernel_rfl
theorem qiK:(Tryz.prog.info? 5).map (fun i=>(i.zero,i.size,i.bytes))=some (some (.int .u8 0),1,1):=by kernel_rfl
def ByC (w:World)(g n:Nat)(A:Option Addr):Prop:=0<n→A=some ⟨g,0,none⟩∧∃ cur,w.heap[g]?=some (.cells cur 5 (0,0))∧n≤cur.size
theorem qjV {base c:Nat}(h:Own w base 5 1 (.slice A n c) n xs)(hb:base<w.heap.size):∃ g,base≤g∧g<w.heap.size∧ByC w g n A:=by
 by_cases h0:0<n
 ·obtain⟨g,cur,e,h1,h2,h3,h4⟩:=qkq h h0;exact⟨g,h1,h2,fun _=>⟨e,cur,h3,h4⟩⟩
 ·exact⟨base,zac _,hb,fun h=>absurd h h0⟩
theorem ByC.keep (h:ByC w g n A)(hk:w'.heap[g]?=w.heap[g]?):ByC w' g n A:=fun h0=>by
 obtain⟨e,cur,h1,h2⟩:=h h0;exact⟨e,cur,hk.trans h1,h2⟩
theorem ByC.set {i:Nat}(h:ByC w g n A)(v:Value):ByC (w.setCell ⟨g,i,none⟩ v) g n A:=fun h0=>by
 obtain⟨e,cur,h1,h2⟩:=h h0;exact⟨e,_,qab h1 _,by simpa using h2⟩
def ChC (L pages n mm:Nat)(V:Nat→Prop)(B D:Nat)(t:Ts)(now old l:List Pr)(dims:Int)(a:PA)(G T:Nat)(F:Nat→Prop)(Rn Ro:Nat)(put there:Bool)(w:World)(s12 s13 s14:Value)(wx:World):Prop:=
 ∃ (may is:Bool) (e:Nat) (t':Ts) (F':Nat→Prop),s12=.bool may∧s13=.int .i64 (e:Int)∧s14=.bool is∧StM V wx B D t' now old pages dims a G T F' Rn Ro∧Ext (SU F G T D Rn Ro) (SU F' G T D Rn Ro) w wx∧ChO L pages n mm t old l put may is there e t'
theorem qcR {V:Nat→Prop}{B D L N m mm pages kn kc vn vc pc G T Rn Ro:Nat}{t:Ts}{now old:List Pr}{dims kd nn:Int}{a:PA}{F:Nat→Prop}{put:Bool}{val:Bs}{keep:List Int}{KA VA CA:Option Addr}
  (h:StM V w B D t now old pages dims a G T F Rn Ro)(hg:Gd L pages n m t now old)(hL:L≤24)(hf:Fits L N)(hN:mm≤N)(hN2:N≤1000)(hn:n≤1000000)(hd:0≤dims∧dims≤1000000)(hkL:klen key→key.length≤L)(hmm:mm=m+if put then 1 else 0)
  (hK:ByS w (fun b=>b<w.heap.size∧¬SU F G T D Rn Ro b) KA key)(hkl:key.length=kn)(hkc:kn≤kc)(hk4:kn≤140737488355328)(hV:ByS w (fun b=>b<w.heap.size∧¬SU F G T D Rn Ro b) VA val)(hvl:val.length=vn)(hvc:vn≤vc)(hv4:vn≤140737488355328)
  (hC:Ints w CA keep)(hrng:∀ x∈keep,-9223372036854775808≤x∧x≤9223372036854775807)(hCA:∀ ad,CA=some ad→¬SU F G T D Rn Ro ad.block∧ad.block<w.heap.size) :
  Calls Tryz.prog 12 #[.pointer (some ⟨D,0,none⟩),.agg #[.int .i64 kd,.int .i64 nn,.slice KA kn kc,.slice VA vn vc,.slice CA keep.length pc],.bool put] w (StF L pages (n+1) mm B D a dims (SU F G T D Rn Ro) w):=by
 replace h:=h.max;have kH:m≤N:=zah (by rw[hmm];exact Nat.le_add_right _ _) hN;obtain⟨j0,hj0,jz0,jz1,jz2⟩:=zaT qiK;obtain⟨RA,rc,hrn⟩:=h.rn;obtain⟨OB,hOB⟩:∃ x,w.heap.size=x:=⟨_,rfl⟩;obtain⟨pn,hpn⟩:∃ x,keep.length=x:=⟨_,rfl⟩;obtain⟨rm,hrm⟩:∃ x,qal t.g.pages t.g.use t.g.was=x:=⟨_,rfl⟩;obtain⟨th,hth⟩:∃ x,(getR key now).isSome=x:=⟨_,rfl⟩;have hE:=hg.now;have KT:=hg.srt.2;have g0:w.cell? ⟨D,1,none⟩=some (.pointer (some ⟨G,0,none⟩)):=zC h.sd.box;have g2:w.cell? ⟨D,2,none⟩=some (.pointer (some ⟨T,0,none⟩)):=zC h.sd.box;have g3:w.cell? ⟨D,3,none⟩=some (.pointer (some ⟨Rn,0,none⟩)):=zC h.sd.box;have KQ:D<OB:=by rw[←hOB];exact cell_lt g0
 have kE:=zH KQ;have Hi:=zH h;have HG:=zH hg;have HK:=zH hK;have HV:=zH hV;have HC:=zH hC;have H2:=zH hCA;have kg:=zH hrng;have HB:=zH hmm;have hO:=zH hf;have hQ:=zH hkL;have Hh:=zH hkl;have Ht:=zH hvl;have ke:=zH hpn;have HW:=zH hOB;have kh:=zH hrn;have Ki:=zH KT;have HL:=zH hE;have Ko:=zH hth;have KO:=zH hrm;rw[hpn];obtain⟨w1,hw1⟩:∃ x,w.alloc (.cells #[.int .i64 kd,.int .i64 nn,.slice KA kn kc,.slice VA vn vc,.slice CA pn pc] 36)=x:=⟨_,rfl⟩;have Ky:w1.heap[OB]?=some (.cells #[.int .i64 kd,.int .i64 nn,.slice KA kn kc,.slice VA vn vc,.slice CA pn pc] 36 (0,0)):=by rw[←hw1,←hOB];exact zaf w _
 have Hu:Below OB w w1:=by rw[←hw1,←hOB];exact zB _ _
 have KV:w1.heap.size=OB+1:=by rw[←hw1,za2,hOB]
 have o2:w1.cell? ⟨OB,2,none⟩=some (.slice KA kn kc):=zC Ky;have kG:OB<w1.heap.size:=by omega
 have h6:=zH Hu;have K1:=zH Ky;have ha:=zH KV;have K6:=zH (show ∀ o,Src (w1.alloc o) 1 KA kn (bv key)from fun o=>by rw[←hkl];exact((hK.by_.below (by rw[hOB];exact Hu)).below ((zai _ _).alloc (zac _) o)).src);have kk:=zH (show ∀ W o,Below w1.heap.size w1 W→Src (W.alloc o) 1 VA vn (bv val)from fun W o hb=>by rw[←hvl];exact(((hV.by_.below (by rw[hOB];exact Hu)).below hb).below ((zai _ _).alloc (zac _) o)).src);clear h hg hK hV hC hCA hrng hmm hf hkL hkl hvl hpn hrn KT hE hth hrm Ky Hu KV KQ;go_enter Tryz.func12,Tryz.ntmps12
 go_upto_region 2 with(at_builtin;refine qai rfl (.tmp 17) (.tmp 19) 34 rfl (OB+1) 5 j0 _ 1 1 Tryz.underlying34 hj0 jz0 jz1 jz2 rfl (by decide) _ 0 [] rfl (Own.empty _ _ _ _ w1.heap.size 0 (by rw[ha.o];exact zac _) (by simp)) KA kn kc (bv key) rfl (K6.o _) (qaw _) (by unfold maxLen;omega) (by omega) (by rw[za2,ha.o];omega) ?_;intro A2 c2 w2 ho2 hb2;have K8:=zH ho2;have KG:=zH hb2;clear ho2 hb2)
 have hW:Below (OB+1) w1 w2:=((zai _ _).alloc (by rw[ha.o];exact zac _) _).trans KG.o;have HO:=(hW.block OB (zcY _)).trans K1.o;have o3:w2.cell? ⟨OB,3,none⟩=some (.slice VA vn vc):=zC HO;have Kw:OB<w2.heap.size:=cell_lt o3;have KW:OB+1≤w2.heap.size:=Kw;have Kt:=K8.o;simp only[zaO,zaA]at Kt;have H4:=zH Kt;have h8:=zH hW;have Ka:=zH HO;have Hr:=zH KW;have KU:Below w1.heap.size w1 w2:=by rw[ha.o];exact hW
 have kp:=zH (fun o=>kk.o w2 o KU);clear hW HO Kt KU KW;go_upto_region 3 with(at_builtin;refine qai rfl (.tmp 21) (.tmp 23) 34 rfl w2.heap.size 5 j0 _ 1 1 Tryz.underlying34 hj0 jz0 jz1 jz2 rfl (by decide) _ 0 [] rfl (Own.empty _ _ _ _ w2.heap.size 0 (zac _) (by simp)) VA vn vc (bv val) rfl (kp.o _) (qaw _) (by unfold maxLen;omega) (by omega) (by rw[za2];omega) ?_;intro A3 c3 w3 ho3 hb3;have K9:=zH ho3;have KH:=zH hb3;clear ho3 hb3)
 have ho:Below w2.heap.size w2 w3:=(zB _ _).trans KH.o;have Ks:Below OB w w3:=h6.o.trans ((h8.o.mono (Nat.le_succ _)).trans (ho.mono (by have:=Hr.o;omega)));have hy:=(ho.block OB Hr.o).trans Ka.o;have Hz:=Hi.o.below (by rw[hOB];exact Ks);have p1:w3.cell? ⟨D,1,none⟩=some (.pointer (some ⟨G,0,none⟩)):=zC Hz.sd.box;have HX:=K9.o;simp only[zaO,zaA]at HX;have hq:=H4.o.below (zac _) ho;have KC:=qfe Hz.sd.tr.pg;rw[KO.o]at KC;have kf:=zH KC;have HI:=zH hy;have H7:=zH Hz;have H5:=zH HX;have Kg:=zH hq;have HF:=zH Ks;have HH:=zH ho;clear ho Ks hy Hz HX hq KC o2 o3 g0 g2 g3;go_upto_region 4 with(go_at_call 27;refine kf.o.mono ?_;rintro e w4 ⟨rfl,rfl⟩)
 have Hf:Below w3.heap.size w3 w3.drew:=(zai _ _).drew;have KX:=HH.o.size;have Hl:=zH (show w3.drew.cell? ⟨D,3,none⟩=some (.pointer (some ⟨Rn,0,none⟩))∧w3.drew.cell? ⟨OB,2,none⟩=some (.slice KA kn kc)from⟨zC ((H7.o.below Hf).sd.box),zC ((Hf.block OB (by have:=Hr.o;omega)).trans HI.o)⟩);have KS:=qhB (kc:=kc) (kh.o.below (show Below w.heap.size w w3.drew by rw[hOB];exact HF.o.drew)) (HK.o.by_.below (by rw[hOB];exact HF.o.drew)) Hh.o (by have:=HL.o;omega) (fun x hx=>by have:=(Ki.o x hx).2;omega);have KK:=zH (KS.mono fun e w' hh=>hh.out);rw[Ko.o]at KK;have hU:=zH KX;have KJ:=zH Hf;clear KS Hf KX p1;refine qac (S:=fun W'=>W'.cell? ⟨D,3,none⟩=some (.pointer (some ⟨Rn,0,none⟩))∧W'.cell? ⟨OB,2,none⟩=some (.slice KA kn kc)) [] (by kernel_rfl) Hl.o (fun _=>?_);generalize w3.drew=W0 at *;refine zP 0 31 (.pointer (some ⟨D,0,none⟩)) Hl.o ?_;try simp only[zS]
 refine zP 1 32 (.pointer (some ⟨D,0,none⟩)) Hl.o ?_;try simp only[zS]
 refine zP 2 33 (.pointer (some ⟨D,3,none⟩)) Hl.o ?_;try simp only[zS]
 refine zL 3 34 (.pointer (some ⟨Rn,0,none⟩)) rfl (Or.inl ⟨by rfl,fun W' hS=>by obtain⟨hS1,hS2⟩:=hS;go_simp⟩) (qaa Hl.o) ?_;try simp only[zS]
 refine zP 4 35 (.pointer (some ⟨OB,2,none⟩)) Hl.o ?_;try simp only[zS]
 refine zL 5 36 (.slice KA kn kc) rfl (Or.inl ⟨by rfl,fun W' hS=>by obtain⟨hS1,hS2⟩:=hS;go_simp⟩) (qaa Hl.o) ?_;try simp only[zS]
 refine zE 6 37 rfl (fun Kr hKr=>?_);go_simp;go_at_call 23
 refine KK.o.mono ?_;rintro e W1 ⟨hb1,A5,k5,c5,rfl,-⟩;have K0:=zH hb1;have HU:=zH (show W1.cell? ⟨D,3,none⟩=some (.pointer (some ⟨Rn,0,none⟩))∧W1.cell? ⟨OB,2,none⟩=some (.slice KA kn kc)from⟨(zaR (hb1.block D (cell_lt Hl.o.1))).trans Hl.o.1,(zaR (hb1.block OB (cell_lt Hl.o.2))).trans Hl.o.2⟩);clear hb1;refine hKr.out (.tuple #[.slice A5 k5 c5,.bool th]) _ (qaa HU.o) (fun _=>?_);clear hKr Kr;try simp only[zS]
 refine zP 7 30 (.tuple #[.slice A5 k5 c5,.bool th]) HU.o ?_;try simp only[zS]
 refine zP 8 38 (.slice A5 k5 c5) HU.o ?_;try simp only[zS]
 refine zP 9 39 (.bool th) HU.o ?_;try simp only[zS]
 refine zP 10 10 (.slice A5 k5 c5) HU.o ?_;try simp only[zS]
 refine zP 11 11 (.bool th) HU.o ?_;try simp only[zS]
 refine qad (by kernel_rfl) ?_ _;have Kx:Below w3.heap.size w3 W1:=KJ.o.trans (K0.o.mono KJ.o.size);have Hw:=(Kx.block OB (by have:=Hr.o;have:=hU.o;omega)).trans HI.o;have q2:W1.cell? ⟨OB,2,none⟩=some (.slice KA kn kc):=zC Hw;have q3:W1.cell? ⟨OB,3,none⟩=some (.slice VA vn vc):=zC Hw;obtain⟨kb,hkb⟩:∃ b,decide (1≤kn∧kn≤24)=b:=⟨_,rfl⟩;obtain⟨vb,hvb⟩:∃ b,decide (vn≤160)=b:=⟨_,rfl⟩;have HQ:=qlh (w:=W1) (A:=KA) kn kc;have HS:=qjN (w:=W1) (A:=VA) vn vc;rw[hkb]at HQ;rw[hvb]at HS;have KN:=zH HQ;have kr:=zH HS;have K7:=zH hkb;have kq:=zH hvb;have Hg:=zH Kx;have K2:=zH Hw;clear HQ HS hkb hvb Kx Hw;go_upto_region 5 with fail
 go_cut [12] (fun s12 wx=>s12=.bool (kb&&vb)∧wx=W1)
 case first=>
  cases kb with
  | true=>
   go_wp2_with (first|(go_at_call 30;refine KN.o.mono ?_;rintro e w5 ⟨rfl,rfl⟩)|(go_at_call 31;refine kr.o.mono ?_;rintro e w5 ⟨rfl,rfl⟩))
   go_meet
   case rel=>exact⟨rfl,rfl⟩
  | false=>
   go_wp2_with (go_at_call 30;refine KN.o.mono ?_;rintro e w5 ⟨rfl,rfl⟩)
   go_meet
   case rel=>exact⟨rfl,rfl⟩
 case rest=>
  rename World=>wc;obtain⟨rfl,rfl⟩:=hcut;go_upto_if 49 with fail
  have HR:StM (fun b=>b<w.heap.size∧¬SU F G T D Rn Ro b) wc B D t now old pages dims a G T F Rn Ro:=H7.o.below Hg.o;have g2:wc.cell? ⟨D,2,none⟩=some (.pointer (some ⟨T,0,none⟩)):=zC HR.sd.box;have hq:=Kg.o.below (zac _) Hg.o;have HX:=H5.o.below (zac _) Hg.o;have hM:=Hg.o.size;have Hs:=zH HR;have Hm:=zH hq;have HM:=zH HX;have Kq:=zH hM;obtain⟨l,hl⟩:∃ l,(if put then putR key val now else delR key now)=l:=⟨_,rfl⟩;have hR:=zH hl;clear HR hq HX hM q2 q3 hl;go_cut [12,13,14] (fun s12 s13 s14 wx=>ChC L pages n mm (fun b=>b<w.heap.size∧¬SU F G T D Rn Ro b) B D t now old l dims a G T F Rn Ro put th wc s12 s13 s14 wx)
  case first=>
   cases put with
   | true=>
    obtain⟨r,hr⟩:∃ r,putT 0 t key val=r:=⟨_,rfl⟩;have KB:mm=m+1:=HB.o;have Hc:=qky (value:=val) (key:=key) (there:=th) HG.o hO.o (by omega) hQ.o;have Hy:=qgP (c:=c2) (cv:=c3) Hs.o.sd.tr HG.o.std.on (by have:=HG.o.wt;omega) (TreeIs.trp HG.o.std.now HG.o.std.pages) (Hm.o.byN Hh.o) Hh.o (HM.o.byN Ht.o) Ht.o (fun hk hv=>HG.o.news hO.o (by rw[zaB (by simp)];omega) hQ.o hk (fun x e=>by cases e;exact hv));rw[hr]at Hc Hy;rw[Hh.o,Ht.o,K7.o,kq.o]at Hc;have Kj:=zH Hy;have Hn:=zH Hc;clear Hy Hc hr;go_wp2_with (go_at_call 15;refine Kj.o.mono ?_;rintro e w6 ⟨F6,rfl,htr6,hx6⟩;have HN:=zH htr6;have Kp:=zH hx6;clear htr6 hx6)
    go_meet
    case rel=>
     obtain⟨k1,k2⟩:=Hs.o.tree HN.o Kp.o;have e1:mm=m+1:=HB.o;have e2:putR key val now=l:=hR.o;subst e1;subst e2;exact⟨_,_,_,_,_,rfl,rfl,rfl,k1,k2,Hn.o⟩
   | false=>
    obtain⟨r,hr⟩:∃ r,delT 0 t key (getR key now)=r:=⟨_,rfl⟩;have KB:mm=m:=HB.o;have Hc:=qj2 (key:=key) HG.o hO.o (by omega) hQ.o;have Hk:ByS wc (fun b=>b<wc.heap.size∧¬GF F G b∧b≠T∧b≠1) A2 key:=(qcJ Hm.o Hh.o).mono fun b hb=>by
     have h0:=HW.o;have h1:=Hi.o.b1;have h2:=Hi.o.live D (.inr (.inl rfl));have h3:=Hi.o.lo D (.inr (.inl rfl));have h4:=Hi.o.live T (.inl (.inr rfl));exact⟨hb.2,fun hf=>by have:=Hi.o.live b (.inl (.inl hf));omega,by omega,by omega⟩
    have HZ:kn≤c2:=by
     obtain⟨A',c',e,hh⟩:=Hm.o.slice;cases e;exact hh
    have Hy:=qeK (r:=getR key now) Hs.o.sd.tr HG.o.std.on (by have:=HG.o.wt;omega) (TreeIs.trp HG.o.std.now HG.o.std.pages) Hk Hh.o HZ (fun hk=>HG.o.get_none key hk) (HG.o.get_at key) (fun hk=>HG.o.news hO.o (by rw[zaw rfl];omega) hQ.o hk (fun x e=>by cases e));unfold DeF at Hy;rw[hr,Ko.o]at Hy;rw[hr,Ko.o]at Hc;obtain⟨is,his⟩:∃ b,(th&&decide (r.1=0))=b:=⟨_,rfl⟩;rw[his]at Hy Hc;have Kj:=zH Hy;have Hn:=zH Hc;clear Hy Hc hr his Hk HZ;go_wp2_with (go_at_call 17;refine Kj.o.mono ?_;rintro e w6 ⟨F6,rfl,htr6,hx6⟩;have HN:=zH htr6;have Kp:=zH hx6;clear htr6 hx6)
    go_meet
    case rel=>
     obtain⟨k1,k2⟩:=Hs.o.tree HN.o Kp.o;have e1:mm=m:=HB.o;have e2:delR key now=l:=hR.o;subst e1;subst e2;exact⟨_,_,_,_,_,rfl,rfl,rfl,k1,k2,Hn.o⟩
  case rest=>
   rename World=>wr;obtain⟨may,is,e,t',F',rfl,rfl,rfl,hH,hxt,Hc⟩:=hcut;have kz:=hxt.touch.size;have Ku:OB<wc.heap.size:=by have:=Kq.o;have:=Hr.o;have:=hU.o;omega
   have Hp:∀ b,OB≤b→¬SU F G T D Rn Ro b:=fun b hb hu=>by
    have:=Hi.o.live b hu;have:=HW.o;omega
   have hs:∀ b,OB≤b→b<wc.heap.size→¬SU F' G T D Rn Ro b:=fun b hb hl hu=>by
    rcases hxt.sub b hu with h1|h1
    ·exact Hp b hb h1
    ·omega
   have Hx:=(hxt.touch.block OB Ku (Hp OB (zac _))).trans ((Hg.o.block OB (by have:=Hr.o;have:=hU.o;omega)).trans HI.o);have HD:By wr A2 key:=(qcJ Hm.o Hh.o).by_.touchL hxt.touch (fun ad e h0=>Hp _ (by have:=((qcJ Hm.o Hh.o).blk ad e h0).1;omega));have HE:By wr A3 val:=(qcJ HM.o Ht.o).by_.touchL hxt.touch (fun ad e h0=>Hp _ (by have:=((qcJ HM.o Ht.o).blk ad e h0).1;have:=Hr.o;omega));have Hv:Below w.heap.size w wc:=by rw[hOB];exact HF.o.trans (Hg.o.mono (by have:=hU.o;have:=Hr.o;omega))
   have hA:By wr KA key:=(HK.o.by_.below Hv).touchL hxt.touch (fun ad e h0=>(HK.o.blk ad e h0).2);have hB:By wr VA val:=(HV.o.by_.below Hv).touchL hxt.touch (fun ad e h0=>(HV.o.blk ad e h0).2);have q2:wr.cell? ⟨OB,2,none⟩=some (.slice KA kn kc):=zC Hx;have q3:wr.cell? ⟨OB,3,none⟩=some (.slice VA vn vc):=zC Hx;have kA:=qbe c2 HD Hh.o;have kB:=qbe kc hA Hh.o;have kC:=qbe c3 HE Ht.o;have kD:=qbe vc hB Ht.o;have Kb:=zH Hx;have Km:=zH hH;have Hj:=zH hxt;have Hn:=zH Hc;have Kn:=zH hs;have Kh:=zH Ku;have h7:=zH Hv;clear hH hxt kz Hp hs Hx HD HE hA hB Hc Ku Hv g2;go_upto_if 79 with fail
   obtain⟨ga,ga1,ga2,ga3⟩:=qjV H4.o (by have:=KG.o.size;rw[za2,ha.o]at this;omega);obtain⟨gb,gb1,gb2,gb3⟩:=qjV H5.o (by have:=KH.o.size;rw[za2]at this;omega);have kw:w3.heap.size≤wc.heap.size:=Hg.o.size;have ky:=Hj.o.touch.size;have KF:=HH.o.size;have ka:wr.heap[ga]?=w2.heap[ga]?:=(Hj.o.touch.block ga (by omega) fun hu=>by
    have h1:=Hi.o.live ga hu;have:=HW.o;omega).trans ((Hg.o.block ga (by omega)).trans (HH.o.block ga ga2))
   have KY:wr.heap[gb]?=w3.heap[gb]?:=(Hj.o.touch.block gb (by omega) fun hu=>by
    have h1:=Hi.o.live gb hu;have:=HW.o;have:=Hr.o;omega).trans (Hg.o.block gb (by omega))
   have K4:=zH (ga3.keep ka);have K5:=zH (gb3.keep KY);have Kf:=zH (show OB<ga∧ga<wc.heap.size∧OB<gb∧gb<wc.heap.size∧ga≠gb from⟨by omega,by omega,by have:=Hr.o;omega,by omega,by omega⟩);clear ga1 ga2 ga3 gb1 gb2 gb3 kw ky KF ka KY kA kB kC kD q2 q3;go_wp2_with fail
   go_loopw [15] (fun s15 wx=>∃ i:Nat,s15=.int .i64 i∧i≤kn∧Touch (fun b=>b=ga) wr wx∧ByC wx ga kn A2) (fun s15 _=>kn-(RowKit.intOf s15).toNat)
   case atStart=>exact⟨0,rfl,za7 _,Touch.refl _ _,K4.o⟩
   case round=>
    rename World=>wx;obtain⟨i,rfl,hi,ht,Hk⟩:=hrel;by_cases hik:i<kn
    ·obtain⟨rfl,cur,hc1,HZ⟩:=Hk (by omega);have h1:(i:Int)<(kn:Int):=by omega
     have h0:(0:Int)≤(i:Int):=by omega
     obtain⟨cv,hcv⟩:∃ x,cur[i]?=some x:=⟨_,zbq (by omega)⟩;have q1:wx.cell? ⟨ga,i,none⟩=some cv:=by rw[zan _ _ _ _ _ _ hc1];exact hcv
     have q4:wx.frozen? ⟨ga,i,none⟩=false:=zaQ _ _ _ _ _ hc1;have HT:=zH ht;have HY:=zH Hk;clear ht Hk hc1 HZ hcv;go_wp2;refine⟨⟨i+1,by go_num,by omega,Touch.setCell (F:=fun b=>b=ga) HT.o (p:=⟨ga,i,none⟩) rfl _,HY.o.set _⟩,by simp[RowKit.intOf];omega⟩
    ·have kt:¬((i:Int)<(kn:Int)):=by omega
     have HT:=zH ht;clear ht Hk;go_wp2_with fail
     have Ke:=zH (K5.o.keep (HT.o.block gb (by have:=Kf.o;have:=Hj.o.touch.size;omega) (fun e=>Kf.o.2.2.2.2 e.symm)));go_loopw [16] (fun s16 wy=>∃ i:Nat,s16=.int .i64 i∧i≤vn∧Touch (fun b=>b=gb) wx wy∧ByC wy gb vn A3) (fun s16 _=>vn-(RowKit.intOf s16).toNat)
     case atStart=>exact⟨0,rfl,za7 _,Touch.refl _ _,Ke.o⟩
     case round=>
      rename World=>wy;obtain⟨j,rfl,hj,ht,Hk⟩:=hrel;by_cases hjk:j<vn
      ·obtain⟨rfl,cur,hc1,HZ⟩:=Hk (by omega);have h1:(j:Int)<(vn:Int):=by omega
       have h0:(0:Int)≤(j:Int):=by omega
       obtain⟨cv,hcv⟩:∃ x,cur[j]?=some x:=⟨_,zbq (by omega)⟩;have q1:wy.cell? ⟨gb,j,none⟩=some cv:=by rw[zan _ _ _ _ _ _ hc1];exact hcv
       have q4:wy.frozen? ⟨gb,j,none⟩=false:=zaQ _ _ _ _ _ hc1;have kj:=zH ht;have HY:=zH Hk;clear ht Hk hc1 HZ hcv;go_wp2;refine⟨⟨j+1,by go_num,by omega,Touch.setCell (F:=fun b=>b=gb) kj.o (p:=⟨gb,j,none⟩) rfl _,HY.o.set _⟩,by simp[RowKit.intOf];omega⟩
      ·have ks:¬((j:Int)<(vn:Int)):=by omega
       have HA:Touch (fun b=>b=ga∨b=gb) wr wy:=(HT.o.mono fun b _ h=>.inl h).trans (ht.mono fun b _ h=>.inr h);have hn:=Kf.o;have hX:∀ b,(b=ga∨b=gb)→OB<b∧b<wc.heap.size:=fun b hb=>by rcases hb with rfl|rfl<;>omega
       have hH:StM (fun b=>b<w.heap.size∧¬SU F G T D Rn Ro b) wy B D t' now old pages dims a G T F' Rn Ro:=Km.o.touch HA (fun b hb=>by
        have h1:=hX b hb;have h2:=HW.o;have h3:=Hi.o.b1;have h4:=Hi.o.live D (.inr (.inl rfl));have h5:=Hi.o.lo D (.inr (.inl rfl));exact⟨Kn.o b (by omega) h1.2,fun hv=>by have:=hv.1;omega,by omega⟩)
       have hz:=(HA.block OB (by have:=Kh.o;have:=Hj.o.touch.size;omega) (fun hb=>by have:=hX OB hb;omega)).trans Kb.o;have KD:wc.heap.size≤wy.heap.size:=zah Hj.o.touch.size HA.size;have hD:Ext (SU F G T D Rn Ro) (SU F' G T D Rn Ro) w wy:=by
        have h0:=h7.o;have kI:=HW.o;refine⟨⟨HA.os.trans (Hj.o.touch.os.trans h0.os),HA.tape.trans (Hj.o.touch.tape.trans h0.tape),HA.output.trans (Hj.o.touch.output.trans h0.output),zah h0.size KD,fun b hb hu=>?_⟩,fun b hb=>?_⟩
        ·exact(HA.block b (by have:=h0.size;have:=Hj.o.touch.size;omega) (fun hb2=>by have:=hX b hb2;omega)).trans ((Hj.o.touch.block b (by have:=h0.size;omega) hu).trans (h0.block b hb))
        ·rcases Hj.o.sub b hb with h|h
         ·exact .inl h
         ·exact .inr (zah h0.size h)
       have kF:=zH HA;have Ho:=zH hH;have H1:=zH hz;have Hb:=zH hD;have KP:=zH KD;clear HA hn hX hH hz hD KD ht Hk;rcases Hn.o with⟨he,hp,hm,ht'⟩|⟨he,hm,hr,hp,ht'⟩|⟨he,hm,hdk⟩|⟨he,hm,hit,hgd⟩
       ·subst he hp hm ht';go_wp2;go_ret;exact⟨rfl,_,_,_,_,_,_,_,_,_,_,Ho.o,Hb.o,HG.o.mono (by omega) (by rw[HB.o];omega),by omega,by omega⟩
       ·subst he hm ht';rw[KO.o]at hr;have ku:(rm:Int)<16:=by omega
        have kJ:decide ((rm:Int)<16)=true:=zas ku;have HP:=zH hp;clear hp;cases put with
        | true=>
         go_wp2;go_ret;exact⟨rfl,_,_,_,_,_,_,_,_,_,_,Ho.o,Hb.o,HG.o.mono (by omega) (by rw[HB.o];omega),by omega,by omega⟩
        | false=>
         obtain rfl:is=false:=HP.o.elim (fun h=>by cases h) id;go_wp2;go_ret;exact⟨rfl,_,_,_,_,_,_,_,_,_,_,Ho.o,Hb.o,HG.o.mono (by omega) (by rw[HB.o];omega),by omega,by omega⟩
       ·subst he hm;have Hf:Below wy.heap.size wy wy.drew:=(zai _ _).drew;have He:=Ho.o.below Hf;have Ha:=zH (show wy.drew.cell? ⟨OB,4,none⟩=some (.slice CA pn pc)∧wy.drew.cell? ⟨D,4,none⟩=some (.pointer (some ⟨Ro,0,none⟩))from⟨zC ((Hf.block OB (by have:=Kh.o;have:=KP.o;omega)).trans H1.o),zC He.sd.box⟩);obtain⟨i0,hi0,iz0,iz1,iz2⟩:=zaT qiL;have KR:∀ ad,CA=some ad→¬SU F' G T D Rn Ro ad.block:=fun ad e hu=>by
         rcases Hb.o.sub _ hu with h1|h1
         ·exact(H2.o ad e).1 h1
         ·have:=(H2.o ad e).2;omega
        have Kc:=zH (fun(W:World) (hb:Below wy.drew.heap.size wy.drew W) (hc:W.cell? ⟨wy.drew.heap.size,0,none⟩=some (.pointer (some ⟨Ro,0,none⟩)))=>qfA (kc:=pc) (KA:=CA) (mn:=1) (mc:=1) (mb:=wy.drew.heap.size) (mo:=0) (rs:=[(Ro,old)]) (keep:=keep) (He.below hb) hdk.off hdk.tp hdk.most HG.o.le (hdk.old.boot keep) (by have:=HG.o.now;have:=HG.o.old;omega) (by have:=HG.o.old;omega)
         (qaM HC.o (by have:=Hb.o.touch.size;have:=hb.size;have:=Hf.size;omega) (fun b off e=>have h9:b<w.heap.size:=(H2.o _ e).2;(hb.block b (by have:=Hb.o.touch.size;have:=Hf.size;omega)).trans ((Hf.block b (by have:=Hb.o.touch.size;omega)).trans (Hb.o.touch.block b (H2.o _ e).2 (H2.o _ e).1)))) kg.o KR
         (fun hu=>by have:=He.live _ hu;omega) (fun r hr=>.inl (za3.1 hr)) (fun k r hk=>by
          obtain rfl:k=0:=by have:=(zae.1 hk).1;simp at this;omega
          cases hk;exact hc) rfl (by omega) ⟨_,za3.2 rfl,rfl⟩ hd)
        rw[ke.o]at Kc;have KI:=zH Hf;have HJ:=zH hdk;clear Hf He KR hdk;go_upto_region 28 with fail
        refine qac (S:=fun W'=>W'.cell? ⟨OB,4,none⟩=some (.slice CA pn pc)∧W'.cell? ⟨D,4,none⟩=some (.pointer (some ⟨Ro,0,none⟩))) [10] (by kernel_rfl) Ha.o (fun _=>?_);generalize wy.drew=W8 at *;refine zP 0 122 (.bool true) Ha.o ?_;try simp only[zS]
        refine zP 1 123 (.bool true) Ha.o ?_;try simp only[zS]
        refine zP 2 124 (.pointer (some ⟨D,0,none⟩)) Ha.o ?_;try simp only[zS]
        refine zP 3 125 (.pointer (some ⟨OB,4,none⟩)) Ha.o ?_;try simp only[zS]
        refine zL 4 126 (.slice CA pn pc) rfl (Or.inl ⟨by rfl,fun W' hS=>by obtain⟨hS1,hS2⟩:=hS;go_simp⟩) (qaa Ha.o) ?_;try simp only[zS]
        refine zP 5 127 (.pointer (some ⟨D,0,none⟩)) Ha.o ?_;try simp only[zS]
        refine zP 6 128 (.pointer (some ⟨D,0,none⟩)) Ha.o ?_;try simp only[zS]
        refine zP 7 129 (.pointer (some ⟨D,4,none⟩)) Ha.o ?_;try simp only[zS]
        refine zE 8 130 rfl (fun Kr hKr=>?_);refine Eq.mpr (zaw (by rfl)) ?_;refine qbs 30 (.tmp 129) rfl D 4 (.pointer (some ⟨Ro,0,none⟩)) _ rfl Ha.o.2 Tryz.underlying30 rfl ?_;refine hKr.out (.pointer (some ⟨Ro,0,none⟩)) _ (qaa Ha.o) (fun _=>?_);clear hKr Kr;try simp only[zS]
        refine zE 9 131 rfl (fun Kr hKr=>?_);refine Eq.mpr (zaw (by rfl)) ?_;refine qaP 41 (.tmp 130) rfl Tryz.underlying41 hi0 iz0 iz1 (by decide) (by decide) (.pointer (some ⟨Ro,0,none⟩)) rfl [.pointer (some ⟨Ro,0,none⟩)] (by rfl) rfl ?_;have hw:Below W8.heap.size W8 (W8.alloc (.cells [Value.pointer (some ⟨Ro,0,none⟩)].toArray 30)):=zB _ _;have KZ:=zH hw;have H3:=zH (Kc.o _ hw (zC (zaf W8 _)));have K3:=zH (show(W8.alloc (.cells [Value.pointer (some ⟨Ro,0,none⟩)].toArray 30)).cell? ⟨OB,4,none⟩=some (.slice CA pn pc)∧(W8.alloc (.cells [Value.pointer (some ⟨Ro,0,none⟩)].toArray 30)).cell? ⟨D,4,none⟩=some (.pointer (some ⟨Ro,0,none⟩))from⟨(zaR (hw.block OB (cell_lt Ha.o.1))).trans Ha.o.1,(zaR (hw.block D (cell_lt Ha.o.2))).trans Ha.o.2⟩);obtain⟨NB,hNB⟩:∃ x,W8.heap.size=x:=⟨_,rfl⟩;rw[hNB]at H3⊢;clear hw Kc hNB;generalize W8.alloc (.cells [Value.pointer (some ⟨Ro,0,none⟩)].toArray 30)=W9 at *;refine hKr.out (.slice (some ⟨NB,0,none⟩) 1 1) _ (qaa K3.o) (fun _=>?_);clear hKr Kr;try simp only[zS]
        refine zE 10 132 rfl (fun Kr hKr=>?_);go_simp;go_at_call 25
        refine H3.o.mono ?_;rintro e W1 ⟨rfl,hrest⟩;have ki:=zH hrest;clear hrest;refine hKr.out (.bool true) _ (qaf 10 (by rfl) (by kernel_rfl)) (fun _=>?_);clear hKr Kr;try simp only[zS]
        refine zR 11 133 (.bool true) (qaf 10 (by rfl) (by kernel_rfl)) ?_;try simp only[zS]
        refine zR 12 6 (.bool true) (qaf 10 (by rfl) (by kernel_rfl)) ?_;try simp only[zS]
        refine qad (by kernel_rfl) ?_ _;go_wp2;go_ret;obtain⟨V',G',T',Rn',Ro',h1,h2⟩:=ki.o;exact⟨rfl,V',_,_,_,_,G',T',_,Rn',Ro',h1,(Hb.o.trans (Ext.of (Touch.of_below (KI.o.trans (KZ.o.mono KI.o.size))))).trans h2,Gd.opened (HJ.o.old.boot keep) rfl (za7 _) (by have:=HG.o.gen;show t.g.gen≤_;omega) HJ.o.most HJ.o.tp (by have:=HG.o.old;rw[HB.o];omega),by omega,by omega⟩
       ·subst he hm hit;have Hf:Below wy.heap.size wy wy.drew:=(zai _ _).drew;have He:=Ho.o.below Hf;have H0:=(Hf.block OB (by have:=Kh.o;have:=KP.o;omega)).trans H1.o;have hZ:By wy.drew KA key:=(HK.o.by_.touchL Hb.o.touch (fun ad e h0=>(HK.o.blk ad e h0).2)).below Hf;have KE:By wy.drew VA val:=(HV.o.by_.touchL Hb.o.touch (fun ad e h0=>(HV.o.blk ad e h0).2)).below Hf;obtain⟨RA4,rc4,hrn4⟩:=He.rn;have hY:¬(Rn<w.heap.size∧¬SU F G T D Rn Ro Rn):=fun h=>h.2 (.inr (.inr (.inl rfl)));have KL:=zH Hf;have H8:=zH He;have hP:=zH hgd;cases put with
        | true=>
         obtain rfl:putR key val now=l:=hR.o;have hp:=hgd.srt.2 _ (qlm key val now);have Kz:kn≤24:=by rw[←Hh.o];exact hp.1.2
         have hI:vn≤160:=by rw[←Ht.o];exact hp.2
         have Kk:=zH (qkI (kc:=kc) (vc:=vc) hrn4 hY hZ Hh.o KE Ht.o (by have:=HL.o;omega) (by omega) (by omega));have Ha:=zH (show wy.drew.cell? ⟨OB,2,none⟩=some (.slice KA kn kc)∧wy.drew.cell? ⟨OB,3,none⟩=some (.slice VA vn vc)∧wy.drew.cell? ⟨D,3,none⟩=some (.pointer (some ⟨Rn,0,none⟩))from⟨zC H0,zC H0,zC He.sd.box⟩);clear Hf He H0 hZ KE hrn4 hY hp Kz hI hgd;go_upto_region 31 with fail
         refine qac (S:=fun W'=>W'.cell? ⟨OB,2,none⟩=some (.slice KA kn kc)∧W'.cell? ⟨OB,3,none⟩=some (.slice VA vn vc)∧W'.cell? ⟨D,3,none⟩=some (.pointer (some ⟨Rn,0,none⟩))) [8] (by kernel_rfl) Ha.o (fun _=>?_);generalize wy.drew=W8 at *;refine zP 0 137 (.pointer (some ⟨D,0,none⟩)) Ha.o ?_;try simp only[zS]
         refine zP 1 138 (.pointer (some ⟨D,0,none⟩)) Ha.o ?_;try simp only[zS]
         refine zP 2 139 (.pointer (some ⟨D,3,none⟩)) Ha.o ?_;try simp only[zS]
         refine zL 3 140 (.pointer (some ⟨Rn,0,none⟩)) rfl (Or.inl ⟨by rfl,fun W' hS=>by obtain⟨hS1,hS2,hS3⟩:=hS;go_simp⟩) (qaa Ha.o) ?_;try simp only[zS]
         refine zP 4 141 (.pointer (some ⟨OB,2,none⟩)) Ha.o ?_;try simp only[zS]
         refine zL 5 142 (.slice KA kn kc) rfl (Or.inl ⟨by rfl,fun W' hS=>by obtain⟨hS1,hS2,hS3⟩:=hS;go_simp⟩) (qaa Ha.o) ?_;try simp only[zS]
         refine zP 6 143 (.pointer (some ⟨OB,3,none⟩)) Ha.o ?_;try simp only[zS]
         refine zL 7 144 (.slice VA vn vc) rfl (Or.inl ⟨by rfl,fun W' hS=>by obtain⟨hS1,hS2,hS3⟩:=hS;go_simp⟩) (qaa Ha.o) ?_;try simp only[zS]
         refine zE 8 145 rfl (fun Kr hKr=>?_);go_simp;go_at_call 32
         refine Kk.o.mono ?_;intro e W9 hrz;have Hq:=H8.o.row hrz;have Kl:=zH Hq;obtain⟨he,-⟩:=hrz;subst he;clear Hq;refine hKr.out (.tuple #[]) _ (qaf 8 (by rfl) (by kernel_rfl)) (fun _=>?_);clear hKr Kr;try simp only[zS]
         refine qad (by kernel_rfl) ?_ _;obtain⟨h1,h2⟩:=Kl.o;have hJ:=(Hb.o.trans (Ext.of (Touch.of_below KL.o))).trans (Ext.of (h2.mono (G:=SU F' G T D Rn Ro) fun b _ e=>.inr (.inr (.inl e))));have H9:=zH hJ;have H6:=zH h1;clear h1 h2 hJ;cases is with
         | true=>
          go_wp2;go_ret;exact⟨rfl,_,_,_,_,_,_,_,_,_,_,H6.o,H9.o,hP.o,by omega,by omega⟩
         | false=>
          go_wp2;go_ret;exact⟨rfl,_,_,_,_,_,_,_,_,_,_,H6.o,H9.o,hP.o,by omega,by omega⟩
        | false=>
         obtain rfl:delR key now=l:=hR.o;have Kk:=zH (qkC (kc:=kc) hrn4 hY hZ Hh.o (by have:=HL.o;omega));have Ha:=zH (show wy.drew.cell? ⟨OB,2,none⟩=some (.slice KA kn kc)∧wy.drew.cell? ⟨OB,3,none⟩=some (.slice VA vn vc)∧wy.drew.cell? ⟨D,3,none⟩=some (.pointer (some ⟨Rn,0,none⟩))from⟨zC H0,zC H0,zC He.sd.box⟩);clear Hf He H0 hZ KE hrn4 hY hgd;go_upto_region 32 with fail
         refine qac (S:=fun W'=>W'.cell? ⟨OB,2,none⟩=some (.slice KA kn kc)∧W'.cell? ⟨OB,3,none⟩=some (.slice VA vn vc)∧W'.cell? ⟨D,3,none⟩=some (.pointer (some ⟨Rn,0,none⟩))) [6] (by kernel_rfl) Ha.o (fun _=>?_);generalize wy.drew=W8 at *;refine zP 0 146 (.pointer (some ⟨D,0,none⟩)) Ha.o ?_;try simp only[zS]
         refine zP 1 147 (.pointer (some ⟨D,0,none⟩)) Ha.o ?_;try simp only[zS]
         refine zP 2 148 (.pointer (some ⟨D,3,none⟩)) Ha.o ?_;try simp only[zS]
         refine zL 3 149 (.pointer (some ⟨Rn,0,none⟩)) rfl (Or.inl ⟨by rfl,fun W' hS=>by obtain⟨hS1,hS2,hS3⟩:=hS;go_simp⟩) (qaa Ha.o) ?_;try simp only[zS]
         refine zP 4 150 (.pointer (some ⟨OB,2,none⟩)) Ha.o ?_;try simp only[zS]
         refine zL 5 151 (.slice KA kn kc) rfl (Or.inl ⟨by rfl,fun W' hS=>by obtain⟨hS1,hS2,hS3⟩:=hS;go_simp⟩) (qaa Ha.o) ?_;try simp only[zS]
         refine zE 6 152 rfl (fun Kr hKr=>?_);go_simp;go_at_call 33
         refine Kk.o.mono ?_;intro e W9 hrz;have Hq:=H8.o.row hrz;have Kl:=zH Hq;obtain⟨he,-⟩:=hrz;subst he;clear Hq;refine hKr.out (.bool (atR key now).2) _ (qaf 6 (by rfl) (by kernel_rfl)) (fun _=>?_);clear hKr Kr;try simp only[zS]
         refine qad (by kernel_rfl) ?_ _;obtain⟨h1,h2⟩:=Kl.o;have hJ:=(Hb.o.trans (Ext.of (Touch.of_below KL.o))).trans (Ext.of (h2.mono (G:=SU F' G T D Rn Ro) fun b _ e=>.inr (.inr (.inl e))));have H9:=zH hJ;have H6:=zH h1;clear h1 h2 hJ;cases is with
         | true=>
          go_wp2;go_ret;exact⟨rfl,_,_,_,_,_,_,_,_,_,_,H6.o,H9.o,hP.o,by omega,by omega⟩
         | false=>
          go_wp2;go_ret;exact⟨rfl,_,_,_,_,_,_,_,_,_,_,H6.o,H9.o,hP.o,by omega,by omega⟩
end Go.Proofs.YtpmebcgmgfcmiaaGreatDoor
