/- Texts HeldV RfA RfB. -/
import Derived.Test.YtfcknhbmeofniaaGreatDoorR14
set_option linter.all false
set_option maxRecDepth 100000
set_option maxHeartbeats 16000000
namespace Go.Proofs.YtfcknhbmeofniaaGreatDoor
section
section
variable {P:Program} {ops:Array Oper} {Q:Exit→Act→World→Prop} {md:Region.Mode} {S:World→Prop}
def qmE (ops:Array Oper)(j:Nat):Option Tmp:=(ops[j]?).bind (·.dst)
def qch (ops:Array Oper)(U:List Nat)(k:Nat):Option Nat:=U.find? fun j=>qmE ops j==some k
def actV (ops:Array Oper)(m:List Nat)(vs:Nat→Value)(a0:Act)(l:Array Bool):Act:=
 { tmps:=(Array.range a0.tmps.size).map fun k=>match qch ops m k with
   | some j=>if l.getD j false then vs j else a0.tmps.getD k undef
   | none=>a0.tmps.getD k undef,defers:=a0.defers }
def qkR (md:Region.Mode)(ops:Array Oper)(U:List Nat)(l0:Array Bool):Bool:=
 U.all fun i=>match ops[i]? with
  | none=>false
  | some o=>o.guard.isNone&&(match o.op with | .select _ _=>false|_=>true)&&o.after.toList.all (fun e=>!Region.binds md e||l0.getD e.on false||(U.contains e.on&&decide (e.on<i))) &&
    o.op.operands.toList.all (fun x=>match x with
     | .tmp k=>(match qch ops U k with
      | some j=>o.after.toList.any fun e=>Region.binds md e&&e.on==j
      | none=>true)
     | _=>true) &&
    (match o.dst with
     | some d=>qch ops U d==some i
     | none=>true)&&!(l0.getD i true)
def qda (md:Region.Mode)(ops:Array Oper)(i:Nat):List Nat:=((ops[i]?).map fun o=>(o.after.toList.filter fun e=>Region.binds md e).map (·.on)).getD []
def qjN (md:Region.Mode)(ops:Array Oper)(U:List Nat):List Nat→List Nat→List Nat
 | [],ms=>ms
 | k::ks,ms=>qjN md ops U ks (if ms.contains k&&U.contains k then qda md ops k++ms else ms)
def qkz (md:Region.Mode)(ops:Array Oper)(U:List Nat)(l0:Array Bool):Bool:=
 (List.range ops.size).all fun i=>U.contains i||l0.getD i true||(qda md ops i).any (fun j=>!U.contains j&&!l0.getD j false) ||
  let ms:=qjN md ops U U.reverse (qda md ops i)
  U.all fun j=>ms.contains j
theorem qdl {U:List Nat}{l:Array Bool}(hcl:∀ i∈U,l.getD i false=true→∀ j∈qda md ops i,l.getD j false=true):∀ (ks ms:List Nat),(∀ j∈ms,l.getD j false=true)→∀ j∈qjN md ops U ks ms,l.getD j false=true
 | [],_,h=>h
 | k::ks,ms,h=>by
  refine qdl hcl ks _ ?_;split
  ·rename_i hk;simp only[zaQ,List.contains_iff_mem]at hk;intro j hj;rcases zar.1 hj with h1|h1
   ·exact hcl k hk.2 (h k hk.1) j h1
   ·exact h j h1
  ·exact h
theorem qcz {i:Nat}{o:Oper}{l:Array Bool}(ho:ops[i]?=some o)(hall:∀ e∈o.after,Region.binds md e=true→l.getD e.on false=true):∀ j∈qda md ops i,l.getD j false=true:=fun j hj=>by
 unfold qda at hj;rw[ho]at hj;simp only[zbB,zcx,zbh,zbj]at hj;obtain⟨e,⟨he,hb⟩,rfl⟩:=hj;exact hall e (Array.mem_toList_iff.1 he) hb
def OpY (P:Program)(o:Oper)(ρ:Operand→Value)(w:World)(R:Value→World→Prop):Prop:=
 match (execOp ρ o).run P w with
 | .ok (.value v) w'=>R v w'
 | .ok .skip w'=>R undef w'
 | .ok (.enter f args) w'=>Calls P f args w' fun e w''=>∃ v,e=.returned v∧R v w''
 | _=>False
theorem OpY.val {o:Oper}{ρ:Operand→Value}{w w':World}{R:Value→World→Prop}{v:Value}(h:(execOp ρ o).run P w=.ok (.value v) w')(hR:R v w'):OpY P o ρ w R:=by
 unfold OpY;rw[h];exact hR
theorem OpY.call {o:Oper}{ρ:Operand→Value}{w w':World}{R:Value→World→Prop}{f:FuncId}{args:Array Value}(h:(execOp ρ o).run P w=.ok (.enter f args) w')(hR:Calls P f args w' fun e w''=>∃ v,e=.returned v∧R v w''):OpY P o ρ w R:=by
 unfold OpY;rw[h];exact hR
theorem OpY.wp {o:Oper}{a:Act}{w:World}{R:Value→World→Prop}{K:Act→World→Prop}(h:OpY P o a.eval w R)(hK:∀ v w',R v w'→K (a.put o.dst v) w'):o.wp P a w K Q:=by
 unfold OpY at h;unfold Oper.wp;generalize (execOp a.eval o).run P w=r at h⊢;cases r with
 | ok n w'=>
  cases n with
  | value v=>exact hK _ _ h
  | skip=>exact hK _ _ h
  | enter f args=>
   rw[Oper.upon_enter];refine Calls.mono h fun e w'' he=>?_;obtain⟨v,rfl,hr⟩:=he;exact hK _ _ hr
  | _=>exact h.elim
 | halt x w'=>exact h.elim
theorem qjJ {m:List Nat}{vs:Nat→Value}{a0:Act}{l l':Array Bool}{x:Operand}(h:∀ k j,x=.tmp k→qch ops m k=some j→l.getD j false=l'.getD j false):(actV ops m vs a0 l).eval x=(actV ops m vs a0 l').eval x:=by
 cases x with
 | tmp k=>
  show(actV ops m vs a0 l).tmps.getD k undef=(actV ops m vs a0 l').tmps.getD k undef;unfold actV;simp only[Array.getD_eq_getD_getElem?,Array.getElem?_map];cases hw:qch ops m k with
  | none=>
   by_cases hk:k<a0.tmps.size
   ·simp[hk,hw]
   ·simp[hk]
  | some j=>
   have:=h k j rfl hw;simp only[Array.getD_eq_getD_getElem?]at this;by_cases hk:k<a0.tmps.size
   ·simp[hk,hw,this]
   ·simp[hk]
 | _=>rfl
theorem qkU {m:List Nat}{i:Nat}{vs:Nat→Value}{a0:Act}{l:Array Bool}{dst:Option Tmp}(hi:i<l.size)(hd:∀ d,dst=some d→qch ops m d=some i)(hn:∀ k,qch ops m k=some i→dst=some k) :
  (actV ops m vs a0 l).put dst (vs i)=actV ops m vs a0 (l.setIfInBounds i true):=by
 have key:∀ k,qch ops m k≠some i→(match qch ops m k with
   | some j=>if(l.setIfInBounds i true).getD j false then vs j else a0.tmps.getD k undef
   | none=>a0.tmps.getD k undef)=(match qch ops m k with
   | some j=>if l.getD j false then vs j else a0.tmps.getD k undef
   | none=>a0.tmps.getD k undef):=fun k hk=>by
  cases hw:qch ops m k with
  | none=>rfl
  | some j=>
   have Hb:i≠j:=fun e=>hk (by rw[hw,e]);simp only[Array.getD_eq_getD_getElem?,Array.getElem?_setIfInBounds_ne Hb]
 cases dst with
 | none=>
  show actV ops m vs a0 l=_;unfold actV;congr 1;apply Array.map_congr_left;intro k _;exact(key k (fun e=>by have:=hn k e;cases this)).symm
 | some d=>
  have Ha:=hd d rfl
  suffices ht:(actV ops m vs a0 l).tmps.setIfInBounds d (vs i)=(actV ops m vs a0 (l.setIfInBounds i true)).tmps by
   show(⟨(actV ops m vs a0 l).tmps.setIfInBounds d (vs i),a0.defers⟩:Act)=⟨(actV ops m vs a0 (l.setIfInBounds i true)).tmps,a0.defers⟩;rw[ht]
  unfold actV;apply Array.ext_getElem?;intro k;by_cases hkd:d=k
  ·subst hkd;by_cases hk:d<a0.tmps.size
   ·simp[hk,Ha,hi]
   ·simp[hk]
  ·rw[Array.getElem?_setIfInBounds_ne hkd];simp only[Array.getElem?_map];by_cases hk:k<a0.tmps.size
   ·have:=key k (fun e=>hkd (by have:=hn k e;cases this;rfl));simp only[Array.getElem?_range,zax hk,zbB,this]
   ·simp[hk]
def qfp (U:List Nat)(l0:Array Bool):Array Bool:=U.foldl (fun l i=>l.setIfInBounds i true) l0
theorem qg8:∀ (U:List Nat) (l0:Array Bool),(qfp U l0).size=l0.size
 | [],_=>rfl
 | i::U,l0=>by
  show(qfp U (l0.setIfInBounds i true)).size=_;rw[qg8 U];simp
theorem qhV:∀ (U:List Nat) (l0:Array Bool) (k:Nat),k<l0.size→(qfp U l0)[k]?=if k∈U then some true else l0[k]?
 | [],_,_,_=>by simp[qfp]
 | i::U,l0,k,hk=>by
  show(qfp U (l0.setIfInBounds i true))[k]?=_;rw[qhV U _ k (by simpa using hk)];by_cases h1:k∈U
  ·rw[zax h1,zax (zba _ h1)]
  ·rw[zaC h1];by_cases h2:i=k
   ·subst h2;rw[zax (zbN ..)];simp[hk]
   ·rw[Array.getElem?_setIfInBounds_ne h2,zaC (by simp only[zaB,not_or];exact⟨fun e=>h2 e.symm,h1⟩)]
theorem qjF {U:List Nat}{l0:Array Bool}{vs:Nat→Value}{a0:Act}(f0:Nat)(hnd:U.Nodup)(hv:qkR md ops U l0=true)(hr:qkz md ops U l0=true)(hsz:l0.size=ops.size)(aU:Act)(ha:actV ops U vs a0 (qfp U l0)=aU)
  (hop:∀ i,i∈U→∀ o,ops[i]?=some o→∀ w,S w→OpY P o aU.eval w fun v w'=>v=vs i∧S w')
  (hrest:∀ w,S w→wpAny P md ops Q f0 (qfp U l0) aU w) :
  ∀ (c:Nat) (l:Array Bool) (w:World),l.size=ops.size→(∀ i,i∉U→l[i]?=l0[i]?)→(∀ i∈U,l.getD i false=true→∀ j∈qda md ops i,l.getD j false=true)→(U.filter fun i=>!(l.getD i true)).length=c→S w→wpAny P md ops Q (f0+c) l (actV ops U vs a0 l) w:=by
 simp only[qkR,zbq]at hv;simp only[qkz,zbq,za9,Bool.or_eq_true]at hr;have Hc:∀ i,i∈U→∃ o,ops[i]?=some o∧o.guard=none∧(∀ cs b,o.op≠.select cs b)∧(∀ e∈o.after,Region.binds md e=true→l0.getD e.on false=true∨(e.on∈U∧e.on<i))∧
   (∀ k j,.tmp k∈o.op.operands→qch ops U k=some j→∃ e∈o.after,Region.binds md e=true∧e.on=j)∧(∀ d,o.dst=some d→qch ops U d=some i):=fun i hi=>by
  have:=hv i hi;split at this
  ·cases this
  ·rename_i o ho;simp only[zaQ]at this;obtain⟨⟨⟨⟨⟨h1,h2⟩,h3⟩,h4⟩,h5⟩,_⟩:=this;refine⟨o,ho,by simpa using h1,(fun cs b e=>by rw[e]at h2;cases h2),fun e he hb=>?_,fun k j hk hw=>?_,(fun d hd=>by rw[hd]at h5;simpa using h5)⟩
   ·have:=zbq.1 h3 e (Array.mem_toList_iff.2 he);simp only[hb,Bool.not_true,Bool.false_or,Bool.or_eq_true,zaQ,zbf,List.contains_iff_mem]at this;exact this
   ·have:=zbq.1 h4 _ (Array.mem_toList_iff.2 hk);simp only[hw,List.any_eq_true,zaQ,zbZ]at this;obtain⟨e,he,h6,h7⟩:=this;exact⟨e,Array.mem_toList_iff.1 he,h6,h7⟩
 have Hi:∀ i,i∈U→i<ops.size:=fun i hi=>by
  obtain⟨o,ho,_⟩:=Hc i hi;exact(zaa.1 ho).1
 have g1:∀ (l:Array Bool) (i:Nat) (d:Bool),i<l.size→l[i]?=some (l.getD i d):=fun l i d h=>by
  simp[Array.getD_eq_getD_getElem?,zbp h]
 have g2:∀ (l:Array Bool) (i:Nat) (b d:Bool),l[i]?=some b→l.getD i d=b:=fun l i b d h=>by
  simp[Array.getD_eq_getD_getElem?,h]
 intro c
 induction c with
 | zero=>
  intro l w hl hlo hcl hc hS;have Ha:l=qfp U l0:=by
   apply Array.ext_getElem?;intro i;by_cases hi:i<l0.size
   ·rw[qhV U l0 i hi];by_cases Hb:i∈U
    ·rw[zax Hb];have Hl:=zaX hc;have:i∉U.filter fun i=>!(l.getD i true):=by rw[Hl];exact zch
     simp only[zbj,Hb,true_and,zb3,Bool.not_eq_false]at this;rw[g1 l i true (by omega),this]
    ·rw[zaC Hb];exact hlo i Hb
   ·rw[zaZ (by omega),zaZ (by rw[qg8];omega)]
  rw[Ha,ha];exact hrest w hS
 | succ c ih=>
  intro l w hl hlo hcl hc hS;have Hn:∃ i,i∈U∧l.getD i true=false:=by
   obtain⟨i,hi⟩:∃ i,i∈U.filter fun i=>!(l.getD i true):=zbH _ (fun e=>by rw[e]at hc;cases hc);rw[zbj]at hi;exact⟨i,hi.1,by simpa using hi.2⟩
  have Hq:∀ i∈Region.ready md ops l,i∈U:=fun i hi=>by
   obtain⟨hu,o,ho,Ha⟩:=zcv.1 hi;have Hp:=(zaa.1 ho).1;rcases hr i Hp with((h1|h1)|h1)|h1
   ·exact List.contains_iff_mem.1 h1
   ·exfalso;by_cases hiU:i∈U
    ·have:=hv i hiU;rw[ho]at this;simp only[zaQ]at this;rw[h1]at this;exact absurd this.2 (by simp)
    ·have h2:=hlo i hiU;rw[g1 l0 i true (by omega),h1]at h2;rw[g2 l i true true h2]at hu;cases hu
   ·exfalso;obtain⟨j,hj,hj2⟩:=List.any_eq_true.1 h1;simp only[zaQ,zb3]at hj2;have h3:=qcz ho Ha j hj;have Hg:j∉U:=fun hm=>by
     have:=List.contains_iff_mem.2 hm;rw[hj2.1]at this;cases this
    have h4:=hlo j Hg;by_cases He:j<l0.size
    ·rw[g1 l0 j false He,hj2.2]at h4;rw[g2 l j false false h4]at h3;cases h3
    ·simp[Array.getD_eq_getD_getElem?,zaZ (show l.size≤j by omega)]at h3
   ·exfalso;obtain⟨j,hj,hjl⟩:=Hn;have h2:=qdl hcl U.reverse _ (qcz ho Ha) j (List.contains_iff_mem.1 (h1 j hj));have He:j<l.size:=by have:=Hi j hj;omega
    have h9:=g1 l j true He;rw[hjl]at h9;rw[g2 l j false false h9]at h2;cases h2
  have hb:f0+(c+1)=(f0+c)+1:=by omega
  rw[hb];refine⟨fun h0=>?_,fun i hi=>?_⟩
  ·exfalso;obtain⟨i,hi,hmin⟩:∃ i,(i∈U∧l.getD i true=false)∧∀ j,j<i→¬(j∈U∧l.getD j true=false):=by
    obtain⟨i0,hi0⟩:=Hn
    induction i0 using Nat.strongRecOn with
    | ind i0 ih2=>
     by_cases h:∃ j,j<i0∧(j∈U∧l.getD j true=false)
     ·obtain⟨j,hj,hj2⟩:=h;exact ih2 j hj hj2
     ·exact⟨i0,hi0,fun j hj h2=>h ⟨j,hj,h2⟩⟩
   obtain⟨o,ho,_,_,h3,_⟩:=Hc i hi.1;have:i∈Region.ready md ops l:=zcv.2 ⟨hi.2,o,ho,fun e he hb=>by
    by_cases heU:e.on∈U
    ·have He:e.on<l.size:=by have:=Hi _ heU;omega
     rcases h3 e he hb with h4|h4
     ·have:=hv e.on heU;split at this
      ·cases this
      ·simp only[zaQ]at this;have h5:=this.2;have h6:=g1 l0 e.on false (by omega);rw[h4]at h6;rw[g2 l0 e.on true true h6]at h5;cases h5
     ·have h9:l.getD e.on true≠false:=fun e2=>hmin e.on h4.2 ⟨heU,e2⟩;have Hm:=g1 l e.on true He;rw[show l.getD e.on true=true by simpa using h9]at Hm;exact g2 l e.on true false Hm
    ·rcases h3 e he hb with h4|h4
     ·have h2:=hlo e.on heU;by_cases hes:e.on<l0.size
      ·rw[g1 l0 e.on false hes,h4]at h2;exact g2 l e.on true false h2
      ·simp[Array.getD_eq_getD_getElem?,zaZ (show l0.size≤e.on by omega)]at h4
     ·exact absurd h4.1 heU⟩
   rw[h0]at this;cases this
  ·have Hb:=Hq i hi;obtain⟨hu,o',ho',Ha⟩:=zcv.1 hi;obtain⟨o,ho,hg,hns,_,h4,h5⟩:=Hc i Hb;have Hr:o=o':=zaG (ho.symm.trans ho');rw[←Hr]at Ha;have Hh:i<l.size:=by have:=(zaa.1 ho).1;omega
   have Ho:execOp (actV ops U vs a0 l).eval o=execOp aU.eval o:=by
    rw[←ha];refine execOp_congr o hns fun x hx=>qjJ fun k j hxk hw=>?_;subst hxk;obtain⟨e,he,hb,hej⟩:=h4 k j hx hw;have h1:=Ha e he hb;rw[hej]at h1;have Hg:j∈U:=List.mem_of_find?_eq_some hw;rw[h1];have h6:=qhV U l0 j (by have:=Hi j Hg;omega);rw[zax Hg]at h6;exact(g2 _ j true false h6).symm
   have hY:=hop i Hb o ho w hS;unfold wpOp;rw[ho];simp only[Region.wanted,hg,zb5];refine .inl (OpY.wp (R:=fun v w'=>v=vs i∧S w') ?_ ?_)
   ·unfold OpY at hY⊢;rw[Ho];exact hY
   ·rintro v w' ⟨rfl,hS'⟩;rw[qkU Hh h5 (fun k hk=>by
     have:=List.find?_some hk;simpa [qmE,ho] using this)]
    refine ih _ w' (by simpa using hl) (fun j hj=>?_) (fun x hx hxl j hj=>?_) ?_ hS'
    ·rw[Array.getElem?_setIfInBounds_ne (fun e=>hj (by rw[←e];exact Hb))];exact hlo j hj
    ·have Hf:l.getD j false=true→(l.setIfInBounds i true).getD j false=true:=fun h=>by
      by_cases hij:i=j
      ·subst hij;simp[Array.getD_eq_getD_getElem?,Hh]
      ·rw[zcg false hij];exact h
     apply Hf;by_cases hix:i=x
     ·subst hix;exact qcz ho Ha j hj
     ·rw[zcg false hix]at hxl;exact hcl x hx hxl j hj
    ·have e1:(U.filter fun j=>!((l.setIfInBounds i true).getD j true))=(U.filter fun j=>!(l.getD j true)).filter fun j=>j != i:=by
      rw[List.filter_filter];apply List.filter_congr;intro j _;by_cases hji:i=j
      ·subst hji;simp[Array.getD_eq_getD_getElem?,Hh]
      ·rw[zcg true hji];have:(j != i)=true:=by simpa using fun e=>hji e.symm
       simp[this]
     rw[e1];have Hj:i∈U.filter fun j=>!(l.getD j true):=by
      rw[zbj];exact⟨Hb,by simpa using hu⟩
     have Hk:(U.filter fun j=>!(l.getD j true)).Nodup:=hnd.sublist List.filter_sublist;rw[←Hk.erase_eq_filter i,List.length_erase_of_mem Hj,hc];rfl
def putl:Act→List (Option Tmp)→List Value→Act
 | a,d::ds,v::vs=>putl (a.put d v) ds vs
 | a,_,_=>a
def vsOf:List Nat→List Value→Nat→Value
 | u::us,v::vs,i=>if u=i then v else vsOf us vs i
 | _,_,_=>undef
def OpAll (P:Program)(ops:Array Oper)(S:World→Prop)(ρ:Operand→Value):List Nat→List Value→Prop
 | i::is,v::vs=>(∀ o,ops[i]?=some o→∀ w,S w→OpY P o ρ w fun u w'=>u=v∧S w')∧OpAll P ops S ρ is vs
 | [],[]=>True
 | _,_=>False
theorem OpAll.cons {ρ:Operand→Value}{i:Nat}{is:List Nat}{o:Oper}{v:Value}{vs:List Value}(ho:ops[i]?=some o)(h:∀ w,S w→OpY P o ρ w fun u w'=>u=v∧S w')(hs:OpAll P ops S ρ is vs):OpAll P ops S ρ (i::is) (v::vs):=
 ⟨fun o' ho'=>by rw[ho]at ho';cases ho';exact h,hs⟩
theorem OpAll.at_ {ρ:Operand→Value}:∀ {U:List Nat} {vs:List Value} {i:Nat},OpAll P ops S ρ U vs→U.Nodup→i∈U→∀ o,ops[i]?=some o→∀ w,S w→OpY P o ρ w fun u w'=>u=vsOf U vs i∧S w'
 | [],_,_,_,_,h=>by cases h
 | u::U,[],_,h,_,_=>h.elim
 | u::U,v::vs,i,h,hnd,hi=>by
  intro o ho w hS;show OpY P o ρ w fun x w'=>x=(if u=i then v else vsOf U vs i)∧S w';by_cases hui:u=i
  ·rw[zax hui];exact h.1 o (by rw[hui];exact ho) w hS
  ·rw[zaC hui];rcases zaB.1 hi with e|e
   ·exact absurd e.symm hui
   ·exact OpAll.at_ h.2 (List.nodup_cons.1 hnd).2 e o ho w hS
theorem qaa {o:Oper}{ρ:Operand→Value}{v:Value}(h:∀ W,(execOp ρ o).run P W=.ok (.value v) W):∀ w,S w→OpY P o ρ w fun u w'=>u=v∧S w':=fun w hS=>OpY.val (h w) ⟨rfl,hS⟩
theorem qaw {o:Oper}{ρ:Operand→Value}{v:Value}(h:∀ W,S W→(execOp ρ o).run P W=.ok (.value v) W):∀ w,S w→OpY P o ρ w fun u w'=>u=v∧S w':=fun w hS=>OpY.val (h w hS) ⟨rfl,hS⟩
theorem qbr {o:Oper}{ρ:Operand→Value}{v:Value}(f:FuncId)(args:Array Value)(h:∀ W,(execOp ρ o).run P W=.ok (.enter f args) W)(hc:∀ W,S W→Calls P f args W fun e w'=>e=.returned v∧S w'):∀ w,S w→OpY P o ρ w fun u w'=>u=v∧S w':=
 fun w hS=>OpY.call (h w) ((hc w hS).mono fun e w' he=>⟨v,he.1,rfl,he.2⟩)
theorem qbk (U:List Nat)(ds:List (Option Tmp))(vs:List Value)(S:World→Prop)(f0:Nat){l0:Array Bool}{f:Nat}{a:Act}{w:World}(hnd:decide U.Nodup=true)(hv:qkR md ops U l0=true)(hr:qkz md ops U l0=true)(hsz:l0.size=ops.size)(hf:f=f0+U.length)
  (ha:actV ops U (vsOf U vs) a (qfp U l0)=putl a ds vs)(h0:actV ops U (vsOf U vs) a l0=a)(hS:S w)
  (hop:OpAll P ops S (putl a ds vs).eval U vs)
  (hrest:∀ w,S w→wpAny P md ops Q f0 (qfp U l0) (putl a ds vs) w):wpAny P md ops Q f l0 a w:=by
 have Ha:U.Nodup:=of_decide_eq_true hnd;have Hb:(U.filter fun i=>!(l0.getD i true))=U:=by
  rw[List.filter_eq_self];intro i hi;have:=zbq.1 hv i hi;split at this
  ·cases this
  ·simp only[zaQ]at this;exact this.2
 have:=qjF (vs:=vsOf U vs) f0 Ha hv hr hsz (putl a ds vs) ha (fun i hi o ho=>hop.at_ Ha hi o ho) hrest U.length l0 w hsz (fun _ _=>rfl) (fun i hi hl=>by
  have h1:i∈U.filter fun i=>!(l0.getD i true):=by rw[Hb];exact hi
  have h2:=(zbj.1 h1).2;simp only[zb3]at h2;by_cases his:i<l0.size
  ·simp[Array.getD_eq_getD_getElem?,zbp his]at h2 hl;rw[h2]at hl;cases hl
  ·simp[Array.getD_eq_getD_getElem?,zaZ (show l0.size≤i by omega)]at hl) (by rw[Hb]) hS
 rw[h0]at this;rw[hf];exact this
theorem qbl (n:Nat){id:Nat}{a:Act}{w:World}(hm:P.follows .mixedOrders=true)(hn:ops.size=n)(h:wpAny P .any ops Q n (Array.replicate n false) a w.drew):(Code.region id ops true).wp P Q a w:=by
 subst hn;exact wp_region_any hm h
theorem qhz {l:Array Bool}{a:Act}{w:World}(hr:Region.ready md ops l=[])(h:Q .normal a w):∀ f,wpAny P md ops Q f l a w
 | 0=>⟨hr,h⟩
 | _+1=>⟨fun _=>h,by rw[hr];simp⟩
theorem qhA {i:Nat}{oi:Oper}(dd:Option Nat){v:Value}{fuel:Nat}{listed:Array Bool}{a:Act}{w:World}(hi:ops[i]?=some oi)(hd:oi.dst=dd)
  (hs:Region.noSelect ops=true)(hf:Region.free md ops listed i=true)(hr:(Region.ready md ops listed).contains i=true)
  (hQ:∀ c a w,Q (.panic c) (a.put dd v) w→Q (.panic c) a w)(hy:Yields P ops oi v a)
  (h:wpAny P md ops Q fuel (listed.setIfInBounds i true) (a.put dd v) w):wpAny P md ops Q (fuel+1) listed a w:=by
 subst hd;exact wpAny_take hi hs hf hr hQ hy h
end
end
end Go.Proofs.YtfcknhbmeofniaaGreatDoor
namespace Go.Proofs.YtfcknhbmeofniaaGreatDoor
open Go.RowKit BT
theorem qbh (x:W32)(k:Nat)(m:Int)(w:World)(hm:m=(k:Int))(h1:1≤k)(h31:k≤31) :
  Calls Tryz.prog 98 #[.int .u32 (x.toNat:Int),.int .i64 m] w fun e w'=>e=.returned (.int .u32 ((rr x k).toNat:Int))∧w'=w.drew:=by
 subst hm;obtain⟨s,hs⟩:∃ s,32-k=s:=⟨_,rfl⟩;have e3:IntKind.i64.wrap (32-(k:Int))=(s:Int):=by rw[zaA _ (by omega)];omega
 obtain⟨y,hy⟩:∃ y,x >>> k=y:=⟨_,rfl⟩;obtain⟨z,hz⟩:∃ z,x <<< s=z:=⟨_,rfl⟩;obtain⟨r,hr⟩:∃ r,y ||| z=r:=⟨_,rfl⟩
 have q1:=qmw x k;rw[hy]at q1;have q2:=qmv x s;rw[hz]at q2;have q4:=shlw x s (2 ^ s) rfl;rw[hz]at q4;have q3:=or32 y z;rw[hr]at q3;have s0:(s:Int)≤31:=by omega
 have HR:=zH (show rr x k=r by unfold rr;rw[hs,hy,hz,hr]);clear hs hy hz hr;go_enter Tryz.func98,Tryz.ntmps98
 go_upto_region 1 with fail
 refine qbl 9 (by kernel_rfl) (by kernel_rfl) ?_;refine qbk [0,1,2,3,4,5,6,7,8] [some 5,some 6,some 7,some 8,some 9,some 10,some 11,some 12,some 4] [.int .u32 (x.toNat:Int),.int .i64 (k:Int),.int .u32 (y.toNat:Int),.int .u32 (x.toNat:Int),.int .i64 (k:Int),.int .i64 (s:Int),.int .u32 (z.toNat:Int),.int .u32 (r.toNat:Int),.int .u32 (r.toNat:Int)] (fun W=>W=w.drew) 0 (by kernel_rfl) (by kernel_rfl) (by kernel_rfl) (by kernel_rfl) (by kernel_rfl) (by kernel_rfl) (by kernel_rfl) rfl ?hop ?hrest
 case hop=>
  simp only[putl,Act.put,zaM,List.set_cons_zero,List.set_cons_succ];refine OpAll.cons rfl (qaa (fun W=>by go_simp)) ?_;refine OpAll.cons rfl (qaa (fun W=>by go_simp)) ?_;refine OpAll.cons rfl (qaa (fun W=>by go_simp)) ?_;refine OpAll.cons rfl (qaa (fun W=>by go_simp)) ?_;refine OpAll.cons rfl (qaa (fun W=>by go_simp)) ?_;refine OpAll.cons rfl (qaa (fun W=>by go_simp)) ?_;refine OpAll.cons rfl (qaa (fun W=>by go_simp)) ?_;refine OpAll.cons rfl (qaa (fun W=>by go_simp)) ?_;refine OpAll.cons rfl (qaa (fun W=>by go_simp)) ?_;exact trivial
 case hrest=>
  intro W hW;simp only[putl,Act.put,zaM,List.set_cons_zero,List.set_cons_succ];refine qhz (by kernel_rfl) ?_ _;subst hW;go_wp2;go_ret;exact⟨qcH (by rw[HR.o]),rfl⟩
theorem qjD (b off c:Nat)(t:Nat)(p:Bs)(w:World)(h:By w (some ⟨b,off,none⟩) p)(hl:p.length=64)(ht:t<16)(hc:64≤c)(m:Int)(hm:m=4*(t:Int)) :
  Calls Tryz.prog 97 #[.slice (some ⟨b,off,none⟩) 64 c,.int .i64 m] w fun e w'=>e=.returned (.int .u32 ((qjE p t).toNat:Int))∧w'=w.drew:=by
 obtain⟨i0,hi0⟩:∃ i,4*t=i:=⟨_,rfl⟩;obtain⟨i1,hi1⟩:∃ i,i0+1=i:=⟨_,rfl⟩;obtain⟨i2,hi2⟩:∃ i,i0+2=i:=⟨_,rfl⟩;obtain⟨i3,hi3⟩:∃ i,i0+3=i:=⟨_,rfl⟩;obtain rfl:m=(i0:Int):=by omega
 have w1:IntKind.i64.wrap ((i0:Int)+1)=(i1:Int):=by rw[zaA _ (by omega)];omega
 have w2:IntKind.i64.wrap ((i0:Int)+2)=(i2:Int):=by rw[zaA _ (by omega)];omega
 have w3:IntKind.i64.wrap ((i0:Int)+3)=(i3:Int):=by rw[zaA _ (by omega)];omega
 obtain⟨b',off',e,hb,hcell⟩:=h.at_ (by omega);cases e;have Ha:∀ i,i<64→w.drew.cell? ⟨b,off+i,none⟩=some (.int .u8 ((b8 (p.getD i 0)).toNat:Int)):=fun i hi=>by
  rw[qgE];exact hcell i _ (by rw[zaq,zab (by omega)];rfl)
 obtain⟨z0,hz0⟩:∃ z,b8 (p.getD i0 0)=z:=⟨_,rfl⟩;obtain⟨z1,hz1⟩:∃ z,b8 (p.getD i1 0)=z:=⟨_,rfl⟩;obtain⟨z2,hz2⟩:∃ z,b8 (p.getD i2 0)=z:=⟨_,rfl⟩;obtain⟨z3,hz3⟩:∃ z,b8 (p.getD i3 0)=z:=⟨_,rfl⟩;have HS:=zH (show w.drew.cell? ⟨b,off+i0,none⟩=some (.int .u8 (z0.toNat:Int))∧w.drew.cell? ⟨b,off+i1,none⟩=some (.int .u8 (z1.toNat:Int))∧w.drew.cell? ⟨b,off+i2,none⟩=some (.int .u8 (z2.toNat:Int))∧w.drew.cell? ⟨b,off+i3,none⟩=some (.int .u8 (z3.toNat:Int))by
  rw[←hz0,←hz1,←hz2,←hz3];exact⟨Ha i0 (by omega),Ha i1 (by omega),Ha i2 (by omega),Ha i3 (by omega)⟩)
 have HX:=zH (show qjE p t=z0 <<< 24 ||| z1 <<< 16 ||| z2 <<< 8 ||| z3 by
  unfold qjE wd;rw[hi0,hi1,hi2,hi3,hz0,hz1,hz2,hz3])
 have f0:=qcN z0;have f1:=qcN z1;have f2:=qcN z2;have f3:=qcN z3;have g0:=shlw z0 24 16777216 (by decide);have g1:=shlw z1 16 65536 (by decide);have g2:=shlw z2 8 256 (by decide);have o1:=or32 (z0 <<< 24) (z1 <<< 16);have o2:=or32 (z0 <<< 24 ||| z1 <<< 16) (z2 <<< 8);have o3:=or32 (z0 <<< 24 ||| z1 <<< 16 ||| z2 <<< 8) z3;have l0:(i0:Int)<64:=by omega
 have l1:(i1:Int)<64:=by omega
 have l2:(i2:Int)<64:=by omega
 have l3:(i3:Int)<64:=by omega
 clear hz0 hz1 hz2 hz3 Ha hcell h hm hi0 hi1 hi2 hi3;generalize z0 <<< 24 ||| z1 <<< 16 ||| z2 <<< 8 ||| z3=x at o3 HX
 generalize z0 <<< 24 ||| z1 <<< 16 ||| z2 <<< 8=x2 at o3 o2
 generalize z0 <<< 24 ||| z1 <<< 16=x1 at o2 o1
 generalize z0 <<< 24=y0 at g0 o1;generalize z1 <<< 16=y1 at g1 o1;generalize z2 <<< 8=y2 at g2 o2;go_enter Tryz.func97,Tryz.ntmps97
 go_upto_region 1 with fail
 refine qbl 30 (by kernel_rfl) (by kernel_rfl) ?_;refine qbk [0,1,2,3,4,5,6,7,8,9,10,11,12,13,14,15,16,17,18,19,20,21,22,23,24,25,26,27,28,29] [some 5,some 6,some 7,some 8,some 9,some 10,some 11,some 12,some 13,some 14,some 15,some 16,some 17,some 18,some 19,some 20,some 21,some 22,some 23,some 24,some 25,some 26,some 27,some 28,some 29,some 30,some 31,some 32,some 33,some 4] [.slice (some ⟨b,off,none⟩) 64 c,.int .i64 (i0:Int),.pointer (some ⟨b,off+i0,none⟩),.int .u8 (z0.toNat:Int),.int .u32 (z0.toNat:Int),.int .u32 (y0.toNat:Int),.slice (some ⟨b,off,none⟩) 64 c,.int .i64 (i0:Int),.int .i64 (i1:Int),.pointer (some ⟨b,off+i1,none⟩),.int .u8 (z1.toNat:Int),.int .u32 (z1.toNat:Int),.int .u32 (y1.toNat:Int),.int .u32 (x1.toNat:Int),.slice (some ⟨b,off,none⟩) 64 c,.int .i64 (i0:Int),.int .i64 (i2:Int),.pointer (some ⟨b,off+i2,none⟩),.int .u8 (z2.toNat:Int),.int .u32 (z2.toNat:Int),.int .u32 (y2.toNat:Int),.int .u32 (x2.toNat:Int),.slice (some ⟨b,off,none⟩) 64 c,.int .i64 (i0:Int),.int .i64 (i3:Int),.pointer (some ⟨b,off+i3,none⟩),.int .u8 (z3.toNat:Int),.int .u32 (z3.toNat:Int),.int .u32 (x.toNat:Int),.int .u32 (x.toNat:Int)] (fun W=>W=w.drew) 0 (by kernel_rfl) (by kernel_rfl) (by kernel_rfl) (by kernel_rfl) (by kernel_rfl) (by kernel_rfl) (by kernel_rfl) rfl ?hop ?hrest
 case hop=>
  simp only[putl,Act.put,zaM,List.set_cons_zero,List.set_cons_succ];refine OpAll.cons rfl (qaa (fun W=>by go_simp)) ?_;refine OpAll.cons rfl (qaa (fun W=>by go_simp)) ?_;refine OpAll.cons rfl (qaa (fun W=>by go_simp)) ?_;refine OpAll.cons rfl (qaw (fun W hS=>by obtain rfl:=hS;obtain⟨k0,k1,k2,k3⟩:=HS.o;go_simp)) ?_;refine OpAll.cons rfl (qaa (fun W=>by go_simp)) ?_;refine OpAll.cons rfl (qaa (fun W=>by go_simp)) ?_;refine OpAll.cons rfl (qaa (fun W=>by go_simp)) ?_;refine OpAll.cons rfl (qaa (fun W=>by go_simp)) ?_;refine OpAll.cons rfl (qaa (fun W=>by go_simp)) ?_;refine OpAll.cons rfl (qaa (fun W=>by go_simp)) ?_;refine OpAll.cons rfl (qaw (fun W hS=>by obtain rfl:=hS;obtain⟨k0,k1,k2,k3⟩:=HS.o;go_simp)) ?_;refine OpAll.cons rfl (qaa (fun W=>by go_simp)) ?_;refine OpAll.cons rfl (qaa (fun W=>by go_simp)) ?_;refine OpAll.cons rfl (qaa (fun W=>by go_simp)) ?_;refine OpAll.cons rfl (qaa (fun W=>by go_simp)) ?_;refine OpAll.cons rfl (qaa (fun W=>by go_simp)) ?_;refine OpAll.cons rfl (qaa (fun W=>by go_simp)) ?_;refine OpAll.cons rfl (qaa (fun W=>by go_simp)) ?_;refine OpAll.cons rfl (qaw (fun W hS=>by obtain rfl:=hS;obtain⟨k0,k1,k2,k3⟩:=HS.o;go_simp)) ?_;refine OpAll.cons rfl (qaa (fun W=>by go_simp)) ?_;refine OpAll.cons rfl (qaa (fun W=>by go_simp)) ?_;refine OpAll.cons rfl (qaa (fun W=>by go_simp)) ?_;refine OpAll.cons rfl (qaa (fun W=>by go_simp)) ?_;refine OpAll.cons rfl (qaa (fun W=>by go_simp)) ?_;refine OpAll.cons rfl (qaa (fun W=>by go_simp)) ?_
  refine OpAll.cons rfl (qaa (fun W=>by go_simp)) ?_;refine OpAll.cons rfl (qaw (fun W hS=>by obtain rfl:=hS;obtain⟨k0,k1,k2,k3⟩:=HS.o;go_simp)) ?_;refine OpAll.cons rfl (qaa (fun W=>by go_simp)) ?_;refine OpAll.cons rfl (qaa (fun W=>by go_simp)) ?_;refine OpAll.cons rfl (qaa (fun W=>by go_simp)) ?_;exact trivial
 case hrest=>
  intro W hW;simp only[putl,Act.put,zaM,List.set_cons_zero,List.set_cons_succ];refine qhz (by kernel_rfl) ?_ _;subst hW;go_wp2;go_ret;exact⟨qcH (by rw[HX.o]),rfl⟩
theorem qiT (t:Nat)(w:World)(ht:t<64) :
  Calls Tryz.prog 99 #[.int .i64 t] w fun e w'=>e=.returned (.int .u32 ((kS t).toNat:Int))∧Below w.heap.size w w':=by
 have t1:(t:Int)<64:=by omega
 obtain⟨W,hW⟩:∃ W,w.alloc (.cells #[Value.int .u32 1116352408,Value.int .u32 1899447441,Value.int .u32 3049323471,Value.int .u32 3921009573,Value.int .u32 961987163,Value.int .u32 1508970993,Value.int .u32 2453635748,Value.int .u32 2870763221,Value.int .u32 3624381080,Value.int .u32 310598401,Value.int .u32 607225278,Value.int .u32 1426881987,Value.int .u32 1925078388,Value.int .u32 2162078206,Value.int .u32 2614888103,Value.int .u32 3248222580,Value.int .u32 3835390401,Value.int .u32 4022224774,Value.int .u32 264347078,Value.int .u32 604807628,Value.int .u32 770255983,Value.int .u32 1249150122,Value.int .u32 1555081692,Value.int .u32 1996064986,Value.int .u32 2554220882,Value.int .u32 2821834349,Value.int .u32 2952996808,Value.int .u32 3210313671,Value.int .u32 3336571891,Value.int .u32 3584528711,Value.int .u32 113926993,Value.int .u32 338241895,Value.int .u32 666307205,Value.int .u32 773529912,Value.int .u32 1294757372,Value.int .u32 1396182291,Value.int .u32 1695183700,Value.int .u32 1986661051,Value.int .u32 2177026350,Value.int .u32 2456956037,Value.int .u32 2730485921,Value.int .u32 2820302411,Value.int .u32 3259730800,Value.int .u32 3345764771,Value.int .u32 3516065817,Value.int .u32 3600352804,Value.int .u32 4094571909,Value.int .u32 275423344,Value.int .u32 430227734,Value.int .u32 506948616,Value.int .u32 659060556,Value.int .u32 883997877,Value.int .u32 958139571,Value.int .u32 1322822218,Value.int .u32 1537002063,Value.int .u32 1747873779,Value.int .u32 1955562222,Value.int .u32 2024104815,Value.int .u32 2227730452,Value.int .u32 2361852424,Value.int .u32 2428436474,Value.int .u32 2756734187,Value.int .u32 3204031479,Value.int .u32 3329325298] 126)=W:=⟨_,rfl⟩
 have HB:=zH (show Below w.heap.size w W by rw[←hW];exact zB _ _);have hc:W.cell? ⟨w.heap.size,t,none⟩=some (.int .u32 ((kS t).toNat:Int)):=by
  rw[←hW,zao _ _ _ _ _ _ (zae w _)]
  have e:#[Value.int .u32 1116352408,Value.int .u32 1899447441,Value.int .u32 3049323471,Value.int .u32 3921009573,Value.int .u32 961987163,Value.int .u32 1508970993,Value.int .u32 2453635748,Value.int .u32 2870763221,Value.int .u32 3624381080,Value.int .u32 310598401,Value.int .u32 607225278,Value.int .u32 1426881987,Value.int .u32 1925078388,Value.int .u32 2162078206,Value.int .u32 2614888103,Value.int .u32 3248222580,Value.int .u32 3835390401,Value.int .u32 4022224774,Value.int .u32 264347078,Value.int .u32 604807628,Value.int .u32 770255983,Value.int .u32 1249150122,Value.int .u32 1555081692,Value.int .u32 1996064986,Value.int .u32 2554220882,Value.int .u32 2821834349,Value.int .u32 2952996808,Value.int .u32 3210313671,Value.int .u32 3336571891,Value.int .u32 3584528711,Value.int .u32 113926993,Value.int .u32 338241895,Value.int .u32 666307205,Value.int .u32 773529912,Value.int .u32 1294757372,Value.int .u32 1396182291,Value.int .u32 1695183700,Value.int .u32 1986661051,Value.int .u32 2177026350,Value.int .u32 2456956037,Value.int .u32 2730485921,Value.int .u32 2820302411,Value.int .u32 3259730800,Value.int .u32 3345764771,Value.int .u32 3516065817,Value.int .u32 3600352804,Value.int .u32 4094571909,Value.int .u32 275423344,Value.int .u32 430227734,Value.int .u32 506948616,Value.int .u32 659060556,Value.int .u32 883997877,Value.int .u32 958139571,Value.int .u32 1322822218,Value.int .u32 1537002063,Value.int .u32 1747873779,Value.int .u32 1955562222,Value.int .u32 2024104815,Value.int .u32 2227730452,Value.int .u32 2361852424,Value.int .u32 2428436474,Value.int .u32 2756734187,Value.int .u32 3204031479,Value.int .u32 3329325298]=((List.range 64).map fun t=>Value.int .u32 ((kS t).toNat:Int)).toArray:=by kernel_rfl
  rw[e];simp[ht]
 obtain⟨x,hx⟩:∃ x,kS t=x:=⟨_,rfl⟩;rw[hx]at hc⊢;clear hx;go_enter Tryz.func99,Tryz.ntmps99
 go_upto_region 2 with fail
 clear hW;go_wp2;go_ret;exact⟨rfl,HB.o⟩
end Go.Proofs.YtfcknhbmeofniaaGreatDoor
