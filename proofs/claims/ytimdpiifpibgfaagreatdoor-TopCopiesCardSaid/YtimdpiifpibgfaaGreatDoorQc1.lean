/- A part of the proof that the law TopCopies returns true for every input. -/
import Derived.Deep.RegionHeld
import Derived.Test.YtimdpiifpibgfaaGreatDoorQc0
set_option linter.all false
set_option maxRecDepth 20000
set_option maxHeartbeats 16000000
open Go.RowKit
namespace Go.Proofs.YtimdpiifpibgfaaGreatDoor
open Tryz
section
section
variable {P:Program} {ops:Array Oper} {Q:Exit→Act→World→Prop} {md:Region.Mode} {S:World→Prop} {X0:List Nat}
def Bc(X:List Nat)(L:Array Bool):Prop:=∀j∈X,L.getD j false=false
theorem aY{X:List Nat}{L:Array Bool}{p:Prop}(h:(X.any λj=>L.getD j false)=true):Bc X L→p:=λhl=>by obtain⟨j,hj,hb⟩:=List.any_eq_true.1 h;rw[hl j hj] at hb;cases hb
def wpAnyL(P:Program)(md:Region.Mode)(ops:Array Oper)(Q:Exit→Act→World→Prop)(S:World→Prop)(X0:List Nat):Nat→Array Bool→Act→World→Prop
 | 0,listed,a,w=>Region.ready md ops listed=[]∧Q .normal a w
 | fuel+1,listed,a,w=>
  (Region.ready md ops listed=[]→Q .normal a w) ∧
  ∀i∈Region.ready md ops listed,wpOp P ops Q i (λa' w'=>(Bc X0 (listed.setIfInBounds i true)→S w')∧wpAnyL P md ops Q S X0 fuel (listed.setIfInBounds i true) a' w') a w
theorem Ko:∀(fuel:Nat) (listed:Array Bool) (a:Act) (w:World),wpAnyL P md ops Q S X0 fuel listed a w→wpAny P md ops Q fuel listed a w
 | 0,_,_,_,h=>h
 | fuel+1,_,_,_,h=>⟨h.1,λi hi=>wpOp_mono (λa' w' h'=>Ko fuel _ a' w' h'.2) (h.2 i hi)⟩
theorem wpAnyL_first{i:Nat}{oi:Oper}{v:Value}{X:List Nat}(hi:ops[i]?=some oi)(hsel:∀(j:Nat) (o:Oper) cs b,ops[j]?=some o→o.op≠.select cs b) (hQ:∀c a w,Q (.panic c) (a.put oi.dst v) w→Q (.panic c) a w) (hX0:∀j∈X0,j∈X) (hXi:i∉X) (hX:∀j∈X,∀oj,ops[j]?=some oj→∃e∈oj.after,Region.binds md e=true∧(e.on=i∨e.on∈X)) :∀(fuel:Nat) (listed:Array Bool) (a:Act) (w:World),(∀j oj,ops[j]?=some oj→j≠i→listed.getD j true=false→(∀e∈oj.after,Region.binds md e=true→e.on≠i)→oi.apart ops oj=true) →i∈Region.ready md ops listed→Bc X listed→YieldsIf P ops S oi v a→S w →wpAnyL P md ops Q S X0 fuel (listed.setIfInBounds i true) (a.put oi.dst v) w→wpAnyL P md ops Q S X0 (fuel+1) listed a w:=by
 intro fuel;induction fuel with
 | zero=>
  intro listed a w _ hr _ hy hS H;refine⟨λh=>(by rw[h] at hr;cases hr),λj hj=>?_⟩;by_cases hji:j=i
  ·subst hji;exact hy.wpOp hi hS ⟨λ_=>hS,H⟩
  ·have:=ready_mono hj hji;rw[H.1] at this;cases this
 | succ fuel ih=>
  intro listed a w hfree hr hl hy hS H;refine⟨λh=>(by rw[h] at hr;cases hr),λj hj=>?_⟩;by_cases hji:j=i
  ·subst hji;exact hy.wpOp hi hS ⟨λ_=>hS,H⟩
  ·have h1:=H.2 j (ready_mono hj hji);obtain⟨hjun,oj,hoj,hall⟩:=mem_ready.1 hj;have hiun:listed.getD i false=false:=by
    have h0:=(mem_ready.1 hr).1;rcases Nat.lt_or_ge i listed.size with h' | h'
    ·simp[h'] at h0 ⊢;exact h0
    ·simp[Array.getElem?_eq_none h']
   have hnot:∀e∈oj.after,Region.binds md e=true→e.on≠i:=λe he hb heq=>by have h2:=hall e he hb;rw[heq,hiun] at h2;cases h2
   have hjX:j∉X:=λhjX=>by
    obtain⟨e,he,hb,hon⟩:=hX j hjX oj hoj;have h2:=hall e he hb;rcases hon with hon|hon
    ·rw[hon,hiun] at h2;cases h2
    ·rw[hl _ hon] at h2;cases h2
   have h2:=wpOp_putIf hoj (hfree j oj hoj hji hjun hnot) (λcs b=>hsel i oi cs b hi) (λcs b=>hsel j oj cs b hoj) hQ hy h1;have hfree':∀k ok,ops[k]?=some ok→k≠i→(listed.setIfInBounds j true).getD k true=false →
     (∀e∈ok.after,Region.binds md e=true→e.on≠i)→oi.apart ops ok=true:=λk ok hk hki hun hno=>by
    refine hfree k ok hk hki ?_ hno;by_cases hjk:j=k
    ·subst hjk;exact hjun
    ·rw[getD_set_ne true hjk] at hun;exact hun
   have hl':Bc X (listed.setIfInBounds j true):=λx hx=>by rw[getD_set_ne (i:=j) (j:=x) false (λhc=>hjX (by rw[hc];exact hx))];exact hl x hx
   have hl0:Bc X0 ((listed.setIfInBounds i true).setIfInBounds j true):=λx hx=>by have hxX:=hX0 x hx;rw[getD_set_ne (i:=j) (j:=x) false (λhc=>hjX (by rw[hc];exact hxX)),getD_set_ne (i:=i) (j:=x) false (λhc=>hXi (by rw[hc];exact hxX))];exact hl x hxX
   refine wpOp_mono (λa' w' h3=>⟨λ_=>h3.2.1 hl0,ih (listed.setIfInBounds j true) a' w' hfree' (ready_mono hr (Ne.symm hji)) hl' h3.1 (h3.2.1 hl0) ?_⟩) h2;rw[Array.setIfInBounds_comm _ _ hji];exact h3.2.2
def VZ(md:Region.Mode)(ops:Array Oper)(X0 X:List Nat)(listed:Array Bool)(i:Nat):Bool:=
 X0.all (λj=>X.contains j)&&X.all λj=>j != i&&(!listed.getD j false&&match ops[j]? with
  | some oj=>oj.after.any λe=>Region.binds md e&&(e.on==i||X.contains e.on)
  | none=>false)
theorem NS{i:Nat}{oi:Oper}{v:Value}{fuel:Nat}{listed:Array Bool}{a:Act}{w:World}(X:List Nat)(d:Option Tmp)(hi:ops[i]?=some oi)(hd:oi.dst=d) (hs:Region.noSelect ops=true) (hf:Region.free md ops listed i=true) (hr:(Region.ready md ops listed).contains i=true) (hx:VZ md ops X0 X listed i=true) (hQ:∀c a w,Q (.panic c) (a.put oi.dst v) w→Q (.panic c) a w) (hy:YieldsIf P ops S oi v a) (hS:S w) (h:wpAnyL P md ops Q S X0 fuel (listed.setIfInBounds i true) (a.put d v) w):wpAnyL P md ops Q S X0 (fuel+1) listed a w:=by subst hd;simp only[VZ,Bool.and_eq_true,List.all_eq_true,bne_iff_ne,Bool.not_eq_true'] at hx;refine wpAnyL_first (X:=X) hi (Region.noSelect_spec hs) hQ (λj hj=>by simpa using hx.1 j hj) (λhc=>(hx.2 i hc).1 rfl) (λj hj oj hoj=>?_) fuel listed a w (Region.free_spec hi hf) (by simpa using hr) (λj hj=>(hx.2 j hj).2.1) hy hS h;have:=(hx.2 j hj).2.2;rw[hoj] at this;obtain⟨e,he,hb⟩:=Array.any_eq_true'.1 this;simp only[Bool.and_eq_true,Bool.or_eq_true,beq_iff_eq] at hb;exact⟨e,he,hb.1,hb.2.imp id λh=>by simpa using h⟩
theorem Po{i:Nat}{oi:Oper}{v:Value}(hi:ops[i]?=some oi)(hsel:∀(j:Nat) (o:Oper) cs b,ops[j]?=some o→o.op≠.select cs b) (hQ:∀c a w,Q (.panic c) (a.put oi.dst v) w→Q (.panic c) a w) (hi0:i∉X0) :∀(fuel:Nat) (listed:Array Bool) (a:Act) (w:World),(∀j oj,ops[j]?=some oj→j≠i→listed.getD j true=false→(∀e∈oj.after,Region.binds md e=true→e.on≠i)→oi.apart ops oj=true) →i∈Region.ready md ops listed→YieldsIf P ops (λ_=>True) oi v a→(Bc X0 listed→S w) →wpAnyL P md ops Q S X0 fuel (listed.setIfInBounds i true) (a.put oi.dst v) w→wpAnyL P md ops Q S X0 (fuel+1) listed a w:=by
 have hset:∀(L:Array Bool),Bc X0 (L.setIfInBounds i true)→Bc X0 L:=λL h x hx=>by rw[←getD_set_ne (i:=i) (j:=x) false (λhc=>hi0 (by rw[hc];exact hx))];exact h x hx
 have hset2:∀(L:Array Bool),Bc X0 L→Bc X0 (L.setIfInBounds i true):=λL h x hx=>by rw[getD_set_ne (i:=i) (j:=x) false (λhc=>hi0 (by rw[hc];exact hx))];exact h x hx
 intro fuel;induction fuel with
 | zero=>
  intro listed a w _ hr hy hS H;refine⟨λh=>(by rw[h] at hr;cases hr),λj hj=>?_⟩;by_cases hji:j=i
  ·subst hji;exact hy.wpOp hi trivial ⟨λh=>hS (hset _ h),H⟩
  ·have:=ready_mono hj hji;rw[H.1] at this;cases this
 | succ fuel ih=>
  intro listed a w hfree hr hy hS H;refine⟨λh=>(by rw[h] at hr;cases hr),λj hj=>?_⟩;by_cases hji:j=i
  ·subst hji;exact hy.wpOp hi trivial ⟨λh=>hS (hset _ h),H⟩
  ·have h1:=H.2 j (ready_mono hj hji);obtain⟨hjun,oj,hoj,hall⟩:=mem_ready.1 hj;have hnot:∀e∈oj.after,Region.binds md e=true→e.on≠i:=λe he hb heq=>by
    have h1:=hall e he hb;have h0:=(mem_ready.1 hr).1;rw[heq] at h1;rcases Nat.lt_or_ge i listed.size with h' | h'
    ·simp[h'] at h0 h1;rw[h0] at h1;cases h1
    ·simp[Array.getElem?_eq_none h'] at h1
   have h2:=wpOp_putIf hoj (hfree j oj hoj hji hjun hnot) (λcs b=>hsel i oi cs b hi) (λcs b=>hsel j oj cs b hoj) hQ hy h1;have hfree':∀k ok,ops[k]?=some ok→k≠i→(listed.setIfInBounds j true).getD k true=false →
     (∀e∈ok.after,Region.binds md e=true→e.on≠i)→oi.apart ops ok=true:=λk ok hk hki hun hno=>by
    refine hfree k ok hk hki ?_ hno;by_cases hjk:j=k
    ·subst hjk;exact hjun
    ·rw[getD_set_ne true hjk] at hun;exact hun
   have hcom:(listed.setIfInBounds i true).setIfInBounds j true=(listed.setIfInBounds j true).setIfInBounds i true:=Array.setIfInBounds_comm _ _ (Ne.symm hji);refine wpOp_mono (λa' w' h3=>⟨λh=>h3.2.1 (by rw[hcom];exact hset2 _ h),ih (listed.setIfInBounds j true) a' w' hfree' (ready_mono hr (Ne.symm hji)) h3.1 (λh=>h3.2.1 (by rw[hcom];exact hset2 _ h)) ?_⟩) h2;rw[←hcom];exact h3.2.2
theorem DI{i:Nat}{oi:Oper}{v:Value}{fuel:Nat}{listed:Array Bool}{a:Act}{w:World}(d:Option Tmp)(hi:ops[i]?=some oi)(hd:oi.dst=d) (hs:Region.noSelect ops=true) (hf:Region.free md ops listed i=true) (hr:(Region.ready md ops listed).contains i=true) (hx:X0.contains i=false) (hQ:∀c a w,Q (.panic c) (a.put oi.dst v) w→Q (.panic c) a w) (hy:YieldsIf P ops (λ_=>True) oi v a) (hS:Bc X0 listed→S w) (h:wpAnyL P md ops Q S X0 fuel (listed.setIfInBounds i true) (a.put d v) w):wpAnyL P md ops Q S X0 (fuel+1) listed a w:=by subst hd;exact Po hi (Region.noSelect_spec hs) hQ (λhc=>by simp[hc] at hx) fuel listed a w (Region.free_spec hi hf) (by simpa using hr) hy hS h
theorem Tm{listed:Array Bool}{a:Act}{w:World}(hr:Region.ready md ops listed=[])(h:Q .normal a w):∀fuel,wpAnyL P md ops Q S X0 fuel listed a w
 | 0=>⟨hr,h⟩
 | _+1=>⟨λ_=>h,by rw[hr];simp⟩
def Aw(P:Program)(md:Region.Mode)(ops:Array Oper)(Q:Exit→Act→World→Prop)(S:World→Prop)(X0:List Nat)(fuel:Nat)(listed:Array Bool)(a:Act)(w:World)(rs:List Nat):Prop:=
 ∀i∈rs,wpOp P ops Q i (λa' w'=>(Bc X0 (listed.setIfInBounds i true)→S w')∧wpAnyL P md ops Q S X0 fuel (listed.setIfInBounds i true) a' w') a w
theorem Aw.nil{fuel:Nat}{listed:Array Bool}{a:Act}{w:World}:Aw P md ops Q S X0 fuel listed a w []:=λ_ h=>by cases h
theorem Aw.cons{fuel:Nat}{listed:Array Bool}{a:Act}{w:World}{i:Nat}{o:Oper}{rs:List Nat}(ho:ops[i]?=some o) (h:∀K':Act→World→Prop,Shut (∀a w,(Bc X0 (listed.setIfInBounds i true)→S w)→wpAnyL P md ops Q S X0 fuel (listed.setIfInBounds i true) a w→K' a w)→if Region.wanted o (yielded ops a.tmps)=true then Oper.wp P o a w K' Q else K' (a.put o.dst undef) w) (hs:Aw P md ops Q S X0 fuel listed a w rs):Aw P md ops Q S X0 fuel listed a w (i :: rs):=λj hj=>by
 rcases List.mem_cons.1 hj with rfl|hj
 ·exact wpOp_step ho (λK' hK=>h K' (λa w hS hW=>hK a w ⟨hS,hW⟩))
 ·exact hs j hj
theorem MF{rs:List Nat}{fuel:Nat}{listed:Array Bool}{a:Act}{w:World}(hr:Region.ready md ops listed=rs)(hne:rs≠[]) (h:Aw P md ops Q S X0 fuel listed a w rs):wpAnyL P md ops Q S X0 (fuel+1) listed a w:=
 ⟨λh0=>absurd (hr▸h0) hne,hr▸h⟩
theorem Bi{id:Nat}{a:Act}{w:World}(hm:P.follows .mixedOrders=true) (h:wpAnyL P .any ops Q S X0 ops.size (Array.replicate ops.size false) a w.drew):(Code.region id ops true).wp P Q a w:=
 wp_region_any hm (Ko _ _ _ _ h)
end
end
end Go.Proofs.YtimdpiifpibgfaaGreatDoor
