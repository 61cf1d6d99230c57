/- A part of the proof of TopReads. -/
import Derived.Deep.RegionHeld
import Derived.Test.YtimdpiifpibgfaaGreatDoorQr0
set_option linter.all false
set_option maxRecDepth 20000
set_option maxHeartbeats 16000000
open Go.RowKit
namespace Go.Proofs.YtimdpiifpibgfaaGreatDoor
open Tryz
section
section
variable {P:Program} {ops:Array Oper} {Q:Exit->Act->World->Prop} {md:Region.Mode} {S:World->Prop} {X0:List Nat}
def Bf(X:List Nat)(L:Array Bool):Prop:=∀j∈X,L.getD j false=false
theorem nR{X:List Nat}{L:Array Bool}{p:Prop}(h:(X.any λj=>L.getD j false)=true):Bf X L->p:=λc=>by obtain⟨j,b,a⟩:=List.any_eq_true.1 h;rw[c j b] at a;cases a
def wpAnyL(P:Program)(md:Region.Mode)(ops:Array Oper)(Q:Exit->Act->World->Prop)(S:World->Prop)(X0:List Nat):Nat->Array Bool->Act->World->Prop
 | 0,listed,a,w=>Region.ready md ops listed=[]/\Q .normal a w
 | fuel+1,listed,a,w=>
  (Region.ready md ops listed=[]->Q .normal a w) /\
  ∀i∈Region.ready md ops listed,wpOp P ops Q i (λa' w'=>(Bf X0 (listed.setIfInBounds i true)->S w')/\wpAnyL P md ops Q S X0 fuel (listed.setIfInBounds i true) a' w') a w
theorem MQ:∀(fuel:Nat) (listed:Array Bool) (a:Act) (w:World),wpAnyL P md ops Q S X0 fuel listed a w->wpAny P md ops Q fuel listed a w
 | 0,_,_,_,h=>h
 | fuel+1,_,_,_,h=>⟨h.1,λi hi=>wpOp_mono (λa' w' h'=>MQ fuel _ a' w' h'.2) (h.2 i hi)⟩
theorem wpAnyL_first{i:Nat}{oi:Oper}{v:Value}{X:List Nat}(hi:ops[i]?=some oi)(hsel:∀(j:Nat) (o:Oper) cs b,ops[j]?=some o->o.op≠.select cs b) (hQ:∀c a w,Q (.panic c) (a.put oi.dst v) w->Q (.panic c) a w) (hX0:∀j∈X0,j∈X) (hXi:i∉X) (hX:∀j∈X,∀oj,ops[j]?=some oj->∃e∈oj.after,Region.binds md e=true/\(e.on=i\/e.on∈X)) :∀(fuel:Nat) (listed:Array Bool) (a:Act) (w:World),(∀j oj,ops[j]?=some oj->j≠i->listed.getD j true=false->(∀e∈oj.after,Region.binds md e=true->e.on≠i)->oi.apart ops oj=true) ->i∈Region.ready md ops listed->Bf X listed->YieldsIf P ops S oi v a->S w ->wpAnyL P md ops Q S X0 fuel (listed.setIfInBounds i true) (a.put oi.dst v) w->wpAnyL P md ops Q S X0 (fuel+1) listed a w:=by
 intro fuel;induction fuel with
 | zero=>
  intro listed a w _ g _ y l H;refine⟨λh=>(by rw[h] at g;cases g),λj r=>?_⟩;by_cases f:j=i
  .subst f;exact y.wpOp hi l ⟨λ_=>l,H⟩
  .have:=ready_mono r f;rw[H.1] at this;cases this
 | succ fuel ih=>
  intro listed a w G g C y l H;refine⟨λh=>(by rw[h] at g;cases g),λj r=>?_⟩;by_cases f:j=i
  .subst f;exact y.wpOp hi l ⟨λ_=>l,H⟩
  .have h1:=H.2 j (ready_mono r f);obtain⟨K,oj,t,F⟩:=mem_ready.1 r;have I:listed.getD i false=false:=by
    have E:=(mem_ready.1 g).1;rcases Nat.lt_or_ge i listed.size with z | z
    .simp[z] at E |-;exact E
    .simp[Array.getElem?_eq_none z]
   have Y:∀e∈oj.after,Region.binds md e=true->e.on≠i:=λe B A O=>by have d:=F e B A;rw[O,I] at d;cases d
   have s:j∉X:=λs=>by
    obtain⟨e,B,A,n⟩:=hX j s oj t;have d:=F e B A;rcases n with n|n
    .rw[n,I] at d;cases d
    .rw[C _ n] at d;cases d
   have d:=wpOp_putIf t (G j oj t f K Y) (λcs b=>hsel i oi cs b hi) (λcs b=>hsel j oj cs b t) hQ y h1;have R:∀k p,ops[k]?=some p->k≠i->(listed.setIfInBounds j true).getD k true=false ->
     (∀e∈p.after,Region.binds md e=true->e.on≠i)->oi.apart ops p=true:=λk p T U M W=>by
    refine G k p T U ?_ W;by_cases J:j=k
    .subst J;exact K
    .rw[getD_set_ne true J] at M;exact M
   have V:Bf X (listed.setIfInBounds j true):=λx u=>by rw[getD_set_ne (i:=j) (j:=x) false (λm=>s (by rw[m];exact u))];exact C x u
   have L:Bf X0 ((listed.setIfInBounds i true).setIfInBounds j true):=λx u=>by have D:=hX0 x u;rw[getD_set_ne (i:=j) (j:=x) false (λm=>s (by rw[m];exact D)),getD_set_ne (i:=i) (j:=x) false (λm=>hXi (by rw[m];exact D))];exact C x D
   refine wpOp_mono (λN Z q=>⟨λ_=>q.2.1 L,ih (listed.setIfInBounds j true) N Z R (ready_mono g (Ne.symm f)) V q.1 (q.2.1 L) ?_⟩) d;rw[Array.setIfInBounds_comm _ _ f];exact q.2.2
def YZ(md:Region.Mode)(ops:Array Oper)(X0 X:List Nat)(listed:Array Bool)(i:Nat):Bool:=
 X0.all (λj=>X.contains j)&&X.all λj=>j != i&&(!listed.getD j false&&match ops[j]? with
  | some oj=>oj.after.any λe=>Region.binds md e&&(e.on==i||X.contains e.on)
  | none=>false)
theorem PQ{i:Nat}{oi:Oper}{v:Value}{fuel:Nat}{listed:Array Bool}{a:Act}{w:World}(X:List Nat)(d:Option Tmp)(hi:ops[i]?=some oi)(hd:oi.dst=d) (hs:Region.noSelect ops=true) (hf:Region.free md ops listed i=true) (hr:(Region.ready md ops listed).contains i=true) (hx:YZ md ops X0 X listed i=true) (hQ:∀c a w,Q (.panic c) (a.put oi.dst v) w->Q (.panic c) a w) (hy:YieldsIf P ops S oi v a) (hS:S w) (h:wpAnyL P md ops Q S X0 fuel (listed.setIfInBounds i true) (a.put d v) w):wpAnyL P md ops Q S X0 (fuel+1) listed a w:=by subst hd;simp only[YZ,Bool.and_eq_true,List.all_eq_true,bne_iff_ne,Bool.not_eq_true'] at hx;refine wpAnyL_first (X:=X) hi (Region.noSelect_spec hs) hQ (λj b=>by simpa using hx.1 j b) (λg=>(hx.2 i g).1 rfl) (λj b m l=>?_) fuel listed a w (Region.free_spec hi hf) (by simpa using hr) (λj b=>(hx.2 j b).2.1) hy hS h;have:=(hx.2 j b).2.2;rw[l] at this;obtain⟨e,k,f⟩:=Array.any_eq_true'.1 this;simp only[Bool.and_eq_true,Bool.or_eq_true,beq_iff_eq] at f;exact⟨e,k,f.1,f.2.imp id λh=>by simpa using h⟩
theorem Rt{i:Nat}{oi:Oper}{v:Value}(hi:ops[i]?=some oi)(hsel:∀(j:Nat) (o:Oper) cs b,ops[j]?=some o->o.op≠.select cs b) (hQ:∀c a w,Q (.panic c) (a.put oi.dst v) w->Q (.panic c) a w) (hi0:i∉X0) :∀(fuel:Nat) (listed:Array Bool) (a:Act) (w:World),(∀j oj,ops[j]?=some oj->j≠i->listed.getD j true=false->(∀e∈oj.after,Region.binds md e=true->e.on≠i)->oi.apart ops oj=true) ->i∈Region.ready md ops listed->YieldsIf P ops (λ_=>True) oi v a->(Bf X0 listed->S w) ->wpAnyL P md ops Q S X0 fuel (listed.setIfInBounds i true) (a.put oi.dst v) w->wpAnyL P md ops Q S X0 (fuel+1) listed a w:=by
 have D:∀(L:Array Bool),Bf X0 (L.setIfInBounds i true)->Bf X0 L:=λL h x l=>by rw[<-getD_set_ne (i:=i) (j:=x) false (λt=>hi0 (by rw[t];exact l))];exact h x l
 have E:∀(L:Array Bool),Bf X0 L->Bf X0 (L.setIfInBounds i true):=λL h x l=>by rw[getD_set_ne (i:=i) (j:=x) false (λt=>hi0 (by rw[t];exact l))];exact h x l
 intro fuel;induction fuel with
 | zero=>
  intro listed a w _ g q s H;refine⟨λh=>(by rw[h] at g;cases g),λj p=>?_⟩;by_cases d:j=i
  .subst d;exact q.wpOp hi trivial ⟨λh=>s (D _ h),H⟩
  .have:=ready_mono p d;rw[H.1] at this;cases this
 | succ fuel ih=>
  intro listed a w A g q s H;refine⟨λh=>(by rw[h] at g;cases g),λj p=>?_⟩;by_cases d:j=i
  .subst d;exact q.wpOp hi trivial ⟨λh=>s (D _ h),H⟩
  .have f:=H.2 j (ready_mono p d);obtain⟨C,oj,y,J⟩:=mem_ready.1 p;have V:∀e∈oj.after,Region.binds md e=true->e.on≠i:=λe M K N=>by
    have f:=J e M K;have z:=(mem_ready.1 g).1;rw[N] at f;rcases Nat.lt_or_ge i listed.size with r | r
    .simp[r] at z f;rw[z] at f;cases f
    .simp[Array.getElem?_eq_none r] at f
   have I:=wpOp_putIf y (A j oj y d C V) (λcs b=>hsel i oi cs b hi) (λcs b=>hsel j oj cs b y) hQ q f;have O:∀k m,ops[k]?=some m->k≠i->(listed.setIfInBounds j true).getD k true=false ->
     (∀e∈m.after,Region.binds md e=true->e.on≠i)->oi.apart ops m=true:=λk m R T F U=>by
    refine A k m R T ?_ U;by_cases B:j=k
    .subst B;exact C
    .rw[getD_set_ne true B] at F;exact F
   have u:(listed.setIfInBounds i true).setIfInBounds j true=(listed.setIfInBounds j true).setIfInBounds i true:=Array.setIfInBounds_comm _ _ (Ne.symm d);refine wpOp_mono (λG W n=>⟨λh=>n.2.1 (by rw[u];exact E _ h),ih (listed.setIfInBounds j true) G W O (ready_mono g (Ne.symm d)) n.1 (λh=>n.2.1 (by rw[u];exact E _ h)) ?_⟩) I;rw[<-u];exact n.2.2
theorem DR{i:Nat}{oi:Oper}{v:Value}{fuel:Nat}{listed:Array Bool}{a:Act}{w:World}(d:Option Tmp)(hi:ops[i]?=some oi)(hd:oi.dst=d) (hs:Region.noSelect ops=true) (hf:Region.free md ops listed i=true) (hr:(Region.ready md ops listed).contains i=true) (hx:X0.contains i=false) (hQ:∀c a w,Q (.panic c) (a.put oi.dst v) w->Q (.panic c) a w) (hy:YieldsIf P ops (λ_=>True) oi v a) (hS:Bf X0 listed->S w) (h:wpAnyL P md ops Q S X0 fuel (listed.setIfInBounds i true) (a.put d v) w):wpAnyL P md ops Q S X0 (fuel+1) listed a w:=by subst hd;exact Rt hi (Region.noSelect_spec hs) hQ (λb=>by simp[b] at hx) fuel listed a w (Region.free_spec hi hf) (by simpa using hr) hy hS h
theorem WR{listed:Array Bool}{a:Act}{w:World}(hr:Region.ready md ops listed=[])(h:Q .normal a w):∀fuel,wpAnyL P md ops Q S X0 fuel listed a w
 | 0=>⟨hr,h⟩
 | _+1=>⟨λ_=>h,by rw[hr];simp⟩
def BD(P:Program)(md:Region.Mode)(ops:Array Oper)(Q:Exit->Act->World->Prop)(S:World->Prop)(X0:List Nat)(fuel:Nat)(listed:Array Bool)(a:Act)(w:World)(rs:List Nat):Prop:=
 ∀i∈rs,wpOp P ops Q i (λa' w'=>(Bf X0 (listed.setIfInBounds i true)->S w')/\wpAnyL P md ops Q S X0 fuel (listed.setIfInBounds i true) a' w') a w
theorem BD.nil{fuel:Nat}{listed:Array Bool}{a:Act}{w:World}:BD P md ops Q S X0 fuel listed a w []:=λ_ h=>by cases h
theorem BD.cons{fuel:Nat}{listed:Array Bool}{a:Act}{w:World}{i:Nat}{o:Oper}{rs:List Nat}(ho:ops[i]?=some o) (h:∀K':Act->World->Prop,Shut (∀a w,(Bf X0 (listed.setIfInBounds i true)->S w)->wpAnyL P md ops Q S X0 fuel (listed.setIfInBounds i true) a w->K' a w)->if Region.wanted o (yielded ops a.tmps)=true then Oper.wp P o a w K' Q else K' (a.put o.dst undef) w) (hs:BD P md ops Q S X0 fuel listed a w rs):BD P md ops Q S X0 fuel listed a w (i :: rs):=λj b=>by
 rcases List.mem_cons.1 b with rfl|b
 .exact wpOp_step ho (λK' c=>h K' (λa w d f=>c a w ⟨d,f⟩))
 .exact hs j b
theorem OU{rs:List Nat}{fuel:Nat}{listed:Array Bool}{a:Act}{w:World}(hr:Region.ready md ops listed=rs)(hne:rs≠[]) (h:BD P md ops Q S X0 fuel listed a w rs):wpAnyL P md ops Q S X0 (fuel+1) listed a w:=
 ⟨λb=>absurd (hr▸b) hne,hr▸h⟩
theorem Bv{id:Nat}{a:Act}{w:World}(hm:P.follows .mixedOrders=true) (h:wpAnyL P .any ops Q S X0 ops.size (Array.replicate ops.size false) a w.drew):(Code.region id ops true).wp P Q a w:=
 wp_region_any hm (MQ _ _ _ _ h)
end
end
end Go.Proofs.YtimdpiifpibgfaaGreatDoor
