/- For every input the law TopFast returns true (a part of the proof). Condition: the listed variables start as the program's text lays them. -/
import Derived.Test.YtimdpiifpibgfaaGreatDoorProg
import Derived.WalkKit
import Derived.ProofKit
import Derived.OpenShut
import Derived.ShutString
import Derived.ChangeOld
import Derived.Below
import Derived.Lib.Hide
import Derived.WalkLawsBesides
import Derived.WalkSpells
import Derived.Laws.BitsAllLaws
import Derived.LoopTactic
import Derived.Laws.CopyOwn
import Derived.OwnWalk
import Derived.BigQuiet
import Derived.Deep.Cut
import Derived.Deep.CutBlock
import Derived.Handy
import Derived.Lib.SlBytesConst
import Derived.Lib.QuietBelow
import Derived.Deep.QuietTactic
import Derived.Deep.RegionHeld
set_option linter.unusedVariables false
set_option linter.unusedSimpArgs false
set_option maxRecDepth 20000
set_option maxHeartbeats 16000000
namespace Go.Proofs.YtimdpiifpibgfaaGreatDoor
section
open Go.RowKit
theorem ret_int {k:IntKind} {a b:Int} (h:a=b):Ending.returned (.int k a)=.returned (.int k b):=by rw [h]
theorem ret_bool {a b:Bool} (h:a=b):Ending.returned (.bool a)=.returned (.bool b):=by rw [h]
def IsBytes (w:World) (a:Option Addr) (len:Nat) (bs:List Nat):Prop:=
 bs.length=len∧len≤281474976710656∧(∀ x∈bs,x<256)∧(0<len→∃ b off,a=some ⟨b,off,none⟩∧b<w.heap.size∧∀ i,i<len→w.cell? ⟨b,off+i,none⟩=some (.int .u8 ((bs.getD i 0:Nat):Int)))
theorem IsBytes.nil (w:World) (a:Option Addr):IsBytes w a 0 []:=⟨rfl,by omega,by simp,fun h=>by omega⟩
theorem IsBytes.len {w:World} {a:Option Addr} {len:Nat} {bs:List Nat} (h:IsBytes w a len bs):bs.length=len:=h.1
theorem IsBytes.below {w w':World} {a:Option Addr} {len:Nat} {bs:List Nat} (h:IsBytes w a len bs) (hb:Below w.heap.size w w'):IsBytes w' a len bs:=by
 obtain⟨h1,h2,h3,h4⟩:=h
 refine⟨h1,h2,h3,fun h=>?_⟩
 obtain⟨b,off,ha,hlt,hc⟩:=h4 h
 exact⟨b,off,ha,Nat.lt_of_lt_of_le hlt hb.size,fun i hi=>by rw [hb.cell (p:=⟨b,off+i,none⟩) hlt];exact hc i hi⟩
theorem add_at (b o j:Nat):Addr.add ⟨b,o,none⟩ j=⟨b,o+j,none⟩:=by
 unfold Addr.add
 split
 ·next h=>subst h;rfl
 ·rfl
def Holds (w:World) (g:Nat) (e:TypeId) (L:List Value):Prop:=w.heap[g]?=some (.cells L.toArray e (0,0))
theorem Holds.cell {w:World} {g:Nat} {e:TypeId} {L:List Value} (h:Holds w g e L) (i:Nat):w.cell? ⟨g,i,none⟩=L[i]?:=by
 unfold Holds at h
 simp [World.cell?,h]
theorem Holds.free {w:World} {g:Nat} {e:TypeId} {L:List Value} (h:Holds w g e L) (i:Nat):w.frozen? ⟨g,i,none⟩=false:=by
 unfold Holds at h
 simp [World.frozen?,h]
theorem Holds.lt {w:World} {g:Nat} {e:TypeId} {L:List Value} (h:Holds w g e L):g<w.heap.size:=by
 unfold Holds at h
 exact (Array.getElem?_eq_some_iff.1 h).1
theorem Holds.set {w:World} {g:Nat} {e:TypeId} {L:List Value} (h:Holds w g e L) (i:Nat) (v:Value):Holds (w.setCell ⟨g,i,none⟩ v) g e (L.set i v):=by
 unfold Holds at *
 simp [World.setCell,Array.getElem?_modify,h]
theorem Holds.below {w w':World} {B g:Nat} {e:TypeId} {L:List Value} (h:Holds w g e L) (hb:Below B w w') (hg:g<B):Holds w' g e L:=by
 unfold Holds at *
 rw [hb.block g hg];exact h
theorem Holds.drewN {w:World} {g:Nat} {e:TypeId} {L:List Value} (h:Holds w g e L) (n:Nat):Holds (w.drewN n) g e L:=h
theorem wpList_make_block {P:Program} (w:World) {ops:Array Oper} {rest:List Oper} {o:Oper} {a:Act} {Q:Exit→Act→World→Prop}
  (hg:o.guard=none) (l c:Operand) (t:TypeId) (hop:o.op=Op.makeSlice t l c) (e:TypeId) (z:Value) (bytes:Nat) (h1:P.underlying t=some (.slice e))
  (h2:(P.info? e).map (fun i=>(i.zero,i.size,i.bytes))=some (some z,1,bytes)) (hz:z.cells=#[z]) (kl kc:IntKind) (L C:Int) (m n:Nat) (hl:a.eval l=.int kl L) (hc:a.eval c=.int kc C) (hL:L=(m:Int)) (hC:C=(n:Int))
  (hmn:m≤n) (b2:bytes*n≤281474976710656) (b3:n≤maxLen)
  (hK:∀ w',Holds w' w.heap.size e (List.replicate n z)→Below w.heap.size w w'→w'.heap.size=w.heap.size+1→wpList P ops Q rest (a.put o.dst (.slice (some ⟨w.heap.size,0,none⟩) m n)) w') :
  wpList P ops Q (o :: rest) a w:=by
 refine wpList_plain hg fun K hK'=>?_
 obtain⟨i,hi,hz0,hz1,hz2⟩:=info_parts h2
 subst hL hC
 have hb:i.bytes*n≤281474976710656:=by rw [hz2];exact b2
 have hr:=run_make (P:=P) w t e i z h1 hi hz0 kl kc (m:Int) (n:Int) (by omega) (by omega) (by rw [← Int.natCast_mul];omega) (by unfold maxLen at b3;omega)
 unfold Oper.wp
 simp only [Int.toNat_natCast] at hr
 simp [execOp,hop,hl,hc,hr,Result.andThen]
 refine hK' _ _ (hK _ ?_ ?_ (by simp))
 ·unfold Holds
  rw [hz1,Nat.mul_one,hz]
  have e2:madeCells #[z] n=(List.replicate n z).toArray:=by rw [← toList_madeCells_one]
  rw [e2]
  show (w.heap.push _)[w.heap.size]?=_
  simp
 ·exact (Below.refl _ _).alloc (Nat.le_refl _) _
def Reads (w:World) (sp:Option Addr) (cs:List Value):Prop:=0<cs.length→∃ b off,sp=some ⟨b,off,none⟩∧b<w.heap.size∧∀ (j:Nat) v,cs[j]?=some v→w.cell? ⟨b,off+j,none⟩=some v
theorem Reads.below {w w':World} {sp:Option Addr} {cs:List Value} (h:Reads w sp cs) (hb:Below w.heap.size w w'):Reads w' sp cs:=fun h0=>by
 obtain⟨b,off,ha,hlt,hc⟩:=h h0
 exact⟨b,off,ha,Nat.lt_of_lt_of_le hlt hb.size,fun j v hv=>by rw [hb.cell (p:=⟨b,off+j,none⟩) hlt];exact hc j v hv⟩
theorem Holds.reads {w:World} {g:Nat} {e:TypeId} {L:List Value} (h:Holds w g e L) (i:Nat) (cs:List Value) (hc:∀ (j:Nat) v,cs[j]?=some v→L[i+j]?=some v):Reads w (some ⟨g,i,none⟩) cs:=
 fun _=>⟨g,i,rfl,h.lt,fun j v hv=>by rw [h.cell];exact hc j v hv⟩
def cells8 (l:List Nat):List Value:=l.map fun (x:Nat)=>.int .u8 (x:Int)
theorem length_cells8 (l:List Nat):(cells8 l).length=l.length:=by simp [cells8]
theorem cells8_one (l:List Nat):∀ v∈cells8 l,v.oneCell'=true:=by simp [cells8,Value.oneCell']
theorem IsBytes.reads {w:World} {a:Option Addr} {len:Nat} {bs:List Nat} (h:IsBytes w a len bs):Reads w a (cells8 bs):=by
 obtain⟨h1,h2,h3,h4⟩:=h
 intro h0
 rw [length_cells8,h1] at h0
 obtain⟨b,off,rfl,hlt,hc⟩:=h4 h0
 refine⟨b,off,rfl,hlt,fun j v hv=>?_⟩
 simp only [cells8,List.getElem?_map,Option.map_eq_some_iff] at hv
 obtain⟨x,hx,rfl⟩:=hv
 have hj:j<bs.length:=(List.getElem?_eq_some_iff.1 hx).1
 rw [hc j (by omega)]
 simp [hx]
theorem bcell {W w1:World} (hb:Below W.heap.size W w1):(∀ b o,b<W.heap.size→w1.cell? ⟨b,o,none⟩=W.cell? ⟨b,o,none⟩)∧(∀ b o,b<W.heap.size→w1.frozen? ⟨b,o,none⟩=W.frozen? ⟨b,o,none⟩):=
 ⟨fun b o h=>hb.cell (p:=⟨b,o,none⟩) h,fun b o h=>hb.frozen (p:=⟨b,o,none⟩) h⟩
theorem below_next {w w1 w2:World} (h:Below w.heap.size w w1) (h2:Below w1.heap.size w1 w2):Below w.heap.size w w2:=h.trans (h2.mono h.size)
theorem calls_regrown {P:Program} {f:FuncId} {args:Array Value} {w:World} {d:Nat} {os:Array Obj} {v:Value}
  (h:∀ W,Below w.heap.size w W→Calls P f args W fun e w'=>e=.returned v∧Below W.heap.size W w') :
  Calls P f args (Sort.grow (redrawn w d) os) fun e w''=>e=.returned v∧∃ p:Regrown,w''=Sort.grow (redrawn w p.d) p.os:=
 Calls.regrown_of (h _ (below_regrown w d os))
theorem below_of_regrown {w w':World} (h:∃ p:Regrown,w'=Sort.grow (redrawn w p.d) p.os):Below w.heap.size w w':=by
 obtain⟨p,rfl⟩:=h;exact below_regrown _ _ _
theorem Holds.grown {w:World} {g:Nat} {e:TypeId} {L:List Value} (h:Holds w g e L) (d:Nat) (os:Array Obj) (i:Nat):(Sort.grow (redrawn w d) os).cell? ⟨g,i,none⟩=L[i]?:=by
 rw [(below_regrown w d os).cell (p:=⟨g,i,none⟩) h.lt];exact h.cell i
theorem holds_alloc (w:World) (e:TypeId) (L:List Value):Holds (w.alloc (.cells L.toArray e)) w.heap.size e L:=by
 unfold Holds
 show (w.heap.push _)[w.heap.size]?=_
 simp
structure Touch (g:Nat) (w w':World):Prop where
 os:w'.os=w.os
 tape:w'.tape=w.tape
 output:w'.output=w.output
 size:w.heap.size≤w'.heap.size
 block:∀ k,k<w.heap.size→k≠g→w'.heap[k]?=w.heap[k]?
theorem Touch.refl (g:Nat) (w:World):Touch g w w:=⟨rfl,rfl,rfl,Nat.le_refl _,fun _ _ _=>rfl⟩
theorem Touch.trans {g:Nat} {a b c:World} (h:Touch g a b) (k:Touch g b c):Touch g a c:=
 ⟨k.os.trans h.os,k.tape.trans h.tape,k.output.trans h.output,Nat.le_trans h.size k.size,fun i hi hg=>(k.block i (Nat.lt_of_lt_of_le hi h.size) hg).trans (h.block i hi hg)⟩
theorem Touch.of_below {g:Nat} {w w':World} (h:Below w.heap.size w w'):Touch g w w':=⟨h.os,h.tape,h.output,h.size,fun k hk _=>h.block k hk⟩
theorem Touch.next {g:Nat} {w w1 w2:World} (h:Touch g w w1) (h2:Below w1.heap.size w1 w2):Touch g w w2:=h.trans (.of_below h2)
theorem Touch.setCell {g:Nat} {w w':World} (h:Touch g w w') (i:Nat) (v:Value):Touch g w (w'.setCell ⟨g,i,none⟩ v):=
 h.trans ⟨rfl,rfl,rfl,by simp [World.setCell],fun k _ hk=>Below.heap_setCell _ _ _ _ hk⟩
theorem Touch.drew {g:Nat} {w w':World} (h:Touch g w w'):Touch g w w'.drew:=⟨h.os,h.tape,h.output,h.size,h.block⟩
theorem Touch.below {g B:Nat} {w w':World} (h:Touch g w w') (hB:B≤g) (hs:B≤w.heap.size):Below B w w':=
 ⟨h.os,h.tape,h.output,h.size,fun k hk=>h.block k (by omega) (by omega)⟩
theorem Holds.touch {w w':World} {g g':Nat} {e:TypeId} {L:List Value} (h:Holds w g' e L) (ht:Touch g w w') (hg:g'≠g):Holds w' g' e L:=by
 have:=h.lt
 unfold Holds at *
 rw [ht.block g' this hg];exact h
end
section
open Go.RowKit
section
variable {P:Program} {ops:Array Oper} {Q:Exit→Act→World→Prop} {md:Region.Mode} {S:World→Prop} {X0:List Nat}
def LateFree (X:List Nat) (L:Array Bool):Prop:=∀ j∈X,L.getD j false=false
theorem notLate {X:List Nat} {L:Array Bool} {p:Prop} (h:(X.any fun j=>L.getD j false)=true):LateFree X L→p:=fun hl=>by
 obtain⟨j,hj,hb⟩:=List.any_eq_true.1 h
 rw [hl j hj] at hb
 cases hb
def wpAnyL (P:Program) (md:Region.Mode) (ops:Array Oper) (Q:Exit→Act→World→Prop) (S:World→Prop) (X0:List Nat):Nat→Array Bool→Act→World→Prop
 | 0,listed,a,w=>Region.ready md ops listed=[]∧Q .normal a w
 | fuel+1,listed,a,w=>
  (Region.ready md ops listed=[]→Q .normal a w) ∧
  ∀ i∈Region.ready md ops listed,wpOp P ops Q i (fun a' w'=>(LateFree X0 (listed.setIfInBounds i true)→S w')∧wpAnyL P md ops Q S X0 fuel (listed.setIfInBounds i true) a' w') a w
theorem wpAny_of_late:∀ (fuel:Nat) (listed:Array Bool) (a:Act) (w:World),wpAnyL P md ops Q S X0 fuel listed a w→wpAny P md ops Q fuel listed a w
 | 0,_,_,_,h=>h
 | fuel+1,_,_,_,h=>⟨h.1,fun i hi=>wpOp_mono (fun a' w' h'=>wpAny_of_late fuel _ a' w' h'.2) (h.2 i hi)⟩
theorem wpAnyL_first {i:Nat} {oi:Oper} {v:Value} {X:List Nat} (hi:ops[i]?=some oi) (hsel:∀ (j:Nat) (o:Oper) cs b,ops[j]?=some o→o.op≠.select cs b)
  (hQ:∀ c a w,Q (.panic c) (a.put oi.dst v) w→Q (.panic c) a w) (hX0:∀ j∈X0,j∈X) (hXi:i∉X)
  (hX:∀ j∈X,∀ oj,ops[j]?=some oj→∃ e∈oj.after,Region.binds md e=true∧(e.on=i∨e.on∈X)) :
  ∀ (fuel:Nat) (listed:Array Bool) (a:Act) (w:World),
   (∀ j oj,ops[j]?=some oj→j≠i→listed.getD j true=false→(∀ e∈oj.after,Region.binds md e=true→e.on≠i)→oi.apart ops oj=true) →
   i∈Region.ready md ops listed→LateFree X listed→YieldsIf P ops S oi v a→S w →
   wpAnyL P md ops Q S X0 fuel (listed.setIfInBounds i true) (a.put oi.dst v) w→wpAnyL P md ops Q S X0 (fuel+1) listed a w:=by
 intro fuel
 induction fuel with
 | zero=>
  intro listed a w _ hr _ hy hS H
  refine⟨fun h=>(by rw [h] at hr;cases hr),fun j hj=>?_⟩
  by_cases hji:j=i
  ·subst hji;exact hy.wpOp hi hS ⟨fun _=>hS,H⟩
  ·have:=ready_mono hj hji
   rw [H.1] at this
   cases this
 | succ fuel ih=>
  intro listed a w hfree hr hl hy hS H
  refine⟨fun h=>(by rw [h] at hr;cases hr),fun j hj=>?_⟩
  by_cases hji:j=i
  ·subst hji;exact hy.wpOp hi hS ⟨fun _=>hS,H⟩
  ·have h1:=H.2 j (ready_mono hj hji)
   obtain⟨hjun,oj,hoj,hall⟩:=mem_ready.1 hj
   have hiun:listed.getD i false=false:=by
    have h0:=(mem_ready.1 hr).1
    rcases Nat.lt_or_ge i listed.size with h' | h'
    ·simp [h'] at h0 ⊢;exact h0
    ·simp [Array.getElem?_eq_none h']
   have hnot:∀ e∈oj.after,Region.binds md e=true→e.on≠i:=fun e he hb heq=>by
    have h2:=hall e he hb
    rw [heq,hiun] at h2
    cases h2
   have hjX:j∉X:=fun hjX=>by
    obtain⟨e,he,hb,hon⟩:=hX j hjX oj hoj
    have h2:=hall e he hb
    rcases hon with hon|hon
    ·rw [hon,hiun] at h2;cases h2
    ·rw [hl _ hon] at h2;cases h2
   have h2:=wpOp_putIf hoj (hfree j oj hoj hji hjun hnot) (fun cs b=>hsel i oi cs b hi) (fun cs b=>hsel j oj cs b hoj) hQ hy h1
   have hfree':∀ k ok,ops[k]?=some ok→k≠i→(listed.setIfInBounds j true).getD k true=false →
     (∀ e∈ok.after,Region.binds md e=true→e.on≠i)→oi.apart ops ok=true:=fun k ok hk hki hun hno=>by
    refine hfree k ok hk hki ?_ hno
    by_cases hjk:j=k
    ·subst hjk;exact hjun
    ·rw [getD_set_ne true hjk] at hun;exact hun
   have hl':LateFree X (listed.setIfInBounds j true):=fun x hx=>by
    rw [getD_set_ne (i:=j) (j:=x) false (fun hc=>hjX (by rw [hc];exact hx))];exact hl x hx
   have hl0:LateFree X0 ((listed.setIfInBounds i true).setIfInBounds j true):=fun x hx=>by
    have hxX:=hX0 x hx
    rw [getD_set_ne (i:=j) (j:=x) false (fun hc=>hjX (by rw [hc];exact hxX)),getD_set_ne (i:=i) (j:=x) false (fun hc=>hXi (by rw [hc];exact hxX))];exact hl x hxX
   refine wpOp_mono (fun a' w' h3=>⟨fun _=>h3.2.1 hl0,ih (listed.setIfInBounds j true) a' w' hfree' (ready_mono hr (Ne.symm hji)) hl' h3.1 (h3.2.1 hl0) ?_⟩) h2
   rw [Array.setIfInBounds_comm _ _ hji]
   exact h3.2.2
def lateB (md:Region.Mode) (ops:Array Oper) (X0 X:List Nat) (listed:Array Bool) (i:Nat):Bool:=
 X0.all (fun j=>X.contains j)&&X.all fun j=>j != i&&(!listed.getD j false&&match ops[j]? with
  | some oj=>oj.after.any fun e=>Region.binds md e&&(e.on==i||X.contains e.on)
  | none=>false)
theorem wpAnyL_take {i:Nat} {oi:Oper} {v:Value} {fuel:Nat} {listed:Array Bool} {a:Act} {w:World} (X:List Nat) (d:Option Tmp) (hi:ops[i]?=some oi) (hd:oi.dst=d)
  (hs:Region.noSelect ops=true) (hf:Region.free md ops listed i=true) (hr:(Region.ready md ops listed).contains i=true) (hx:lateB md ops X0 X listed i=true)
  (hQ:∀ c a w,Q (.panic c) (a.put oi.dst v) w→Q (.panic c) a w) (hy:YieldsIf P ops S oi v a) (hS:S w)
  (h:wpAnyL P md ops Q S X0 fuel (listed.setIfInBounds i true) (a.put d v) w):wpAnyL P md ops Q S X0 (fuel+1) listed a w:=by
 subst hd
 simp only [lateB,Bool.and_eq_true,List.all_eq_true,bne_iff_ne,Bool.not_eq_true'] at hx
 refine wpAnyL_first (X:=X) hi (Region.noSelect_spec hs) hQ (fun j hj=>by simpa using hx.1 j hj) (fun hc=>(hx.2 i hc).1 rfl) (fun j hj oj hoj=>?_) fuel listed a w (Region.free_spec hi hf) (by simpa using hr) (fun j hj=>(hx.2 j hj).2.1) hy hS h
 have:=(hx.2 j hj).2.2
 rw [hoj] at this
 obtain⟨e,he,hb⟩:=Array.any_eq_true'.1 this
 simp only [Bool.and_eq_true,Bool.or_eq_true,beq_iff_eq] at hb
 exact⟨e,he,hb.1,hb.2.imp id fun h=>by simpa using h⟩
theorem wpAnyL_first0 {i:Nat} {oi:Oper} {v:Value} (hi:ops[i]?=some oi) (hsel:∀ (j:Nat) (o:Oper) cs b,ops[j]?=some o→o.op≠.select cs b)
  (hQ:∀ c a w,Q (.panic c) (a.put oi.dst v) w→Q (.panic c) a w) (hi0:i∉X0) :
  ∀ (fuel:Nat) (listed:Array Bool) (a:Act) (w:World),
   (∀ j oj,ops[j]?=some oj→j≠i→listed.getD j true=false→(∀ e∈oj.after,Region.binds md e=true→e.on≠i)→oi.apart ops oj=true) →
   i∈Region.ready md ops listed→YieldsIf P ops (fun _=>True) oi v a→(LateFree X0 listed→S w) →
   wpAnyL P md ops Q S X0 fuel (listed.setIfInBounds i true) (a.put oi.dst v) w→wpAnyL P md ops Q S X0 (fuel+1) listed a w:=by
 have hset:∀ (L:Array Bool),LateFree X0 (L.setIfInBounds i true)→LateFree X0 L:=fun L h x hx=>by
  rw [← getD_set_ne (i:=i) (j:=x) false (fun hc=>hi0 (by rw [hc];exact hx))];exact h x hx
 have hset2:∀ (L:Array Bool),LateFree X0 L→LateFree X0 (L.setIfInBounds i true):=fun L h x hx=>by
  rw [getD_set_ne (i:=i) (j:=x) false (fun hc=>hi0 (by rw [hc];exact hx))];exact h x hx
 intro fuel
 induction fuel with
 | zero=>
  intro listed a w _ hr hy hS H
  refine⟨fun h=>(by rw [h] at hr;cases hr),fun j hj=>?_⟩
  by_cases hji:j=i
  ·subst hji;exact hy.wpOp hi trivial ⟨fun h=>hS (hset _ h),H⟩
  ·have:=ready_mono hj hji
   rw [H.1] at this
   cases this
 | succ fuel ih=>
  intro listed a w hfree hr hy hS H
  refine⟨fun h=>(by rw [h] at hr;cases hr),fun j hj=>?_⟩
  by_cases hji:j=i
  ·subst hji;exact hy.wpOp hi trivial ⟨fun h=>hS (hset _ h),H⟩
  ·have h1:=H.2 j (ready_mono hj hji)
   obtain⟨hjun,oj,hoj,hall⟩:=mem_ready.1 hj
   have hnot:∀ e∈oj.after,Region.binds md e=true→e.on≠i:=fun e he hb heq=>by
    have h1:=hall e he hb
    have h0:=(mem_ready.1 hr).1
    rw [heq] at h1
    rcases Nat.lt_or_ge i listed.size with h' | h'
    ·simp [h'] at h0 h1;rw [h0] at h1;cases h1
    ·simp [Array.getElem?_eq_none h'] at h1
   have h2:=wpOp_putIf hoj (hfree j oj hoj hji hjun hnot) (fun cs b=>hsel i oi cs b hi) (fun cs b=>hsel j oj cs b hoj) hQ hy h1
   have hfree':∀ k ok,ops[k]?=some ok→k≠i→(listed.setIfInBounds j true).getD k true=false →
     (∀ e∈ok.after,Region.binds md e=true→e.on≠i)→oi.apart ops ok=true:=fun k ok hk hki hun hno=>by
    refine hfree k ok hk hki ?_ hno
    by_cases hjk:j=k
    ·subst hjk;exact hjun
    ·rw [getD_set_ne true hjk] at hun;exact hun
   have hcom:(listed.setIfInBounds i true).setIfInBounds j true=(listed.setIfInBounds j true).setIfInBounds i true:=Array.setIfInBounds_comm _ _ (Ne.symm hji)
   refine wpOp_mono (fun a' w' h3=>⟨fun h=>h3.2.1 (by rw [hcom];exact hset2 _ h),ih (listed.setIfInBounds j true) a' w' hfree' (ready_mono hr (Ne.symm hji)) h3.1 (fun h=>h3.2.1 (by rw [hcom];exact hset2 _ h)) ?_⟩) h2
   rw [← hcom]
   exact h3.2.2
theorem wpAnyL_move {i:Nat} {oi:Oper} {v:Value} {fuel:Nat} {listed:Array Bool} {a:Act} {w:World} (d:Option Tmp) (hi:ops[i]?=some oi) (hd:oi.dst=d)
  (hs:Region.noSelect ops=true) (hf:Region.free md ops listed i=true) (hr:(Region.ready md ops listed).contains i=true) (hx:X0.contains i=false)
  (hQ:∀ c a w,Q (.panic c) (a.put oi.dst v) w→Q (.panic c) a w) (hy:YieldsIf P ops (fun _=>True) oi v a) (hS:LateFree X0 listed→S w)
  (h:wpAnyL P md ops Q S X0 fuel (listed.setIfInBounds i true) (a.put d v) w):wpAnyL P md ops Q S X0 (fuel+1) listed a w:=by
 subst hd
 exact wpAnyL_first0 hi (Region.noSelect_spec hs) hQ (fun hc=>by simp [hc] at hx) fuel listed a w (Region.free_spec hi hf) (by simpa using hr) hy hS h
theorem wpAnyL_done {listed:Array Bool} {a:Act} {w:World} (hr:Region.ready md ops listed=[]) (h:Q .normal a w):∀ fuel,wpAnyL P md ops Q S X0 fuel listed a w
 | 0=>⟨hr,h⟩
 | _+1=>⟨fun _=>h,by rw [hr];simp⟩
def AllReadyL (P:Program) (md:Region.Mode) (ops:Array Oper) (Q:Exit→Act→World→Prop) (S:World→Prop) (X0:List Nat) (fuel:Nat) (listed:Array Bool) (a:Act) (w:World) (rs:List Nat):Prop:=
 ∀ i∈rs,wpOp P ops Q i (fun a' w'=>(LateFree X0 (listed.setIfInBounds i true)→S w')∧wpAnyL P md ops Q S X0 fuel (listed.setIfInBounds i true) a' w') a w
theorem AllReadyL.nil {fuel:Nat} {listed:Array Bool} {a:Act} {w:World}:AllReadyL P md ops Q S X0 fuel listed a w []:=fun _ h=>by cases h
theorem AllReadyL.cons {fuel:Nat} {listed:Array Bool} {a:Act} {w:World} {i:Nat} {o:Oper} {rs:List Nat} (ho:ops[i]?=some o)
  (h:∀ K':Act→World→Prop,Shut (∀ a w,(LateFree X0 (listed.setIfInBounds i true)→S w)→wpAnyL P md ops Q S X0 fuel (listed.setIfInBounds i true) a w→K' a w)→if Region.wanted o (yielded ops a.tmps)=true then Oper.wp P o a w K' Q else K' (a.put o.dst undef) w)
  (hs:AllReadyL P md ops Q S X0 fuel listed a w rs):AllReadyL P md ops Q S X0 fuel listed a w (i :: rs):=fun j hj=>by
 rcases List.mem_cons.1 hj with rfl|hj
 ·exact wpOp_step ho (fun K' hK=>h K' (fun a w hS hW=>hK a w ⟨hS,hW⟩))
 ·exact hs j hj
theorem wpAnyL_ready {rs:List Nat} {fuel:Nat} {listed:Array Bool} {a:Act} {w:World} (hr:Region.ready md ops listed=rs) (hne:rs≠[])
  (h:AllReadyL P md ops Q S X0 fuel listed a w rs):wpAnyL P md ops Q S X0 (fuel+1) listed a w:=
 ⟨fun h0=>absurd (hr▸h0) hne,hr▸h⟩
theorem wp_region_late {id:Nat} {a:Act} {w:World} (hm:P.follows .mixedOrders=true)
  (h:wpAnyL P .any ops Q S X0 ops.size (Array.replicate ops.size false) a w.drew):(Code.region id ops true).wp P Q a w:=
 wp_region_any hm (wpAny_of_late _ _ _ _ h)
end
end
section
open Go.RowKit
theorem zA {α:Type _} (l:List α) (i:Nat) (x:α):l.toArray.setIfInBounds i x=(l.set i x).toArray:=List.setIfInBounds_toArray l i x
theorem zB {α:Type _} (l:List α) (a b:α):(a :: l).set 0 b=b :: l:=rfl
theorem zC {α:Type _} (l:List α) (a b:α) (n:Nat):(a :: l).set (n+1) b=a :: l.set n b:=rfl
theorem yA {α:Type _} (l:List α) (a:α):(a :: l)[0]?=some a:=rfl
theorem yB {α:Type _} (l:List α) (a:α) (n:Nat):(a :: l)[n+1]?=l[n]?:=rfl
section
variable {P:Program} {md:Region.Mode} {ops:Array Oper} {Q:Exit→Act→World→Prop} {S:World→Prop} {X0:List Nat}
theorem mvA (i:Nat) (d:Option Tmp) {oi:Oper} {v:Value} {fuel:Nat} {listed:Array Bool} {a:Act} {w:World} (hS:LateFree X0 listed→S w) (h:wpAnyL P md ops Q S X0 fuel (listed.setIfInBounds i true) (a.put d v) w)
  (hi:ops[i]?=some oi:=by rfl) (hd:oi.dst=d:=by rfl) (hy:YieldsIf P ops (fun _=>True) oi v a:=by first|(refine Or.inl ⟨by rfl,?_⟩;intro w _;go_simp;try with_reducible rfl))
  (hs:Region.noSelect ops=true:=by as_aux_lemma=>kernel_rfl) (hf:Region.free md ops listed i=true:=by as_aux_lemma=>kernel_rfl) (hr:(Region.ready md ops listed).contains i=true:=by as_aux_lemma=>kernel_rfl) (hx:X0.contains i=false:=by as_aux_lemma=>kernel_rfl)
  (hQ:∀ c a w,Q (.panic c) (a.put oi.dst v) w→Q (.panic c) a w:=by exact fun _ _ _ h=>h):wpAnyL P md ops Q S X0 (fuel+1) listed a w:=
 wpAnyL_move d hi hd hs hf hr hx hQ hy hS h
theorem tkA (i:Nat) (X:List Nat) (d:Option Tmp) (v:Value) {oi:Oper} (hi:ops[i]?=some oi) {fuel:Nat} {listed:Array Bool} {a:Act} {w:World} (hy:YieldsIf P ops S oi v a) (hS:S w) (h:wpAnyL P md ops Q S X0 fuel (listed.setIfInBounds i true) (a.put d v) w)
  (hd:oi.dst=d:=by rfl)
  (hs:Region.noSelect ops=true:=by as_aux_lemma=>kernel_rfl) (hf:Region.free md ops listed i=true:=by as_aux_lemma=>kernel_rfl) (hr:(Region.ready md ops listed).contains i=true:=by as_aux_lemma=>kernel_rfl) (hx:lateB md ops X0 X listed i=true:=by as_aux_lemma=>kernel_rfl)
  (hQ:∀ c a w,Q (.panic c) (a.put oi.dst v) w→Q (.panic c) a w:=by exact fun _ _ _ h=>h):wpAnyL P md ops Q S X0 (fuel+1) listed a w:=
 wpAnyL_take X d hi hd hs hf hr hx hQ hy hS h
theorem rdA (rs:List Nat) {fuel:Nat} {listed:Array Bool} {a:Act} {w:World} (h:AllReadyL P md ops Q S X0 fuel listed a w rs) (hr:Region.ready md ops listed=rs:=by as_aux_lemma=>kernel_rfl) (hne:rs≠[]:=by simp):wpAnyL P md ops Q S X0 (fuel+1) listed a w:=
 wpAnyL_ready hr hne h
theorem dnA {listed:Array Bool} {a:Act} {w:World} (h:Q .normal a w) {fuel:Nat} (hr:Region.ready md ops listed=[]:=by as_aux_lemma=>kernel_rfl):wpAnyL P md ops Q S X0 fuel listed a w:=
 wpAnyL_done hr h fuel
theorem rd1 (i:Nat) {fuel:Nat} {listed:Array Bool} {a:Act} {w:World} {o:Oper} (ho:ops[i]?=some o)
  (h:∀ K':Act→World→Prop,Shut (∀ a w,(LateFree X0 (listed.setIfInBounds i true)→S w)→wpAnyL P md ops Q S X0 fuel (listed.setIfInBounds i true) a w→K' a w)→if Region.wanted o (yielded ops a.tmps)=true then Oper.wp P o a w K' Q else K' (a.put o.dst undef) w)
  (hr:Region.ready md ops listed=[i]:=by as_aux_lemma=>kernel_rfl):wpAnyL P md ops Q S X0 (fuel+1) listed a w:=
 wpAnyL_ready hr (by simp) (AllReadyL.cons ho h AllReadyL.nil)
end
theorem nlA {X:List Nat} {L:Array Bool} {p:Prop} (h:(X.any fun j=>L.getD j false)=true:=by as_aux_lemma=>kernel_rfl):LateFree X L→p:=notLate h
theorem qh {p:Prop} (h:p):Hid p:=Lib.hid h
end
section
open Go.RowKit
structure Cm where
 k:Int
 c:Int
 s:Int
 a:ByteArray
 b:ByteArray
 o:ByteArray
 v:ByteArray
def Cm.zero:Cm:=⟨0,0,0,ByteArray.empty,ByteArray.empty,ByteArray.empty,ByteArray.empty⟩
def Cm.cells (x:Cm):List Value:=[.int .i64 x.k,.int .i64 x.c,.int .i64 x.s,.string x.a,.string x.b,.string x.o,.string x.v]
def clientCells (id seq:Int) (x:Cm) (waits:Bool) (target ticks:Int):List Value:=
 [.int .i64 id,.int .i64 seq,.int .i64 x.k,.int .i64 x.c,.int .i64 x.s,.string x.a,.string x.b,.string x.o,.string x.v,.bool waits,.int .i64 target,.int .i64 ticks]
end
end Go.Proofs.YtimdpiifpibgfaaGreatDoor
