/- A part of the proof that the law TopCopies returns true for every input. -/
import Derived.Test.YtimdpiifpibgfaaGreatDoorProg
import Derived.WalkKit
import Derived.ProofKit
import Derived.OpenShut
import Derived.ShutString
import Derived.ChangeOld
import Derived.Below
import Derived.Lib.Hide
import Derived.WalkLawsBesides
import Derived.WalkSpells
import Derived.Laws.BitsAllLaws
import Derived.LoopTactic
import Derived.Laws.CopyOwn
import Derived.OwnWalk
import Derived.BigQuiet
import Derived.Deep.Cut
import Derived.Deep.CutBlock
import Derived.Handy
import Derived.Lib.SlBytesConst
import Derived.Lib.QuietBelow
import Derived.Deep.QuietTactic
import Derived.Deep.Quiet
import Derived.Laws.Tables
set_option linter.all false
set_option maxRecDepth 20000
set_option maxHeartbeats 16000000
open Go.RowKit
namespace Go.RowKit
theorem Hid.o{p:Prop}(h:Hid p):p:=h
end Go.RowKit
namespace Go.Proofs.Tryz
end Go.Proofs.Tryz
namespace Go.Proofs.YtimdpiifpibgfaaGreatDoor
open Tryz
theorem Iq{k:IntKind}{a b:Int}(h:a=b):Ending.returned (.int k a)=.returned (.int k b):=by rw[h]
theorem BL{a b:Bool}(h:a=b):Ending.returned (.bool a)=.returned (.bool b):=by rw[h]
def BX(w:World)(a:Option Addr)(len:Nat)(bs:List Nat):Prop:=
 bs.length=len∧len≤281474976710656∧(∀x∈bs,x<256)∧(0<len→∃b off,a=some ⟨b,off,none⟩∧b<w.heap.size∧∀i,i<len→w.cell? ⟨b,off+i,none⟩=some (.int .u8 ((bs.getD i 0:Nat):Int)))
theorem BX.nil(w:World)(a:Option Addr):BX w a 0 []:=⟨rfl,by omega,by simp,λh=>by omega⟩
theorem BX.len{w:World}{a:Option Addr}{len:Nat}{bs:List Nat}(h:BX w a len bs):bs.length=len:=h.1
theorem BX.below{w w':World}{a:Option Addr}{len:Nat}{bs:List Nat}(h:BX w a len bs)(hb:Below w.heap.size w w'):BX w' a len bs:=by obtain⟨h1,h2,h3,h4⟩:=h;refine⟨h1,h2,h3,λh=>?_⟩;obtain⟨b,off,ha,hlt,hc⟩:=h4 h;exact⟨b,off,ha,Nat.lt_of_lt_of_le hlt hb.size,λi hi=>by rw[hb.cell (p:=⟨b,off+i,none⟩) hlt];exact hc i hi⟩
theorem BX.pre{w:World}{a:Option Addr}{len:Nat}{bs:List Nat}(h:BX w a len bs)(j:Nat)(hj:j≤len):BX w a j (bs.take j):=by obtain⟨h1,h2,h3,h4⟩:=h;refine⟨by simp;omega,by omega,λx hx=>h3 x (List.mem_of_mem_take hx),λh0=>?_⟩;obtain⟨b,off,ha,hlt,hc⟩:=h4 (by omega);refine⟨b,off,ha,hlt,λi hi=>?_⟩;rw[hc i (by omega),List.getD_eq_getElem?_getD,List.getD_eq_getElem?_getD,List.getElem?_take,if_pos hi]
theorem GU(b o j:Nat):Addr.add ⟨b,o,none⟩ j=⟨b,o+j,none⟩:=by
 unfold Addr.add;split
 ·next h=>subst h;rfl
 ·rfl
def Holds(w:World)(g:Nat)(e:TypeId)(L:List Value):Prop:=w.heap[g]?=some (.cells L.toArray e (0,0))
theorem Holds.cell{w:World}{g:Nat}{e:TypeId}{L:List Value}(h:Holds w g e L)(i:Nat):w.cell? ⟨g,i,none⟩=L[i]?:=by unfold Holds at h;simp[World.cell?,h]
theorem Holds.free{w:World}{g:Nat}{e:TypeId}{L:List Value}(h:Holds w g e L)(i:Nat):w.frozen? ⟨g,i,none⟩=false:=by unfold Holds at h;simp[World.frozen?,h]
theorem Holds.lt{w:World}{g:Nat}{e:TypeId}{L:List Value}(h:Holds w g e L):g<w.heap.size:=by unfold Holds at h;exact(Array.getElem?_eq_some_iff.1 h).1
theorem Holds.set{w:World}{g:Nat}{e:TypeId}{L:List Value}(h:Holds w g e L)(i:Nat)(v:Value):Holds (w.setCell ⟨g,i,none⟩ v) g e (L.set i v):=by unfold Holds at *;simp[World.setCell,Array.getElem?_modify,h]
theorem Holds.below{w w':World}{B g:Nat}{e:TypeId}{L:List Value}(h:Holds w g e L)(hb:Below B w w')(hg:g<B):Holds w' g e L:=by unfold Holds at *;rw[hb.block g hg];exact h
theorem Holds.drewN{w:World}{g:Nat}{e:TypeId}{L:List Value}(h:Holds w g e L)(n:Nat):Holds (w.drewN n) g e L:=h
theorem Holds.bytes{w:World}{g:Nat}{e:TypeId}{bs:List Nat}(h:Holds w g e (bs.map λ(x:Nat)=>.int .u8 (x:Int)))(h8:∀x∈bs,x<256)(hl:bs.length≤281474976710656):BX w (some ⟨g,0,none⟩) bs.length bs:=by refine⟨rfl,hl,h8,λ_=>⟨g,0,rfl,h.lt,λi hi=>?_⟩⟩;rw[Nat.zero_add,h.cell];simp[hi]
theorem Fe{P:Program}(w:World){ops:Array Oper}{rest:List Oper}{o:Oper}{a:Act}{Q:Exit→Act→World→Prop} (hg:o.guard=none) (l c:Operand) (t:TypeId) (hop:o.op=Op.makeSlice t l c) (e:TypeId) (z:Value) (bytes:Nat) (h1:P.underlying t=some (.slice e)) (h2:(P.info? e).map (λi=>(i.zero,i.size,i.bytes))=some (some z,1,bytes)) (hz:z.cells=#[z]) (kl kc:IntKind) (L C:Int) (m n:Nat) (hl:a.eval l=.int kl L) (hc:a.eval c=.int kc C) (hL:L=(m:Int)) (hC:C=(n:Int)) (hmn:m≤n) (b2:bytes*n≤281474976710656) (b3:n≤maxLen) (hK:∀w',Holds w' w.heap.size e (List.replicate n z)→Below w.heap.size w w'→w'.heap.size=w.heap.size+1→wpList P ops Q rest (a.put o.dst (.slice (some ⟨w.heap.size,0,none⟩) m n)) w') :wpList P ops Q (o :: rest) a w:=by
 refine wpList_plain hg λK hK'=>?_;obtain⟨i,hi,hz0,hz1,hz2⟩:=info_parts h2;subst hL hC;have hb:i.bytes*n≤281474976710656:=by rw[hz2];exact b2
 have hr:=run_make (P:=P) w t e i z h1 hi hz0 kl kc (m:Int) (n:Int) (by omega) (by omega) (by rw[←Int.natCast_mul];omega) (by unfold maxLen at b3;omega);unfold Oper.wp;simp only[Int.toNat_natCast] at hr;simp[execOp,hop,hl,hc,hr,Result.andThen];refine hK' _ _ (hK _ ?_ ?_ (by simp))
 ·unfold Holds;rw[hz1,Nat.mul_one,hz];have e2:madeCells #[z] n=(List.replicate n z).toArray:=by rw[←toList_madeCells_one]
  rw[e2];show (w.heap.push _)[w.heap.size]?=_;simp
 ·exact(Below.refl _ _).alloc (Nat.le_refl _) _
def Reads(w:World)(sp:Option Addr)(cs:List Value):Prop:=0<cs.length→∃b off,sp=some ⟨b,off,none⟩∧b<w.heap.size∧∀(j:Nat) v,cs[j]?=some v→w.cell? ⟨b,off+j,none⟩=some v
theorem Reads.below{w w':World}{sp:Option Addr}{cs:List Value}(h:Reads w sp cs)(hb:Below w.heap.size w w'):Reads w' sp cs:=λh0=>by obtain⟨b,off,ha,hlt,hc⟩:=h h0;exact⟨b,off,ha,Nat.lt_of_lt_of_le hlt hb.size,λj v hv=>by rw[hb.cell (p:=⟨b,off+j,none⟩) hlt];exact hc j v hv⟩
theorem Holds.reads{w:World}{g:Nat}{e:TypeId}{L:List Value}(h:Holds w g e L)(i:Nat)(cs:List Value)(hc:∀(j:Nat) v,cs[j]?=some v→L[i+j]?=some v):Reads w (some ⟨g,i,none⟩) cs:=
 λ_=>⟨g,i,rfl,h.lt,λj v hv=>by rw[h.cell];exact hc j v hv⟩
def Aa(l:List Nat):List Value:=l.map λ(x:Nat)=>.int .u8 (x:Int)
theorem BI(l:List Nat):(Aa l).length=l.length:=by simp[Aa]
theorem DX(l:List Nat):∀v∈Aa l,v.oneCell'=true:=by simp[Aa,Value.oneCell']
theorem BX.reads{w:World}{a:Option Addr}{len:Nat}{bs:List Nat}(h:BX w a len bs):Reads w a (Aa bs):=by obtain⟨h1,h2,h3,h4⟩:=h;intro h0;rw[BI,h1] at h0;obtain⟨b,off,rfl,hlt,hc⟩:=h4 h0;refine⟨b,off,rfl,hlt,λj v hv=>?_⟩;simp only[Aa,List.getElem?_map,Option.map_eq_some_iff] at hv;obtain⟨x,hx,rfl⟩:=hv;have hj:j<bs.length:=(List.getElem?_eq_some_iff.1 hx).1;rw[hc j (by omega)];simp[hx]
theorem BX.lit(w:World)(e:TypeId)(bs:List Nat)(fz:Nat × Nat)(h8:∀x∈bs,x<256)(hl:bs.length≤281474976710656) :BX (w.alloc (.cells (Aa bs).toArray e fz)) (some ⟨w.heap.size,0,none⟩) bs.length bs:=by
 refine⟨rfl,hl,h8,λ_=>⟨w.heap.size,0,rfl,by simp,λi hi=>?_⟩⟩;have:(w.alloc (.cells (Aa bs).toArray e fz)).heap[w.heap.size]?=some (.cells (Aa bs).toArray e fz):=by show (w.heap.push _)[w.heap.size]?=_;simp
 unfold World.cell?;simp only[];rw[this];simp[Aa,hi]
theorem Xx{W w1:World}(hb:Below W.heap.size W w1):(∀b o,b<W.heap.size→w1.cell? ⟨b,o,none⟩=W.cell? ⟨b,o,none⟩)∧(∀b o,b<W.heap.size→w1.frozen? ⟨b,o,none⟩=W.frozen? ⟨b,o,none⟩):=
 ⟨λb o h=>hb.cell (p:=⟨b,o,none⟩) h,λb o h=>hb.frozen (p:=⟨b,o,none⟩) h⟩
theorem AB{w w1 w2:World}(h:Below w.heap.size w w1)(h2:Below w1.heap.size w1 w2):Below w.heap.size w w2:=h.trans (h2.mono h.size)
theorem AL{P:Program}{f:FuncId}{args:Array Value}{w:World}{d:Nat}{os:Array Obj}{v:Value} (h:∀W,Below w.heap.size w W→Calls P f args W λe w'=>e=.returned v∧Below W.heap.size W w') :Calls P f args (Sort.grow (redrawn w d) os) λe w''=>e=.returned v∧∃p:Regrown,w''=Sort.grow (redrawn w p.d) p.os:=
 Calls.regrown_of (h _ (below_regrown w d os))
theorem OL{P:Program}{f:FuncId}{args:Array Value}{W:World}{v:Value}(h:Calls P f args W λe w'=>e=.returned v∧W=w') :Calls P f args W λe w'=>e=.returned v∧Below W.heap.size W w':=h.mono λ_ _ ⟨he,hw⟩=>⟨he,hw▸Below.refl _ _⟩
theorem AP{w w':World}(h:∃p:Regrown,w'=Sort.grow (redrawn w p.d) p.os):Below w.heap.size w w':=by obtain⟨p,rfl⟩:=h;exact below_regrown _ _ _
theorem Holds.grown{w:World}{g:Nat}{e:TypeId}{L:List Value}(h:Holds w g e L)(d:Nat)(os:Array Obj)(i:Nat):(Sort.grow (redrawn w d) os).cell? ⟨g,i,none⟩=L[i]?:=by rw[(below_regrown w d os).cell (p:=⟨g,i,none⟩) h.lt];exact h.cell i
theorem AA(w:World)(e:TypeId)(L:List Value):Holds (w.alloc (.cells L.toArray e)) w.heap.size e L:=by unfold Holds;show (w.heap.push _)[w.heap.size]?=_;simp
structure Touch(g:Nat)(w w':World):Prop where
 os:w'.os=w.os
 tape:w'.tape=w.tape
 output:w'.output=w.output
 size:w.heap.size≤w'.heap.size
 block:∀k,k<w.heap.size→k≠g→w'.heap[k]?=w.heap[k]?
theorem Touch.refl(g:Nat)(w:World):Touch g w w:=⟨rfl,rfl,rfl,Nat.le_refl _,λ_ _ _=>rfl⟩
theorem Touch.trans{g:Nat}{a b c:World}(h:Touch g a b)(k:Touch g b c):Touch g a c:=
 ⟨k.os.trans h.os,k.tape.trans h.tape,k.output.trans h.output,Nat.le_trans h.size k.size,λi hi hg=>(k.block i (Nat.lt_of_lt_of_le hi h.size) hg).trans (h.block i hi hg)⟩
theorem Touch.of_below{g:Nat}{w w':World}(h:Below w.heap.size w w'):Touch g w w':=⟨h.os,h.tape,h.output,h.size,λk hk _=>h.block k hk⟩
theorem Touch.next{g:Nat}{w w1 w2:World}(h:Touch g w w1)(h2:Below w1.heap.size w1 w2):Touch g w w2:=h.trans (.of_below h2)
theorem Touch.setCell{g:Nat}{w w':World}(h:Touch g w w')(i:Nat)(v:Value):Touch g w (w'.setCell ⟨g,i,none⟩ v):=
 h.trans ⟨rfl,rfl,rfl,by simp[World.setCell],λk _ hk=>Below.heap_setCell _ _ _ _ hk⟩
theorem Touch.drew{g:Nat}{w w':World}(h:Touch g w w'):Touch g w w'.drew:=⟨h.os,h.tape,h.output,h.size,h.block⟩
theorem Touch.below{g B:Nat}{w w':World}(h:Touch g w w')(hB:B≤g)(hs:B≤w.heap.size):Below B w w':=
 ⟨h.os,h.tape,h.output,h.size,λk hk=>h.block k (by omega) (by omega)⟩
theorem Holds.touch{w w':World}{g g':Nat}{e:TypeId}{L:List Value}(h:Holds w g' e L)(ht:Touch g w w')(hg:g'≠g):Holds w' g' e L:=by have:=h.lt;unfold Holds at *;rw[ht.block g' this hg];exact h
abbrev Af:=Nat→Prop
section
structure Box where
 iA:Nat
 iS:Nat
 d:Tmp
 y:Tmp
 ty:TypeId
 zero:List Value
 val:List Value
def A8(o:Oper):Oper:=
 match o.op with
 | .alloc _=>{ o with op:=.move (.const undef) }
 | .store _ _ _=>{ o with op:=.move (.const undef) }
 | _=>o
theorem Ue(o:Oper):(A8 o).after=o.after:=by unfold A8;split<;>rfl
theorem Oj(o:Oper):(A8 o).dst=o.dst:=by unfold A8;split<;>rfl
theorem Uf(o:Oper):(A8 o).guard=o.guard:=by unfold A8;split<;>rfl
theorem Ug(o:Oper)(h1:∀t,o.op≠.alloc t)(h2:∀t p v,o.op≠.store t p v):A8 o=o:=by
 unfold A8;split
 ·rename_i t h;exact absurd h (h1 t)
 ·rename_i t p v h;exact absurd h (h2 t p v)
 ·rfl
structure VG(P:Program)(boxes:List Box)(ops:Array Oper):Prop where
 c1:∀(i:Nat) o,ops[i]?=some o→o.guard=none
 c2:∀(i:Nat) o,ops[i]?=some o→∀e∈o.after,Region.binds .any e=true→e.on<i
 c3:∀(i:Nat) o d,ops[i]?=some o→o.dst=some d→∀(j:Nat) o',ops[j]?=some o'→o'.dst=some d→j=i
 c4:∀(i:Nat) o t,ops[i]?=some o→o.op=.alloc t→∃x∈boxes,x.iA=i∧o.dst=some x.d∧t=x.ty
 c5:∀(i:Nat) o t p v,ops[i]?=some o→o.op=.store t p v→∃x∈boxes,x.iS=i∧p=.tmp x.d∧v=.tmp x.y∧t=x.ty∧o.dst=none∧(∃e∈o.after,Region.binds .any e=true∧e.on=x.iA)∧(∀(j:Nat) o',ops[j]?=some o'→o'.dst=some x.y→∃e∈o.after,Region.binds .any e=true∧e.on=j)∧∀z∈boxes,z.d≠x.y
 c6:∀(i:Nat) o,ops[i]?=some o→(∀t,o.op≠.alloc t)→(∀t p v,o.op≠.store t p v)→∀x∈boxes,x.d∉o.looksAt ops∧o.dst≠some x.d
 c7:∀x∈boxes,(∃o,ops[x.iA]?=some o∧o.op=.alloc x.ty)∧(∃o p v,ops[x.iS]?=some o∧o.op=.store x.ty p v)
 c8:∀x∈boxes,∀y∈boxes,(x.iA=y.iA∨x.iS=y.iS∨x.d=y.d)→x=y
 c9:∀(i:Nat) o cs b,ops[i]?=some o→o.op≠.select cs b
 z1:∀x∈boxes,∃z,(P.info? x.ty).map (·.zero)=some (some z)∧z.cells=x.zero.toArray
 z2:∀x∈boxes,(P.info? x.ty).map (·.size)=some x.val.length∧x.zero.length=x.val.length∧x.val.toArray.all (·.oneCell')=true
theorem L6{P:Program}{t:TypeId}{z:Value}(w:World)(h:(P.info? t).map (·.zero)=some (some z)):(zeroValue t).run P w=.ok z w:=by
 cases hq:P.info? t with
 | none=>simp[hq] at h
 | some i=>
  have hz:i.zero=some z:=by simpa[hq] using h
  simp[zeroValue,typeInfo,hq,hz]
theorem RI{P:Program}{o:Oper}{a:Act}{w:World}{K:Act→World→Prop}{Q:Exit→Act→World→Prop}{t:TypeId}{z:Value}{cs:List Value}(ho:o.op=.alloc t)(hz:(P.info? t).map (·.zero)=some (some z))(hc:z.cells=cs.toArray) (h:K (a.put o.dst (.pointer (some ⟨w.heap.size,0,none⟩))) (w.alloc (.cells cs.toArray t))):o.wp P a w K Q:=by unfold Oper.wp execOp;simp only[ho,Instr.alloc,Sem.run_bind,L6 w hz,Result.andThen_ok,newVar,newRow,run_newObj_alloc,Sem.run_pure,hc];exact h
theorem Iz{P:Program}{o:Oper}{a:Act}{w:World}{K:Act→World→Prop}{Q:Exit→Act→World→Prop}{t:TypeId}{p v:Operand}{b:Nat}{old cs:List Value}(ho:o.op=.store t p v)(hd:o.dst=none) (hx:a.eval p=.pointer (some ⟨b,0,none⟩)) (hy:a.eval v=.agg cs.toArray) (hg:Holds w b t old) (hi:(P.info? t).map (·.size)=some cs.length) (hl:old.length=cs.length) (h1:cs.toArray.all (·.oneCell')=true) (h:K a (w.setRow b cs.toArray)):o.wp P a w K Q:=by unfold Oper.wp execOp;simp only[ho,hx,hy,Instr.storeAt,Instr.sureAddr,Sem.run_bind,Sem.run_pure,Result.andThen_ok,run_storeVar_row w b t t old.toArray cs.toArray hg (by simpa using hi) (by simpa using hl) h1];show K (a.put o.dst undef) _;rw[hd];exact h
theorem Hy(a:Act)(d t:Tmp)(v:Value):(a.put (some d) v).tmps[t]?=if d=t∧t<a.tmps.size then some v else a.tmps[t]?:=by
 show (a.tmps.setIfInBounds d v)[t]?=_;rw[Array.getElem?_setIfInBounds];by_cases h:d=t
 ·subst h;by_cases h2:d<a.tmps.size
  ·simp[h2]
  ·simp[h2]
 ·simp[h]
theorem Em(a:Act)(d:Option Tmp)(v:Value):(a.put d v).tmps.size=a.tmps.size:=by cases d<;>simp[Act.put]
theorem put_defers(a:Act)(d:Option Tmp)(v:Value):(a.put d v).defers=a.defers:=by cases d<;>rfl
theorem F6(a:Act)(d:Option Tmp)(t:Tmp)(v:Value)(h:d≠some t):(a.put d v).tmps[t]?=a.tmps[t]?:=by
 cases d with
 | none=>rfl
 | some d=>rw[Hy,if_neg (λh2=>h (by rw[h2.1]))]
section
variable {P:Program} {ops:Array Oper}
theorem JH{C:World→Prop}{aF:Act}{d:Tmp}:∀(fuel:Nat) (L:Array Bool) (aa:Act),wpAnyQ P .any ops C (λa'=>a'=aF) fuel L aa→(∀(j:Nat) o,ops[j]?=some o→o.dst=some d→L.getD j false=true)→aF.tmps[d]?=aa.tmps[d]?
 | 0,_,_,h,_=>by rw[←h.2]
 | fuel+1,L,aa,h,hd=>by
  cases hr:Region.ready .any ops L with
  | nil=>rw[h.1 hr]
  | cons i rs=>
   have hi:i∈Region.ready .any ops L:=by rw[hr];exact List.mem_cons_self
   obtain⟨hun,o,ho,hall⟩:=mem_ready.1 hi;have h2:=h.2 i hi;unfold qOp at h2;simp only[ho] at h2;have hne:o.dst≠some d:=λhe=>by
    have:=hd i o ho he;rcases Nat.lt_or_ge i L.size with h' | h'
    ·simp[h'] at hun this;rw[hun] at this;cases this
    ·simp[Array.getElem?_eq_none h'] at hun
   have hd':∀(j:Nat) o,ops[j]?=some o→o.dst=some d→(L.setIfInBounds i true).getD j false=true:=λj o' h1 h3=>getD_set_true (hd j o' h1 h3);split at h2
   ·obtain⟨v,_,hn⟩:=h2;rw[JH fuel _ _ hn hd',F6 _ _ _ _ hne]
   ·rw[JH fuel _ _ h2 hd',F6 _ _ _ _ hne]
theorem OG(hc:∀(i:Nat) o,ops[i]?=some o→∀e∈o.after,Region.binds .any e=true→e.on<i)(L:Array Bool)(hL:L.size=ops.size)(h:Region.ready .any ops L=[]):∀i,i<ops.size→L.getD i false=true:=by
 intro i;induction i using Nat.strongRecOn with
 | ind i ih=>
  intro hi;cases hq:L.getD i false
  ·exfalso;have:i∈Region.ready .any ops L:=mem_ready.2 ⟨by
    rw[Array.getD_eq_getD_getElem?] at hq ⊢;rw[Array.getElem?_eq_getElem (by omega)] at hq ⊢;exact hq,ops[i],Array.getElem?_eq_getElem hi,λe he hbd=>ih e.on (hc i _ (Array.getElem?_eq_getElem hi) e he hbd) (by have:=hc i _ (Array.getElem?_eq_getElem hi) e he hbd;omega)⟩
   rw[h] at this;cases this
  ·rfl
end
def Dk(β:Nat→Nat)(bs:List Box)(a:Act):Act:=bs.foldl (λa x=>a.put (some x.d) (.pointer (some ⟨β x.d,0,none⟩))) a
theorem LD(β:Nat→Nat):∀(bs:List Box) (a:Act),(Dk β bs a).tmps.size=a.tmps.size∧(Dk β bs a).defers=a.defers
 | [],_=>⟨rfl,rfl⟩
 | x :: bs,a=>by have:=LD β bs (a.put (some x.d) (.pointer (some ⟨β x.d,0,none⟩)));exact⟨this.1.trans (Em _ _ _),this.2.trans (put_defers _ _ _)⟩
theorem JQ(β:Nat→Nat)(t:Tmp):∀(bs:List Box) (a:Act),(∀x∈bs,x.d≠t)→(Dk β bs a).tmps[t]?=a.tmps[t]?
 | [],_,_=>rfl
 | x :: bs,a,h=>by rw[show Dk β (x :: bs) a=Dk β bs (a.put (some x.d) (.pointer (some ⟨β x.d,0,none⟩))) from rfl,JQ β t bs _ (λy hy=>h y (List.mem_cons_of_mem _ hy)),F6 _ _ _ _ (λhe=>h x List.mem_cons_self (by injection he))]
theorem TM(β:Nat→Nat)(t:Tmp):∀(bs:List Box) (a:Act),t<a.tmps.size→(∃x∈bs,x.d=t)→(Dk β bs a).tmps[t]?=some (.pointer (some ⟨β t,0,none⟩))
 | [],_,_,h=>by obtain⟨x,hx,_⟩:=h;cases hx
 | x :: bs,a,hs,h=>by
  rw[show Dk β (x :: bs) a=Dk β bs (a.put (some x.d) (.pointer (some ⟨β x.d,0,none⟩))) from rfl];by_cases h2:∃y∈bs,y.d=t
  ·exact TM β t bs _ (by rw[Em];exact hs) h2
  ·have hx:x.d=t:=by
    obtain⟨y,hy,hyt⟩:=h;rcases List.mem_cons.1 hy with rfl|hy
    ·exact hyt
    ·exact absurd ⟨y,hy,hyt⟩ h2
   rw[JQ β t bs _ (λy hy he=>h2 ⟨y,hy,he⟩),Hy,if_pos ⟨hx,hs⟩,hx]
def RJ(W:World):World→Prop:=λw'=>∃p:Regrown,w'=Sort.grow (redrawn W p.d) p.os
theorem OO(W:World):RJ W W:=⟨⟨W.drawn,#[]⟩,by rw[Sort.grow_empty];rfl⟩
theorem WG{W w:World}(h:RJ W w):Below W.heap.size W w:=AP h
structure kQ(P:Program)(boxes:List Box)(ops:Array Oper)(w0:World)(aF:Act)(fuel:Nat)(L:Array Bool)(aa ar:Act)(w:World)(β:Nat→Nat):Prop where
 bel:Below w0.heap.size w0 w
 ls:L.size=ops.size
 sz:ar.tmps.size=aa.tmps.size
 df:ar.defers=aa.defers
 bd:∀x∈boxes,x.d<aa.tmps.size
 eq:∀t,(∀x∈boxes,x.d≠t)→ar.tmps[t]?=aa.tmps[t]?
 ord:∀x∈boxes,L.getD x.iS false=true→L.getD x.iA false=true
 blk:∀x∈boxes,L.getD x.iA false=true→ar.tmps[x.d]?=some (.pointer (some ⟨β x.d,0,none⟩))∧w0.heap.size≤β x.d∧Holds w (β x.d) x.ty (if L.getD x.iS false=true then x.val else x.zero)
 ne:∀x∈boxes,∀y∈boxes,x≠y→L.getD x.iA false=true→L.getD y.iA false=true→β x.d≠β y.d
 q:∀W,Below w0.heap.size w0 W→wpAnyQ P .any (ops.map A8) (RJ W) (λa'=>a'=aF) fuel L aa
theorem LH(ops:Array Oper)(L:Array Bool):Region.ready .any (ops.map A8) L=Region.ready .any ops L:=by
 unfold Region.ready;rw[Array.size_map];apply List.filter_congr;intro i _;rw[Array.getElem?_map,Option.map_map]
 congr 2
 cases ops[i]? with
 | none=>rfl
 | some o=>simp[Function.comp,Ue]
theorem DT{L:Array Bool}{i j:Nat}(d:Bool)(h:i≠j):(L.setIfInBounds i true).getD j d=L.getD j d:=getD_set_ne d h
theorem Og{L:Array Bool}{i:Nat}(h:i<L.size)(d:Bool):(L.setIfInBounds i true).getD i d=true:=by simp[h]
theorem QI{L:Array Bool}{i:Nat}(h:L.getD i true=false):i<L.size∧L.getD i false=false:=by
 rcases Nat.lt_or_ge i L.size with h' | h'
 ·refine⟨h',?_⟩;simp[h'] at h ⊢;exact h
 ·simp[Array.getElem?_eq_none h'] at h
theorem WQ{a b:Act}{t:Tmp}(h:a.tmps[t]?=b.tmps[t]?):a.eval (.tmp t)=b.eval (.tmp t):=by show a.tmps.getD t undef=b.tmps.getD t undef;rw[Array.getD_eq_getD_getElem?,Array.getD_eq_getD_getElem?,h]
theorem OW{a:Act}{t:Tmp}{v:Value}(h:a.tmps[t]?=some v):a.eval (.tmp t)=v:=by show a.tmps.getD t undef=v;rw[Array.getD_eq_getD_getElem?,h];rfl
theorem VJ{a b:Act}(h1:a.tmps.size=b.tmps.size)(h2:∀t:Nat,a.tmps[t]?=b.tmps[t]?)(h3:a.defers=b.defers):a=b:=by cases a;cases b;simp only[Act.mk.injEq];exact⟨Array.ext_getElem? h2,h3⟩
section
variable {P:Program} {boxes:List Box} {ops:Array Oper} {w0:World} {aF:Act} {Q:Exit→Act→World→Prop}
theorem Tn(hok:VG P boxes ops)(hval:∀x∈boxes,aF.tmps[x.y]?=some (.agg x.val.toArray)) (hQ:∀(β:Nat→Nat) w',Below w0.heap.size w0 w'→(∀x∈boxes,w0.heap.size≤β x.d∧Holds w' (β x.d) x.ty x.val)→(∀x∈boxes,∀y∈boxes,x≠y→β x.d≠β y.d)→Q .normal (Dk β boxes aF) w') :∀(fuel:Nat) (L:Array Bool) (aa ar:Act) (w:World) (β:Nat→Nat),kQ P boxes ops w0 aF fuel L aa ar w β→wpAny P .any ops Q fuel L ar w:=by

 have hend:∀(fuel:Nat) (L:Array Bool) (aa ar:Act) (w:World) (β:Nat→Nat),kQ P boxes ops w0 aF fuel L aa ar w β→Region.ready .any ops L=[]→aa=aF→Q .normal ar w:=by
  intro fuel L aa ar w β S hr ha;have hall:=OG hok.c2 L S.ls hr;have hA:∀x∈boxes,L.getD x.iA false=true:=λx hx=>by obtain⟨⟨o,ho,_⟩,_⟩:=hok.c7 x hx;exact hall _ (Array.getElem?_eq_some_iff.1 ho).1
  have hS:∀x∈boxes,L.getD x.iS false=true:=λx hx=>by obtain⟨_,o,_,_,ho,_⟩:=hok.c7 x hx;exact hall _ (Array.getElem?_eq_some_iff.1 ho).1
  have he:ar=Dk β boxes aF:=by
   subst ha;refine VJ (S.sz.trans (LD β boxes aa).1.symm) (λt=>?_) (S.df.trans (LD β boxes aa).2.symm);by_cases ht:∃x∈boxes,x.d=t
   ·obtain⟨x,hx,rfl⟩:=ht;rw[TM β x.d boxes aa (S.bd x hx) ⟨x,hx,rfl⟩];exact(S.blk x hx (hA x hx)).1
   ·have hn:∀x∈boxes,x.d≠t:=λx hx h=>ht ⟨x,hx,h⟩;rw[JQ β t boxes aa hn];exact S.eq t hn
  rw[he];refine hQ β w S.bel (λx hx=>?_) (λx hx y hy hxy=>S.ne x hx y hy hxy (hA x hx) (hA y hy));obtain⟨_,h2,h3⟩:=S.blk x hx (hA x hx);rw[if_pos (hS x hx)] at h3;exact⟨h2,h3⟩
 intro fuel;induction fuel with
 | zero=>
  intro L aa ar w β S;have h:=S.q w0 (Below.refl _ _);have h0:Region.ready .any ops L=[]:=by rw[←LH];exact h.1
  exact⟨h0,hend 0 L aa ar w β S h0 h.2⟩
 | succ fuel ih=>
  intro L aa ar w β S;refine⟨λhr=>hend _ L aa ar w β S hr ((S.q w0 (Below.refl _ _)).1 (by rw[LH];exact hr)),λi hi=>?_⟩;obtain⟨hun,o,ho,hall⟩:=mem_ready.1 hi;obtain⟨hiL,hun2⟩:=QI hun;have hi':i∈Region.ready .any (ops.map A8) L:=by rw[LH];exact hi
  have ho':(ops.map A8)[i]?=some (A8 o):=by rw[Array.getElem?_map,ho];rfl
  have hg:=hok.c1 i o ho;have hw:Region.wanted o (yielded ops ar.tmps)=true:=by simp[Region.wanted,hg]
  have hw':∀a:Act,Region.wanted (A8 o) (yielded (ops.map A8) a.tmps)=true:=λa=>by simp[Region.wanted,Uf,hg]
  have hq:∀W,Below w0.heap.size w0 W→∃v,(∀w',RJ W w'→(A8 o).quietAt P aa (RJ W) w' v)∧wpAnyQ P .any (ops.map A8) (RJ W) (λa'=>a'=aF) fuel (L.setIfInBounds i true) (aa.put o.dst v):=λW hW=>by have h:=(S.q W hW).2 i hi';unfold qOp at h;simp only[ho',hw' aa,if_true] at h;obtain⟨v,h1,h2⟩:=h;rw[Oj] at h2;exact⟨v,h1,h2⟩
  have hfin:∀(d:Tmp),o.dst=some d→∀(j:Nat) o',(ops.map A8)[j]?=some o'→o'.dst=some d→(L.setIfInBounds i true).getD j false=true:=λd hd j o' hj hd'=>by
   rw[Array.getElem?_map] at hj;cases hoj:ops[j]? with
   | none=>rw[hoj] at hj;cases hj
   | some oj=>
    rw[hoj] at hj;simp only[Option.map_some,Option.some.injEq] at hj;subst hj;rw[Oj] at hd';have:=hok.c3 i o d ho hd j oj hoj hd';subst this;exact Og hiL _
  unfold wpOp;simp only[ho,hw,if_true];refine .inl ?_;have hls:(L.setIfInBounds i true).size=ops.size:=by rw[Array.size_setIfInBounds];exact S.ls
  by_cases hal:∃t,o.op=.alloc t
  ·obtain⟨t,hot⟩:=hal;obtain⟨x,hx,hxi,hxd,rfl⟩:=hok.c4 i o t ho hot;obtain⟨z,hz,hzc⟩:=hok.z1 x hx;have hiA:L.getD x.iA false=false:=by rw[hxi];exact hun2
   have hiS:L.getD x.iS false=false:=by
    cases h:L.getD x.iS false
    ·rfl
    ·have:=S.ord x hx h;rw[hiA] at this;cases this
   have hnS:∀y∈boxes,i≠y.iS:=λy hy he=>by obtain⟨_,o2,p,v,ho2,hop⟩:=hok.c7 y hy;rw[←he,ho] at ho2;cases ho2;rw[hot] at hop;cases hop
   have hnA:∀y∈boxes,y≠x→i≠y.iA:=λy hy hyx he=>hyx (hok.c8 y hy x hx (.inl (by rw[hxi,he])));have hnd:∀y∈boxes,y≠x→y.d≠x.d:=λy hy hyx he=>hyx (hok.c8 y hy x hx (.inr (.inr he)));refine RI hot hz hzc ?_;refine ih _ (aa.put o.dst undef) _ _ (λt=>if t=x.d then w.heap.size else β t) ?_;rw[hxd];refine⟨S.bel.alloc S.bel.size _,hls,by rw[Em,Em];exact S.sz,by rw[put_defers,put_defers];exact S.df,λy hy=>by rw[Em];exact S.bd y hy,?_,?_,?_,?_,?_⟩
   ·intro t ht;rw[F6 _ _ _ _ (by intro h;injection h with h;exact ht x hx h),F6 _ _ _ _ (by intro h;injection h with h;exact ht x hx h)];exact S.eq t ht
   ·intro y hy h;rw[DT _ (hnS y hy)] at h;have:=S.ord y hy h;exact getD_set_true this
   ·intro y hy h;rw[DT _ (hnS y hy)];by_cases hyx:y=x
    ·subst hyx;rw[Hy,if_pos ⟨rfl,by rw[S.sz];exact S.bd y hy⟩,hiS];simp only[if_true];exact⟨trivial,S.bel.size,AA w y.ty y.zero⟩
    ·rw[DT _ (hnA y hy hyx)] at h;obtain⟨h1,h2,h3⟩:=S.blk y hy h;simp only[if_neg (hnd y hy hyx)];refine⟨?_,h2,h3.below (B:=w.heap.size) ((Below.refl _ _).alloc (Nat.le_refl _) _) h3.lt⟩;rw[F6 _ _ _ _ (by intro he;injection he with he;exact hnd y hy hyx he.symm)];exact h1
   ·intro y hy y2 hy2 hne h h2;by_cases h3:y=x
    ·subst h3;have h4:y2≠y:=λh=>hne h.symm;rw[DT _ (hnA y2 hy2 h4)] at h2;simp only[if_true,if_neg (hnd y2 hy2 h4)];have:=(S.blk y2 hy2 h2).2.2.lt;omega
    ·rw[DT _ (hnA y hy h3)] at h;by_cases h4:y2=x
     ·subst h4;simp only[if_true,if_neg (hnd y hy h3)];have:=(S.blk y hy h).2.2.lt;omega
     ·rw[DT _ (hnA y2 hy2 h4)] at h2;simp only[if_neg (hnd y hy h3),if_neg (hnd y2 hy2 h4)];exact S.ne y hy y2 hy2 hne h h2
   ·intro W hW;obtain⟨v,h1,h2⟩:=hq W hW;have h3:=h1 W (OO W);have hh:A8 o={ o with op:=.move (.const undef) }:=by unfold A8;rw[hot]
    rw[hh] at h3;simp only[Oper.quietAt,execOp,Sem.run_pure,Sem.run_bind,Result.andThen_ok,Oper.quietUpon,Act.eval] at h3;rw[hxd] at h2;have hv:v=undef:=h3.2.symm;rw[hv] at h2;exact h2
  ·by_cases hst:∃t p v,o.op=.store t p v
   ·obtain⟨t,p,v,hot⟩:=hst;obtain⟨x,hx,hxi,rfl,rfl,rfl,hd,⟨e,he,heb,heo⟩,hyl,hdy⟩:=hok.c5 i o t p v ho hot;have hiA:L.getD x.iA false=true:=by rw[←heo];exact hall e he heb
    have hiS:L.getD x.iS false=false:=by rw[hxi];exact hun2
    obtain⟨hb1,hb2,hb3⟩:=S.blk x hx hiA;rw[hiS] at hb3;simp only[Bool.false_eq_true,if_false] at hb3;obtain⟨hz2,hz3,hz4⟩:=hok.z2 x hx;have hyv:ar.eval (.tmp x.y)=.agg x.val.toArray:=by
     refine OW ?_;rw[S.eq x.y hdy];obtain⟨_,_,h2⟩:=hq w0 (Below.refl _ _);have h3:=(S.q w0 (Below.refl _ _));rw[←hval x hx];refine(JH _ _ _ h3 ?_).symm;intro j o' hj hdj;rw[Array.getElem?_map] at hj;cases hoj:ops[j]? with
     | none=>rw[hoj] at hj;cases hj
     | some oj=>
      rw[hoj] at hj;simp only[Option.map_some,Option.some.injEq] at hj;subst hj;rw[Oj] at hdj;obtain⟨e,he,heb,heo⟩:=hyl j oj hoj hdj;rw[←heo];exact hall e he heb
    have hnA:∀y∈boxes,i≠y.iA:=λy hy he=>by obtain⟨⟨o2,ho2,hop⟩,_⟩:=hok.c7 y hy;rw[←he,ho] at ho2;cases ho2;rw[hot] at hop;cases hop
    have hnS:∀y∈boxes,y≠x→i≠y.iS:=λy hy hyx he=>hyx (hok.c8 y hy x hx (.inr (.inl (by rw[hxi,he]))));refine Iz hot hd (OW hb1) hyv hb3 hz2 hz3 hz4 ?_;refine ih _ aa _ _ β ?_;refine⟨below_setRow S.bel hb2 _,hls,S.sz,S.df,S.bd,S.eq,?_,?_,?_,?_⟩
    ·intro y hy h;rw[DT _ (hnA y hy)];by_cases hyx:y=x
     ·subst hyx;exact hiA
     ·rw[DT _ (hnS y hy hyx)] at h;exact S.ord y hy h
    ·intro y hy h;rw[DT _ (hnA y hy)] at h;obtain⟨h1,h2,h3⟩:=S.blk y hy h;refine⟨h1,h2,?_⟩;by_cases hyx:y=x
     ·subst hyx;rw[hxi,if_pos (Og hiL _)];exact setRow_heap _ _ _ _ _ _ hb3
     ·rw[DT _ (hnS y hy hyx)];have hne:=S.ne y hy x hx hyx h hiA;unfold Holds at h3 ⊢;rw[setRow_other _ _ _ _ hne];exact h3
    ·intro y hy y2 hy2 hne h h2;rw[DT _ (hnA y hy)] at h;rw[DT _ (hnA y2 hy2)] at h2;exact S.ne y hy y2 hy2 hne h h2
    ·intro W hW;obtain⟨v,_,h2⟩:=hq W hW;rw[hd] at h2;exact h2
   ·have hn1:∀t,o.op≠.alloc t:=λt h=>hal ⟨t,h⟩;have hn2:∀t p v,o.op≠.store t p v:=λt p v h=>hst ⟨t,p,v,h⟩;have hh:=Ug o hn1 hn2;have h6:=hok.c6 i o ho hn1 hn2;have hnA:∀y∈boxes,i≠y.iA:=λy hy he=>by obtain⟨⟨o2,ho2,hop⟩,_⟩:=hok.c7 y hy;rw[←he,ho] at ho2;cases ho2;exact hn1 _ hop
    have hnS:∀y∈boxes,i≠y.iS:=λy hy he=>by obtain⟨_,o2,p,v,ho2,hop⟩:=hok.c7 y hy;rw[←he,ho] at ho2;cases ho2;exact hn2 _ _ _ hop
    obtain⟨v,hv1,hv2⟩:=hq w S.bel;rw[hh] at hv1;have hex:execOp ar.eval o=execOp aa.eval o:=execOp_congr o (λcs b=>hok.c9 i o cs b ho) λy hy=>by
     cases y with
     | tmp t=>
      refine WQ (S.eq t λx hx he=>?_);refine(h6 x hx).1 ?_;rw[he];exact List.mem_append_left _ (List.mem_filterMap.2 ⟨.tmp t,by simpa using hy,rfl⟩)
     | const c=>rfl
     | global g=>rfl
     | func f=>rfl
    have hqa:o.quiet P ar (RJ w) (λa'=>a'=ar.put o.dst v):=⟨v,λw' hw'=>by
     have:=hv1 w' hw';unfold Oper.quietAt at this ⊢;rw[hex];exact this,rfl⟩
    refine Oper.wp_of_quiet (C:=RJ w) (OO w) (λa' w' hw' ha'=>?_) hqa;subst ha';have hbw:=WG hw';refine ih _ (aa.put o.dst v) _ _ β ?_;refine⟨S.bel.trans (hbw.mono S.bel.size),hls,by rw[Em,Em];exact S.sz,by rw[put_defers,put_defers];exact S.df,λy hy=>by rw[Em];exact S.bd y hy,?_,?_,?_,?_,?_⟩
    ·intro t ht;cases hdo:o.dst with
     | none=>exact S.eq t ht
     | some d=>
      rw[Hy,Hy,S.sz];split
      ·rfl
      ·exact S.eq t ht
    ·intro y hy h;rw[DT _ (hnS y hy)] at h;rw[DT _ (hnA y hy)];exact S.ord y hy h
    ·intro y hy h;rw[DT _ (hnA y hy)] at h;rw[DT _ (hnS y hy)];obtain⟨h1,h2,h3⟩:=S.blk y hy h;refine⟨?_,h2,h3.below hbw h3.lt⟩;rw[F6 _ _ _ _ (h6 y hy).2];exact h1
    ·intro y hy y2 hy2 hne h h2;rw[DT _ (hnA y hy)] at h;rw[DT _ (hnA y2 hy2)] at h2;exact S.ne y hy y2 hy2 hne h h2
    ·intro W hW;obtain⟨v2,_,hv3⟩:=hq W hW;have he:aa.put o.dst v2=aa.put o.dst v:=by
      cases hdo:o.dst with
      | none=>rfl
      | some d=>
       rw[hdo] at hv2 hv3;by_cases hds:d<aa.tmps.size
       ·have e1:=JH _ _ _ hv2 (hfin d hdo);have e2:=JH _ _ _ hv3 (hfin d hdo);rw[Hy,if_pos ⟨rfl,hds⟩] at e1 e2;rw[e1] at e2;simp only[Option.some.injEq] at e2;rw[e2]
       ·refine VJ (by rw[Em,Em]) (λt=>?_) (by rw[put_defers,put_defers]);rw[Hy,Hy,if_neg (λh=>hds (by rw[h.1];exact h.2)),if_neg (λh=>hds (by rw[h.1];exact h.2))]
     rw[←he];exact hv3
end
def VY(p:Operand)(t:Tmp):Bool:=match p with | .tmp u=>u==t|_=>false
theorem Om{p:Operand}{t:Tmp}(h:VY p t=true):p=.tmp t:=by
 unfold VY at h;split at h
 ·simp only[beq_iff_eq] at h;rw[h]
 ·cases h
def aZ(boxes:List Box)(l:List Oper)(o:Oper)(i:Nat):Bool:=
 o.guard.isNone&&(o.after.toList.all (λe=>!Region.binds .any e||decide (e.on<i))&&((match o.dst with|none=>true|some d=>l.zipIdx.all λy=>y.2==i||y.1.dst != some d) &&
 (match o.op with
  | .alloc t=>boxes.any λx=>x.iA==i&&(o.dst==some x.d&&t==x.ty)
  | .store t p v=>boxes.any λx=>x.iS==i&&(VY p x.d&&(VY v x.y&&(t==x.ty&&(o.dst==none&&((o.after.toList.any λe=>Region.binds .any e&&e.on==x.iA)&&((l.zipIdx.all λy=>y.1.dst != some x.y||o.after.toList.any λe=>Region.binds .any e&&e.on==y.2)&&boxes.all λz=>z.d != x.y))))))
  | .select _ _=>false
  | _=>boxes.all λx=>!(o.looksAt l.toArray).contains x.d&&o.dst != some x.d)))
def iU(l:List Oper)(x:Box):Bool:=
 (match l[x.iA]? with|some o=>(match o.op with | .alloc t=>t==x.ty|_=>false)|none=>false) &&
 (match l[x.iS]? with|some o=>(match o.op with | .store t _ _=>t==x.ty|_=>false)|none=>false)
def apartB:List Box→Bool
 | []=>true
 | x :: bs=>bs.all (λy=>x.iA != y.iA&&(x.iS != y.iS&&x.d != y.d))&&apartB bs
def Qg(boxes:List Box)(l:List Oper):Bool:=l.zipIdx.all (λy=>aZ boxes l y.1 y.2)&&(boxes.all (iU l)&&apartB boxes)
theorem NF:∀{bs:List Box},apartB bs=true→∀x∈bs,∀y∈bs,(x.iA=y.iA∨x.iS=y.iS∨x.d=y.d)→x=y
 | [],_,x,hx,_,_,_=>by cases hx
 | b :: bs,h,x,hx,y,hy,he=>by
  simp only[apartB,Bool.and_eq_true,List.all_eq_true,bne_iff_ne,ne_eq] at h;rcases List.mem_cons.1 hx with hxb|hxb
  ·rcases List.mem_cons.1 hy with hyb|hyb
   ·rw[hxb,hyb]
   ·subst hxb;obtain⟨h1,h2,h3⟩:=h.1 y hyb;rcases he with e|e|e
    ·exact absurd e h1
    ·exact absurd e h2
    ·exact absurd e h3
  ·rcases List.mem_cons.1 hy with hyb|hyb
   ·subst hyb;obtain⟨h1,h2,h3⟩:=h.1 x hxb;rcases he with e|e|e
    ·exact absurd e.symm h1
    ·exact absurd e.symm h2
    ·exact absurd e.symm h3
   ·exact NF h.2 x hxb y hyb he
theorem Nv{l:List Oper}{i:Nat}{o:Oper}(h:l.toArray[i]?=some o):(o,i)∈l.zipIdx:=by rw[List.getElem?_toArray] at h;rw[List.mem_zipIdx_iff_getElem?];exact h
theorem UL{P:Program}{boxes:List Box}{l:List Oper}(h:Qg boxes l=true) (z1:∀x∈boxes,∃z,(P.info? x.ty).map (·.zero)=some (some z)∧z.cells=x.zero.toArray) (z2:∀x∈boxes,(P.info? x.ty).map (·.size)=some x.val.length∧x.zero.length=x.val.length∧x.val.toArray.all (·.oneCell')=true):VG P boxes l.toArray:=by
 simp only[Qg,Bool.and_eq_true] at h;obtain⟨h1,h2,h3⟩:=h;have hop:∀(i:Nat) o,l.toArray[i]?=some o→aZ boxes l o i=true:=λi o ho=>List.all_eq_true.1 h1 _ (Nv ho);refine⟨?_,?_,?_,?_,?_,?_,?_,NF h3,?_,z1,z2⟩
 ·intro i o ho;have:=hop i o ho;simp only[aZ,Bool.and_eq_true,Option.isNone_iff_eq_none] at this;exact this.1
 ·intro i o ho e he hbd;have:=hop i o ho;simp only[aZ,Bool.and_eq_true] at this;have:=List.all_eq_true.1 this.2.1 e (by simpa using he);rw[hbd] at this;simpa using this
 ·intro i o d ho hd j o' hj hd';have:=hop i o ho;simp only[aZ,Bool.and_eq_true,hd] at this;have:=List.all_eq_true.1 this.2.2.1 _ (Nv hj);simp only[Bool.or_eq_true,beq_iff_eq,bne_iff_ne,ne_eq] at this;rcases this with h|h
  ·exact h
  ·exact absurd hd' h
 ·intro i o t ho hot;have:=hop i o ho;simp only[aZ,Bool.and_eq_true,hot,List.any_eq_true,beq_iff_eq] at this;obtain⟨x,hx,e1,e2,e3⟩:=this.2.2.2;exact⟨x,hx,e1,e2,e3⟩
 ·intro i o t p v ho hot;have:=hop i o ho;simp only[aZ,Bool.and_eq_true,hot,List.any_eq_true,beq_iff_eq] at this;obtain⟨x,hx,e1,e2,e3,e4,e5,⟨e,he,e6,e7⟩,e8,e9⟩:=this.2.2.2;refine⟨x,hx,e1,Om e2,Om e3,e4,e5,⟨e,by simpa using he,e6,e7⟩,λj o' hj hd=>?_,λz hz=>?_⟩
  ·have:=List.all_eq_true.1 e8 _ (Nv hj);simp only[Bool.or_eq_true,bne_iff_ne,ne_eq,List.any_eq_true,Bool.and_eq_true,beq_iff_eq] at this;rcases this with h|⟨e,he,h1,h2⟩
   ·exact absurd hd h
   ·exact⟨e,by simpa using he,h1,h2⟩
  ·have:=List.all_eq_true.1 e9 z hz;simpa using this
 ·intro i o ho hn1 hn2 x hx;have:=hop i o ho;simp only[aZ,Bool.and_eq_true] at this;have h4:=this.2.2.2;split at h4
  ·rename_i t ht;exact absurd ht (hn1 t)
  ·rename_i t p v ht;exact absurd ht (hn2 t p v)
  ·cases h4
  ·have:=List.all_eq_true.1 h4 x hx;simp only[Bool.and_eq_true,Bool.not_eq_true',bne_iff_ne,ne_eq,List.contains_eq_mem,decide_eq_false_iff_not] at this;exact this
 ·intro x hx;have:=List.all_eq_true.1 h2 x hx;simp only[iU,Bool.and_eq_true] at this;obtain⟨b1,b2⟩:=this;constructor
  ·cases hA:l[x.iA]? with
   | none=>rw[hA] at b1;cases b1
   | some o=>
    rw[hA] at b1;simp only[] at b1;split at b1
    ·rename_i t ht;simp only[beq_iff_eq] at b1;exact⟨o,by rw[List.getElem?_toArray];exact hA,by rw[ht,b1]⟩
    ·cases b1
  ·cases hA:l[x.iS]? with
   | none=>rw[hA] at b2;cases b2
   | some o=>
    rw[hA] at b2;simp only[] at b2;split at b2
    ·rename_i t p v ht;simp only[beq_iff_eq] at b2;exact⟨o,p,v,by rw[List.getElem?_toArray];exact hA,by rw[ht,b2]⟩
    ·cases b2
 ·intro i o cs b ho hsel;have:=hop i o ho;simp only[aZ,Bool.and_eq_true,hsel] at this;exact absurd this.2.2.2 (by simp)
theorem Iy{P:Program}{ops:Array Oper}{C:World→Prop}{Q Q':Act→Prop}(h:∀a,Q a→Q' a):∀(l:List Oper) (a:Act),wpQuiet P ops C Q l a→wpQuiet P ops C Q' l a
 | [],a,hq=>h a hq
 | o :: l,a,hq=>by
  unfold wpQuiet at hq ⊢;split
  ·rename_i hw;rw[if_pos hw] at hq;exact Oper.quiet_mono (λa'=>Iy h l a') hq
  ·rename_i hw;rw[if_neg hw] at hq;exact Iy h l _ hq
theorem DN{P:Program}{id:Nat}{Q:Exit→Act→World→Prop}{a:Act}{w:World}{l:List Oper}(boxes:List Box)(hm:P.follows .mixedOrders=true)(hB:Region.lexB .any (l.map A8).toArray=true) (hb:Qg boxes l=true) (z1:∀x∈boxes,∃z,(P.info? x.ty).map (·.zero)=some (some z)∧z.cells=x.zero.toArray) (z2:∀x∈boxes,(P.info? x.ty).map (·.size)=some x.val.length∧x.zero.length=x.val.length∧x.val.toArray.all (·.oneCell')=true) (hbd:∀x∈boxes,x.d<a.tmps.size) (aF:Act) (h:∀W,Below w.heap.size w W→wpQuiet P (l.map A8).toArray (λw'=>∃p:Regrown,w'=Sort.grow (redrawn W p.d) p.os) (λa'=>∀w',(∃p:Regrown,w'=Sort.grow (redrawn W p.d) p.os)→a'=aF) (l.map A8) a) (hval:∀x∈boxes,aF.tmps[x.y]?=some (.agg x.val.toArray)) (hQ:∀(β:Nat→Nat) w',Below w.heap.size w w'→(∀x∈boxes,w.heap.size≤β x.d∧Holds w' (β x.d) x.ty x.val)→(∀x∈boxes,∀y∈boxes,x≠y→β x.d≠β y.d)→Q .normal (Dk β boxes aF) w'):(Code.region id l.toArray true).wp P Q a w:=by
 have hok:=UL hb z1 z2;have hd:Below w.heap.size w { w with drawn:=w.drawn+1 }:=⟨rfl,rfl,rfl,Nat.le_refl _,λ_ _=>rfl⟩;refine wp_region_any hm (Tn (w0:={ w with drawn:=w.drawn+1 }) hok hval (λβ w' hb' h1 h2=>hQ β w' (hd.trans hb') h1 h2) _ _ a a _ (λ_=>0) ?_);have hno:∀i,(Array.replicate l.toArray.size false).getD i false=false:=λi=>by rw[Array.getD_eq_getD_getElem?,Array.getElem?_replicate];split<;>rfl
 refine⟨Below.refl _ _,by simp,rfl,rfl,hbd,λ_ _=>rfl,λx _ h=>?_,λx _ h=>?_,λx _ y _ _ h _=>?_,λW hW=>?_⟩
 ·rw[hno] at h;cases h
 ·rw[hno] at h;cases h
 ·rw[hno] at h;cases h
 ·have hWw:Below w.heap.size w W:=hd.trans hW;simp only[Region.lexB,Bool.and_eq_true] at hB;have hmap:l.toArray.map A8=(l.map A8).toArray:=by simp
  rw[hmap];have hq:=h W hWw;have hq2:wpQuiet P (l.map A8).toArray (RJ W) (λa'=>a'=aF) (l.map A8) a:=by refine Iy ?_ _ _ hq;intro a' h';exact h' W (OO W)
  have:=wpAnyQ_lex (P:=P) (ops:=(l.map A8).toArray) (md:=.any) (C:=RJ W) hB.1 (l.map A8) 0 (Array.replicate (l.map A8).toArray.size false) a (λj=>by simp) (by simpa using hB.2) hq2;simpa using this
end
end Go.Proofs.YtimdpiifpibgfaaGreatDoor
