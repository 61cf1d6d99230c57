/- A part of the proof of TopReads. -/
import Derived.Test.YtimdpiifpibgfaaGreatDoorProg
import Derived.WalkKit
import Derived.ProofKit
import Derived.OpenShut
import Derived.ShutString
import Derived.ChangeOld
import Derived.Below
import Derived.Lib.Hide
import Derived.WalkLawsBesides
import Derived.WalkSpells
import Derived.Laws.BitsAllLaws
import Derived.LoopTactic
import Derived.Laws.CopyOwn
import Derived.OwnWalk
import Derived.BigQuiet
import Derived.Deep.Cut
import Derived.Deep.CutBlock
import Derived.Handy
import Derived.Lib.SlBytesConst
import Derived.Lib.QuietBelow
import Derived.Deep.QuietTactic
import Derived.Deep.Quiet
import Derived.Laws.Tables
set_option linter.all false
set_option maxRecDepth 20000
set_option maxHeartbeats 16000000
open Go.RowKit
namespace Go
abbrev AA(n:Int):Value:=.int .i64 n
abbrev Ac(g:Nat):Option Addr:=some ⟨g,0,none⟩
abbrev AP(g:Nat):Value:=.pointer (some ⟨g,0,none⟩)
abbrev AL:Value:=.slice none 0 0
abbrev AU:Value:=.string ⟨#[]⟩
abbrev AB(w w':World):=Below w.heap.size w w'
end Go
namespace Go
theorem og{w w':World}{B:Nat}(h:w.heap.size=B)(k:Below B w w'):Below w.heap.size w w':=h▸k
theorem BJ{p:Prop}(h:p:=by omega):p:=h
theorem Iz{p:Prop}(h:p:=by decide):p:=h
theorem ND{p:Prop}(h:p:=by kernel_rfl):p:=h
theorem Ve{n:Nat}:n<=n:=Nat.le_refl n
theorem Vj{p:Prop}(h:p:=by simp):p:=h
theorem Vk{n:Nat}{w:World}:Below n w w:=Below.refl n w
end Go
namespace Go.RowKit
theorem Hid.o{p:Prop}(h:Hid p):p:=h
end Go.RowKit
namespace Go.Proofs.Tryz
end Go.Proofs.Tryz
namespace Go.Proofs.YtimdpiifpibgfaaGreatDoor
open Tryz
theorem Jt{k:IntKind}{a b:Int}(h:a=b):Ending.returned (.int k a)=.returned (.int k b):=by rw[h]
theorem BX{a b:Bool}(h:a=b):Ending.returned (.bool a)=.returned (.bool b):=by rw[h]
def CX(w:World)(a:Option Addr)(len:Nat)(bs:List Nat):Prop:=
 bs.length=len/\len<=281474976710656/\(∀x∈bs,x<256)/\(0<len->∃b off,a=some ⟨b,off,none⟩/\b<w.heap.size/\∀i,i<len->w.cell? ⟨b,off+i,none⟩=some (.int .u8 ((bs.getD i 0:Nat):Int)))
theorem CX.nil(w:World)(a:Option Addr):CX w a 0 []:=⟨rfl,by omega,by simp,λh=>by omega⟩
theorem CX.len{w:World}{a:Option Addr}{len:Nat}{bs:List Nat}(h:CX w a len bs):bs.length=len:=h.1
theorem CX.below{w w':World}{a:Option Addr}{len:Nat}{bs:List Nat}(h:CX w a len bs)(hb:Below w.heap.size w w'):CX w' a len bs:=by obtain⟨f,g,j,k⟩:=h;refine⟨f,g,j,λh=>?_⟩;obtain⟨b,d,l,c,m⟩:=k h;exact⟨b,d,l,Nat.lt_of_lt_of_le c hb.size,λi n=>by rw[hb.cell (p:=⟨b,d+i,none⟩) c];exact m i n⟩
theorem JE(b o j:Nat):Addr.add ⟨b,o,none⟩ j=⟨b,o+j,none⟩:=by
 unfold Addr.add;split
 .next h=>subst h;rfl
 .rfl
def Holds(w:World)(g:Nat)(e:TypeId)(L:List Value):Prop:=w.heap[g]?=some (.cells L.toArray e (0,0))
theorem Holds.cell{w:World}{g:Nat}{e:TypeId}{L:List Value}(h:Holds w g e L)(i:Nat):w.cell? ⟨g,i,none⟩=L[i]?:=by unfold Holds at h;simp[World.cell?,h]
theorem Holds.free{w:World}{g:Nat}{e:TypeId}{L:List Value}(h:Holds w g e L)(i:Nat):w.frozen? ⟨g,i,none⟩=false:=by unfold Holds at h;simp[World.frozen?,h]
theorem Holds.lt{w:World}{g:Nat}{e:TypeId}{L:List Value}(h:Holds w g e L):g<w.heap.size:=by unfold Holds at h;exact(Array.getElem?_eq_some_iff.1 h).1
theorem Holds.set{w:World}{g:Nat}{e:TypeId}{L:List Value}(h:Holds w g e L)(i:Nat)(v:Value):Holds (w.setCell ⟨g,i,none⟩ v) g e (L.set i v):=by unfold Holds at *;simp[World.setCell,Array.getElem?_modify,h]
theorem Holds.below{w w':World}{B g:Nat}{e:TypeId}{L:List Value}(h:Holds w g e L)(hb:Below B w w')(hg:g<B):Holds w' g e L:=by unfold Holds at *;rw[hb.block g hg];exact h
theorem Holds.drewN{w:World}{g:Nat}{e:TypeId}{L:List Value}(h:Holds w g e L)(n:Nat):Holds (w.drewN n) g e L:=h
theorem GZ{P:Program}(w:World){ops:Array Oper}{rest:List Oper}{o:Oper}{a:Act}{Q:Exit->Act->World->Prop} (hg:o.guard=none) (l c:Operand) (t:TypeId) (hop:o.op=Op.makeSlice t l c) (e:TypeId) (z:Value) (bytes:Nat) (h1:P.underlying t=some (.slice e)) (h2:(P.info? e).map (λi=>(i.zero,i.size,i.bytes))=some (some z,1,bytes)) (hz:z.cells=#[z]) (kl kc:IntKind) (L C:Int) (m n:Nat) (hl:a.eval l=.int kl L) (hc:a.eval c=.int kc C) (hL:L=(m:Int)) (hC:C=(n:Int)) (hmn:m<=n) (b2:bytes*n<=281474976710656) (b3:n<=maxLen) (hK:∀w',Holds w' w.heap.size e (List.replicate n z)->Below w.heap.size w w'->w'.heap.size=w.heap.size+1->wpList P ops Q rest (a.put o.dst (.slice (some ⟨w.heap.size,0,none⟩) m n)) w') :wpList P ops Q (o :: rest) a w:=by
 refine wpList_plain hg λK f=>?_;obtain⟨i,g,h,j,k⟩:=info_parts h2;subst hL hC;have p:i.bytes*n<=281474976710656:=by rw[k];exact b2
 have b:=run_make (P:=P) w t e i z h1 g h kl kc (m:Int) (n:Int) (by omega) (by omega) (by rw[<-Int.natCast_mul];omega) (by unfold maxLen at b3;omega);unfold Oper.wp;simp only[Int.toNat_natCast] at b;simp[execOp,hop,hl,hc,b,Result.andThen];refine f _ _ (hK _ ?_ ?_ (by simp))
 .unfold Holds;rw[j,Nat.mul_one,hz];have d:madeCells #[z] n=(List.replicate n z).toArray:=by rw[<-toList_madeCells_one]
  rw[d];show (w.heap.push _)[w.heap.size]?=_;simp
 .exact(Below.refl _ _).alloc (Nat.le_refl _) _
def Reads(w:World)(sp:Option Addr)(cs:List Value):Prop:=0<cs.length->∃b off,sp=some ⟨b,off,none⟩/\b<w.heap.size/\∀(j:Nat) v,cs[j]?=some v->w.cell? ⟨b,off+j,none⟩=some v
theorem Reads.below{w w':World}{sp:Option Addr}{cs:List Value}(h:Reads w sp cs)(hb:Below w.heap.size w w'):Reads w' sp cs:=λd=>by obtain⟨b,c,f,a,g⟩:=h d;exact⟨b,c,f,Nat.lt_of_lt_of_le a hb.size,λj v i=>by rw[hb.cell (p:=⟨b,c+j,none⟩) a];exact g j v i⟩
theorem Holds.reads{w:World}{g:Nat}{e:TypeId}{L:List Value}(h:Holds w g e L)(i:Nat)(cs:List Value)(hc:∀(j:Nat) v,cs[j]?=some v->L[i+j]?=some v):Reads w (some ⟨g,i,none⟩) cs:=
 λ_=>⟨g,i,rfl,h.lt,λj v a=>by rw[h.cell];exact hc j v a⟩
def Ak(l:List Nat):List Value:=l.map λ(x:Nat)=>.int .u8 (x:Int)
theorem BU(l:List Nat):(Ak l).length=l.length:=by simp[Ak]
theorem Dp(l:List Nat):∀v∈Ak l,v.oneCell'=true:=by simp[Ak,Value.oneCell']
theorem CX.reads{w:World}{a:Option Addr}{len:Nat}{bs:List Nat}(h:CX w a len bs):Reads w a (Ak bs):=by obtain⟨g,n,o,i⟩:=h;intro c;rw[BU,g] at c;obtain⟨b,m,rfl,l,k⟩:=i c;refine⟨b,m,rfl,l,λj v d=>?_⟩;simp only[Ak,List.getElem?_map,Option.map_eq_some_iff] at d;obtain⟨x,f,rfl⟩:=d;have p:j<bs.length:=(List.getElem?_eq_some_iff.1 f).1;rw[k j (by omega)];simp[f]
theorem dB{W w1:World}(hb:Below W.heap.size W w1):(∀b o,b<W.heap.size->w1.cell? ⟨b,o,none⟩=W.cell? ⟨b,o,none⟩)/\(∀b o,b<W.heap.size->w1.frozen? ⟨b,o,none⟩=W.frozen? ⟨b,o,none⟩):=
 ⟨λb o h=>hb.cell (p:=⟨b,o,none⟩) h,λb o h=>hb.frozen (p:=⟨b,o,none⟩) h⟩
theorem AO{w w1 w2:World}(h:Below w.heap.size w w1)(h2:Below w1.heap.size w1 w2):Below w.heap.size w w2:=h.trans (h2.mono h.size)
theorem AQ{P:Program}{f:FuncId}{args:Array Value}{w:World}{d:Nat}{os:Array Obj}{v:Value} (h:∀W,Below w.heap.size w W->Calls P f args W λe w'=>e=.returned v/\Below W.heap.size W w') :Calls P f args (Sort.grow (redrawn w d) os) λe w''=>e=.returned v/\∃p:Regrown,w''=Sort.grow (redrawn w p.d) p.os:=
 Calls.regrown_of (h _ (below_regrown w d os))
theorem W9{P:Program}{f:FuncId}{args:Array Value}{W:World}{v:Value}(h:Calls P f args W λe w'=>e=.returned v/\W=w') :Calls P f args W λe w'=>e=.returned v/\Below W.heap.size W w':=h.mono λ_ _ ⟨a,b⟩=>⟨a,b▸Below.refl _ _⟩
theorem Aa{w w':World}(h:∃p:Regrown,w'=Sort.grow (redrawn w p.d) p.os):Below w.heap.size w w':=by obtain⟨p,rfl⟩:=h;exact below_regrown _ _ _
theorem Holds.grown{w:World}{g:Nat}{e:TypeId}{L:List Value}(h:Holds w g e L)(d:Nat)(os:Array Obj)(i:Nat):(Sort.grow (redrawn w d) os).cell? ⟨g,i,none⟩=L[i]?:=by rw[(below_regrown w d os).cell (p:=⟨g,i,none⟩) h.lt];exact h.cell i
theorem AC(w:World)(e:TypeId)(L:List Value):Holds (w.alloc (.cells L.toArray e)) w.heap.size e L:=by unfold Holds;show (w.heap.push _)[w.heap.size]?=_;simp
structure Touch(g:Nat)(w w':World):Prop where
 os:w'.os=w.os
 tape:w'.tape=w.tape
 output:w'.output=w.output
 size:w.heap.size<=w'.heap.size
 block:∀k,k<w.heap.size->k≠g->w'.heap[k]?=w.heap[k]?
theorem Touch.refl(g:Nat)(w:World):Touch g w w:=⟨rfl,rfl,rfl,Nat.le_refl _,λ_ _ _=>rfl⟩
theorem Touch.trans{g:Nat}{a b c:World}(h:Touch g a b)(k:Touch g b c):Touch g a c:=
 ⟨k.os.trans h.os,k.tape.trans h.tape,k.output.trans h.output,Nat.le_trans h.size k.size,λi f d=>(k.block i (Nat.lt_of_lt_of_le f h.size) d).trans (h.block i f d)⟩
theorem Touch.of_below{g:Nat}{w w':World}(h:Below w.heap.size w w'):Touch g w w':=⟨h.os,h.tape,h.output,h.size,λk a _=>h.block k a⟩
theorem Touch.next{g:Nat}{w w1 w2:World}(h:Touch g w w1)(h2:Below w1.heap.size w1 w2):Touch g w w2:=h.trans (.of_below h2)
theorem Touch.setCell{g:Nat}{w w':World}(h:Touch g w w')(i:Nat)(v:Value):Touch g w (w'.setCell ⟨g,i,none⟩ v):=
 h.trans ⟨rfl,rfl,rfl,by simp[World.setCell],λk _ a=>Below.heap_setCell _ _ _ _ a⟩
theorem Touch.drew{g:Nat}{w w':World}(h:Touch g w w'):Touch g w w'.drew:=⟨h.os,h.tape,h.output,h.size,h.block⟩
theorem Touch.below{g B:Nat}{w w':World}(h:Touch g w w')(hB:B<=g)(hs:B<=w.heap.size):Below B w w':=
 ⟨h.os,h.tape,h.output,h.size,λk a=>h.block k (by omega) (by omega)⟩
theorem Holds.touch{w w':World}{g g':Nat}{e:TypeId}{L:List Value}(h:Holds w g' e L)(ht:Touch g w w')(hg:g'≠g):Holds w' g' e L:=by have:=h.lt;unfold Holds at *;rw[ht.block g' this hg];exact h
abbrev Ap:=Nat->Prop
section
structure Box where
 iA:Nat
 iS:Nat
 d:Tmp
 y:Tmp
 ty:TypeId
 zero:List Value
 val:List Value
def BI(o:Oper):Oper:=
 match o.op with
 | .alloc _=>{ o with op:=.move (.const undef) }
 | .store _ _ _=>{ o with op:=.move (.const undef) }
 | _=>o
theorem XP(o:Oper):(BI o).after=o.after:=by unfold BI;split<;>rfl
theorem QP(o:Oper):(BI o).dst=o.dst:=by unfold BI;split<;>rfl
theorem XQ(o:Oper):(BI o).guard=o.guard:=by unfold BI;split<;>rfl
theorem XR(o:Oper)(h1:∀t,o.op≠.alloc t)(h2:∀t p v,o.op≠.store t p v):BI o=o:=by
 unfold BI;split
 .rename_i t h;exact absurd h (h1 t)
 .rename_i t p v h;exact absurd h (h2 t p v)
 .rfl
structure YA(P:Program)(boxes:List Box)(ops:Array Oper):Prop where
 c1:∀(i:Nat) o,ops[i]?=some o->o.guard=none
 c2:∀(i:Nat) o,ops[i]?=some o->∀e∈o.after,Region.binds .any e=true->e.on<i
 c3:∀(i:Nat) o d,ops[i]?=some o->o.dst=some d->∀(j:Nat) o',ops[j]?=some o'->o'.dst=some d->j=i
 c4:∀(i:Nat) o t,ops[i]?=some o->o.op=.alloc t->∃x∈boxes,x.iA=i/\o.dst=some x.d/\t=x.ty
 c5:∀(i:Nat) o t p v,ops[i]?=some o->o.op=.store t p v->∃x∈boxes,x.iS=i/\p=.tmp x.d/\v=.tmp x.y/\t=x.ty/\o.dst=none/\(∃e∈o.after,Region.binds .any e=true/\e.on=x.iA)/\(∀(j:Nat) o',ops[j]?=some o'->o'.dst=some x.y->∃e∈o.after,Region.binds .any e=true/\e.on=j)/\∀z∈boxes,z.d≠x.y
 c6:∀(i:Nat) o,ops[i]?=some o->(∀t,o.op≠.alloc t)->(∀t p v,o.op≠.store t p v)->∀x∈boxes,x.d∉o.looksAt ops/\o.dst≠some x.d
 c7:∀x∈boxes,(∃o,ops[x.iA]?=some o/\o.op=.alloc x.ty)/\(∃o p v,ops[x.iS]?=some o/\o.op=.store x.ty p v)
 c8:∀x∈boxes,∀y∈boxes,(x.iA=y.iA\/x.iS=y.iS\/x.d=y.d)->x=y
 c9:∀(i:Nat) o cs b,ops[i]?=some o->o.op≠.select cs b
 z1:∀x∈boxes,∃z,(P.info? x.ty).map (·.zero)=some (some z)/\z.cells=x.zero.toArray
 z2:∀x∈boxes,(P.info? x.ty).map (·.size)=some x.val.length/\x.zero.length=x.val.length/\x.val.toArray.all (·.oneCell')=true
theorem OO{P:Program}{t:TypeId}{z:Value}(w:World)(h:(P.info? t).map (·.zero)=some (some z)):(zeroValue t).run P w=.ok z w:=by
 cases a:P.info? t with
 | none=>simp[a] at h
 | some i=>
  have b:i.zero=some z:=by simpa[a] using h
  simp[zeroValue,typeInfo,a,b]
theorem Uu{P:Program}{o:Oper}{a:Act}{w:World}{K:Act->World->Prop}{Q:Exit->Act->World->Prop}{t:TypeId}{z:Value}{cs:List Value}(ho:o.op=.alloc t)(hz:(P.info? t).map (·.zero)=some (some z))(hc:z.cells=cs.toArray) (h:K (a.put o.dst (.pointer (some ⟨w.heap.size,0,none⟩))) (w.alloc (.cells cs.toArray t))):o.wp P a w K Q:=by unfold Oper.wp execOp;simp only[ho,Instr.alloc,Sem.run_bind,OO w hz,Result.andThen_ok,newVar,newRow,run_newObj_alloc,Sem.run_pure,hc];exact h
theorem J3{P:Program}{o:Oper}{a:Act}{w:World}{K:Act->World->Prop}{Q:Exit->Act->World->Prop}{t:TypeId}{p v:Operand}{b:Nat}{old cs:List Value}(ho:o.op=.store t p v)(hd:o.dst=none) (hx:a.eval p=.pointer (some ⟨b,0,none⟩)) (hy:a.eval v=.agg cs.toArray) (hg:Holds w b t old) (hi:(P.info? t).map (·.size)=some cs.length) (hl:old.length=cs.length) (h1:cs.toArray.all (·.oneCell')=true) (h:K a (w.setRow b cs.toArray)):o.wp P a w K Q:=by unfold Oper.wp execOp;simp only[ho,hx,hy,Instr.storeAt,Instr.sureAddr,Sem.run_bind,Sem.run_pure,Result.andThen_ok,run_storeVar_row w b t t old.toArray cs.toArray hg (by simpa using hi) (by simpa using hl) h1];show K (a.put o.dst undef) _;rw[hd];exact h
theorem I5(a:Act)(d t:Tmp)(v:Value):(a.put (some d) v).tmps[t]?=if d=t/\t<a.tmps.size then some v else a.tmps[t]?:=by
 show (a.tmps.setIfInBounds d v)[t]?=_;rw[Array.getElem?_setIfInBounds];by_cases h:d=t
 .subst h;by_cases b:d<a.tmps.size
  .simp[b]
  .simp[b]
 .simp[h]
theorem FV(a:Act)(d:Option Tmp)(v:Value):(a.put d v).tmps.size=a.tmps.size:=by cases d<;>simp[Act.put]
theorem put_defers(a:Act)(d:Option Tmp)(v:Value):(a.put d v).defers=a.defers:=by cases d<;>rfl
theorem Gu(a:Act)(d:Option Tmp)(t:Tmp)(v:Value)(h:d≠some t):(a.put d v).tmps[t]?=a.tmps[t]?:=by
 cases d with
 | none=>rfl
 | some d=>rw[I5,if_neg (λb=>h (by rw[b.1]))]
section
variable {P:Program} {ops:Array Oper}
theorem Kz{C:World->Prop}{aF:Act}{d:Tmp}:∀(fuel:Nat) (L:Array Bool) (aa:Act),wpAnyQ P .any ops C (λa'=>a'=aF) fuel L aa->(∀(j:Nat) o,ops[j]?=some o->o.dst=some d->L.getD j false=true)->aF.tmps[d]?=aa.tmps[d]?
 | 0,_,_,h,_=>by rw[<-h.2]
 | fuel+1,L,aa,h,hd=>by
  cases hr:Region.ready .any ops L with
  | nil=>rw[h.1 hr]
  | cons i rs=>
   have hi:i∈Region.ready .any ops L:=by rw[hr];exact List.mem_cons_self
   obtain⟨c,o,k,q⟩:=mem_ready.1 hi;have a:=h.2 i hi;unfold qOp at a;simp only[k] at a;have g:o.dst≠some d:=λn=>by
    have:=hd i o k n;rcases Nat.lt_or_ge i L.size with b | b
    .simp[b] at c this;rw[c] at this;cases this
    .simp[Array.getElem?_eq_none b] at c
   have f:∀(j:Nat) o,ops[j]?=some o->o.dst=some d->(L.setIfInBounds i true).getD j false=true:=λj p l m=>getD_set_true (hd j p l m);split at a
   .obtain⟨v,_,hn⟩:=a;rw[Kz fuel _ _ hn f,Gu _ _ _ _ g]
   .rw[Kz fuel _ _ a f,Gu _ _ _ _ g]
theorem P7(hc:∀(i:Nat) o,ops[i]?=some o->∀e∈o.after,Region.binds .any e=true->e.on<i)(L:Array Bool)(hL:L.size=ops.size)(h:Region.ready .any ops L=[]):∀i,i<ops.size->L.getD i false=true:=by
 intro i;induction i using Nat.strongRecOn with
 | ind i ih=>
  intro a;cases b:L.getD i false
  .exfalso;have:i∈Region.ready .any ops L:=mem_ready.2 ⟨by
    rw[Array.getD_eq_getD_getElem?] at b |-;rw[Array.getElem?_eq_getElem (by omega)] at b |-;exact b,ops[i],Array.getElem?_eq_getElem a,λe d c=>ih e.on (hc i _ (Array.getElem?_eq_getElem a) e d c) (by have:=hc i _ (Array.getElem?_eq_getElem a) e d c;omega)⟩
   rw[h] at this;cases this
  .rfl
end
def D7(β:Nat->Nat)(bs:List Box)(a:Act):Act:=bs.foldl (λa x=>a.put (some x.d) (.pointer (some ⟨β x.d,0,none⟩))) a
theorem NH(β:Nat->Nat):∀(bs:List Box) (a:Act),(D7 β bs a).tmps.size=a.tmps.size/\(D7 β bs a).defers=a.defers
 | [],_=>⟨rfl,rfl⟩
 | x :: bs,a=>by have:=NH β bs (a.put (some x.d) (.pointer (some ⟨β x.d,0,none⟩)));exact⟨this.1.trans (FV _ _ _),this.2.trans (put_defers _ _ _)⟩
theorem LM(β:Nat->Nat)(t:Tmp):∀(bs:List Box) (a:Act),(∀x∈bs,x.d≠t)->(D7 β bs a).tmps[t]?=a.tmps[t]?
 | [],_,_=>rfl
 | x :: bs,a,h=>by rw[show D7 β (x :: bs) a=D7 β bs (a.put (some x.d) (.pointer (some ⟨β x.d,0,none⟩))) from rfl,LM β t bs _ (λy hy=>h y (List.mem_cons_of_mem _ hy)),Gu _ _ _ _ (λhe=>h x List.mem_cons_self (by injection he))]
theorem Vx(β:Nat->Nat)(t:Tmp):∀(bs:List Box) (a:Act),t<a.tmps.size->(∃x∈bs,x.d=t)->(D7 β bs a).tmps[t]?=some (.pointer (some ⟨β t,0,none⟩))
 | [],_,_,h=>by obtain⟨x,hx,_⟩:=h;cases hx
 | x :: bs,a,hs,h=>by
  rw[show D7 β (x :: bs) a=D7 β bs (a.put (some x.d) (.pointer (some ⟨β x.d,0,none⟩))) from rfl];by_cases c:∃y∈bs,y.d=t
  .exact Vx β t bs _ (by rw[FV];exact hs) c
  .have hx:x.d=t:=by
    obtain⟨y,b,f⟩:=h;rcases List.mem_cons.1 b with rfl|b
    .exact f
    .exact absurd ⟨y,b,f⟩ c
   rw[LM β t bs _ (λy b g=>c ⟨y,b,g⟩),I5,if_pos ⟨hx,hs⟩,hx]
def U0(W:World):World->Prop:=λw'=>∃p:Regrown,w'=Sort.grow (redrawn W p.d) p.os
theorem QA(W:World):U0 W W:=⟨⟨W.drawn,#[]⟩,by rw[Sort.grow_empty];rfl⟩
theorem ZF{W w:World}(h:U0 W w):Below W.heap.size W w:=Aa h
structure yK(P:Program)(boxes:List Box)(ops:Array Oper)(w0:World)(aF:Act)(fuel:Nat)(L:Array Bool)(aa ar:Act)(w:World)(β:Nat->Nat):Prop where
 bel:Below w0.heap.size w0 w
 ls:L.size=ops.size
 sz:ar.tmps.size=aa.tmps.size
 df:ar.defers=aa.defers
 bd:∀x∈boxes,x.d<aa.tmps.size
 eq:∀t,(∀x∈boxes,x.d≠t)->ar.tmps[t]?=aa.tmps[t]?
 ord:∀x∈boxes,L.getD x.iS false=true->L.getD x.iA false=true
 blk:∀x∈boxes,L.getD x.iA false=true->ar.tmps[x.d]?=some (.pointer (some ⟨β x.d,0,none⟩))/\w0.heap.size<=β x.d/\Holds w (β x.d) x.ty (if L.getD x.iS false=true then x.val else x.zero)
 ne:∀x∈boxes,∀y∈boxes,x≠y->L.getD x.iA false=true->L.getD y.iA false=true->β x.d≠β y.d
 q:∀W,Below w0.heap.size w0 W->wpAnyQ P .any (ops.map BI) (U0 W) (λa'=>a'=aF) fuel L aa
theorem NK(ops:Array Oper)(L:Array Bool):Region.ready .any (ops.map BI) L=Region.ready .any ops L:=by
 unfold Region.ready;rw[Array.size_map];apply List.filter_congr;intro i _;rw[Array.getElem?_map,Option.map_map]
 congr 2
 cases ops[i]? with
 | none=>rfl
 | some o=>simp[Function.comp,XP]
theorem Df{L:Array Bool}{i j:Nat}(d:Bool)(h:i≠j):(L.setIfInBounds i true).getD j d=L.getD j d:=getD_set_ne d h
theorem QM{L:Array Bool}{i:Nat}(h:i<L.size)(d:Bool):(L.setIfInBounds i true).getD i d=true:=by simp[h]
theorem Si{L:Array Bool}{i:Nat}(h:L.getD i true=false):i<L.size/\L.getD i false=false:=by
 rcases Nat.lt_or_ge i L.size with a | a
 .refine⟨a,?_⟩;simp[a] at h |-;exact h
 .simp[Array.getElem?_eq_none a] at h
theorem ZR{a b:Act}{t:Tmp}(h:a.tmps[t]?=b.tmps[t]?):a.eval (.tmp t)=b.eval (.tmp t):=by show a.tmps.getD t undef=b.tmps.getD t undef;rw[Array.getD_eq_getD_getElem?,Array.getD_eq_getD_getElem?,h]
theorem QH{a:Act}{t:Tmp}{v:Value}(h:a.tmps[t]?=some v):a.eval (.tmp t)=v:=by show a.tmps.getD t undef=v;rw[Array.getD_eq_getD_getElem?,h];rfl
theorem YD{a b:Act}(h1:a.tmps.size=b.tmps.size)(h2:∀t:Nat,a.tmps[t]?=b.tmps[t]?)(h3:a.defers=b.defers):a=b:=by cases a;cases b;simp only[Act.mk.injEq];exact⟨Array.ext_getElem? h2,h3⟩
section
variable {P:Program} {boxes:List Box} {ops:Array Oper} {w0:World} {aF:Act} {Q:Exit->Act->World->Prop}
theorem WS(hok:YA P boxes ops)(hval:∀x∈boxes,aF.tmps[x.y]?=some (.agg x.val.toArray)) (hQ:∀(β:Nat->Nat) w',Below w0.heap.size w0 w'->(∀x∈boxes,w0.heap.size<=β x.d/\Holds w' (β x.d) x.ty x.val)->(∀x∈boxes,∀y∈boxes,x≠y->β x.d≠β y.d)->Q .normal (D7 β boxes aF) w') :∀(fuel:Nat) (L:Array Bool) (aa ar:Act) (w:World) (β:Nat->Nat),yK P boxes ops w0 aF fuel L aa ar w β->wpAny P .any ops Q fuel L ar w:=by

 have ao:∀(fuel:Nat) (L:Array Bool) (aa ar:Act) (w:World) (β:Nat->Nat),yK P boxes ops w0 aF fuel L aa ar w β->Region.ready .any ops L=[]->aa=aF->Q .normal ar w:=by
  intro fuel L aa ar w β S hr ha;have T:=P7 hok.c2 L S.ls hr;have hA:∀x∈boxes,L.getD x.iA false=true:=λx l=>by obtain⟨⟨o,u,_⟩,_⟩:=hok.c7 x l;exact T _ (Array.getElem?_eq_some_iff.1 u).1
  have hS:∀x∈boxes,L.getD x.iS false=true:=λx l=>by obtain⟨_,o,_,_,u,_⟩:=hok.c7 x l;exact T _ (Array.getElem?_eq_some_iff.1 u).1
  have n:ar=D7 β boxes aF:=by
   subst ha;refine YD (S.sz.trans (NH β boxes aa).1.symm) (λt=>?_) (S.df.trans (NH β boxes aa).2.symm);by_cases H:∃x∈boxes,x.d=t
   .obtain⟨x,l,rfl⟩:=H;rw[Vx β x.d boxes aa (S.bd x l) ⟨x,l,rfl⟩];exact(S.blk x l (hA x l)).1
   .have hn:∀x∈boxes,x.d≠t:=λx l h=>H ⟨x,l,h⟩;rw[LM β t boxes aa hn];exact S.eq t hn
  rw[n];refine hQ β w S.bel (λx l=>?_) (λx l y k a7=>S.ne x l y k a7 (hA x l) (hA y k));obtain⟨_,m,r⟩:=S.blk x l (hA x l);rw[if_pos (hS x l)] at r;exact⟨m,r⟩
 intro fuel;induction fuel with
 | zero=>
  intro L aa ar w β S;have h:=S.q w0 (Below.refl _ _);have h0:Region.ready .any ops L=[]:=by rw[<-NK];exact h.1
  exact⟨h0,ao 0 L aa ar w β S h0 h.2⟩
 | succ fuel ih=>
  intro L aa ar w β S;refine⟨λhr=>ao _ L aa ar w β S hr ((S.q w0 (Below.refl _ _)).1 (by rw[NK];exact hr)),λi hi=>?_⟩;obtain⟨a6,o,u,T⟩:=mem_ready.1 hi;obtain⟨aq,au⟩:=Si a6;have a3:i∈Region.ready .any (ops.map BI) L:=by rw[NK];exact hi
  have a4:(ops.map BI)[i]?=some (BI o):=by rw[Array.getElem?_map,u];rfl
  have hg:=hok.c1 i o u;have hw:Region.wanted o (yielded ops ar.tmps)=true:=by simp[Region.wanted,hg]
  have X:∀a:Act,Region.wanted (BI o) (yielded (ops.map BI) a.tmps)=true:=λa=>by simp[Region.wanted,XQ,hg]
  have V:∀W,Below w0.heap.size w0 W->∃v,(∀w',U0 W w'->(BI o).quietAt P aa (U0 W) w' v)/\wpAnyQ P .any (ops.map BI) (U0 W) (λY=>Y=aF) fuel (L.setIfInBounds i true) (aa.put o.dst v):=λW K=>by have h:=(S.q W K).2 i a3;unfold qOp at h;simp only[a4,X aa,if_true] at h;obtain⟨v,F,m⟩:=h;rw[QP] at m;exact⟨v,F,m⟩
  have ap:∀(d:Tmp),o.dst=some d->∀(j:Nat) o',(ops.map BI)[j]?=some o'->o'.dst=some d->(L.setIfInBounds i true).getD j false=true:=λd hd j o' D am=>by
   rw[Array.getElem?_map] at D;cases M:ops[j]? with
   | none=>rw[M] at D;cases D
   | some oj=>
    rw[M] at D;simp only[Option.map_some,Option.some.injEq] at D;subst D;rw[QP] at am;have:=hok.c3 i o d u hd j oj M am;subst this;exact QM aq _
  unfold wpOp;simp only[u,hw,if_true];refine .inl ?_;have ah:(L.setIfInBounds i true).size=ops.size:=by rw[Array.size_setIfInBounds];exact S.ls
  by_cases ak:∃t,o.op=.alloc t
  .obtain⟨t,hot⟩:=ak;obtain⟨x,l,R,ax,rfl⟩:=hok.c4 i o t u hot;obtain⟨z,hz,be⟩:=hok.z1 x l;have U:L.getD x.iA false=false:=by rw[R];exact au
   have ag:L.getD x.iS false=false:=by
    cases h:L.getD x.iS false
    .rfl
    .have:=S.ord x l h;rw[U] at this;cases this
   have I:∀y∈boxes,i≠y.iS:=λy k n=>by obtain⟨_,o2,p,v,E,G⟩:=hok.c7 y k;rw[<-n,u] at E;cases E;rw[hot] at G;cases G
   have A:∀y∈boxes,y≠x->i≠y.iA:=λy k s n=>s (hok.c8 y k x l (.inl (by rw[R,n])));have O:∀y∈boxes,y≠x->y.d≠x.d:=λy k s n=>s (hok.c8 y k x l (.inr (.inr n)));refine Uu hot hz be ?_;refine ih _ (aa.put o.dst undef) _ _ (λt=>if t=x.d then w.heap.size else β t) ?_;rw[ax];refine⟨S.bel.alloc S.bel.size _,ah,by rw[FV,FV];exact S.sz,by rw[put_defers,put_defers];exact S.df,λy k=>by rw[FV];exact S.bd y k,?_,?_,?_,?_,?_⟩
   .intro t H;rw[Gu _ _ _ _ (by intro h;injection h with h;exact H x l h),Gu _ _ _ _ (by intro h;injection h with h;exact H x l h)];exact S.eq t H
   .intro y k h;rw[Df _ (I y k)] at h;have:=S.ord y k h;exact getD_set_true this
   .intro y k h;rw[Df _ (I y k)];by_cases s:y=x
    .subst s;rw[I5,if_pos ⟨rfl,by rw[S.sz];exact S.bd y k⟩,ag];simp only[if_true];exact⟨trivial,S.bel.size,AC w y.ty y.zero⟩
    .rw[Df _ (A y k s)] at h;obtain⟨F,m,r⟩:=S.blk y k h;simp only[if_neg (O y k s)];refine⟨?_,m,r.below (B:=w.heap.size) ((Below.refl _ _).alloc (Nat.le_refl _) _) r.lt⟩;rw[Gu _ _ _ _ (by intro n;injection n with n;exact O y k s n.symm)];exact F
   .intro y k y2 hy2 J h m;by_cases r:y=x
    .subst r;have N:y2≠y:=λh=>J h.symm;rw[Df _ (A y2 hy2 N)] at m;simp only[if_true,if_neg (O y2 hy2 N)];have:=(S.blk y2 hy2 m).2.2.lt;omega
    .rw[Df _ (A y k r)] at h;by_cases N:y2=x
     .subst N;simp only[if_true,if_neg (O y k r)];have:=(S.blk y k h).2.2.lt;omega
     .rw[Df _ (A y2 hy2 N)] at m;simp only[if_neg (O y k r),if_neg (O y2 hy2 N)];exact S.ne y k y2 hy2 J h m
   .intro W K;obtain⟨v,F,m⟩:=V W K;have r:=F W (QA W);have hh:BI o={ o with op:=.move (.const undef) }:=by unfold BI;rw[hot]
    rw[hh] at r;simp only[Oper.quietAt,execOp,Sem.run_pure,Sem.run_bind,Result.andThen_ok,Oper.quietUpon,Act.eval] at r;rw[ax] at m;have hv:v=undef:=r.2.symm;rw[hv] at m;exact m
  .by_cases hst:∃t p v,o.op=.store t p v
   .obtain⟨t,p,v,hot⟩:=hst;obtain⟨x,l,R,rfl,rfl,rfl,hd,⟨e,n,ae,af⟩,a8,a1⟩:=hok.c5 i o t p v u hot;have U:L.getD x.iA false=true:=by rw[<-af];exact T e n ae
    have ag:L.getD x.iS false=false:=by rw[R];exact au
    obtain⟨az,a0,ab⟩:=S.blk x l U;rw[ag] at ab;simp only[Bool.false_eq_true,if_false] at ab;obtain⟨ba,bb,bc⟩:=hok.z2 x l;have a9:ar.eval (.tmp x.y)=.agg x.val.toArray:=by
     refine QH ?_;rw[S.eq x.y a1];obtain⟨_,_,m⟩:=V w0 (Below.refl _ _);have r:=(S.q w0 (Below.refl _ _));rw[<-hval x l];refine(Kz _ _ _ r ?_).symm;intro j o' D an;rw[Array.getElem?_map] at D;cases M:ops[j]? with
     | none=>rw[M] at D;cases D
     | some oj=>
      rw[M] at D;simp only[Option.map_some,Option.some.injEq] at D;subst D;rw[QP] at an;obtain⟨e,n,ae,af⟩:=a8 j oj M an;rw[<-af];exact T e n ae
    have A:∀y∈boxes,i≠y.iA:=λy k n=>by obtain⟨⟨o2,E,G⟩,_⟩:=hok.c7 y k;rw[<-n,u] at E;cases E;rw[hot] at G;cases G
    have I:∀y∈boxes,y≠x->i≠y.iS:=λy k s n=>s (hok.c8 y k x l (.inr (.inl (by rw[R,n]))));refine J3 hot hd (QH az) a9 ab ba bb bc ?_;refine ih _ aa _ _ β ?_;refine⟨below_setRow S.bel a0 _,ah,S.sz,S.df,S.bd,S.eq,?_,?_,?_,?_⟩
    .intro y k h;rw[Df _ (A y k)];by_cases s:y=x
     .subst s;exact U
     .rw[Df _ (I y k s)] at h;exact S.ord y k h
    .intro y k h;rw[Df _ (A y k)] at h;obtain⟨F,m,r⟩:=S.blk y k h;refine⟨F,m,?_⟩;by_cases s:y=x
     .subst s;rw[R,if_pos (QM aq _)];exact setRow_heap _ _ _ _ _ _ ab
     .rw[Df _ (I y k s)];have J:=S.ne y k x l s h U;unfold Holds at r |-;rw[setRow_other _ _ _ _ J];exact r
    .intro y k y2 hy2 J h m;rw[Df _ (A y k)] at h;rw[Df _ (A y2 hy2)] at m;exact S.ne y k y2 hy2 J h m
    .intro W K;obtain⟨v,_,m⟩:=V W K;rw[hd] at m;exact m
   .have hn1:∀t,o.op≠.alloc t:=λt h=>ak ⟨t,h⟩;have ai:∀t p v,o.op≠.store t p v:=λt p v h=>hst ⟨t,p,v,h⟩;have hh:=XR o hn1 ai;have h6:=hok.c6 i o u hn1 ai;have A:∀y∈boxes,i≠y.iA:=λy k n=>by obtain⟨⟨o2,E,G⟩,_⟩:=hok.c7 y k;rw[<-n,u] at E;cases E;exact hn1 _ G
    have I:∀y∈boxes,i≠y.iS:=λy k n=>by obtain⟨_,o2,p,v,E,G⟩:=hok.c7 y k;rw[<-n,u] at E;cases E;exact ai _ _ _ G
    obtain⟨v,av,aw⟩:=V w S.bel;rw[hh] at av;have a2:execOp ar.eval o=execOp aa.eval o:=execOp_congr o (λcs b=>hok.c9 i o cs b u) λy k=>by
     cases y with
     | tmp t=>
      refine ZR (S.eq t λx l n=>?_);refine(h6 x l).1 ?_;rw[n];exact List.mem_append_left _ (List.mem_filterMap.2 ⟨.tmp t,by simpa using k,rfl⟩)
     | const c=>rfl
     | global g=>rfl
     | func f=>rfl
    have a5:o.quiet P ar (U0 w) (λY=>Y=ar.put o.dst v):=⟨v,λw' X=>by
     have:=av w' X;unfold Oper.quietAt at this |-;rw[a2];exact this,rfl⟩
    refine Oper.wp_of_quiet (C:=U0 w) (QA w) (λY w' X ay=>?_) a5;subst ay;have al:=ZF X;refine ih _ (aa.put o.dst v) _ _ β ?_;refine⟨S.bel.trans (al.mono S.bel.size),ah,by rw[FV,FV];exact S.sz,by rw[put_defers,put_defers];exact S.df,λy k=>by rw[FV];exact S.bd y k,?_,?_,?_,?_,?_⟩
    .intro t H;cases ac:o.dst with
     | none=>exact S.eq t H
     | some d=>
      rw[I5,I5,S.sz];split
      .rfl
      .exact S.eq t H
    .intro y k h;rw[Df _ (I y k)] at h;rw[Df _ (A y k)];exact S.ord y k h
    .intro y k h;rw[Df _ (A y k)] at h;rw[Df _ (I y k)];obtain⟨F,m,r⟩:=S.blk y k h;refine⟨?_,m,r.below al r.lt⟩;rw[Gu _ _ _ _ (h6 y k).2];exact F
    .intro y k y2 hy2 J h m;rw[Df _ (A y k)] at h;rw[Df _ (A y2 hy2)] at m;exact S.ne y k y2 hy2 J h m
    .intro W K;obtain⟨v2,_,aj⟩:=V W K;have n:aa.put o.dst v2=aa.put o.dst v:=by
      cases ac:o.dst with
      | none=>rfl
      | some d=>
       rw[ac] at aw aj;by_cases ad:d<aa.tmps.size
       .have e1:=Kz _ _ _ aw (ap d ac);have Z:=Kz _ _ _ aj (ap d ac);rw[I5,if_pos ⟨rfl,ad⟩] at e1 Z;rw[e1] at Z;simp only[Option.some.injEq] at Z;rw[Z]
       .refine YD (by rw[FV,FV]) (λt=>?_) (by rw[put_defers,put_defers]);rw[I5,I5,if_neg (λh=>ad (by rw[h.1];exact h.2)),if_neg (λh=>ad (by rw[h.1];exact h.2))]
     rw[<-n];exact aj
end
def YW(p:Operand)(t:Tmp):Bool:=match p with | .tmp u=>u==t|_=>false
theorem QR{p:Operand}{t:Tmp}(h:YW p t=true):p=.tmp t:=by
 unfold YW at h;split at h
 .simp only[beq_iff_eq] at h;rw[h]
 .cases h
def nT(boxes:List Box)(l:List Oper)(o:Oper)(i:Nat):Bool:=
 o.guard.isNone&&(o.after.toList.all (λe=>!Region.binds .any e||decide (e.on<i))&&((match o.dst with|none=>true|some d=>l.zipIdx.all λy=>y.2==i||y.1.dst != some d) &&
 (match o.op with
  | .alloc t=>boxes.any λx=>x.iA==i&&(o.dst==some x.d&&t==x.ty)
  | .store t p v=>boxes.any λx=>x.iS==i&&(YW p x.d&&(YW v x.y&&(t==x.ty&&(o.dst==none&&((o.after.toList.any λe=>Region.binds .any e&&e.on==x.iA)&&((l.zipIdx.all λy=>y.1.dst != some x.y||o.after.toList.any λe=>Region.binds .any e&&e.on==y.2)&&boxes.all λz=>z.d != x.y))))))
  | .select _ _=>false
  | _=>boxes.all λx=>!(o.looksAt l.toArray).contains x.d&&o.dst != some x.d)))
def vI(l:List Oper)(x:Box):Bool:=
 (match l[x.iA]? with|some o=>(match o.op with | .alloc t=>t==x.ty|_=>false)|none=>false) &&
 (match l[x.iS]? with|some o=>(match o.op with | .store t _ _=>t==x.ty|_=>false)|none=>false)
def apartB:List Box->Bool
 | []=>true
 | x :: bs=>bs.all (λy=>x.iA != y.iA&&(x.iS != y.iS&&x.d != y.d))&&apartB bs
def UE(boxes:List Box)(l:List Oper):Bool:=l.zipIdx.all (λy=>nT boxes l y.1 y.2)&&(boxes.all (vI l)&&apartB boxes)
theorem PD:∀{bs:List Box},apartB bs=true->∀x∈bs,∀y∈bs,(x.iA=y.iA\/x.iS=y.iS\/x.d=y.d)->x=y
 | [],_,x,hx,_,_,_=>by cases hx
 | b :: bs,h,x,hx,y,hy,he=>by
  simp only[apartB,Bool.and_eq_true,List.all_eq_true,bne_iff_ne,ne_eq] at h;rcases List.mem_cons.1 hx with hxb|hxb
  .rcases List.mem_cons.1 hy with hyb|hyb
   .rw[hxb,hyb]
   .subst hxb;obtain⟨h1,h2,h3⟩:=h.1 y hyb;rcases he with e|e|e
    .exact absurd e h1
    .exact absurd e h2
    .exact absurd e h3
  .rcases List.mem_cons.1 hy with hyb|hyb
   .subst hyb;obtain⟨h1,h2,h3⟩:=h.1 x hxb;rcases he with e|e|e
    .exact absurd e.symm h1
    .exact absurd e.symm h2
    .exact absurd e.symm h3
   .exact PD h.2 x hxb y hyb he
theorem Pj{l:List Oper}{i:Nat}{o:Oper}(h:l.toArray[i]?=some o):(o,i)∈l.zipIdx:=by rw[List.getElem?_toArray] at h;rw[List.mem_zipIdx_iff_getElem?];exact h
theorem Wy{P:Program}{boxes:List Box}{l:List Oper}(h:UE boxes l=true) (z1:∀x∈boxes,∃z,(P.info? x.ty).map (·.zero)=some (some z)/\z.cells=x.zero.toArray) (z2:∀x∈boxes,(P.info? x.ty).map (·.size)=some x.val.length/\x.zero.length=x.val.length/\x.val.toArray.all (·.oneCell')=true):YA P boxes l.toArray:=by
 simp only[UE,Bool.and_eq_true] at h;obtain⟨s,u,H⟩:=h;have g:∀(i:Nat) o,l.toArray[i]?=some o->nT boxes l o i=true:=λi o a=>List.all_eq_true.1 s _ (Pj a);refine⟨?_,?_,?_,?_,?_,?_,?_,PD H,?_,z1,z2⟩
 .intro i o a;have:=g i o a;simp only[nT,Bool.and_eq_true,Option.isNone_iff_eq_none] at this;exact this.1
 .intro i o a e m hbd;have:=g i o a;simp only[nT,Bool.and_eq_true] at this;have:=List.all_eq_true.1 this.2.1 e (by simpa using m);rw[hbd] at this;simpa using this
 .intro i o d a y j J A hd';have:=g i o a;simp only[nT,Bool.and_eq_true,y] at this;have:=List.all_eq_true.1 this.2.2.1 _ (Pj A);simp only[Bool.or_eq_true,beq_iff_eq,bne_iff_ne,ne_eq] at this;rcases this with h|h
  .exact h
  .exact absurd hd' h
 .intro i o t a hot;have:=g i o a;simp only[nT,Bool.and_eq_true,hot,List.any_eq_true,beq_iff_eq] at this;obtain⟨x,k,n,q,r⟩:=this.2.2.2;exact⟨x,k,n,q,r⟩
 .intro i o t p v a hot;have:=g i o a;simp only[nT,Bool.and_eq_true,hot,List.any_eq_true,beq_iff_eq] at this;obtain⟨x,k,n,q,r,B,C,⟨e,m,D,E⟩,F,G⟩:=this.2.2.2;refine⟨x,k,n,QR q,QR r,B,C,⟨e,by simpa using m,D,E⟩,λj J A y=>?_,λz I=>?_⟩
  .have:=List.all_eq_true.1 F _ (Pj A);simp only[Bool.or_eq_true,bne_iff_ne,ne_eq,List.any_eq_true,Bool.and_eq_true,beq_iff_eq] at this;rcases this with h|⟨e,m,s,u⟩
   .exact absurd y h
   .exact⟨e,by simpa using m,s,u⟩
  .have:=List.all_eq_true.1 G z I;simpa using this
 .intro i o a hn1 hn2 x k;have:=g i o a;simp only[nT,Bool.and_eq_true] at this;have w:=this.2.2.2;split at w
  .rename_i t ht;exact absurd ht (hn1 t)
  .rename_i t p v ht;exact absurd ht (hn2 t p v)
  .cases w
  .have:=List.all_eq_true.1 w x k;simp only[Bool.and_eq_true,Bool.not_eq_true',bne_iff_ne,ne_eq,List.contains_eq_mem,decide_eq_false_iff_not] at this;exact this
 .intro x k;have:=List.all_eq_true.1 u x k;simp only[vI,Bool.and_eq_true] at this;obtain⟨c,f⟩:=this;constructor
  .cases hA:l[x.iA]? with
   | none=>rw[hA] at c;cases c
   | some o=>
    rw[hA] at c;simp only[] at c;split at c
    .rename_i t ht;simp only[beq_iff_eq] at c;exact⟨o,by rw[List.getElem?_toArray];exact hA,by rw[ht,c]⟩
    .cases c
  .cases hA:l[x.iS]? with
   | none=>rw[hA] at f;cases f
   | some o=>
    rw[hA] at f;simp only[] at f;split at f
    .rename_i t p v ht;simp only[beq_iff_eq] at f;exact⟨o,p,v,by rw[List.getElem?_toArray];exact hA,by rw[ht,f]⟩
    .cases f
 .intro i o cs b a hsel;have:=g i o a;simp only[nT,Bool.and_eq_true,hsel] at this;exact absurd this.2.2.2 (by simp)
theorem Jz{P:Program}{ops:Array Oper}{C:World->Prop}{Q Q':Act->Prop}(h:∀a,Q a->Q' a):∀(l:List Oper) (a:Act),wpQuiet P ops C Q l a->wpQuiet P ops C Q' l a
 | [],a,hq=>h a hq
 | o :: l,a,hq=>by
  unfold wpQuiet at hq |-;split
  .rename_i hw;rw[if_pos hw] at hq;exact Oper.quiet_mono (λa'=>Jz h l a') hq
  .rename_i hw;rw[if_neg hw] at hq;exact Jz h l _ hq
theorem CU{P:Program}{id:Nat}{Q:Exit->Act->World->Prop}{a:Act}{w:World}{l:List Oper}(boxes:List Box)(hm:P.follows .mixedOrders=true)(hB:Region.lexB .any (l.map BI).toArray=true) (hb:UE boxes l=true) (z1:∀x∈boxes,∃z,(P.info? x.ty).map (·.zero)=some (some z)/\z.cells=x.zero.toArray) (z2:∀x∈boxes,(P.info? x.ty).map (·.size)=some x.val.length/\x.zero.length=x.val.length/\x.val.toArray.all (·.oneCell')=true) (hbd:∀x∈boxes,x.d<a.tmps.size) (aF:Act) (h:∀W,Below w.heap.size w W->wpQuiet P (l.map BI).toArray (λw'=>∃p:Regrown,w'=Sort.grow (redrawn W p.d) p.os) (λa'=>∀w',(∃p:Regrown,w'=Sort.grow (redrawn W p.d) p.os)->a'=aF) (l.map BI) a) (hval:∀x∈boxes,aF.tmps[x.y]?=some (.agg x.val.toArray)) (hQ:∀(β:Nat->Nat) w',Below w.heap.size w w'->(∀x∈boxes,w.heap.size<=β x.d/\Holds w' (β x.d) x.ty x.val)->(∀x∈boxes,∀y∈boxes,x≠y->β x.d≠β y.d)->Q .normal (D7 β boxes aF) w'):(Code.region id l.toArray true).wp P Q a w:=by
 have q:=Wy hb z1 z2;have c:Below w.heap.size w { w with drawn:=w.drawn+1 }:=⟨rfl,rfl,rfl,Nat.le_refl _,λ_ _=>rfl⟩;refine wp_region_any hm (WS (w0:={ w with drawn:=w.drawn+1 }) q hval (λβ w' n g k=>hQ β w' (c.trans n) g k) _ _ a a _ (λ_=>0) ?_);have b:∀i,(Array.replicate l.toArray.size false).getD i false=false:=λi=>by rw[Array.getD_eq_getD_getElem?,Array.getElem?_replicate];split<;>rfl
 refine⟨Below.refl _ _,by simp,rfl,rfl,hbd,λ_ _=>rfl,λx _ h=>?_,λx _ h=>?_,λx _ y _ _ h _=>?_,λW m=>?_⟩
 .rw[b] at h;cases h
 .rw[b] at h;cases h
 .rw[b] at h;cases h
 .have hWw:Below w.heap.size w W:=c.trans m;simp only[Region.lexB,Bool.and_eq_true] at hB;have o:l.toArray.map BI=(l.map BI).toArray:=by simp
  rw[o];have r:=h W hWw;have s:wpQuiet P (l.map BI).toArray (U0 W) (λa'=>a'=aF) (l.map BI) a:=by refine Jz ?_ _ _ r;intro a' f;exact f W (QA W)
  have:=wpAnyQ_lex (P:=P) (ops:=(l.map BI).toArray) (md:=.any) (C:=U0 W) hB.1 (l.map BI) 0 (Array.replicate (l.map BI).toArray.size false) a (λj=>by simp) (by simpa using hB.2) s;simpa using this
end
end Go.Proofs.YtimdpiifpibgfaaGreatDoor
