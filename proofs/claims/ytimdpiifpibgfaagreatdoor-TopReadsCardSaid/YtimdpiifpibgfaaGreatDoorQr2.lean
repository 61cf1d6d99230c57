/- A part of the proof of TopReads. -/
import Derived.Deep.MidRow
import Derived.Deep.RegionHeld3
import Derived.Test.YtimdpiifpibgfaaGreatDoorQr1
set_option linter.all false
set_option maxRecDepth 20000
set_option maxHeartbeats 16000000
open Go.RowKit Go.Maps
namespace Go.Proofs.YtimdpiifpibgfaaGreatDoor
open Tryz
section
theorem AY(B:Nat)(w:World):Below B w w.drew:=⟨rfl,rfl,rfl,Ve,λ_ _=>rfl⟩
theorem AX{w w':World}{g:Nat}{e:TypeId}{L:List Value}(h:Holds w g e L)(hb:Below w.heap.size w w'):Holds w' g e L:=h.below hb h.lt
theorem Holds.Af{w:World}{g:Nat}{e:TypeId}{L:List Value}(h:Holds w g e L):w.rangeAt g 0 L:=λj v a=>by rw[Nat.zero_add,h.cell j];exact a
theorem Holds.CB{w:World}{g:Nat}{e:TypeId}{L cs:List Value}(h:Holds w g e L)(o:Nat)(hs:∀(j:Nat) v,cs[j]?=some v->L[o+j]?=some v):w.rangeAt g o cs:=λj v a=>by rw[h.cell];exact hs j v a
section
variable {P:Program} {ops:Array Oper} {Q:Exit->Act->World->Prop}
theorem Q5{o:Oper}{a:Act}{w:World}{K:Act->World->Prop}{E:Prop}(hgd:o.guard=none)(t:TypeId)(p v:Operand)(b:Nat)(old cs:List Value)(ho:o.op=.store t p v)(hd:o.dst=none) (hx:a.eval p=AP b) (hy:a.eval v=.agg cs.toArray) (hg:Holds w b t old) (hi:(P.info? t).map (·.size)=some cs.length) (hl:old.length=cs.length) (h1:cs.toArray.all (·.oneCell')=true) (h:∀w',Holds w' b t cs->Touch b w w'->K a w'):if Region.wanted o (yielded ops a.tmps)=true then Oper.wp P o a w K Q else E:=by
 have d:Region.wanted o (yielded ops a.tmps)=true:=by simp[Region.wanted,hgd]
 rw[if_pos d];refine J3 ho hd hx hy hg hi hl h1 (h _ ?_ ⟨rfl,rfl,rfl,by simp[World.setRow],λj f c=>setRow_other w b j _ c⟩);exact setRow_heap w b _ _ _ _ hg
theorem NV{rest:List Oper}{o:Oper}{a:Act}{w:World}(hgd:o.guard=none)(t:TypeId)(p v:Operand)(b:Nat)(old cs:List Value)(ho:o.op=.store t p v)(hd:o.dst=none) (hx:a.eval p=AP b) (hy:a.eval v=.agg cs.toArray) (hg:Holds w b t old) (hi:(P.info? t).map (·.size)=some cs.length) (hl:old.length=cs.length) (h1:cs.toArray.all (·.oneCell')=true) (h:∀w',Holds w' b t cs->Touch b w w'->wpList P ops Q rest a w'):wpList P ops Q (o :: rest) a w:=
 wpList_plain hgd λ_ c=>J3 ho hd hx hy hg hi hl h1 (c _ _ (h _ (setRow_heap w b _ _ _ _ hg) ⟨rfl,rfl,rfl,by simp[World.setRow],λj f d=>setRow_other w b j _ d⟩))
theorem MJ{rest:List Oper}{o:Oper}{a:Act}{w:World}(hw:Region.wanted o (yielded ops a.tmps)=true)(ty:TypeId)(x:Operand)(ho:o.op=.load ty x)(b off:Nat)(hx:a.eval x=.pointer (some ⟨b,off,none⟩))(cs:List Value)(d:TypeDesc)(hc:w.rangeAt b off cs) (hu:P.underlying ty=some d) (hd:d.isRow=true) (hi:(P.info? ty).map (·.size)=some cs.length) (h:wpList P ops Q rest (a.put o.dst (.agg cs.toArray)) w):wpList P ops Q (o :: rest) a w:=
 wpList_step λK c=>by rw[if_pos hw];exact wp_load_mid ty x ho b off hx cs d hc hu hd hi (c _ _ h)
theorem Ui{fn:Func}{a:Tmp}{t:TypeId}(h:fn.results=#[.cell a t])(tmps:Array Value)(w:World)(b:Nat)(cs:List Value)(d:TypeDesc)(ha:tmps.getD a undef=AP b)(hc:w.rangeAt b 0 cs) (hu:P.underlying t=some d) (hd:d.isRow=true) (hi:(P.info? t).map (·.size)=some cs.length):(results fn tmps).run P w=.ok (.agg cs.toArray) w:=by have c:=run_loadVar_mid w b 0 t cs d hc hu hd hi;unfold results;rw[h];rw[Array.getD_eq_getD_getElem?] at ha;simp[ha,asAddr,c,Sem.run_bind]
theorem results_cell_tmp{fn:Func}{a u:Tmp}{t:TypeId}(h:fn.results=#[.cell a t,.tmp u])(tmps:Array Value)(w:World)(b:Nat)(cs:List Value)(d:TypeDesc)(v:Value)(ha:tmps.getD a undef=AP b)(hv:tmps.getD u undef=v)(hc:w.rangeAt b 0 cs) (hu:P.underlying t=some d) (hd:d.isRow=true) (hi:(P.info? t).map (·.size)=some cs.length):(results fn tmps).run P w=.ok (.tuple #[.agg cs.toArray,v]) w:=by have c:=run_loadVar_mid w b 0 t cs d hc hu hd hi;unfold results;rw[h];rw[Array.getD_eq_getD_getElem?] at ha hv;simp[ha,hv,asAddr,c,Sem.run_bind]
end
theorem DD{P:Program}{ops:Array Oper}{o:Oper}{a:Act}{w:World}{K:Act->World->Prop}{Q:Exit->Act->World->Prop}{E:Prop} (hgd:o.guard=none) (ty:TypeId) (x y:Operand) (ho:o.op=.store ty x y) (hd:o.dst=none) (g i:Nat) (e:TypeId) (L:List Value) (hh:Holds w g e L) (hi:i<L.length) (hx:a.eval x=.pointer (some ⟨g,i,none⟩)) (u:Value) (hy:a.eval y=u) (hu:u.cells=#[u]) (hz:(P.info? ty).map (·.size)=some 1) (h1:u.oneCell'=true) (h:∀w',Holds w' g e (L.set i u)->Touch g w w'->K a w') :if Region.wanted o (yielded ops a.tmps)=true then Oper.wp P o a w K Q else E:=by
 have m:Region.wanted o (yielded ops a.tmps)=true:=by simp[Region.wanted,hgd]
 rw[if_pos m];have c:=run_storeCells_at P g i e [u] 0 L.toArray w hh (by simp;omega) (by simpa using h1);have k:(storeVar ty ⟨g,i,none⟩ u).run P w=.ok () (w.setRow g (L.toArray.toList.take (i+0)++[u]++L.toArray.toList.drop (i+0+1)).toArray):=by
  cases b:P.info? ty with
  | none=>simp[b] at hz
  | some z=>
   have l:z.size=1:=by simp[b] at hz;omega
   simp[storeVar,sizeOf,typeInfo,b,hu,l] at c |-;exact c
 unfold Oper.wp execOp;simp only[ho,hx,hy,Instr.storeAt,Instr.sureAddr,Sem.run_bind,Sem.run_pure,Result.andThen_ok,k];show K (a.put o.dst undef) _;rw[hd];have f:=setRow_heap w g L.toArray (L.toArray.toList.take (i+0)++[u]++L.toArray.toList.drop (i+0+1)).toArray e (0,0) hh;refine h _ ?_ ⟨rfl,rfl,rfl,by simp[World.setRow],λj n d=>setRow_other w g j _ d⟩;unfold Holds;rw[f,List.set_eq_take_append_cons_drop,if_pos hi];simp
theorem Bh{P:Program}{ops:Array Oper}{Q:Exit->Act->World->Prop}{rest:List Oper}{o:Oper}{a:Act}{w:World}(hgd:o.guard=none)(ty:TypeId)(x y:Operand)(ho:o.op=.store ty x y)(hd:o.dst=none)(g i:Nat)(e:TypeId)(L:List Value)(hh:Holds w g e L)(hi:i<L.length) (hx:a.eval x=.pointer (some ⟨g,i,none⟩)) (u:Value) (hy:a.eval y=u) (hu:u.cells=#[u]) (hz:(P.info? ty).map (·.size)=some 1) (h1:u.oneCell'=true) (h:∀w',Holds w' g e (L.set i u)->Touch g w w'->wpList P ops Q rest a w'):wpList P ops Q (o :: rest) a w:=
 wpList_step λK d=>DD hgd ty x y ho hd g i e L hh hi hx u hy hu hz h1 λw' b c=>d _ _ (h w' b c)
end
structure Mv(F:Ap)(w W:World):Prop where
 os:W.os=w.os
 tape:W.tape=w.tape
 output:W.output=w.output
 size:w.heap.size<=W.heap.size
 block:∀k,k<w.heap.size->¬F k->W.heap[k]?=w.heap[k]?
theorem Mv.refl(F:Ap)(w:World):Mv F w w:=⟨rfl,rfl,rfl,Ve,λ_ _ _=>rfl⟩
theorem Mv.of_below{F:Ap}{w W:World}(h:Below w.heap.size w W):Mv F w W:=⟨h.os,h.tape,h.output,h.size,λk a _=>h.block k a⟩
theorem Mv.AZ{F:Ap}{g:Nat}{w W:World}(h:Touch g w W)(hg:F g):Mv F w W:=⟨h.os,h.tape,h.output,h.size,λk a b=>h.block k a λe=>b (e▸hg)⟩
theorem Mv.mv{F G:Ap}{w W W':World}(h:Mv F w W)(h2:Mv G W W')(hG:∀k,G k->F k\/w.heap.size<=k):Mv F w W':=
 ⟨h2.os.trans h.os,h2.tape.trans h.tape,h2.output.trans h.output,Nat.le_trans h.size h2.size,λk a b=>
  (h2.block k (Nat.lt_of_lt_of_le a h.size) λc=>(hG k c).elim b BJ).trans (h.block k a b)⟩
theorem Mv.bel{F:Ap}{w W W':World}(h:Mv F w W)(hb:Below W.heap.size W W'):Mv F w W':=h.mv (G:=λ_=>False) (.of_below hb) λ_ a=>a.elim
theorem Mv.touch{F:Ap}{g:Nat}{w W W':World}(h:Mv F w W)(ht:Touch g W W')(hg:F g\/w.heap.size<=g):Mv F w W':=
 h.mv (G:=λk=>k=g) (.AZ ht rfl) λk a=>a▸hg
theorem Mv.more{F G:Ap}{w W:World}(h:Mv F w W)(hs:∀k,F k->G k):Mv G w W:=⟨h.os,h.tape,h.output,h.size,λk b c=>h.block k b λa=>c (hs k a)⟩
theorem Mv.below{F:Ap}{w W:World}(h:Mv F w W){B:Nat}(hB:B<=w.heap.size)(hF:∀k,F k->B<=k):Below B w W:=
 ⟨h.os,h.tape,h.output,h.size,λk b=>h.block k (Nat.lt_of_lt_of_le b hB) λa=>by have:=hF k a;omega⟩
theorem Holds.mv{w w':World}{g:Nat}{e:TypeId}{L:List Value}{F:Ap}(h:Holds w g e L)(hm:Mv F w w')(hn:¬F g):Holds w' g e L:=by have:=h.lt;unfold Holds at *;rw[hm.block g this hn];exact h
theorem Holds.bel{w w':World}{g:Nat}{e:TypeId}{L:List Value}(h:Holds w g e L)(hb:Below w.heap.size w w'):Holds w' g e L:=h.below hb h.lt
theorem Touch.bel{g:Nat}{w W W':World}(h:Touch g w W)(hb:Below W.heap.size W W'):Touch g w W':=h.trans (.of_below hb)
def grow(F:Ap)(w w':World):Ap:=λk=>F k\/(w.heap.size<=k/\k<w'.heap.size)
theorem grow_step{F:Ap}{w w1 w2:World}(h1:w.heap.size<=w1.heap.size)(h2:w1.heap.size<=w2.heap.size){k:Nat}(h:grow (grow F w w1) w1 w2 k):grow F w w2 k:=by
 rcases h with(h|h)|h
 .exact .inl h
 .exact .inr ⟨h.1,BJ⟩
 .exact .inr ⟨BJ,h.2⟩
theorem Mv.part{F G:Ap}{w W W':World}(h:Mv F w W)(h2:Mv G W W')(hG:∀k,G k->grow F w W k):Mv F w W':=h.mv h2 λk a=>(hG k a).imp id (·.1)
structure Base(B:Nat)(w W:World):Prop where
 below:Below B w W
 le:B<=W.heap.size
theorem Base.start(w:World):Base w.heap.size w w:=⟨Below.refl _ _,Ve⟩
theorem Base.bel{B:Nat}{w W W':World}(h:Base B w W)(hb:Below W.heap.size W W'):Base B w W':=⟨h.below.trans (hb.mono h.le),Nat.le_trans h.le hb.size⟩
theorem Base.touch{B g:Nat}{w W W':World}(h:Base B w W)(ht:Touch g W W')(hg:B<=g):Base B w W':=⟨h.below.trans (ht.below hg h.le),Nat.le_trans h.le ht.size⟩
theorem Base.mv{B:Nat}{F:Ap}{w W W':World}(h:Base B w W)(hm:Mv F W W')(hF:∀k,F k->B<=k):Base B w W':=⟨h.below.trans (hm.below h.le hF),Nat.le_trans h.le hm.size⟩
def Sz(b:Nat)(w:World):Prop:=b<=w.heap.size
theorem Sz.bel{b:Nat}{w w':World}(h:Sz b w)(hb:Below w.heap.size w w'):Sz b w':=Nat.le_trans h hb.size
theorem Sz.mv{b:Nat}{F:Ap}{w w':World}(h:Sz b w)(hm:Mv F w w'):Sz b w':=Nat.le_trans h hm.size
theorem Sz.le{b:Nat}{w:World}(h:Sz b w):b<=w.heap.size:=h
def Tq(w:World)(R:World->Prop):Prop:=∀W',Below w.heap.size w W'->R W'
theorem Tq.bel{w w':World}{R:World->Prop}(h:Tq w R)(hb:Below w.heap.size w w'):Tq w' R:=λa b=>h a (hb.trans (b.mono hb.size))
theorem Bg(B:Nat)(w:World)(n:Nat):Below B w (w.drewN n):=⟨rfl,rfl,rfl,Ve,λ_ _=>rfl⟩
def Bo(w:World)(os:List Obj):World:=os.foldl World.alloc w
theorem U9(os:List Obj):∀w:World,(Bo w os).heap.size=w.heap.size+os.length:=by
 induction os with
 | nil=>intro w;rfl
 | cons o os ih=>intro w;show (Bo (w.alloc o) os).heap.size=_;rw[ih,World.size_alloc,List.length_cons];omega
theorem Wl(os:List Obj):∀(w:World) (i:Nat) (o:Obj),os[i]?=some o->(Bo w os).heap[w.heap.size+i]?=some o:=by
 induction os with
 | nil=>intro w i o h;cases h
 | cons x os ih=>
  intro w i o h;show (Bo (w.alloc x) os).heap[_]?=_;cases i with
  | zero=>
   cases h;have a:∀(l:List Obj) (v:World) (k:Nat),k<v.heap.size->(Bo v l).heap[k]?=v.heap[k]?:=by
    intro l;induction l with
    | nil=>intro v k _;rfl
    | cons y l ihl=>
     intro v k b;show (Bo (v.alloc y) l).heap[k]?=_;rw[ihl (v.alloc y) k (by rw[World.size_alloc];omega)];show (v.heap.push y)[k]?=_;rw[Array.getElem?_push_lt b];simp
   rw[a os (w.alloc x) (w.heap.size+0) (by rw[World.size_alloc];omega)];show (w.heap.push x)[w.heap.size]?=_;simp
  | succ i=>
   have:=ih (w.alloc x) i o (by simpa using h);rw[World.size_alloc,Nat.add_assoc,Nat.add_comm 1 i] at this;exact this
theorem UD(os:List Obj):∀w:World,Below w.heap.size w (Bo w os):=by
 induction os with
 | nil=>intro w;exact Below.refl _ _
 | cons o os ih=>
  intro w;have a:Below w.heap.size w (w.alloc o):=(Below.refl _ _).alloc Ve o;exact a.trans ((ih (w.alloc o)).mono a.size)
theorem Ae{w W:World}(os:List Obj)(h:Bo w os=W)(i:Nat){e:TypeId}{L:List Value}(hi:os[i]?=some (.cells L.toArray e)):Holds W (w.heap.size+i) e L:=by unfold Holds;rw[<-h];exact Wl os w i _ hi
theorem Aq{w W:World}(os:List Obj)(h:Bo w os=W):Below w.heap.size w W:=h▸UD os w
theorem Bd{w W:World}(os:List Obj)(h:Bo w os=W):W.heap.size=w.heap.size+os.length:=h▸U9 os w
section
theorem zA{α:Type _}(l:List α)(i:Nat)(x:α):l.toArray.setIfInBounds i x=(l.set i x).toArray:=List.setIfInBounds_toArray l i x
theorem zB{α:Type _}(l:List α)(a b:α):(a :: l).set 0 b=b :: l:=rfl
theorem zC{α:Type _}(l:List α)(a b:α)(n:Nat):(a :: l).set (n+1) b=a :: l.set n b:=rfl
theorem yA{α:Type _}(l:List α)(a:α):(a :: l)[0]?=some a:=rfl
theorem yB{α:Type _}(l:List α)(a:α)(n:Nat):(a :: l)[n+1]?=l[n]?:=rfl
section
variable {P:Program} {md:Region.Mode} {ops:Array Oper} {Q:Exit->Act->World->Prop} {S:World->Prop} {X0:List Nat}
theorem yf(i:Nat)(d:Option Tmp){oi:Oper}{v:Value}{fuel:Nat}{listed:Array Bool}{a:Act}{w:World}(hS:Bf X0 listed->S w)(h:wpAnyL P md ops Q S X0 fuel (listed.setIfInBounds i true) (a.put d v) w) (hi:ops[i]?=some oi:=by rfl) (hd:oi.dst=d:=by rfl) (hy:YieldsIf P ops (λ_=>True) oi v a:=by first|(refine Or.inl ⟨by rfl,?_⟩;intro w _;go_simp;try with_reducible rfl)) (hs:Region.noSelect ops=true:=by as_aux_lemma=>kernel_rfl) (hf:Region.free md ops listed i=true:=by as_aux_lemma=>kernel_rfl) (hr:(Region.ready md ops listed).contains i=true:=by as_aux_lemma=>kernel_rfl) (hx:X0.contains i=false:=by as_aux_lemma=>kernel_rfl) (hQ:∀c a w,Q (.panic c) (a.put oi.dst v) w->Q (.panic c) a w:=by exact λ_ _ _ h=>h):wpAnyL P md ops Q S X0 (fuel+1) listed a w:=
 DR d hi hd hs hf hr hx hQ hy hS h
theorem JL(i:Nat)(X:List Nat)(d:Option Tmp)(v:Value){oi:Oper}(hi:ops[i]?=some oi){fuel:Nat}{listed:Array Bool}{a:Act}{w:World}(hy:YieldsIf P ops S oi v a)(hS:S w)(h:wpAnyL P md ops Q S X0 fuel (listed.setIfInBounds i true) (a.put d v) w) (hd:oi.dst=d:=by rfl) (hs:Region.noSelect ops=true:=by as_aux_lemma=>kernel_rfl) (hf:Region.free md ops listed i=true:=by as_aux_lemma=>kernel_rfl) (hr:(Region.ready md ops listed).contains i=true:=by as_aux_lemma=>kernel_rfl) (hx:YZ md ops X0 X listed i=true:=by as_aux_lemma=>kernel_rfl) (hQ:∀c a w,Q (.panic c) (a.put oi.dst v) w->Q (.panic c) a w:=by exact λ_ _ _ h=>h):wpAnyL P md ops Q S X0 (fuel+1) listed a w:=
 PQ X d hi hd hs hf hr hx hQ hy hS h
theorem rdA(rs:List Nat){fuel:Nat}{listed:Array Bool}{a:Act}{w:World}(h:BD P md ops Q S X0 fuel listed a w rs)(hr:Region.ready md ops listed=rs:=by as_aux_lemma=>kernel_rfl)(hne:rs≠[]:=by simp):wpAnyL P md ops Q S X0 (fuel+1) listed a w:=
 OU hr hne h
theorem yS{listed:Array Bool}{a:Act}{w:World}(h:Q .normal a w){fuel:Nat}(hr:Region.ready md ops listed=[]:=by as_aux_lemma=>kernel_rfl):wpAnyL P md ops Q S X0 fuel listed a w:=
 WR hr h fuel
theorem BN(i:Nat){fuel:Nat}{listed:Array Bool}{a:Act}{w:World}{o:Oper}(ho:ops[i]?=some o) (h:∀K':Act->World->Prop,Shut (∀a w,(Bf X0 (listed.setIfInBounds i true)->S w)->wpAnyL P md ops Q S X0 fuel (listed.setIfInBounds i true) a w->K' a w)->if Region.wanted o (yielded ops a.tmps)=true then Oper.wp P o a w K' Q else K' (a.put o.dst undef) w) (hr:Region.ready md ops listed=[i]:=by as_aux_lemma=>kernel_rfl):wpAnyL P md ops Q S X0 (fuel+1) listed a w:=
 OU hr Vj (BD.cons ho h BD.nil)
end
theorem JI{X:List Nat}{L:Array Bool}{p:Prop}(h:(X.any λj=>L.getD j false)=true:=by as_aux_lemma=>kernel_rfl):Bf X L->p:=nR h
theorem Ah{P:Program}{f:FuncId}{ar:Array Value}{w:World}{v:Value}{R:World->Prop}{Q:Ending->World->Prop}(h:Calls P f ar w λe w'=>e=.returned v/\R w')(k:∀w',R w'->Q (.returned v) w'):Calls P f ar w Q:=h.mono λe w' a=>by obtain⟨rfl,a⟩:=a;exact k w' a
theorem qh{p:Prop}(h:p):Hid p:=Lib.hid h
theorem WZ{p0 p1:Prop}(h0:p0)(h1:p1):Hid p0/\Hid p1:=⟨qh h0,qh h1⟩
theorem bP{p0 p1 p2:Prop}(h0:p0)(h1:p1)(h2:p2):Hid p0/\Hid p1/\Hid p2:=⟨qh h0,qh h1,qh h2⟩
theorem bY{p0 p1 p2 p3:Prop}(h0:p0)(h1:p1)(h2:p2)(h3:p3):Hid p0/\Hid p1/\Hid p2/\Hid p3:=⟨qh h0,qh h1,qh h2,qh h3⟩
theorem dD{p0 p1 p2 p3 p4:Prop}(h0:p0)(h1:p1)(h2:p2)(h3:p3)(h4:p4):Hid p0/\Hid p1/\Hid p2/\Hid p3/\Hid p4:=⟨qh h0,qh h1,qh h2,qh h3,qh h4⟩
theorem mG{p0 p1 p2 p3 p4 p5:Prop}(h0:p0)(h1:p1)(h2:p2)(h3:p3)(h4:p4)(h5:p5):Hid p0/\Hid p1/\Hid p2/\Hid p3/\Hid p4/\Hid p5:=⟨qh h0,qh h1,qh h2,qh h3,qh h4,qh h5⟩
theorem oC{p0 p1 p2 p3 p4 p5 p6:Prop}(h0:p0)(h1:p1)(h2:p2)(h3:p3)(h4:p4)(h5:p5)(h6:p6):Hid p0/\Hid p1/\Hid p2/\Hid p3/\Hid p4/\Hid p5/\Hid p6:=⟨qh h0,qh h1,qh h2,qh h3,qh h4,qh h5,qh h6⟩
theorem ed{p0 p1 p2 p3 p4 p5 p6 p7:Prop}(h0:p0)(h1:p1)(h2:p2)(h3:p3)(h4:p4)(h5:p5)(h6:p6)(h7:p7):Hid p0/\Hid p1/\Hid p2/\Hid p3/\Hid p4/\Hid p5/\Hid p6/\Hid p7:=⟨qh h0,qh h1,qh h2,qh h3,qh h4,qh h5,qh h6,qh h7⟩
section
variable {w w':World} {g n:Nat} {t:TypeId} {L:List Value}
theorem Am(h:Holds w g t L)(i:Nat){v:Value}(hv:L[i]?=some v:=by exact rfl):w.cell? ⟨g,i,none⟩=some v:=(h.cell i).trans hv
theorem Cf(h:Holds w g t L)(i0 i1:Nat){v0 v1:Value}(h0:L[i0]?=some v0:=by exact rfl)(h1:L[i1]?=some v1:=by exact rfl):w.cell? ⟨g,i0,none⟩=some v0/\w.cell? ⟨g,i1,none⟩=some v1:=⟨Am h i0 h0,Am h i1 h1⟩
theorem Yz(h:Holds w g t L)(i0 i1 i2:Nat){v0 v1 v2:Value}(h0:L[i0]?=some v0:=by exact rfl)(h1:L[i1]?=some v1:=by exact rfl)(h2:L[i2]?=some v2:=by exact rfl):w.cell? ⟨g,i0,none⟩=some v0/\w.cell? ⟨g,i1,none⟩=some v1/\w.cell? ⟨g,i2,none⟩=some v2:=⟨Am h i0 h0,Cf h i1 i2 h1 h2⟩
theorem xH(h:Holds w g t L)(i0 i1 i2 i3:Nat){v0 v1 v2 v3:Value}(h0:L[i0]?=some v0:=by exact rfl)(h1:L[i1]?=some v1:=by exact rfl)(h2:L[i2]?=some v2:=by exact rfl)(h3:L[i3]?=some v3:=by exact rfl):w.cell? ⟨g,i0,none⟩=some v0/\w.cell? ⟨g,i1,none⟩=some v1/\w.cell? ⟨g,i2,none⟩=some v2/\w.cell? ⟨g,i3,none⟩=some v3:=⟨Am h i0 h0,Yz h i1 i2 i3 h1 h2 h3⟩
theorem RU(h:Holds w g t L)(i0 i1 i2 i3 i4:Nat){v0 v1 v2 v3 v4:Value}(h0:L[i0]?=some v0:=by exact rfl)(h1:L[i1]?=some v1:=by exact rfl)(h2:L[i2]?=some v2:=by exact rfl)(h3:L[i3]?=some v3:=by exact rfl)(h4:L[i4]?=some v4:=by exact rfl):w.cell? ⟨g,i0,none⟩=some v0/\w.cell? ⟨g,i1,none⟩=some v1/\w.cell? ⟨g,i2,none⟩=some v2/\w.cell? ⟨g,i3,none⟩=some v3/\w.cell? ⟨g,i4,none⟩=some v4:=⟨Am h i0 h0,xH h i1 i2 i3 i4 h1 h2 h3 h4⟩
theorem yN(h:Holds w g t L)(i0 i1 i2 i3 i4 i5:Nat){v0 v1 v2 v3 v4 v5:Value}(h0:L[i0]?=some v0:=by exact rfl)(h1:L[i1]?=some v1:=by exact rfl)(h2:L[i2]?=some v2:=by exact rfl)(h3:L[i3]?=some v3:=by exact rfl)(h4:L[i4]?=some v4:=by exact rfl)(h5:L[i5]?=some v5:=by exact rfl):w.cell? ⟨g,i0,none⟩=some v0/\w.cell? ⟨g,i1,none⟩=some v1/\w.cell? ⟨g,i2,none⟩=some v2/\w.cell? ⟨g,i3,none⟩=some v3/\w.cell? ⟨g,i4,none⟩=some v4/\w.cell? ⟨g,i5,none⟩=some v5:=⟨Am h i0 h0,RU h i1 i2 i3 i4 i5 h1 h2 h3 h4 h5⟩
theorem Gl(h:Holds w g t L)(i0 i1 i2 i3 i4 i5 i6:Nat){v0 v1 v2 v3 v4 v5 v6:Value}(h0:L[i0]?=some v0:=by exact rfl)(h1:L[i1]?=some v1:=by exact rfl)(h2:L[i2]?=some v2:=by exact rfl)(h3:L[i3]?=some v3:=by exact rfl)(h4:L[i4]?=some v4:=by exact rfl)(h5:L[i5]?=some v5:=by exact rfl)(h6:L[i6]?=some v6:=by exact rfl):w.cell? ⟨g,i0,none⟩=some v0/\w.cell? ⟨g,i1,none⟩=some v1/\w.cell? ⟨g,i2,none⟩=some v2/\w.cell? ⟨g,i3,none⟩=some v3/\w.cell? ⟨g,i4,none⟩=some v4/\w.cell? ⟨g,i5,none⟩=some v5/\w.cell? ⟨g,i6,none⟩=some v6:=⟨Am h i0 h0,yN h i1 i2 i3 i4 i5 i6 h1 h2 h3 h4 h5 h6⟩
theorem EE(h:Holds w g t L)(i0 i1 i2 i3 i4 i5 i6 i7:Nat){v0 v1 v2 v3 v4 v5 v6 v7:Value}(h0:L[i0]?=some v0:=by exact rfl)(h1:L[i1]?=some v1:=by exact rfl)(h2:L[i2]?=some v2:=by exact rfl)(h3:L[i3]?=some v3:=by exact rfl)(h4:L[i4]?=some v4:=by exact rfl)(h5:L[i5]?=some v5:=by exact rfl)(h6:L[i6]?=some v6:=by exact rfl)(h7:L[i7]?=some v7:=by exact rfl):w.cell? ⟨g,i0,none⟩=some v0/\w.cell? ⟨g,i1,none⟩=some v1/\w.cell? ⟨g,i2,none⟩=some v2/\w.cell? ⟨g,i3,none⟩=some v3/\w.cell? ⟨g,i4,none⟩=some v4/\w.cell? ⟨g,i5,none⟩=some v5/\w.cell? ⟨g,i6,none⟩=some v6/\w.cell? ⟨g,i7,none⟩=some v7:=⟨Am h i0 h0,Gl h i1 i2 i3 i4 i5 i6 i7 h1 h2 h3 h4 h5 h6 h7⟩
theorem lc(h:Hid (Holds w g t L))(hs:Below w.heap.size w w')(i:Nat){v:Value}(hv:L[i]?=some v):w'.cell? ⟨g,i,none⟩=some v:=((AX h.out hs).cell i).trans hv
theorem GI{W:World}(t:TypeId)(L:List Value)(h:Bo w [.cells L.toArray t]=W):Hid (Holds W w.heap.size t L)/\Below w.heap.size w W/\W.heap.size=w.heap.size+1:=⟨qh (Ae _ h 0 rfl),Aq _ h,Bd _ h⟩
theorem bF{W:World}(t:TypeId)(L:List Value)(t2:TypeId)(L2:List Value)(h:Bo w [.cells L.toArray t,.cells L2.toArray t2]=W):Hid (Holds W w.heap.size t L)/\Hid (Holds W (w.heap.size+1) t2 L2)/\Below w.heap.size w W/\W.heap.size=w.heap.size+2:=⟨qh (Ae _ h 0 rfl),qh (Ae _ h 1 rfl),Aq _ h,Bd _ h⟩
end
class Bl (w w':World) (p:Prop) (q:outParam Prop):Prop where
 b:Below w.heap.size w w'->p->q
instance {w w':World}{g:Nat}{t:TypeId}{L:List Value}:Bl w w' (Holds w g t L) (Holds w' g t L):=⟨λhb h=>AX h hb⟩
section
variable {w w':World} {p q p2 q2 p3 q3 p4 q4 p5 q5 p6 q6:Prop}
theorem D9(hb:Below w.heap.size w w')(h:Hid p)[i:Bl w w' p q]:Hid q:=qh (i.b hb h.out)
theorem Ce(hb:Below w.heap.size w w')(h:Hid p)(h2:Hid p2)[Bl w w' p q][Bl w w' p2 q2]:Hid q/\Hid q2:=⟨D9 hb h,D9 hb h2⟩
theorem D5(hb:Below w.heap.size w w')(h:Hid p)(h2:Hid p2)(h3:Hid p3)[Bl w w' p q][Bl w w' p2 q2][Bl w w' p3 q3]:Hid q/\Hid q2/\Hid q3:=⟨D9 hb h,Ce hb h2 h3⟩
theorem En(hb:Below w.heap.size w w')(h:Hid p)(h2:Hid p2)(h3:Hid p3)(h4:Hid p4)[Bl w w' p q][Bl w w' p2 q2][Bl w w' p3 q3][Bl w w' p4 q4]:Hid q/\Hid q2/\Hid q3/\Hid q4:=⟨D9 hb h,D5 hb h2 h3 h4⟩
theorem Gj(hb:Below w.heap.size w w')(h:Hid p)(h2:Hid p2)(h3:Hid p3)(h4:Hid p4)(h5:Hid p5)[Bl w w' p q][Bl w w' p2 q2][Bl w w' p3 q3][Bl w w' p4 q4][Bl w w' p5 q5]:Hid q/\Hid q2/\Hid q3/\Hid q4/\Hid q5:=⟨D9 hb h,En hb h2 h3 h4 h5⟩
theorem Ef(hb:Below w.heap.size w w')(h:Hid p)(h2:Hid p2)(h3:Hid p3)(h4:Hid p4)(h5:Hid p5)(h6:Hid p6)[Bl w w' p q][Bl w w' p2 q2][Bl w w' p3 q3][Bl w w' p4 q4][Bl w w' p5 q5][Bl w w' p6 q6]:Hid q/\Hid q2/\Hid q3/\Hid q4/\Hid q5/\Hid q6:=⟨D9 hb h,Gj hb h2 h3 h4 h5 h6⟩
end
section
variable {P:Program} {md:Region.Mode} {ops:Array Oper} {Q:Exit->Act->World->Prop} {S:World->Prop} {X0:List Nat}
theorem lf{listed:Array Bool}{i:Nat}(hx:X0.contains i=false)(h:Bf X0 (listed.setIfInBounds i true)):Bf X0 listed:=λj a=>by
 have b:=h j a;have d:i≠j:=λc=>by subst c;simp[a] at hx
 rwa [Array.getD_eq_getD_getElem?,Array.getElem?_setIfInBounds_ne d,<-Array.getD_eq_getD_getElem?] at b
end
section
variable {P:Program} {md:Region.Mode} {ops:Array Oper} {Q:Exit->Act->World->Prop} {S:World->Prop} {X0:List Nat}
theorem Ed(X0:List Nat)(n:Nat){id:Nat}{a:Act}{w:World}(h:Below w.drew.heap.size w.drew w.drew->wpAnyL P .any ops (NoPanic Q) (λW'=>Below w.drew.heap.size w.drew W') X0 n (List.replicate n false).toArray a w.drew)(hm:P.follows .mixedOrders=true:=by as_aux_lemma=>kernel_rfl)(hn:ops.size=n:=by exact rfl):(Code.region id ops true).wp P Q a w:=
 wp_region_noPanic (Bv (S:=λW'=>Below w.drew.heap.size w.drew W') (X0:=X0) hm (by subst hn;simpa using h Vk))
theorem BA{listed:Array Bool}{a:Act}{w:World}{fuel:Nat}(h:Q .normal a w)(hr:Region.ready md ops listed=[]:=by as_aux_lemma=>kernel_rfl):wpAnyL P md ops (NoPanic Q) S X0 fuel listed a w:=yS (NoPanic.normal h) hr
end
theorem bx1{P:Program}{id:Nat}{Q:Exit->Act->World->Prop}{a:Act}{w:World}{l:List Oper}(b:Box)(aF:Act)(h1:b.val.toArray.all (·.oneCell')=true) (h:∀W,Below w.heap.size w W->wpQuiet P (l.map BI).toArray (λw'=>∃p:Regrown,w'=Sort.grow (redrawn W p.d) p.os) (λa'=>∀w',(∃p:Regrown,w'=Sort.grow (redrawn W p.d) p.os)->a'=aF) (l.map BI) a) (hval:aF.tmps[b.y]?=some (.agg b.val.toArray)) (hQ:∀(β:Nat->Nat) w',Below w.heap.size w w'->(w.heap.size<=β b.d/\Holds w' (β b.d) b.ty b.val)->Q .normal (D7 β [b] aF) w') (hm:P.follows .mixedOrders=true:=by kernel_rfl) (hB:Region.lexB .any (l.map BI).toArray=true:=by kernel_rfl) (hb:UE [b] l=true:=by kernel_rfl) (z1:(P.info? b.ty).map (·.zero)=some (some (.agg b.zero.toArray)):=by kernel_rfl) (z2:(P.info? b.ty).map (·.size)=some b.val.length:=by kernel_rfl) (z3:b.zero.length=b.val.length:=by exact rfl) (hbd:b.d<a.tmps.size:=by simp):(Code.region id l.toArray true).wp P Q a w:=
 CU [b] hm hB hb (λx c=>by simp only[List.mem_cons,List.not_mem_nil,or_false] at c;subst c;exact⟨_,z1,rfl⟩) (λx c=>by simp only[List.mem_cons,List.not_mem_nil,or_false] at c;subst c;exact⟨z2,z3,h1⟩)
  (λx c=>by simp only[List.mem_cons,List.not_mem_nil,or_false] at c;subst c;exact hbd) aF h (λx c=>by simp only[List.mem_cons,List.not_mem_nil,or_false] at c;subst c;exact hval) (λβ w' f c _=>hQ β w' f (c b List.mem_cons_self))
section
variable {w:World} {g:Nat} {t:TypeId} {L:List Value}
theorem MK(h:Holds w g t L)(i:Nat){v:Value}(hv:L[i]?=some v:=by exact rfl):∀d os,(Sort.grow (redrawn w d) os).cell? ⟨g,i,none⟩=some v:=λd os=>(h.grown d os i).trans hv
theorem JO(h:Holds w g t L)(i0 i1:Nat){v0 v1:Value}(h0:L[i0]?=some v0:=by exact rfl)(h1:L[i1]?=some v1:=by exact rfl):(∀d os,(Sort.grow (redrawn w d) os).cell? ⟨g,i0,none⟩=some v0)/\(∀d os,(Sort.grow (redrawn w d) os).cell? ⟨g,i1,none⟩=some v1):=⟨MK h i0 h0,MK h i1 h1⟩
theorem kE(h:Holds w g t L)(i0 i1 i2:Nat){v0 v1 v2:Value}(h0:L[i0]?=some v0:=by exact rfl)(h1:L[i1]?=some v1:=by exact rfl)(h2:L[i2]?=some v2:=by exact rfl):(∀d os,(Sort.grow (redrawn w d) os).cell? ⟨g,i0,none⟩=some v0)/\(∀d os,(Sort.grow (redrawn w d) os).cell? ⟨g,i1,none⟩=some v1)/\(∀d os,(Sort.grow (redrawn w d) os).cell? ⟨g,i2,none⟩=some v2):=⟨MK h i0 h0,JO h i1 i2 h1 h2⟩
theorem xO(h:Holds w g t L)(i0 i1 i2 i3:Nat){v0 v1 v2 v3:Value}(h0:L[i0]?=some v0:=by exact rfl)(h1:L[i1]?=some v1:=by exact rfl)(h2:L[i2]?=some v2:=by exact rfl)(h3:L[i3]?=some v3:=by exact rfl):(∀d os,(Sort.grow (redrawn w d) os).cell? ⟨g,i0,none⟩=some v0)/\(∀d os,(Sort.grow (redrawn w d) os).cell? ⟨g,i1,none⟩=some v1)/\(∀d os,(Sort.grow (redrawn w d) os).cell? ⟨g,i2,none⟩=some v2)/\(∀d os,(Sort.grow (redrawn w d) os).cell? ⟨g,i3,none⟩=some v3):=⟨MK h i0 h0,kE h i1 i2 i3 h1 h2 h3⟩
theorem yZ(h:Holds w g t L)(i0 i1 i2 i3 i4:Nat){v0 v1 v2 v3 v4:Value}(h0:L[i0]?=some v0:=by exact rfl)(h1:L[i1]?=some v1:=by exact rfl)(h2:L[i2]?=some v2:=by exact rfl)(h3:L[i3]?=some v3:=by exact rfl)(h4:L[i4]?=some v4:=by exact rfl):(∀d os,(Sort.grow (redrawn w d) os).cell? ⟨g,i0,none⟩=some v0)/\(∀d os,(Sort.grow (redrawn w d) os).cell? ⟨g,i1,none⟩=some v1)/\(∀d os,(Sort.grow (redrawn w d) os).cell? ⟨g,i2,none⟩=some v2)/\(∀d os,(Sort.grow (redrawn w d) os).cell? ⟨g,i3,none⟩=some v3)/\(∀d os,(Sort.grow (redrawn w d) os).cell? ⟨g,i4,none⟩=some v4):=⟨MK h i0 h0,xO h i1 i2 i3 i4 h1 h2 h3 h4⟩
theorem yc(h:Holds w g t L)(i0 i1 i2 i3 i4 i5:Nat){v0 v1 v2 v3 v4 v5:Value}(h0:L[i0]?=some v0:=by exact rfl)(h1:L[i1]?=some v1:=by exact rfl)(h2:L[i2]?=some v2:=by exact rfl)(h3:L[i3]?=some v3:=by exact rfl)(h4:L[i4]?=some v4:=by exact rfl)(h5:L[i5]?=some v5:=by exact rfl):(∀d os,(Sort.grow (redrawn w d) os).cell? ⟨g,i0,none⟩=some v0)/\(∀d os,(Sort.grow (redrawn w d) os).cell? ⟨g,i1,none⟩=some v1)/\(∀d os,(Sort.grow (redrawn w d) os).cell? ⟨g,i2,none⟩=some v2)/\(∀d os,(Sort.grow (redrawn w d) os).cell? ⟨g,i3,none⟩=some v3)/\(∀d os,(Sort.grow (redrawn w d) os).cell? ⟨g,i4,none⟩=some v4)/\(∀d os,(Sort.grow (redrawn w d) os).cell? ⟨g,i5,none⟩=some v5):=⟨MK h i0 h0,yZ h i1 i2 i3 i4 i5 h1 h2 h3 h4 h5⟩
theorem xP(h:Holds w g t L)(i0 i1 i2 i3 i4 i5 i6:Nat){v0 v1 v2 v3 v4 v5 v6:Value}(h0:L[i0]?=some v0:=by exact rfl)(h1:L[i1]?=some v1:=by exact rfl)(h2:L[i2]?=some v2:=by exact rfl)(h3:L[i3]?=some v3:=by exact rfl)(h4:L[i4]?=some v4:=by exact rfl)(h5:L[i5]?=some v5:=by exact rfl)(h6:L[i6]?=some v6:=by exact rfl):(∀d os,(Sort.grow (redrawn w d) os).cell? ⟨g,i0,none⟩=some v0)/\(∀d os,(Sort.grow (redrawn w d) os).cell? ⟨g,i1,none⟩=some v1)/\(∀d os,(Sort.grow (redrawn w d) os).cell? ⟨g,i2,none⟩=some v2)/\(∀d os,(Sort.grow (redrawn w d) os).cell? ⟨g,i3,none⟩=some v3)/\(∀d os,(Sort.grow (redrawn w d) os).cell? ⟨g,i4,none⟩=some v4)/\(∀d os,(Sort.grow (redrawn w d) os).cell? ⟨g,i5,none⟩=some v5)/\(∀d os,(Sort.grow (redrawn w d) os).cell? ⟨g,i6,none⟩=some v6):=⟨MK h i0 h0,yc h i1 i2 i3 i4 i5 i6 h1 h2 h3 h4 h5 h6⟩
theorem yO(h:Holds w g t L)(i0 i1 i2 i3 i4 i5 i6 i7:Nat){v0 v1 v2 v3 v4 v5 v6 v7:Value}(h0:L[i0]?=some v0:=by exact rfl)(h1:L[i1]?=some v1:=by exact rfl)(h2:L[i2]?=some v2:=by exact rfl)(h3:L[i3]?=some v3:=by exact rfl)(h4:L[i4]?=some v4:=by exact rfl)(h5:L[i5]?=some v5:=by exact rfl)(h6:L[i6]?=some v6:=by exact rfl)(h7:L[i7]?=some v7:=by exact rfl):(∀d os,(Sort.grow (redrawn w d) os).cell? ⟨g,i0,none⟩=some v0)/\(∀d os,(Sort.grow (redrawn w d) os).cell? ⟨g,i1,none⟩=some v1)/\(∀d os,(Sort.grow (redrawn w d) os).cell? ⟨g,i2,none⟩=some v2)/\(∀d os,(Sort.grow (redrawn w d) os).cell? ⟨g,i3,none⟩=some v3)/\(∀d os,(Sort.grow (redrawn w d) os).cell? ⟨g,i4,none⟩=some v4)/\(∀d os,(Sort.grow (redrawn w d) os).cell? ⟨g,i5,none⟩=some v5)/\(∀d os,(Sort.grow (redrawn w d) os).cell? ⟨g,i6,none⟩=some v6)/\(∀d os,(Sort.grow (redrawn w d) os).cell? ⟨g,i7,none⟩=some v7):=⟨MK h i0 h0,xP h i1 i2 i3 i4 i5 i6 i7 h1 h2 h3 h4 h5 h6 h7⟩
end
section
variable {P:Program} {md:Region.Mode} {ops:Array Oper} {Q:Exit->Act->World->Prop} {S:World->Prop} {X0:List Nat}
end
section
variable {P:Program} {md:Region.Mode} {ops:Array Oper} {Q:Exit->Act->World->Prop} {S:World->Prop} {X0:List Nat}
theorem fJ{ops:Array Oper}{i:Nat}{o:Oper}(h:ops.toList[i]?=some o):ops[i]?=some o:=by rw[<-h,Array.getElem?_toList]
theorem CW(i:Nat){d0:Option Tmp}{o0:Oper}{v0:Value}{fuel:Nat}{listed L':Array Bool}{a a':Act}{w:World}(h:wpAnyL P md ops Q S X0 fuel L' a' w)(hS:Bf X0 listed->S w:=by exact λ_=>hSn) (hs:Region.noSelect ops=true:=by as_aux_lemma=>kernel_rfl) (hi0:ops.toList[i]?=some o0:=by exact rfl) (hd0:o0.dst=d0:=by exact rfl) (hy0:YieldsIf P ops (λ_=>True) o0 v0 a:=by first|(refine Or.inl ⟨by rfl,?_⟩;intro w _;go_simp;try with_reducible rfl)) (hf0:Region.free md ops listed i=true:=by as_aux_lemma=>kernel_rfl) (hr0:(Region.ready md ops listed).contains i=true:=by as_aux_lemma=>kernel_rfl) (hx0:X0.contains i=false:=by as_aux_lemma=>kernel_rfl) (hQ0:∀c a w,Q (.panic c) (a.put o0.dst v0) w->Q (.panic c) a w:=by exact λ_ _ _ h=>h) (hN:(a.put d0 v0)=a':=by(simp only[Act.put,zA,zB,zC];try rfl)) (hM:(listed.setIfInBounds i true)=L':=by(simp only[zA,zB,zC];try rfl)):wpAnyL P md ops Q S X0 (fuel+1) listed a w:=
 (DR d0 (fJ hi0) hd0 hs hf0 hr0 hx0 hQ0 hy0 (λb=>hS b) (by rw[hN,hM];exact h))
theorem F9(i:Nat){d0 d1:Option Tmp}{o0 o1:Oper}{v0 v1:Value}{fuel:Nat}{listed L':Array Bool}{a a':Act}{w:World}(h:wpAnyL P md ops Q S X0 fuel L' a' w)(hS:Bf X0 listed->S w:=by exact λ_=>hSn) (hs:Region.noSelect ops=true:=by as_aux_lemma=>kernel_rfl) (hi0:ops.toList[i]?=some o0:=by exact rfl) (hd0:o0.dst=d0:=by exact rfl) (hy0:YieldsIf P ops (λ_=>True) o0 v0 a:=by first|(refine Or.inl ⟨by rfl,?_⟩;intro w _;go_simp;try with_reducible rfl)) (hf0:Region.free md ops listed i=true:=by as_aux_lemma=>kernel_rfl) (hr0:(Region.ready md ops listed).contains i=true:=by as_aux_lemma=>kernel_rfl) (hx0:X0.contains i=false:=by as_aux_lemma=>kernel_rfl) (hQ0:∀c a w,Q (.panic c) (a.put o0.dst v0) w->Q (.panic c) a w:=by exact λ_ _ _ h=>h) (hi1:ops.toList[i+1]?=some o1:=by exact rfl) (hd1:o1.dst=d1:=by exact rfl) (hy1:YieldsIf P ops (λ_=>True) o1 v1 (a.put d0 v0):=by first|(simp only[Act.put,zA,zB,zC];refine Or.inl ⟨by rfl,?_⟩;intro w _;go_simp;try with_reducible rfl)) (hf1:Region.free md ops (listed.setIfInBounds i true) (i+1)=true:=by as_aux_lemma=>kernel_rfl) (hr1:(Region.ready md ops (listed.setIfInBounds i true)).contains (i+1)=true:=by as_aux_lemma=>kernel_rfl) (hx1:X0.contains (i+1)=false:=by as_aux_lemma=>kernel_rfl) (hQ1:∀c a w,Q (.panic c) (a.put o1.dst v1) w->Q (.panic c) a w:=by exact λ_ _ _ h=>h) (hN:((a.put d0 v0).put d1 v1)=a':=by(simp only[Act.put,zA,zB,zC];try rfl)) (hM:((listed.setIfInBounds i true).setIfInBounds (i+1) true)=L':=by(simp only[zA,zB,zC];try rfl)):wpAnyL P md ops Q S X0 (fuel+2) listed a w:=
 (DR d0 (fJ hi0) hd0 hs hf0 hr0 hx0 hQ0 hy0 (λb=>hS b) (DR d1 (fJ hi1) hd1 hs hf1 hr1 hx1 hQ1 hy1 (λb=>hS (lf hx0 b)) (by rw[hN,hM];exact h)))
theorem ES(i:Nat){d0 d1 d2:Option Tmp}{o0 o1 o2:Oper}{v0 v1 v2:Value}{fuel:Nat}{listed L':Array Bool}{a a':Act}{w:World}(h:wpAnyL P md ops Q S X0 fuel L' a' w)(hS:Bf X0 listed->S w:=by exact λ_=>hSn) (hs:Region.noSelect ops=true:=by as_aux_lemma=>kernel_rfl) (hi0:ops.toList[i]?=some o0:=by exact rfl) (hd0:o0.dst=d0:=by exact rfl) (hy0:YieldsIf P ops (λ_=>True) o0 v0 a:=by first|(refine Or.inl ⟨by rfl,?_⟩;intro w _;go_simp;try with_reducible rfl)) (hf0:Region.free md ops listed i=true:=by as_aux_lemma=>kernel_rfl) (hr0:(Region.ready md ops listed).contains i=true:=by as_aux_lemma=>kernel_rfl) (hx0:X0.contains i=false:=by as_aux_lemma=>kernel_rfl) (hQ0:∀c a w,Q (.panic c) (a.put o0.dst v0) w->Q (.panic c) a w:=by exact λ_ _ _ h=>h) (hi1:ops.toList[i+1]?=some o1:=by exact rfl) (hd1:o1.dst=d1:=by exact rfl) (hy1:YieldsIf P ops (λ_=>True) o1 v1 (a.put d0 v0):=by first|(simp only[Act.put,zA,zB,zC];refine Or.inl ⟨by rfl,?_⟩;intro w _;go_simp;try with_reducible rfl)) (hf1:Region.free md ops (listed.setIfInBounds i true) (i+1)=true:=by as_aux_lemma=>kernel_rfl) (hr1:(Region.ready md ops (listed.setIfInBounds i true)).contains (i+1)=true:=by as_aux_lemma=>kernel_rfl) (hx1:X0.contains (i+1)=false:=by as_aux_lemma=>kernel_rfl) (hQ1:∀c a w,Q (.panic c) (a.put o1.dst v1) w->Q (.panic c) a w:=by exact λ_ _ _ h=>h) (hi2:ops.toList[i+2]?=some o2:=by exact rfl) (hd2:o2.dst=d2:=by exact rfl) (hy2:YieldsIf P ops (λ_=>True) o2 v2 ((a.put d0 v0).put d1 v1):=by first|(simp only[Act.put,zA,zB,zC];refine Or.inl ⟨by rfl,?_⟩;intro w _;go_simp;try with_reducible rfl)) (hf2:Region.free md ops ((listed.setIfInBounds i true).setIfInBounds (i+1) true) (i+2)=true:=by as_aux_lemma=>kernel_rfl) (hr2:(Region.ready md ops ((listed.setIfInBounds i true).setIfInBounds (i+1) true)).contains (i+2)=true:=by as_aux_lemma=>kernel_rfl) (hx2:X0.contains (i+2)=false:=by as_aux_lemma=>kernel_rfl) (hQ2:∀c a w,Q (.panic c) (a.put o2.dst v2) w->Q (.panic c) a w:=by exact λ_ _ _ h=>h) (hN:(((a.put d0 v0).put d1 v1).put d2 v2)=a':=by(simp only[Act.put,zA,zB,zC];try rfl)) (hM:(((listed.setIfInBounds i true).setIfInBounds (i+1) true).setIfInBounds (i+2) true)=L':=by(simp only[zA,zB,zC];try rfl)):wpAnyL P md ops Q S X0 (fuel+3) listed a w:=
 (DR d0 (fJ hi0) hd0 hs hf0 hr0 hx0 hQ0 hy0 (λb=>hS b) (DR d1 (fJ hi1) hd1 hs hf1 hr1 hx1 hQ1 hy1 (λb=>hS (lf hx0 b)) (DR d2 (fJ hi2) hd2 hs hf2 hr2 hx2 hQ2 hy2 (λb=>hS (lf hx0 (lf hx1 b))) (by rw[hN,hM];exact h))))
theorem J9(i:Nat){d0 d1 d2 d3:Option Tmp}{o0 o1 o2 o3:Oper}{v0 v1 v2 v3:Value}{fuel:Nat}{listed L':Array Bool}{a a':Act}{w:World}(h:wpAnyL P md ops Q S X0 fuel L' a' w)(hS:Bf X0 listed->S w:=by exact λ_=>hSn) (hs:Region.noSelect ops=true:=by as_aux_lemma=>kernel_rfl) (hi0:ops.toList[i]?=some o0:=by exact rfl) (hd0:o0.dst=d0:=by exact rfl) (hy0:YieldsIf P ops (λ_=>True) o0 v0 a:=by first|(refine Or.inl ⟨by rfl,?_⟩;intro w _;go_simp;try with_reducible rfl)) (hf0:Region.free md ops listed i=true:=by as_aux_lemma=>kernel_rfl) (hr0:(Region.ready md ops listed).contains i=true:=by as_aux_lemma=>kernel_rfl) (hx0:X0.contains i=false:=by as_aux_lemma=>kernel_rfl) (hQ0:∀c a w,Q (.panic c) (a.put o0.dst v0) w->Q (.panic c) a w:=by exact λ_ _ _ h=>h) (hi1:ops.toList[i+1]?=some o1:=by exact rfl) (hd1:o1.dst=d1:=by exact rfl) (hy1:YieldsIf P ops (λ_=>True) o1 v1 (a.put d0 v0):=by first|(simp only[Act.put,zA,zB,zC];refine Or.inl ⟨by rfl,?_⟩;intro w _;go_simp;try with_reducible rfl)) (hf1:Region.free md ops (listed.setIfInBounds i true) (i+1)=true:=by as_aux_lemma=>kernel_rfl) (hr1:(Region.ready md ops (listed.setIfInBounds i true)).contains (i+1)=true:=by as_aux_lemma=>kernel_rfl) (hx1:X0.contains (i+1)=false:=by as_aux_lemma=>kernel_rfl) (hQ1:∀c a w,Q (.panic c) (a.put o1.dst v1) w->Q (.panic c) a w:=by exact λ_ _ _ h=>h) (hi2:ops.toList[i+2]?=some o2:=by exact rfl) (hd2:o2.dst=d2:=by exact rfl) (hy2:YieldsIf P ops (λ_=>True) o2 v2 ((a.put d0 v0).put d1 v1):=by first|(simp only[Act.put,zA,zB,zC];refine Or.inl ⟨by rfl,?_⟩;intro w _;go_simp;try with_reducible rfl)) (hf2:Region.free md ops ((listed.setIfInBounds i true).setIfInBounds (i+1) true) (i+2)=true:=by as_aux_lemma=>kernel_rfl) (hr2:(Region.ready md ops ((listed.setIfInBounds i true).setIfInBounds (i+1) true)).contains (i+2)=true:=by as_aux_lemma=>kernel_rfl) (hx2:X0.contains (i+2)=false:=by as_aux_lemma=>kernel_rfl) (hQ2:∀c a w,Q (.panic c) (a.put o2.dst v2) w->Q (.panic c) a w:=by exact λ_ _ _ h=>h) (hi3:ops.toList[i+3]?=some o3:=by exact rfl) (hd3:o3.dst=d3:=by exact rfl) (hy3:YieldsIf P ops (λ_=>True) o3 v3 (((a.put d0 v0).put d1 v1).put d2 v2):=by first|(simp only[Act.put,zA,zB,zC];refine Or.inl ⟨by rfl,?_⟩;intro w _;go_simp;try with_reducible rfl)) (hf3:Region.free md ops (((listed.setIfInBounds i true).setIfInBounds (i+1) true).setIfInBounds (i+2) true) (i+3)=true:=by as_aux_lemma=>kernel_rfl) (hr3:(Region.ready md ops (((listed.setIfInBounds i true).setIfInBounds (i+1) true).setIfInBounds (i+2) true)).contains (i+3)=true:=by as_aux_lemma=>kernel_rfl) (hx3:X0.contains (i+3)=false:=by as_aux_lemma=>kernel_rfl) (hQ3:∀c a w,Q (.panic c) (a.put o3.dst v3) w->Q (.panic c) a w:=by exact λ_ _ _ h=>h) (hN:((((a.put d0 v0).put d1 v1).put d2 v2).put d3 v3)=a':=by(simp only[Act.put,zA,zB,zC];try rfl)) (hM:((((listed.setIfInBounds i true).setIfInBounds (i+1) true).setIfInBounds (i+2) true).setIfInBounds (i+3) true)=L':=by(simp only[zA,zB,zC];try rfl)):wpAnyL P md ops Q S X0 (fuel+4) listed a w:=
 (DR d0 (fJ hi0) hd0 hs hf0 hr0 hx0 hQ0 hy0 (λb=>hS b) (DR d1 (fJ hi1) hd1 hs hf1 hr1 hx1 hQ1 hy1 (λb=>hS (lf hx0 b)) (DR d2 (fJ hi2) hd2 hs hf2 hr2 hx2 hQ2 hy2 (λb=>hS (lf hx0 (lf hx1 b))) (DR d3 (fJ hi3) hd3 hs hf3 hr3 hx3 hQ3 hy3 (λb=>hS (lf hx0 (lf hx1 (lf hx2 b)))) (by rw[hN,hM];exact h)))))
theorem BO(i:Nat)(X:List Nat){d:Option Tmp}{v:Value}{F:World->Prop}{oi:Oper}{fuel:Nat}{listed L':Array Bool}{a a':Act}{w:World}(hF:∀w,S w->F w)(h:wpAnyL P md ops Q S X0 fuel L' a' w)(hS:S w:=by exact hSn) (hi:ops.toList[i]?=some oi:=by exact rfl) (hd:oi.dst=d:=by exact rfl) (hy:(∀w,S w->F w)->YieldsIf P ops S oi v a:=by(intro hf;refine Or.inl ⟨by rfl,?_⟩;intro w hs;have hg:=hf w hs;clear hf;go_simp;try with_reducible rfl)) (hs:Region.noSelect ops=true:=by as_aux_lemma=>kernel_rfl) (hf:Region.free md ops listed i=true:=by as_aux_lemma=>kernel_rfl) (hr:(Region.ready md ops listed).contains i=true:=by as_aux_lemma=>kernel_rfl) (hx:YZ md ops X0 X listed i=true:=by as_aux_lemma=>kernel_rfl) (hQ:∀c a w,Q (.panic c) (a.put oi.dst v) w->Q (.panic c) a w:=by exact λ_ _ _ h=>h) (hN:a.put d v=a':=by(simp only[Act.put,zA,zB,zC];try rfl)) (hM:listed.setIfInBounds i true=L':=by(simp only[zA,zB,zC];try rfl)):wpAnyL P md ops Q S X0 (fuel+1) listed a w:=
 PQ X d (fJ hi) hd hs hf hr hx hQ (hy hF) hS (by rw[hN,hM];exact h)
end
theorem BR{P:Program}{md:Region.Mode}{ops:Array Oper}{Q:Exit->Act->World->Prop}{S:World->Prop}{X0:List Nat}{K:Act->World->Prop}{fuel:Nat}{L L':Array Bool}{a a':Act}{w:World}(hK:Shut (∀a w,(Bf X0 L->S w)->wpAnyL P md ops Q S X0 fuel L a w->K a w))(h:wpAnyL P md ops Q S X0 fuel L' a' w)(hS:Bf X0 L->S w:=by first|exact λ_=>hSn|exact JI) (hN:a=a':=by((try simp only[Act.put,zA,zB,zC]);try rfl)) (hM:L=L':=by((try simp only[zA,zB,zC]);try rfl)):K a w:=hK.out _ _ hS (by rw[hM];rw[hN];exact h)
instance {F:Ap}{w W W':World}:Bl W W' (Mv F w W) (Mv F w W'):=⟨λhb h=>Mv.bel h hb⟩
instance {g:Nat}{w W W':World}:Bl W W' (Touch g w W) (Touch g w W'):=⟨λhb h=>Touch.bel h hb⟩
instance {B:Nat}{w W W':World}:Bl W W' (Base B w W) (Base B w W'):=⟨λhb h=>Base.bel h hb⟩
instance {b:Nat}{w w':World}:Bl w w' (Sz b w) (Sz b w'):=⟨λhb h=>Sz.bel h hb⟩
instance {w w':World}{R:World->Prop}:Bl w w' (Tq w R) (Tq w' R):=⟨λhb h=>Tq.bel h hb⟩
end
structure Cm where
 k:Int
 c:Int
 s:Int
 a:ByteArray
 b:ByteArray
 o:ByteArray
 v:ByteArray
def Cm.zero:Cm:=⟨0,0,0,ByteArray.empty,ByteArray.empty,ByteArray.empty,ByteArray.empty⟩
def Cm.cells(x:Cm):List Value:=[AA x.k,AA x.c,AA x.s,.string x.a,.string x.b,.string x.o,.string x.v]
def Dk(id seq:Int)(x:Cm)(waits:Bool)(target ticks:Int):List Value:=
 [AA id,AA seq,AA x.k,AA x.c,AA x.s,.string x.a,.string x.b,.string x.o,.string x.v,.bool waits,AA target,AA ticks]
end Go.Proofs.YtimdpiifpibgfaaGreatDoor
