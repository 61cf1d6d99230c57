/- For every input the law TopFast returns true (a part of the proof). Condition: the listed variables start as the program's text lays them. -/
import Derived.Deep.RegionWith
import Derived.Deep.CutRange
import Derived.Maps.RangeWalk
import Derived.Maps.OwnSet
import Derived.DeepKeys4
import Derived.Test.YtimdpiifpibgfaaGreatDoorQf2
set_option linter.unusedVariables false
set_option linter.unusedSimpArgs false
set_option maxRecDepth 20000
set_option maxHeartbeats 16000000
namespace Go.Proofs.YtimdpiifpibgfaaGreatDoor
section
open Go.RowKit
end
section
open Go.RowKit
end
section
open Go.RowKit
abbrev Foot:=Nat→Prop
end
section
open Go.RowKit Go.Maps
theorem keyRow:(37:TypeId)<Tryz.prog.types.size:=of_decide_eq_true (by kernel_rfl)
theorem keyLaid:laidOutB Tryz.prog=true:=by kernel_rfl
theorem keyLaw:Keyed Tryz.prog 37:=Keyed.of_law (deep_law_laid keyLaid (m:=2) (by omega) keyRow (by kernel_rfl) (by kernel_rfl))
theorem keyCells:Tryz.prog.cellsOf 37=2:=by kernel_rfl
theorem intCells:Tryz.prog.cellsOf 3=1:=by kernel_rfl
theorem keyType:Tryz.prog.keyType 37=true:=by kernel_rfl
def instV (r s:Int):Value:=.agg #[.int .i64 r,.int .i64 s]
def keyL (r s:Int):Lit:=.string (keyBytes [.int .i64 r,.int .i64 s])
theorem keyLits_inst (d:Nat) (r s:Int) (hr:(Lit.int .i64 r).wf=true) (hs:(Lit.int .i64 s).wf=true):Tryz.prog.keyLits (d+2) 37 [.int .i64 r,.int .i64 s]=some [.int .i64 r,.int .i64 s]:=by
 have h3:∀ n,(Lit.int .i64 n).wf=true→Tryz.prog.keyLits (d+1) 3 [.int .i64 n]=some [.int .i64 n]:=fun n hn=>by
  unfold Program.keyLits
  rw [Tryz.underlying3]
  simp [hn]
 unfold Program.keyLits
 rw [Tryz.underlying37]
 simp [keyCells,intCells,h3 r hr,h3 s hs]
theorem key_inst (r s:Int) (hr:(Lit.int .i64 r).wf=true) (hs:(Lit.int .i64 s).wf=true):keyOf Tryz.prog 37 (instV r s)=some (keyL r s):=by
 have hz:∃ d,Tryz.prog.types.size+1=d+2:=by
  obtain⟨d,hd⟩:=Nat.exists_eq_add_of_le (show 1≤Tryz.prog.types.size from Nat.le_trans (by decide) (Nat.le_of_lt keyRow))
  exact⟨d,by rw [hd,Nat.add_comm 1 d]⟩
 obtain⟨d,hd⟩:=hz
 unfold keyOf
 rw [Tryz.underlying37]
 have hf:(instV r s).formed Tryz.prog 37=true:=by
  simp [instV,Value.formed,Tryz.underlying37,keyCells]
 simp only [keyType,hf,hd,Bool.and_self,if_true]
 simp only [instV,Value.cells,Array.toList]
 rw [keyLits_inst d r s hr hs]
 rfl
theorem key_inv {v:Value} {l:Lit} (h:keyOf Tryz.prog 37 v=some l):∃ r s,v=instV r s∧(Lit.int .i64 r).wf=true∧(Lit.int .i64 s).wf=true:=by
 unfold keyOf at h
 rw [Tryz.underlying37] at h
 simp only at h
 split at h
 case isFalse=>cases h
 rename_i hf
 simp only [Bool.and_eq_true] at hf
 obtain⟨_,hf⟩:=hf
 rw [Option.map_eq_some_iff] at h
 obtain⟨ls,h,_⟩:=h
 unfold Value.formed at hf
 rw [Tryz.underlying37] at hf
 cases v<;>simp only [Bool.false_eq_true] at hf
 rename_i cs
 rw [keyCells,beq_iff_eq] at hf
 obtain⟨cl⟩:=cs
 match cl,hf with
 | [c0,c1],_=>
  have h3:∀ (d:Nat) (c:Value) (x:List Lit),Tryz.prog.keyLits d 3 [c]=some x→∃ n,c=.int .i64 n∧(Lit.int .i64 n).wf=true:=fun d c x hx=>by
   cases d
   ·simp [Program.keyLits] at hx
   unfold Program.keyLits at hx
   rw [Tryz.underlying3] at hx
   cases c<;>simp at hx
   obtain⟨⟨rfl,hw⟩,_⟩:=hx
   exact⟨_,rfl,hw⟩
  unfold Program.keyLits at h
  rw [Tryz.underlying37] at h
  simp [Value.cells,keyCells,intCells,Option.bind_eq_some_iff] at h
  obtain⟨x0,h0,y,⟨x1,h1,_⟩,_⟩:=h
  obtain⟨r,rfl,hr⟩:=h3 _ _ _ h0
  obtain⟨t,rfl,ht⟩:=h3 _ _ _ h1
  exact⟨r,t,rfl,hr,ht⟩
def notedV (x:Cm) (q:Int):Value:=.agg #[.int .i64 x.k,.int .i64 x.c,.int .i64 x.s,.string x.a,.string x.b,.string x.o,.string x.v,.int .i64 q]
structure Ent where
 r:Int
 s:Int
 c:Cm
 q:Int
def Ent.key (e:Ent):Lit:=keyL e.r e.s
def Ent.val (e:Ent):Value:=notedV e.c e.q
def readN (v:Value):Option (DataW Value × List MemPlace):=some (.held v,[])
structure Lists (D:DataW Value) (l:List Ent):Prop where
 tidy:Tidy D
 size:Maps.size D=l.length
 apart:l.Pairwise fun x y=>¬ (x.r=y.r∧x.s=y.s)
 has:∀ k,Maps.has D k=l.any fun e=>e.key.sameKey k
 at_:∀ e∈l,∀ z,D.atKey e.key z=.held e.val
theorem keyL_inj {r s r' s':Int} (hr:(Lit.int .i64 r).wf=true) (hs:(Lit.int .i64 s).wf=true) (hr':(Lit.int .i64 r').wf=true) (hs':(Lit.int .i64 s').wf=true) (h:keyL r s=keyL r' s'):r=r'∧s=s':=by
 have:=keyLaw.inj (key_inst r s hr hs) (by rw [h];exact key_inst r' s' hr' hs')
 simp only [instV,Value.agg.injEq,Array.mk.injEq,List.cons.injEq,Value.int.injEq] at this
 exact⟨this.1.2,this.2.1.2⟩
theorem keyL_is (r s:Int):WideAt.IsKeyLit (keyL r s):=by unfold keyL;trivial
theorem Lists.empty:Lists (.map []) []:=⟨tidy_empty,rfl,List.Pairwise.nil,fun k=>rfl,fun e he=>by cases he⟩
def putE (l:List Ent) (e:Ent):List Ent:=if l.any (fun x=>x.r==e.r&&x.s==e.s) then l.map (fun x=>if x.r=e.r∧x.s=e.s then e else x) else l++[e]
def WfE (l:List Ent):Prop:=∀ e∈l,(Lit.int .i64 e.r).wf=true∧(Lit.int .i64 e.s).wf=true
theorem sameKey_inst {r s r' s':Int} (hr:(Lit.int .i64 r).wf=true) (hs:(Lit.int .i64 s).wf=true) (hr':(Lit.int .i64 r').wf=true) (hs':(Lit.int .i64 s').wf=true):(keyL r s).sameKey (keyL r' s')=(r==r'&&s==s'):=by
 by_cases h:r=r'∧s=s'
 ·obtain⟨rfl,rfl⟩:=h
  rw [WideAt.sameKey_self (keyL_is r s)]
  simp
 ·rw [Maps.sameKey_ne (fun e=>h (keyL_inj hr hs hr' hs' e))]
  symm
  rw [Bool.and_eq_false_iff,beq_eq_false_iff_ne,beq_eq_false_iff_ne]
  by_cases h1:r=r'
  ·exact .inr fun h2=>h ⟨h1,h2⟩
  ·exact .inl h1
theorem Lists.has_inst {D:DataW Value} {l:List Ent} (h:Lists D l) (hw:WfE l) (r s:Int) (hr:(Lit.int .i64 r).wf=true) (hs:(Lit.int .i64 s).wf=true):Maps.has D (keyL r s)=l.any fun x=>x.r==r&&x.s==s:=by
 rw [h.has]
 rw [Bool.eq_iff_iff,List.any_eq_true,List.any_eq_true]
 constructor
 ·rintro⟨x,hx,hk⟩
  exact⟨x,hx,by rw [← sameKey_inst (hw x hx).1 (hw x hx).2 hr hs];exact hk⟩
 ·rintro⟨x,hx,hk⟩
  exact⟨x,hx,by rw [Ent.key,sameKey_inst (hw x hx).1 (hw x hx).2 hr hs];exact hk⟩
theorem Lists.put {D:DataW Value} {l:List Ent} (h:Lists D l) (hw:WfE l) (e:Ent) (he:(Lit.int .i64 e.r).wf=true∧(Lit.int .i64 e.s).wf=true):Lists (D.put e.key (.held e.val)) (putE l e):=by
 have hi:IsMap D:=h.tidy.isMap
 have hk:WideAt.IsKeyLit e.key:=keyL_is _ _
 have hh:=h.has_inst hw e.r e.s he.1 he.2
 refine⟨h.tidy.put hk _,?_,?_,fun k=>?_,?_⟩
 ·rw [Maps.size_put h.tidy,show Maps.has D e.key=_ from hh,h.size]
  unfold putE
  split<;>simp
 ·unfold putE
  split
  ·rw [List.pairwise_map]
   refine h.apart.imp fun {x y} hxy=>?_
   split<;>split<;>rename_i h1 h2
   ·exact fun _=>hxy ⟨h1.1.trans h2.1.symm,h1.2.trans h2.2.symm⟩
   ·exact fun hc=>h2 ⟨hc.1.symm,hc.2.symm⟩
   ·exact fun hc=>h1 hc
   ·exact hxy
  ·rename_i hn
   refine List.pairwise_append.2 ⟨h.apart,List.pairwise_singleton _ _,fun x hx y hy hc=>?_⟩
   rw [List.mem_singleton.1 hy] at hc
   exact hn (List.any_eq_true.2 ⟨x,hx,by simp [hc.1,hc.2]⟩)
 ·by_cases hke:k=e.key
  ·rw [hke,Maps.has_put_same hi hk]
   symm
   rw [List.any_eq_true]
   refine⟨e,?_,WideAt.sameKey_self hk⟩
   unfold putE
   split
   ·rename_i ha
    obtain⟨x,hx,hx2⟩:=List.any_eq_true.1 ha
    simp only [Bool.and_eq_true,beq_iff_eq] at hx2
    exact List.mem_map.2 ⟨x,hx,if_pos hx2⟩
   ·simp
  ·rw [Maps.has_put_other hke,h.has]
   have hek:e.key.sameKey k=false:=Maps.sameKey_ne (fun hc=>hke hc.symm)
   unfold putE
   split
   ·rw [List.any_map]
    rw [Bool.eq_iff_iff,List.any_eq_true,List.any_eq_true]
    refine⟨?_,?_⟩
    all_goals
     rintro⟨x,hx,hx2⟩
     refine⟨x,hx,?_⟩
    ·simp only [Function.comp]
     rw [if_neg]
     ·exact hx2
     ·intro hc
      have:x.key=e.key:=by unfold Ent.key;rw [hc.1,hc.2]
      rw [this,hek] at hx2
      cases hx2
    ·simp only [Function.comp] at hx2
     split at hx2
     ·rw [hek] at hx2;cases hx2
     ·exact hx2
   ·simp [hek]
 ·intro x hx z
  unfold putE at hx
  have other:x∈l→¬ (x.r=e.r∧x.s=e.s)→(D.put e.key (.held e.val)).atKey x.key z=.held x.val:=fun hl hn=>by
   rw [Maps.atKey_put_other,h.at_ x hl]
   intro hc
   exact hn (keyL_inj (hw x hl).1 (hw x hl).2 he.1 he.2 hc)
  split at hx
  ·obtain⟨y,hy,rfl⟩:=List.mem_map.1 hx
   split
   ·exact Maps.atKey_put_same hi hk _ _
   ·rename_i hn
    rw [if_neg hn] at other
    exact other hy hn
  ·rename_i hn
   rcases List.mem_append.1 hx with hx|hx
   ·exact other hx fun hc=>hn (List.any_eq_true.2 ⟨x,hx,by simp [hc.1,hc.2]⟩)
   ·rw [List.mem_singleton.1 hx]
    exact Maps.atKey_put_same hi hk _ _
def GoodE (l:List Ent):Prop:=∀ e∈l,(0≤e.r∧e.r<7)∧(1≤e.s∧e.s≤1073741824)∧(0≤e.q∧e.q≤1099511627776)∧e.c.a.size≤16
theorem GoodE.wf {l:List Ent} (h:GoodE l):WfE l:=fun e he=>⟨WalkArith.wf_i64 (by have:=(h e he).1;omega),WalkArith.wf_i64 (by have:=(h e he).2.1;omega)⟩
theorem putE_good {l:List Ent} (h:GoodE l) {e:Ent} (he:(0≤e.r∧e.r<7)∧(1≤e.s∧e.s≤1073741824)∧(0≤e.q∧e.q≤1099511627776)∧e.c.a.size≤16):GoodE (putE l e):=by
 unfold putE
 split
 ·intro x hx
  obtain⟨y,hy,rfl⟩:=List.mem_map.1 hx
  split
  ·exact he
  ·exact h y hy
 ·intro x hx
  rcases List.mem_append.1 hx with hx|hx
  ·exact h x hx
  ·rw [List.mem_singleton.1 hx];exact he
def delE (l:List Ent) (r s:Int):List Ent:=l.filter fun x=>!(x.r==r&&x.s==s)
end
section
open Go.RowKit
def hushLast (o:Oper):Oper:={ o with op:=.move (.const undef) }
def lastB (l:List Oper) (o:Oper):Bool:=
 o.guard.isNone&&(o.dst==none&&((l++[o]).zipIdx.all (fun y=>y.1.after.toList.all fun e=>!Region.binds .any e||decide (e.on<y.2))&&(List.range l.length).all fun i=>o.after.toList.any fun e=>Region.binds .any e&&e.on==i))
theorem wpQuiet_then {P:Program} {ops:Array Oper} {C:World→Prop} {Q Q':Act→Prop} {l2:List Oper} (h2:∀ a,Q a→wpQuiet P ops C Q' l2 a):∀ {l:List Oper} {a:Act},wpQuiet P ops C Q l a→wpQuiet P ops C Q' (l++l2) a
 | [],a,h=>h2 a h
 | o :: l,a,h=>by
  rw [List.cons_append]
  unfold wpQuiet at h ⊢
  split
  ·rename_i hw
   rw [if_pos hw] at h
   exact Oper.quiet_mono (fun a' ha'=>wpQuiet_then h2 ha') h
  ·rename_i hw
   rw [if_neg hw] at h
   exact wpQuiet_then h2 h
theorem wp_region_last {P:Program} {id:Nat} {Q:Exit→Act→World→Prop} {a:Act} {w:World} {l:List Oper} {o:Oper} (hm:P.follows .mixedOrders=true) (hB:Region.lexB .any (l++[hushLast o]).toArray=true) (hl:lastB l o=true)
  (h:wpQuiet P (l++[hushLast o]).toArray (fun w'=>∃ p:Regrown,w'=Sort.grow (redrawn w p.d) p.os) (fun a'=>∀ w',(∃ p:Regrown,w'=Sort.grow (redrawn w p.d) p.os)→o.wp P a' w' (fun a2 w2=>Q .normal a2 w2) Q) l a):(Code.region id (l++[o]).toArray true).wp P Q a w:=by
 simp only [lastB,Bool.and_eq_true,Option.isNone_iff_eq_none,beq_iff_eq] at hl
 obtain⟨hg,hd,hc,hall⟩:=hl
 obtain⟨ops,hops⟩:∃ ops,ops=(l++[o]).toArray:=⟨_,rfl⟩
 obtain⟨ops',hops'⟩:∃ ops',ops'=(l++[hushLast o]).toArray:=⟨_,rfl⟩
 have hsz:ops.size=l.length+1:=by rw [hops];simp
 have hsz':ops'.size=l.length+1:=by rw [hops'];simp
 have hn:ops[l.length]?=some o:=by rw [hops];simp
 have hn':ops'[l.length]?=some (hushLast o):=by rw [hops'];simp
 have hlt:∀ i,i<l.length→ops'[i]?=ops[i]?:=fun i hi=>by rw [hops,hops',List.getElem?_toArray,List.getElem?_toArray,List.getElem?_append_left hi,List.getElem?_append_left hi]
 have hafter:∀ (i:Nat),(ops'[i]?).map (·.after)=(ops[i]?).map (·.after):=fun i=>by
  by_cases hi:i<l.length
  ·rw [hlt i hi]
  ·by_cases hi2:i=l.length
   ·subst hi2;rw [hn,hn'];rfl
   ·rw [Array.getElem?_eq_none (by omega),Array.getElem?_eq_none (by omega)]
 have hdst:∀ (i:Nat),(ops'[i]?).bind (·.dst)=(ops[i]?).bind (·.dst):=fun i=>by
  by_cases hi:i<l.length
  ·rw [hlt i hi]
  ·by_cases hi2:i=l.length
   ·subst hi2;rw [hn,hn'];rfl
   ·rw [Array.getElem?_eq_none (by omega),Array.getElem?_eq_none (by omega)]
 have hyield:∀ (t:Array Value),yielded ops' t=yielded ops t:=fun t=>by
  funext j
  unfold yielded
  rw [hdst j]
 have hready:∀ L,Region.ready .any ops' L=Region.ready .any ops L:=fun L=>by
  unfold Region.ready
  rw [hsz,hsz']
  apply List.filter_congr
  intro i _
  have:=hafter i
  cases h1:ops'[i]? with
  | none=>
   rw [h1] at this
   cases h2:ops[i]? with
   | none=>rfl
   | some o2=>rw [h2] at this;cases this
  | some o1=>
   rw [h1] at this
   cases h2:ops[i]? with
   | none=>rw [h2] at this;cases this
   | some o2=>
    rw [h2] at this
    simp only [Option.map_some,Option.some.injEq] at this
    simp only [Option.map_some,this]
 have hcyc:∀ (i:Nat) o2,ops[i]?=some o2→∀ e∈o2.after,Region.binds .any e=true→e.on<i:=fun i o2 ho2 e he hbd=>by
  have h1:=List.all_eq_true.1 hc _ (mem_zip (by rw [← hops];exact ho2))
  have h2:=List.all_eq_true.1 h1 e (by simpa using he)
  rw [hbd] at h2
  simpa using h2
 have hw8:∀ i,i<l.length→∃ e∈o.after,Region.binds .any e=true∧e.on=i:=fun i hi=>by
  have h1:=List.all_eq_true.1 hall i (List.mem_range.2 hi)
  simp only [List.any_eq_true,Bool.and_eq_true,beq_iff_eq] at h1
  obtain⟨e,he,h2,h3⟩:=h1
  exact⟨e,by simpa using he,h2,h3⟩
 have sim:∀ (fuel:Nat) (L:Array Bool) (a:Act) (w1:World),L.size=ops.size→Cls w w1→L.getD l.length false=false →
   wpAnyQ P .any ops' (Cls w) (fun a'=>∀ w',Cls w w'→o.wp P a' w' (fun a2 w2=>Q .normal a2 w2) Q) fuel L a→wpAny P .any ops Q fuel L a w1:=by
  have hno:∀ L:Array Bool,L.size=ops.size→L.getD l.length false=false→Region.ready .any ops L≠[]:=fun L hL hun hr=>by
   have:=all_listed hcyc L hL hr l.length (by omega)
   rw [hun] at this;cases this
  intro fuel
  induction fuel with
  | zero=>
   intro L a w1 hL hC hun hq
   exact absurd (by rw [← hready];exact hq.1) (hno L hL hun)
  | succ fuel ih=>
   intro L a w1 hL hC hun hq
   refine⟨fun hr=>absurd hr (hno L hL hun),fun i hi=>?_⟩
   obtain⟨hui,oi,hoi,hai⟩:=mem_ready.1 hi
   have hq2:=hq.2 i (by rw [hready];exact hi)
   have hilt:i<l.length+1:=by rw [← hsz];exact (Array.getElem?_eq_some_iff.1 hoi).1
   by_cases hil:i<l.length
   ·have hoi':ops'[i]?=some oi:=by rw [hlt i hil];exact hoi
    unfold qOp at hq2
    unfold wpOp
    simp only [hoi'] at hq2
    simp only [hoi]
    rw [hyield] at hq2
    have hL2:(L.setIfInBounds i true).size=ops.size:=by rw [Array.size_setIfInBounds];exact hL
    have hun2:(L.setIfInBounds i true).getD l.length false=false:=by rw [getD_ne _ (by omega)];exact hun
    split at hq2
    ·rename_i hw
     rw [if_pos hw]
     exact .inl (Oper.wp_of_quiet hC (fun a' w' hw' hk=>ih _ a' w' hL2 hw' hun2 hk) hq2)
    ·rename_i hw
     rw [if_neg hw]
     exact ih _ _ _ hL2 hC hun2 hq2
   ·have hin:i=l.length:=by omega
    subst hin
    rw [hn] at hoi
    cases hoi
    have hall2:∀ j,j<ops.size→(L.setIfInBounds l.length true).getD j false=true:=fun j hj=>by
     by_cases hjl:j=l.length
     ·subst hjl;exact getD_own (by rw [hL];exact hj) _
     ·obtain⟨e,he,hb,heo⟩:=hw8 j (by omega)
      refine getD_set_true ?_
      rw [← heo];exact hai e he hb
    have hr2:Region.ready .any ops (L.setIfInBounds l.length true)=[]:=by
     apply List.eq_nil_iff_forall_not_mem.2
     intro j hj
     obtain⟨huj,oj,hoj,_⟩:=mem_ready.1 hj
     have h1:=hall2 j (Array.getElem?_eq_some_iff.1 hoj).1
     rw [(getD_free huj).2] at h1;cases h1
    have hfin:∀ (f:Nat) (a2:Act) (w2:World),Q .normal a2 w2→wpAny P .any ops Q f (L.setIfInBounds l.length true) a2 w2:=fun f a2 w2 hQ=>by
     cases f with
     | zero=>exact⟨hr2,hQ⟩
     | succ f=>exact⟨fun _=>hQ,fun i hi=>by rw [hr2] at hi;cases hi⟩
    have hq0:∀ w',Cls w w'→o.wp P a w' (fun a2 w2=>Q .normal a2 w2) Q:=by
     unfold qOp at hq2
     simp only [hn'] at hq2
     rw [if_pos (by simp [Region.wanted,hushLast,hg])] at hq2
     obtain⟨v,_,hnx⟩:=hq2
     have he:a.put (hushLast o).dst v=a:=by show a.put o.dst v=a;rw [hd];rfl
     rw [he] at hnx
     cases fuel with
     | zero=>exact hnx.2
     | succ f=>exact hnx.1 (by rw [hready];exact hr2)
    unfold wpOp
    simp only [hn]
    rw [if_pos (by simp [Region.wanted,hg])]
    exact .inl (Oper.wp_mono (fun a2 w2 hQ=>hfin fuel a2 w2 hQ) (hq0 w1 hC))
 rw [← hops]
 refine wp_region_any hm (sim _ _ a _ (by simp) ⟨⟨w.drawn+1,#[]⟩,by rw [Sort.grow_empty];rfl⟩ ?_ ?_)
 ·rw [Array.getD_eq_getD_getElem?,Array.getElem?_replicate]
  split<;>rfl
 ·simp only [Region.lexB,Bool.and_eq_true] at hB
  have hq:wpQuiet P ops' (Cls w) (fun a'=>∀ w',Cls w w'→o.wp P a' w' (fun a2 w2=>Q .normal a2 w2) Q) (l++[hushLast o]) a:=by
   rw [hops']
   refine wpQuiet_then ?_ h
   intro a' ha'
   unfold wpQuiet
   rw [if_pos (by simp [Region.wanted,hushLast,hg])]
   refine⟨undef,fun w' _=>?_,?_⟩
   ·unfold Oper.quietAt execOp hushLast
    simp only [Sem.run_pure,Sem.run_bind,Result.andThen_ok,Oper.quietUpon,Act.eval]
    exact⟨trivial,trivial⟩
   ·show (fun a'=>∀ w',Cls w w'→o.wp P a' w' (fun a2 w2=>Q .normal a2 w2) Q) (a'.put o.dst undef)
    rw [hd]
    exact ha'
  have:=wpAnyQ_lex (P:=P) (ops:=ops') (md:=.any) (C:=Cls w) (by rw [hops'];exact hB.1) (l++[hushLast o]) 0 (Array.replicate ops'.size false) a (fun j=>by rw [hops'];simp) (by rw [hops'];simpa using hB.2) hq
  rw [hsz]
  rw [hsz'] at this
  simpa using this
end
section
open Go.RowKit Go.Maps
def cutL (d:Nat→Int):List Value:=[.int .i64 (d 0),.int .i64 (d 1),.int .i64 (d 2),.int .i64 (d 3),.int .i64 (d 4),.int .i64 (d 5),.int .i64 (d 6)]
structure IxAt (w:World) (g b n:Nat) (d:Nat→Int) (l:List Ent):Prop where
 ix:Holds w g 312 (.map (some b) :: cutL d)
 map:∃ D,w.ownsMap Tryz.prog 37 readN b n D∧Lists D l
 good:GoodE l
theorem IxAt.wf {w:World} {g b n:Nat} {d:Nat→Int} {l:List Ent} (h:IxAt w g b n d l):WfE l:=h.good.wf
theorem IxAt.ne {w:World} {g b n:Nat} {d:Nat→Int} {l:List Ent} (h:IxAt w g b n d l):g≠b:=by
 obtain⟨D,⟨es,clock,hb,_⟩,_⟩:=h.map
 intro e
 have:=h.ix
 unfold Holds at this
 rw [e,hb] at this
 cases this
theorem IxAt.keep {w w':World} {g b n:Nat} {d:Nat→Int} {l:List Ent} (h:IxAt w g b n d l) (hg:w'.heap[g]?=w.heap[g]?) (hb:w'.heap[b]?=w.heap[b]?):IxAt w' g b n d l:=by
 obtain⟨D,⟨es,clock,hm,r⟩,hl⟩:=h.map
 exact⟨by have:=h.ix;unfold Holds at *;rw [hg];exact this,⟨D,⟨es,clock,hb.trans hm,r⟩,hl⟩,h.good⟩
theorem IxAt.lt {w:World} {g b n:Nat} {d:Nat→Int} {l:List Ent} (h:IxAt w g b n d l):g<w.heap.size∧b<w.heap.size:=by
 obtain⟨D,hm,_⟩:=h.map
 exact⟨h.ix.lt,hm.lt⟩
theorem IxAt.mono {w:World} {g b n:Nat} {d:Nat→Int} {l:List Ent} (h:IxAt w g b n d l):IxAt w g b (n+1) d l:=by
 obtain⟨D,hm,hl⟩:=h.map
 exact⟨h.ix,⟨D,hm.mono (Nat.le_succ n),hl⟩,h.good⟩
theorem IxAt.below {w w':World} {g b n:Nat} {d:Nat→Int} {l:List Ent} (h:IxAt w g b n d l) (hb:Below w.heap.size w w'):IxAt w' g b n d l:=
 h.keep (hb.block g h.lt.1) (hb.block b h.lt.2)
theorem IxAt.touch {w w':World} {g b n k:Nat} {d:Nat→Int} {l:List Ent} (h:IxAt w g b n d l) (ht:Touch k w w') (h1:g≠k) (h2:b≠k):IxAt w' g b n d l:=
 h.keep (ht.block g h.lt.1 h1) (ht.block b h.lt.2 h2)
theorem touch_of_grownBy {w w':World} {b:Nat} (h:w.grownBy w' (some b)):Touch b w w':=⟨h.os,h.tape,h.output,h.size,fun k hk hne=>h.block k hk (fun e=>hne (by cases e;rfl))⟩
set_option maxRecDepth 4000 in
theorem new_any (w:World):Calls Tryz.prog 117 #[] w fun e w'=>e=.returned (.pointer (some ⟨w.heap.size+1,0,none⟩))∧IxAt w' (w.heap.size+1) w.heap.size 0 (fun _=>0) []∧Below w.heap.size w w':=by
 have hmm:=@run_makeMap Tryz.prog
 go_enter Tryz.func117,Tryz.ntmps117
 go_wp2_with fail
 go_ret
 have hB:Below w.heap.size w (w.alloc (.map #[] 0)):=(Below.refl _ _).alloc (Nat.le_refl _) _
 refine⟨rfl,⟨?_,⟨.map [],?_,Lists.empty⟩,fun e he=>by cases he⟩,hB.alloc hB.size _⟩
 ·have:=holds_alloc (w.alloc (.map #[] 0)) 312 (.map (some w.heap.size) :: cutL fun _=>0)
  rw [World.size_alloc] at this
  exact this
 ·exact (World.ownsMap_made w Tryz.prog 37 readN).alloc _
theorem cut_get (m:Value) (d:Nat→Int) (k:Nat) (hk:k<7):(m :: cutL d)[1+k]?=some (.int .i64 (d k)):=by
 have:k=0∨k=1∨k=2∨k=3∨k=4∨k=5∨k=6:=by omega
 rcases this with rfl|rfl|rfl|rfl|rfl|rfl|rfl<;>rfl
theorem wp_region_last_d {P:Program} {id:Nat} {Q:Exit→Act→World→Prop} {a:Act} {w:World} (ops:List Oper) (hne:ops≠[]) (hm:P.follows .mixedOrders=true)
  (hB:Region.lexB .any (ops.dropLast++[hushLast (ops.getLast hne)]).toArray=true) (hl:lastB ops.dropLast (ops.getLast hne)=true)
  (h:wpQuiet P (ops.dropLast++[hushLast (ops.getLast hne)]).toArray (fun w'=>∃ p:Regrown,w'=Sort.grow (redrawn w p.d) p.os) (fun a'=>∀ w',(∃ p:Regrown,w'=Sort.grow (redrawn w p.d) p.os)→(ops.getLast hne).wp P a' w' (fun a2 w2=>Q .normal a2 w2) Q) ops.dropLast a) :
  (Code.region id ops.toArray true).wp P Q a w:=by
 have:=wp_region_last (id:=id) (Q:=Q) hm hB hl h
 have he:ops.dropLast++[ops.getLast hne]=ops:=List.dropLast_concat_getLast hne
 rwa [he] at this
theorem oper_mapUpdate {H:Type} {P:Program} {w:World} {o:Oper} {a:Act} {K:Act→World→Prop} {Q:Exit→Act→World→Prop}
  (m x v:Operand) (t:TypeId) (hop:o.op=Op.mapUpdate t m x v)
  (k e:TypeId) (Kd:Keyed P k) (ht:P.underlying t=some (.map k e)) (R:Value→Option (DataW H × List MemPlace)) (b n:Nat) (D:DataW H)
  (hm:a.eval m=.map (some b)) (hown:w.ownsMap P k R b n D) (hn:n<maxLen) (key val:Value) (kl:Lit) (hx:a.eval x=key) (hv:a.eval v=val) (hkey:keyOf P k key=some kl)
  (d:DataW H) (ps:List MemPlace) (hval:R val=some (d,ps))
  (hK:∀ w',w'.ownsMap P k R b (n+1) (D.put kl d)→w.grownBy w' (some b)→K (a.put o.dst undef) w'):o.wp P a w K Q:=by
 obtain⟨w',hrun,r1,r2⟩:=hown.update Kd ht hn hkey hval
 unfold Oper.wp
 simp [execOp,hop,hm,hx,hv,hrun,Result.andThen]
 exact hK w' r1 r2
def noteB (d:Nat→Int) (r s:Int) (x:Cm) (q:Int):Bool:=rightI r s&&(decide (d r.toNat<s)&&(rightA x.k x.c x.s x.a x.b x.o x.v&&(decide (0≤q)&&decide (q≤1099511627776))))
set_option maxRecDepth 4000 in
theorem note_any (g b n:Nat) (d:Nat→Int) (l:List Ent) (r s:Int) (x:Cm) (q:Int) (w:World) (h:IxAt w g b n d l) (hn:n≤1000) :
  Calls Tryz.prog 206 #[.pointer (some ⟨g,0,none⟩),.agg #[.int .i64 r,.int .i64 s],.agg #[.int .i64 x.k,.int .i64 x.c,.int .i64 x.s,.string x.a,.string x.b,.string x.o,.string x.v],.int .i64 q] w fun e w'=>
   e=.returned (.bool (noteB d r s x q))∧IxAt w' g b (n+1) d (if noteB d r s x q then putE l ⟨r,s,x,q⟩ else l)∧Touch b w w':=by
 obtain⟨B,hB0⟩:∃ B,B=noteB d r s x q:=⟨_,rfl⟩
 rw [← hB0]
 have K1:=qh (fun W=>right_inst r s W)
 have K2:=qh (fun W=>right_cmd x.k x.c x.s x.a x.b x.o x.v W)
 generalize hz:rightA x.k x.c x.s x.a x.b x.o x.v=z at K2
 have hlen:z=true→x.a.size≤16:=by
  intro hzt
  rw [← hz] at hzt
  unfold rightA at hzt
  rw [Bool.or_eq_true] at hzt
  rcases hzt with hzt|hzt
  ·simp only [zeroC,Bool.and_eq_true,decide_eq_true_eq] at hzt
   have:=hzt.2.2.2.1
   have h2:x.a.size=0:=by
    rw [Go.ByteArray.toList_eq] at this
    have:=congrArg List.length this
    simpa using this
   omega
  ·simp only [Bool.and_eq_true,longB,Bool.not_eq_true',Bool.or_eq_false_iff,decide_eq_false_iff_not] at hzt
   have:=hzt.2.2.1.1
   omega
 have HL:=qh hlen;clear hlen
 have hcase:(rightI r s=false∧B=false)∨(rightI r s=true∧s≤d r.toNat∧B=false)∨(rightI r s=true∧¬ s≤d r.toNat∧z=false∧B=false)∨(rightI r s=true∧¬ s≤d r.toNat∧z=true∧q<0∧B=false) ∨
   (rightI r s=true∧¬ s≤d r.toNat∧z=true∧¬ q<0∧1099511627776<q∧B=false)∨(rightI r s=true∧¬ s≤d r.toNat∧z=true∧¬ q<0∧¬ 1099511627776<q∧B=true):=by
  rw [hB0,noteB,hz]
  cases rightI r s
  ·simp
  by_cases h1:s≤d r.toNat
  ·rw [show decide (d r.toNat<s)=false from by simp;omega]
   simp [h1]
  ·rw [show decide (d r.toNat<s)=true from by simp;omega]
   cases z
   ·simp [h1]
   by_cases h2:q<0
   ·exact .inr (.inr (.inr (.inl ⟨rfl,h1,rfl,h2,by simp;omega⟩)))
   by_cases h3:1099511627776<q
   ·exact .inr (.inr (.inr (.inr (.inl ⟨rfl,h1,rfl,h2,h3,by simp;omega⟩))))
   ·exact .inr (.inr (.inr (.inr (.inr ⟨rfl,h1,rfl,h2,h3,by simp;omega⟩))))
 clear hB0 hz
 have HI:=qh h;clear h
 go_enter Tryz.func206,Tryz.ntmps206
 go_upto_region 1 with (fail)
 go_name_world W hW
 have hX:Holds W w.heap.size 37 [.int .i64 r,.int .i64 s]:=by rw [← hW];exact holds_past (holds_alloc w _ _) _
 have hC:Holds W (w.heap.size+1) 23 [.int .i64 x.k,.int .i64 x.c,.int .i64 x.s,.string x.a,.string x.b,.string x.o,.string x.v]:=by
  rw [← hW]
  have:=holds_alloc (w.alloc (.cells #[.int .i64 r,.int .i64 s] 37)) 23 [.int .i64 x.k,.int .i64 x.c,.int .i64 x.s,.string x.a,.string x.b,.string x.o,.string x.v]
  rw [World.size_alloc] at this
  exact this
 have HB:=qh (show Below w.heap.size w W by rw [← hW];go_grown)
 clear hW
 have HI:=qh (HI.out.below HB.out)
 have HX:=qh hX
 have HC:=qh hC
 have i0:=fun d os=>hX.grown d os 0
 have i1:=fun d os=>hX.grown d os 1
 have x0:=fun d os=>hC.grown d os 0
 have x1:=fun d os=>hC.grown d os 1
 have x2:=fun d os=>hC.grown d os 2
 have x3:=fun d os=>hC.grown d os 3
 have x4:=fun d os=>hC.grown d os 4
 have x5:=fun d os=>hC.grown d os 5
 have x6:=fun d os=>hC.grown d os 6
 simp only [yA,yB] at i0 i1 x0 x1 x2 x3 x4 x5 x6
 clear hX hC
 generalize w.heap.size+1=gc at HC x0 x1 x2 x3 x4 x5 x6 ⊢
 generalize hgi:w.heap.size=gi at HX i0 i1 ⊢
 clear hgi
 by_cases he1:rightI r s=false
 ·have hB:B=false:=by
   rcases hcase with⟨_,e⟩|⟨e1,_⟩|⟨e1,_⟩|⟨e1,_⟩|⟨e1,_⟩|⟨e1,_⟩
   ·exact e
   all_goals rw [he1] at e1;cases e1
  clear hcase
  subst hB
  rw [he1] at K1
  refine wp_region_quiet_below (by kernel_rfl) (by kernel_rfl) ?_
  repeat go_big_quiet_step (first
   | (go_at_call 134;with_reducible exact calls_regrown fun W _=>K1.out W))
  refine wpQuiet_nil ?_
  intro w2 hw'
  have hb2:=below_of_regrown hw'
  have HI:=qh (HI.out.below hb2)
  have HB:=qh (below_next HB.out hb2)
  clear hw' hb2 i0 i1 x0 x1 x2 x3 x4 x5 x6
  go_wp2_with fail
  go_ret
  exact⟨rfl,HI.out.mono,.of_below HB.out⟩
 have he1:rightI r s=true:=by revert he1;cases rightI r s<;>simp
 rw [he1] at K1 hcase
 simp only [Bool.true_eq_false,false_and,false_or,true_and] at hcase
 have hr7:0≤r∧r<7∧1≤s∧s≤1073741824:=by
  rcases rightI_cases r s with⟨_,e⟩|⟨_,_,e⟩|⟨_,_,_,e⟩|⟨_,_,_,_,e⟩|⟨h1,h2,h3,h4,_⟩
  ·rw [he1] at e;cases e
  ·rw [he1] at e;cases e
  ·rw [he1] at e;cases e
  ·rw [he1] at e;cases e
  ·exact⟨h1,h2,h3,h4⟩
 clear he1
 obtain⟨h1,h2,h3,h4⟩:=hr7
 obtain⟨k,rfl⟩:∃ k:Nat,r=k:=⟨r.toNat,by omega⟩
 have hk7:k<7:=by omega
 rw [Int.toNat_natCast] at hcase
 have hcut:=fun dd os=>HI.out.ix.grown dd os (1+k)
 rw [cut_get _ _ _ hk7] at hcut
 have hm0:=fun dd os=>HI.out.ix.grown dd os 0
 simp only [List.getElem?_cons_zero] at hm0
 have hwf:(Lit.int .i64 (k:Int)).wf=true∧(Lit.int .i64 s).wf=true:=⟨WalkArith.wf_i64 (by omega),WalkArith.wf_i64 (by omega)⟩
 have HK:=qh (key_inst k s hwf.1 hwf.2)
 have HWF:=qh hwf;clear hwf
 generalize d k=dk at hcase hcut
 rcases hcase with⟨e2,rfl⟩|⟨e2,rfl,rfl⟩|⟨e2,rfl,e3,rfl⟩|⟨e2,rfl,e3,e4,rfl⟩|⟨e2,rfl,e3,e4,rfl⟩
 all_goals
  refine wp_region_quiet_below (by kernel_rfl) (by kernel_rfl) ?_
  repeat go_big_quiet_step (first
   | (go_at_call 134;with_reducible exact calls_regrown fun W _=>K1.out W)
   | (go_at_call 70;with_reducible exact calls_regrown fun W _=>K2.out W))
  refine wpQuiet_nil ?_
  intro w2 hw'
  have hb2:=below_of_regrown hw'
  have HI:=qh (HI.out.below hb2)
  have HB:=qh (below_next HB.out hb2)
  clear hcut hm0
 ·clear hw' hb2 i0 i1 x0 x1 x2 x3 x4 x5 x6
  go_wp2_with fail
  go_ret
  exact⟨rfl,HI.out.mono,.of_below HB.out⟩
 ·clear hw' hb2 i0 i1 x0 x1 x2 x3 x4 x5 x6
  go_wp2_with fail
  go_ret
  exact⟨rfl,HI.out.mono,.of_below HB.out⟩
 ·clear hw' hb2 i0 i1 x0 x1 x2 x3 x4 x5 x6
  go_wp2_with fail
  go_ret
  exact⟨rfl,HI.out.mono,.of_below HB.out⟩
 ·clear hw' hb2 i0 i1 x0 x1 x2 x3 x4 x5 x6
  go_wp2_with fail
  go_ret
  exact⟨rfl,HI.out.mono,.of_below HB.out⟩
 ·have HX:=qh (HX.out.below hb2 HX.out.lt)
  have HC:=qh (HC.out.below hb2 HC.out.lt)
  have HG:=qh (show (0≤(k:Int)∧(k:Int)<7)∧(1≤s∧s≤1073741824)∧(0≤q∧q≤1099511627776)∧x.a.size≤16 from ⟨by omega,by omega,by omega,HL.out rfl⟩)
  clear hw' hb2 i0 i1 x0 x1 x2 x3 x4 x5 x6
  go_upto_region 3 with (fail)
  have i0:=fun d os=>HX.out.grown d os 0
  have i1:=fun d os=>HX.out.grown d os 1
  have x0:=fun d os=>HC.out.grown d os 0
  have x1:=fun d os=>HC.out.grown d os 1
  have x2:=fun d os=>HC.out.grown d os 2
  have x3:=fun d os=>HC.out.grown d os 3
  have x4:=fun d os=>HC.out.grown d os 4
  have x5:=fun d os=>HC.out.grown d os 5
  have x6:=fun d os=>HC.out.grown d os 6
  have hm0:=fun dd os=>HI.out.ix.grown dd os 0
  simp only [yA,yB] at i0 i1 x0 x1 x2 x3 x4 x5 x6 hm0
  refine wp_region_last_d _ (by simp) (by kernel_rfl) (by kernel_rfl) (by kernel_rfl) ?_
  simp only [List.dropLast,List.getLast_cons_cons,List.getLast_singleton,hushLast,List.cons_append,List.nil_append]
  repeat go_big_quiet_step (fail)
  refine wpQuiet_nil ?_
  intro w3 hw'
  have hb3:=below_of_regrown hw'
  have hI3:=HI.out.below hb3
  have HB:=qh (below_next HB.out hb3)
  clear hw' hb3 i0 i1 x0 x1 x2 x3 x4 x5 x6 hm0
  obtain⟨D,hown,hl⟩:=hI3.map
  refine oper_mapUpdate _ _ _ 310 rfl 37 363 keyLaw Tryz.underlying310 readN b n D rfl hown (by unfold maxLen;omega) (instV k s) (notedV x q) (keyL k s) rfl rfl HK.out (.held (notedV x q)) [] rfl ?_
  intro w4 hown4 hg4
  have hT:=touch_of_grownBy hg4
  have hI4:IxAt w4 g b (n+1) d (putE l ⟨k,s,x,q⟩):=
   ⟨hI3.ix.touch hT hI3.ne,⟨_,hown4,hl.put hI3.wf ⟨k,s,x,q⟩ HWF.out⟩,putE_good hI3.good HG.out⟩
  have HI4:=qh hI4
  have HT:=qh ((Touch.of_below (g:=b) HB.out).trans hT)
  clear hI4 hI3 hown4 hown hl hT hg4
  go_wp2_with fail
  go_ret
  exact⟨rfl,HI4.out,HT.out⟩
end
section
open Go.RowKit Go.Maps
def takes (r s:Int) (c:Cm) (e:Ent):Bool:=!(e.r==r&&decide (s≤e.s))&&clashC e.c c
def seqOf (l:List Ent) (vis:Ent→Bool):Int:=l.foldr (fun e m=>if vis e then max (e.q+1) m else m) 0
def depOf (l:List Ent) (vis:Ent→Bool) (j:Int):Int:=l.foldr (fun e m=>if vis e&&e.r==j then max e.s m else m) 0
theorem fold_max_none (f:Ent→Int):∀ (l:List Ent) (p:Ent→Bool),(∀ e∈l,p e=false)→l.foldr (fun e m=>if p e then max (f e) m else m) 0=0
 | [],_,_=>rfl
 | x :: l,p,h=>by
  rw [List.foldr_cons,h x (by simp),fold_max_none f l p fun e he=>h e (by simp [he])]
  rfl
theorem fold_max_congr (f:Ent→Int):∀ (l:List Ent) (p p':Ent→Bool),(∀ e∈l,p e=p' e)→l.foldr (fun e m=>if p e then max (f e) m else m) 0=l.foldr (fun e m=>if p' e then max (f e) m else m) 0
 | [],_,_,_=>rfl
 | x :: l,p,p',h=>by
  rw [List.foldr_cons,List.foldr_cons,h x (by simp),fold_max_congr f l p p' fun e he=>h e (by simp [he])]
theorem fold_max_step (f:Ent→Int) (x:Ent) (p p':Ent→Bool):∀ (l:List Ent),x∈l→p' x=true→(∀ e∈l,e≠x→p' e=p e)→l.foldr (fun e m=>if p' e then max (f e) m else m) 0=max (l.foldr (fun e m=>if p e then max (f e) m else m) 0) (f x)
 | [],hx,_,_=>by cases hx
 | y :: l,hx,hp,h=>by
  rw [List.foldr_cons,List.foldr_cons]
  by_cases hin:x∈l
  ·have ih:=fold_max_step f x p p' l hin hp fun e he hne=>h e (by simp [he]) hne
   rw [ih]
   by_cases hyx:y=x
   ·subst hyx
    rw [hp]
    simp only [if_true]
    cases p y<;>simp only [Bool.false_eq_true,if_true,if_false]<;>omega
   ·rw [h y (by simp) hyx]
    cases p y<;>simp only [Bool.false_eq_true,if_true,if_false]<;>omega
  ·have hyx:y=x:=by
    rcases List.mem_cons.1 hx with e|e
    ·exact e.symm
    ·exact absurd e hin
   subst hyx
   rw [hp,fold_max_congr f l p' p fun e he=>h e (by simp [he]) fun hc=>hin (hc▸he)]
   simp only [if_true]
   by_cases hpy:p y=true
   ·rw [if_pos hpy];omega
   ·rw [if_neg hpy];omega
theorem fold_max_same (f:Ent→Int) (x:Ent) (p p':Ent→Bool) (l:List Ent) (hp:p' x=p x) (h:∀ e∈l,e≠x→p' e=p e):l.foldr (fun e m=>if p' e then max (f e) m else m) 0=l.foldr (fun e m=>if p e then max (f e) m else m) 0:=
 fold_max_congr f l p' p fun e he=>by
  by_cases hc:e=x
  ·rw [hc,hp]
  ·exact h e he hc
def visT (left:Lit→Bool) (r s:Int) (c:Cm) (e:Ent):Bool:=!left e.key&&takes r s c e
theorem Lists.find {D:DataW Value} {l:List Ent} (h:Lists D l) (hw:WfE l) {kl:Lit} {v:Value} (hat:∀ z,D.atKey kl z=.held v):∃ e∈l,e.key=kl∧v=e.val:=by
 have hh:=Maps.has_true_of_atKey hat
 rw [h.has,List.any_eq_true] at hh
 obtain⟨e,he,hk⟩:=hh
 have hek:e.key=kl:=WideAt.sameKey_eq hk
 refine⟨e,he,hek,?_⟩
 have:=h.at_ e he .nil
 rw [hek,hat] at this
 injection this
theorem Lists.one {D:DataW Value} {l:List Ent} (h:Lists D l) (hw:WfE l) {e e':Ent} (he:e∈l) (he':e'∈l) (hk:e'.key=e.key):e'=e:=by
 have hrs:=keyL_inj (hw e' he').1 (hw e' he').2 (hw e he).1 (hw e he).2 hk
 have:=h.apart
 clear h hk hw
 induction l with
 | nil=>cases he
 | cons x l ih=>
  obtain⟨h1,h2⟩:=List.pairwise_cons.1 this
  rcases List.mem_cons.1 he with h3|h3
  ·rcases List.mem_cons.1 he' with h4|h4
   ·rw [h3,h4]
   ·exact absurd ⟨by rw [← h3];exact hrs.1.symm,by rw [← h3];exact hrs.2.symm⟩ (h1 e' h4)
  ·rcases List.mem_cons.1 he' with h4|h4
   ·exact absurd ⟨by rw [← h4];exact hrs.1,by rw [← h4];exact hrs.2⟩ (h1 e h3)
   ·exact ih h3 h4 h2
theorem vis_step {D:DataW Value} {l:List Ent} (h:Lists D l) (hw:WfE l) {left:Lit→Bool} {e:Ent} (he:e∈l) (r s:Int) (c:Cm) :
  (visT (fun z=>left z&&!z.sameKey e.key) r s c e=takes r s c e)∧∀ e'∈l,e'≠e→visT (fun z=>left z&&!z.sameKey e.key) r s c e'=visT left r s c e':=by
 refine⟨?_,fun e' he' hne=>?_⟩
 ·unfold visT
  have:e.key.sameKey e.key=true:=WideAt.sameKey_self (keyL_is e.r e.s)
  show (!(left e.key&&!e.key.sameKey e.key)&&takes r s c e)=takes r s c e
  rw [this]
  simp
 ·unfold visT
  have:=Maps.sameKey_ne (fun hc=>hne (h.one hw he he' hc))
  show (!(left e'.key&&!e'.key.sameKey e.key)&&takes r s c e')=(!left e'.key&&takes r s c e')
  rw [this]
  simp
theorem seq_taken {D:DataW Value} {l:List Ent} (h:Lists D l) (hw:WfE l) {left:Lit→Bool} {e:Ent} (he:e∈l) (r s:Int) (c:Cm) (ht:takes r s c e=true) :
  seqOf l (visT (fun z=>left z&&!z.sameKey e.key) r s c)=max (seqOf l (visT left r s c)) (e.q+1):=
 fold_max_step (fun e=>e.q+1) e _ _ l he ((vis_step h hw he r s c).1.trans ht) (vis_step h hw he r s c).2
theorem dep_taken {D:DataW Value} {l:List Ent} (h:Lists D l) (hw:WfE l) {left:Lit→Bool} {e:Ent} (he:e∈l) (r s:Int) (c:Cm) (ht:takes r s c e=true) :
  depOf l (visT (fun z=>left z&&!z.sameKey e.key) r s c) e.r=max (depOf l (visT left r s c) e.r) e.s:=
 fold_max_step (fun e=>e.s) e _ _ l he (by simp [(vis_step h hw he r s c).1.trans ht]) (fun e' he' hne=>by simp only [(vis_step h hw he r s c).2 e' he' hne])
theorem dep_other {D:DataW Value} {l:List Ent} (h:Lists D l) (hw:WfE l) {left:Lit→Bool} {e:Ent} (he:e∈l) (r s:Int) (c:Cm) (j:Int) (hj:e.r≠j) (hl:left e.key=true) :
  depOf l (visT (fun z=>left z&&!z.sameKey e.key) r s c) j=depOf l (visT left r s c) j:=
 fold_max_congr (fun e=>e.s) l _ _ fun e' he'=>by
  by_cases hc:e'=e
  ·rw [hc,show (e.r==j)=false from by simp [hj],Bool.and_false,Bool.and_false]
  ·rw [(vis_step h hw he r s c).2 e' he' hc]
theorem seq_passed {D:DataW Value} {l:List Ent} (h:Lists D l) (hw:WfE l) {left:Lit→Bool} {e:Ent} (he:e∈l) (r s:Int) (c:Cm) (ht:takes r s c e=false) :
  seqOf l (visT (fun z=>left z&&!z.sameKey e.key) r s c)=seqOf l (visT left r s c):=
 fold_max_same (fun e=>e.q+1) e _ _ l ((vis_step h hw he r s c).1.trans (by simp [visT,ht])) (vis_step h hw he r s c).2
theorem dep_passed {D:DataW Value} {l:List Ent} (h:Lists D l) (hw:WfE l) {left:Lit→Bool} {e:Ent} (he:e∈l) (r s:Int) (c:Cm) (ht:takes r s c e=false) (j:Int) :
  depOf l (visT (fun z=>left z&&!z.sameKey e.key) r s c) j=depOf l (visT left r s c) j:=
 fold_max_congr (fun e=>e.s) l _ _ fun e' he'=>by
  by_cases hc:e'=e
  ·subst hc
   rw [(vis_step h hw he r s c).1,ht]
   simp [visT,ht]
  ·simp only [(vis_step h hw he r s c).2 e' he' hc]
theorem vis_start {D:DataW Value} {l:List Ent} (h:Lists D l) (r s:Int) (c:Cm) (e:Ent) (he:e∈l):visT (Maps.has D) r s c e=false:=by
 unfold visT
 have:Maps.has D e.key=true:=Maps.has_true_of_atKey (h.at_ e he)
 rw [this]
 rfl
def attrQ (l:List Ent) (r s:Int) (c:Cm):Int:=seqOf l (takes r s c)
def attrD (l:List Ent) (d:Nat→Int) (r s:Int) (c:Cm) (j:Nat):Int:=
 if (j:Int)=r then (if rightI r s then max (depOf l (takes r s c) j) (s-1) else depOf l (takes r s c) j) else max (depOf l (takes r s c) j) (d j)
theorem vis_end {left:Lit→Bool} (hl:∀ k,left k=false) (r s:Int) (c:Cm):visT left r s c=takes r s c:=by
 funext e
 simp [visT,hl]
end
end Go.Proofs.YtimdpiifpibgfaaGreatDoor
