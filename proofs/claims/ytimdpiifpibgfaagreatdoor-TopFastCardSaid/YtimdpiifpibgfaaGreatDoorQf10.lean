/- For every input the law TopFast returns true (a part of the proof). Condition: the listed variables start as the program's text lays them. -/
import Derived.Deep.MidRow
import Derived.Deep.RegionHeld3
import Derived.Deep.DeepAppendRoom
import Derived.ArgAppend
import Derived.Laws.CopyRow
import Derived.Laws.CopyOwn
import Derived.Test.YtimdpiifpibgfaaGreatDoorQf6
set_option linter.unusedVariables false
set_option linter.unusedSimpArgs false
set_option maxRecDepth 20000
set_option maxHeartbeats 16000000
namespace Go.Proofs.YtimdpiifpibgfaaGreatDoor
section
open Go.RowKit
theorem t_drew (B:Nat) (w:World):Below B w w.drew:=⟨rfl,rfl,rfl,Nat.le_refl _,fun _ _=>rfl⟩
theorem holds_bel {w w':World} {g:Nat} {e:TypeId} {L:List Value} (h:Holds w g e L) (hb:Below w.heap.size w w'):Holds w' g e L:=h.below hb h.lt
theorem Holds.range0 {w:World} {g:Nat} {e:TypeId} {L:List Value} (h:Holds w g e L):w.rangeAt g 0 L:=fun j v hv=>by rw [Nat.zero_add,h.cell j];exact hv
theorem Holds.rangeO {w:World} {g:Nat} {e:TypeId} {L cs:List Value} (h:Holds w g e L) (o:Nat) (hs:∀ (j:Nat) v,cs[j]?=some v→L[o+j]?=some v):w.rangeAt g o cs:=fun j v hv=>by rw [h.cell];exact hs j v hv
section
variable {P:Program} {ops:Array Oper} {Q:Exit→Act→World→Prop}
theorem step_store_box {o:Oper} {a:Act} {w:World} {K:Act→World→Prop} {E:Prop} (hgd:o.guard=none) (t:TypeId) (p v:Operand) (b:Nat) (old cs:List Value) (ho:o.op=.store t p v) (hd:o.dst=none)
  (hx:a.eval p=.pointer (some ⟨b,0,none⟩)) (hy:a.eval v=.agg cs.toArray) (hg:Holds w b t old) (hi:(P.info? t).map (·.size)=some cs.length) (hl:old.length=cs.length) (h1:cs.toArray.all (·.oneCell')=true)
  (h:∀ w',Holds w' b t cs→Touch b w w'→K a w'):if Region.wanted o (yielded ops a.tmps)=true then Oper.wp P o a w K Q else E:=by
 have hwd:Region.wanted o (yielded ops a.tmps)=true:=by simp [Region.wanted,hgd]
 rw [if_pos hwd]
 refine wp_box_store ho hd hx hy hg hi hl h1 (h _ ?_ ⟨rfl,rfl,rfl,by simp [World.setRow],fun j hj hne=>setRow_other w b j _ hne⟩)
 exact setRow_heap w b _ _ _ _ hg
theorem wpList_store_whole {rest:List Oper} {o:Oper} {a:Act} {w:World} (hgd:o.guard=none) (t:TypeId) (p v:Operand) (b:Nat) (old cs:List Value) (ho:o.op=.store t p v) (hd:o.dst=none)
  (hx:a.eval p=.pointer (some ⟨b,0,none⟩)) (hy:a.eval v=.agg cs.toArray) (hg:Holds w b t old) (hi:(P.info? t).map (·.size)=some cs.length) (hl:old.length=cs.length) (h1:cs.toArray.all (·.oneCell')=true)
  (h:∀ w',Holds w' b t cs→Touch b w w'→wpList P ops Q rest a w'):wpList P ops Q (o :: rest) a w:=
 wpList_plain hgd fun _ hK=>wp_box_store ho hd hx hy hg hi hl h1 (hK _ _ (h _ (setRow_heap w b _ _ _ _ hg) ⟨rfl,rfl,rfl,by simp [World.setRow],fun j hj hne=>setRow_other w b j _ hne⟩))
theorem wpList_load_guarded {rest:List Oper} {o:Oper} {a:Act} {w:World} (hw:Region.wanted o (yielded ops a.tmps)=true) (ty:TypeId) (x:Operand) (ho:o.op=.load ty x) (b off:Nat) (hx:a.eval x=.pointer (some ⟨b,off,none⟩)) (cs:List Value) (d:TypeDesc) (hc:w.rangeAt b off cs)
  (hu:P.underlying ty=some d) (hd:d.isRow=true) (hi:(P.info? ty).map (·.size)=some cs.length) (h:wpList P ops Q rest (a.put o.dst (.agg cs.toArray)) w):wpList P ops Q (o :: rest) a w:=
 wpList_step fun K hK=>by
  rw [if_pos hw]
  exact wp_load_mid ty x ho b off hx cs d hc hu hd hi (hK _ _ h)
theorem results_cell {fn:Func} {a:Tmp} {t:TypeId} (h:fn.results=#[.cell a t]) (tmps:Array Value) (w:World) (b:Nat) (cs:List Value) (d:TypeDesc) (ha:tmps.getD a undef=.pointer (some ⟨b,0,none⟩)) (hc:w.rangeAt b 0 cs)
  (hu:P.underlying t=some d) (hd:d.isRow=true) (hi:(P.info? t).map (·.size)=some cs.length):(results fn tmps).run P w=.ok (.agg cs.toArray) w:=by
 have hl:=run_loadVar_mid w b 0 t cs d hc hu hd hi
 unfold results
 rw [h]
 rw [Array.getD_eq_getD_getElem?] at ha
 simp [ha,asAddr,hl,Sem.run_bind]
theorem results_cell_tmp {fn:Func} {a u:Tmp} {t:TypeId} (h:fn.results=#[.cell a t,.tmp u]) (tmps:Array Value) (w:World) (b:Nat) (cs:List Value) (d:TypeDesc) (v:Value) (ha:tmps.getD a undef=.pointer (some ⟨b,0,none⟩)) (hv:tmps.getD u undef=v) (hc:w.rangeAt b 0 cs)
  (hu:P.underlying t=some d) (hd:d.isRow=true) (hi:(P.info? t).map (·.size)=some cs.length):(results fn tmps).run P w=.ok (.tuple #[.agg cs.toArray,v]) w:=by
 have hl:=run_loadVar_mid w b 0 t cs d hc hu hd hi
 unfold results
 rw [h]
 rw [Array.getD_eq_getD_getElem?] at ha hv
 simp [ha,hv,asAddr,hl,Sem.run_bind]
end
theorem step_store_cell {P:Program} {ops:Array Oper} {o:Oper} {a:Act} {w:World} {K:Act→World→Prop} {Q:Exit→Act→World→Prop} {E:Prop}
  (hgd:o.guard=none) (ty:TypeId) (x y:Operand) (ho:o.op=.store ty x y) (hd:o.dst=none) (g i:Nat) (e:TypeId) (L:List Value) (hh:Holds w g e L) (hi:i<L.length)
  (hx:a.eval x=.pointer (some ⟨g,i,none⟩)) (u:Value) (hy:a.eval y=u) (hu:u.cells=#[u]) (hz:(P.info? ty).map (·.size)=some 1) (h1:u.oneCell'=true)
  (h:∀ w',Holds w' g e (L.set i u)→Touch g w w'→K a w') :
  if Region.wanted o (yielded ops a.tmps)=true then Oper.wp P o a w K Q else E:=by
 have hwd:Region.wanted o (yielded ops a.tmps)=true:=by simp [Region.wanted,hgd]
 rw [if_pos hwd]
 have hst:=run_storeCells_at P g i e [u] 0 L.toArray w hh (by simp;omega) (by simpa using h1)
 have hrun:(storeVar ty ⟨g,i,none⟩ u).run P w=.ok () (w.setRow g (L.toArray.toList.take (i+0)++[u]++L.toArray.toList.drop (i+0+1)).toArray):=by
  cases hq:P.info? ty with
  | none=>simp [hq] at hz
  | some z=>
   have hs2:z.size=1:=by simp [hq] at hz;omega
   simp [storeVar,sizeOf,typeInfo,hq,hu,hs2] at hst ⊢
   exact hst
 unfold Oper.wp execOp
 simp only [ho,hx,hy,Instr.storeAt,Instr.sureAddr,Sem.run_bind,Sem.run_pure,Result.andThen_ok,hrun]
 show K (a.put o.dst undef) _
 rw [hd]
 have hr:=setRow_heap w g L.toArray (L.toArray.toList.take (i+0)++[u]++L.toArray.toList.drop (i+0+1)).toArray e (0,0) hh
 refine h _ ?_ ⟨rfl,rfl,rfl,by simp [World.setRow],fun j hj hne=>setRow_other w g j _ hne⟩
 unfold Holds
 rw [hr,List.set_eq_take_append_cons_drop,if_pos hi]
 simp
theorem wpList_store_cell {P:Program} {ops:Array Oper} {Q:Exit→Act→World→Prop} {rest:List Oper} {o:Oper} {a:Act} {w:World} (hgd:o.guard=none) (ty:TypeId) (x y:Operand) (ho:o.op=.store ty x y) (hd:o.dst=none) (g i:Nat) (e:TypeId) (L:List Value) (hh:Holds w g e L) (hi:i<L.length)
  (hx:a.eval x=.pointer (some ⟨g,i,none⟩)) (u:Value) (hy:a.eval y=u) (hu:u.cells=#[u]) (hz:(P.info? ty).map (·.size)=some 1) (h1:u.oneCell'=true)
  (h:∀ w',Holds w' g e (L.set i u)→Touch g w w'→wpList P ops Q rest a w'):wpList P ops Q (o :: rest) a w:=
 wpList_step fun K hK=>step_store_cell hgd ty x y ho hd g i e L hh hi hx u hy hu hz h1 fun w' h2 h3=>hK _ _ (h w' h2 h3)
end
section
open Go.RowKit
structure Mv (F:Foot) (w W:World):Prop where
 os:W.os=w.os
 tape:W.tape=w.tape
 output:W.output=w.output
 size:w.heap.size≤W.heap.size
 block:∀ k,k<w.heap.size→¬ F k→W.heap[k]?=w.heap[k]?
theorem Mv.refl (F:Foot) (w:World):Mv F w w:=⟨rfl,rfl,rfl,Nat.le_refl _,fun _ _ _=>rfl⟩
theorem Mv.of_below {F:Foot} {w W:World} (h:Below w.heap.size w W):Mv F w W:=⟨h.os,h.tape,h.output,h.size,fun k hk _=>h.block k hk⟩
theorem Mv.of_touch {F:Foot} {g:Nat} {w W:World} (h:Touch g w W) (hg:F g):Mv F w W:=⟨h.os,h.tape,h.output,h.size,fun k hk hn=>h.block k hk fun e=>hn (e▸hg)⟩
theorem Mv.mv {F G:Foot} {w W W':World} (h:Mv F w W) (h2:Mv G W W') (hG:∀ k,G k→F k∨w.heap.size≤k):Mv F w W':=
 ⟨h2.os.trans h.os,h2.tape.trans h.tape,h2.output.trans h.output,Nat.le_trans h.size h2.size,fun k hk hn=>
  (h2.block k (Nat.lt_of_lt_of_le hk h.size) fun hc=>(hG k hc).elim hn (by omega)).trans (h.block k hk hn)⟩
theorem Mv.bel {F:Foot} {w W W':World} (h:Mv F w W) (hb:Below W.heap.size W W'):Mv F w W':=h.mv (G:=fun _=>False) (.of_below hb) fun _ hc=>hc.elim
theorem Mv.touch {F:Foot} {g:Nat} {w W W':World} (h:Mv F w W) (ht:Touch g W W') (hg:F g∨w.heap.size≤g):Mv F w W':=
 h.mv (G:=fun k=>k=g) (.of_touch ht rfl) fun k hk=>hk▸hg
theorem Mv.more {F G:Foot} {w W:World} (h:Mv F w W) (hs:∀ k,F k→G k):Mv G w W:=⟨h.os,h.tape,h.output,h.size,fun k hk hn=>h.block k hk fun hc=>hn (hs k hc)⟩
theorem Mv.below {F:Foot} {w W:World} (h:Mv F w W) {B:Nat} (hB:B≤w.heap.size) (hF:∀ k,F k→B≤k):Below B w W:=
 ⟨h.os,h.tape,h.output,h.size,fun k hk=>h.block k (Nat.lt_of_lt_of_le hk hB) fun hc=>by have:=hF k hc;omega⟩
theorem Holds.mv {w w':World} {g:Nat} {e:TypeId} {L:List Value} {F:Foot} (h:Holds w g e L) (hm:Mv F w w') (hn:¬ F g):Holds w' g e L:=by
 have:=h.lt
 unfold Holds at *
 rw [hm.block g this hn];exact h
theorem Holds.bel {w w':World} {g:Nat} {e:TypeId} {L:List Value} (h:Holds w g e L) (hb:Below w.heap.size w w'):Holds w' g e L:=h.below hb h.lt
theorem Touch.bel {g:Nat} {w W W':World} (h:Touch g w W) (hb:Below W.heap.size W W'):Touch g w W':=h.trans (.of_below hb)
def grow (F:Foot) (w w':World):Foot:=fun k=>F k∨(w.heap.size≤k∧k<w'.heap.size)
theorem grow_step {F:Foot} {w w1 w2:World} (h1:w.heap.size≤w1.heap.size) (h2:w1.heap.size≤w2.heap.size) {k:Nat} (h:grow (grow F w w1) w1 w2 k):grow F w w2 k:=by
 rcases h with (h|h)|h
 ·exact .inl h
 ·exact .inr ⟨h.1,by omega⟩
 ·exact .inr ⟨by omega,h.2⟩
theorem Mv.part {F G:Foot} {w W W':World} (h:Mv F w W) (h2:Mv G W W') (hG:∀ k,G k→grow F w W k):Mv F w W':=h.mv h2 fun k hk=>(hG k hk).imp id (·.1)
structure Base (B:Nat) (w W:World):Prop where
 below:Below B w W
 le:B≤W.heap.size
theorem Base.start (w:World):Base w.heap.size w w:=⟨Below.refl _ _,Nat.le_refl _⟩
theorem Base.bel {B:Nat} {w W W':World} (h:Base B w W) (hb:Below W.heap.size W W'):Base B w W':=⟨h.below.trans (hb.mono h.le),Nat.le_trans h.le hb.size⟩
theorem Base.touch {B g:Nat} {w W W':World} (h:Base B w W) (ht:Touch g W W') (hg:B≤g):Base B w W':=⟨h.below.trans (ht.below hg h.le),Nat.le_trans h.le ht.size⟩
theorem Base.mv {B:Nat} {F:Foot} {w W W':World} (h:Base B w W) (hm:Mv F W W') (hF:∀ k,F k→B≤k):Base B w W':=⟨h.below.trans (hm.below h.le hF),Nat.le_trans h.le hm.size⟩
def Sz (b:Nat) (w:World):Prop:=b≤w.heap.size
theorem Sz.bel {b:Nat} {w w':World} (h:Sz b w) (hb:Below w.heap.size w w'):Sz b w':=Nat.le_trans h hb.size
theorem Sz.mv {b:Nat} {F:Foot} {w w':World} (h:Sz b w) (hm:Mv F w w'):Sz b w':=Nat.le_trans h hm.size
theorem Sz.le {b:Nat} {w:World} (h:Sz b w):b≤w.heap.size:=h
def Ever (w:World) (R:World→Prop):Prop:=∀ W',Below w.heap.size w W'→R W'
theorem Ever.bel {w w':World} {R:World→Prop} (h:Ever w R) (hb:Below w.heap.size w w'):Ever w' R:=fun W' h2=>h W' (hb.trans (h2.mono hb.size))
theorem t_drewN (B:Nat) (w:World) (n:Nat):Below B w (w.drewN n):=⟨rfl,rfl,rfl,Nat.le_refl _,fun _ _=>rfl⟩
def allocs (w:World) (os:List Obj):World:=os.foldl World.alloc w
theorem allocs_size (os:List Obj):∀ w:World,(allocs w os).heap.size=w.heap.size+os.length:=by
 induction os with
 | nil=>intro w;rfl
 | cons o os ih=>intro w;show (allocs (w.alloc o) os).heap.size=_;rw [ih,World.size_alloc,List.length_cons];omega
theorem allocs_get (os:List Obj):∀ (w:World) (i:Nat) (o:Obj),os[i]?=some o→(allocs w os).heap[w.heap.size+i]?=some o:=by
 induction os with
 | nil=>intro w i o h;cases h
 | cons x os ih=>
  intro w i o h
  show (allocs (w.alloc x) os).heap[_]?=_
  cases i with
  | zero=>
   cases h
   have hb:∀ (l:List Obj) (v:World) (k:Nat),k<v.heap.size→(allocs v l).heap[k]?=v.heap[k]?:=by
    intro l
    induction l with
    | nil=>intro v k _;rfl
    | cons y l ihl=>
     intro v k hk
     show (allocs (v.alloc y) l).heap[k]?=_
     rw [ihl (v.alloc y) k (by rw [World.size_alloc];omega)]
     show (v.heap.push y)[k]?=_
     rw [Array.getElem?_push_lt hk]
     simp
   rw [hb os (w.alloc x) (w.heap.size+0) (by rw [World.size_alloc];omega)]
   show (w.heap.push x)[w.heap.size]?=_
   simp
  | succ i=>
   have:=ih (w.alloc x) i o (by simpa using h)
   rw [World.size_alloc,Nat.add_assoc,Nat.add_comm 1 i] at this
   exact this
theorem allocs_below (os:List Obj):∀ w:World,Below w.heap.size w (allocs w os):=by
 induction os with
 | nil=>intro w;exact Below.refl _ _
 | cons o os ih=>
  intro w
  have h1:Below w.heap.size w (w.alloc o):=(Below.refl _ _).alloc (Nat.le_refl _) o
  exact h1.trans ((ih (w.alloc o)).mono h1.size)
theorem holds_allocs {w W:World} (os:List Obj) (h:allocs w os=W) (i:Nat) {e:TypeId} {L:List Value} (hi:os[i]?=some (.cells L.toArray e)):Holds W (w.heap.size+i) e L:=by
 unfold Holds
 rw [← h]
 exact allocs_get os w i _ hi
theorem below_allocs {w W:World} (os:List Obj) (h:allocs w os=W):Below w.heap.size w W:=h▸allocs_below os w
theorem size_allocs {w W:World} (os:List Obj) (h:allocs w os=W):W.heap.size=w.heap.size+os.length:=h▸allocs_size os w
end
section
open Go.RowKit
structure OwnS (w:World) (v:Value) (ob:Option Nat) (e:TypeId) (s n:Nat) (xs:List Value):Prop where
 own:w.ownsRow 0 e s v n xs
 ob:v.ownBlock=ob
theorem OwnS.nil (w:World) (e:TypeId) (s:Nat):OwnS w (.slice none 0 0) none e s 0 []:=⟨⟨by simp,.inl ⟨rfl,rfl⟩⟩,rfl⟩
theorem OwnS.len {w:World} {v:Value} {ob:Option Nat} {e:TypeId} {s n:Nat} {xs:List Value} (h:OwnS w v ob e s n xs):xs.length=n*s:=h.own.1
theorem OwnS.cases {w:World} {v:Value} {ob:Option Nat} {e:TypeId} {s n:Nat} {xs:List Value} (h:OwnS w v ob e s n xs) :
  (v=.slice none 0 0∧ob=none∧n=0∧xs=[])∨∃ g cap rest,v=.slice (some ⟨g,0,none⟩) n cap∧ob=some g∧n≤cap∧cap≤maxLen∧Holds w g e (xs++rest)∧(xs++rest).length=cap*s:=by
 obtain⟨⟨hl,h2⟩,rfl⟩:=h
 rcases h2 with⟨rfl,rfl⟩|⟨g,cap,cur,rfl,_,hh,hc,hm,hs,ht⟩
 ·exact .inl ⟨rfl,rfl,rfl,List.eq_nil_of_length_eq_zero (by simpa using hl)⟩
 ·refine .inr ⟨g,cap,cur.toList.drop (n*s),rfl,rfl,hc,hm,?_,?_⟩
  ·unfold Holds
   rw [← ht,List.take_append_drop]
   exact hh
  ·rw [← ht,List.take_append_drop,Array.length_toList,hs]
theorem OwnS.blk {w:World} {v:Value} {ob:Option Nat} {e:TypeId} {s n:Nat} {xs:List Value} (h:OwnS w v ob e s n xs) (h0:0<n) :
  ∃ g cap rest,v=.slice (some ⟨g,0,none⟩) n cap∧ob=some g∧n≤cap∧cap≤maxLen∧Holds w g e (xs++rest)∧(xs++rest).length=cap*s:=by
 rcases h.cases with⟨_,_,hn,_⟩|h
 ·omega
 ·exact h
theorem OwnS.mk' {w:World} {g cap n s:Nat} {e:TypeId} {xs rest:List Value} (h:Holds w g e (xs++rest)) (hx:xs.length=n*s) (hl:(xs++rest).length=cap*s) (hc:n≤cap) (hm:cap≤maxLen):OwnS w (.slice (some ⟨g,0,none⟩) n cap) (some g) e s n xs:=
 ⟨⟨hx,.inr ⟨g,cap,(xs++rest).toArray,rfl,Nat.zero_le _,h,hc,hm,by simpa using hl,by rw [List.toList_toArray,← hx,List.take_left]⟩⟩,rfl⟩
theorem OwnS.lt {w:World} {v:Value} {ob:Option Nat} {e:TypeId} {s n:Nat} {xs:List Value} (h:OwnS w v ob e s n xs):∀ g,ob=some g→g<w.heap.size:=by
 intro g hg
 rcases h.cases with⟨_,h1,_⟩|⟨g',_,_,_,h1,_,_,h2,_⟩
 ·rw [h1] at hg;cases hg
 ·rw [h1] at hg;cases hg;exact h2.lt
theorem OwnS.keep {w w':World} {v:Value} {ob:Option Nat} {e:TypeId} {s n:Nat} {xs:List Value} (h:OwnS w v ob e s n xs) (hk:∀ g,ob=some g→w'.heap[g]?=w.heap[g]?):OwnS w' v ob e s n xs:=by
 obtain⟨⟨hl,h2⟩,rfl⟩:=h
 refine⟨⟨hl,h2.imp id fun ⟨g,cap,cur,hv,hb,hh,r⟩=>⟨g,cap,cur,hv,hb,?_,r⟩⟩,rfl⟩
 rw [hk g (by rw [hv];rfl)];exact hh
theorem OwnS.bel {w w':World} {v:Value} {ob:Option Nat} {e:TypeId} {s n:Nat} {xs:List Value} (h:OwnS w v ob e s n xs) (hb:Below w.heap.size w w'):OwnS w' v ob e s n xs:=h.keep fun g hg=>hb.block g (h.lt g hg)
theorem OwnS.touch {w w':World} {k:Nat} {v:Value} {ob:Option Nat} {e:TypeId} {s n:Nat} {xs:List Value} (h:OwnS w v ob e s n xs) (ht:Touch k w w') (hn:∀ g,ob=some g→g≠k):OwnS w' v ob e s n xs:=h.keep fun g hg=>ht.block g (h.lt g hg) (hn g hg)
theorem OwnS.mv {w w':World} {F:Foot} {v:Value} {ob:Option Nat} {e:TypeId} {s n:Nat} {xs:List Value} (h:OwnS w v ob e s n xs) (hm:Mv F w w') (hn:∀ g,ob=some g→¬ F g):OwnS w' v ob e s n xs:=h.keep fun g hg=>hm.block g (h.lt g hg) (hn g hg)
theorem OwnS.of {w:World} {B:Nat} {v:Value} {e:TypeId} {s n:Nat} {xs:List Value} (h:w.ownsRow B e s v n xs):∃ ob,OwnS w v ob e s n xs∧∀ g,ob=some g→B≤g:=by
 obtain⟨hl,h2⟩:=h
 rcases h2 with⟨rfl,rfl⟩|⟨g,cap,cur,rfl,hb,r⟩
 ·exact⟨none,⟨⟨hl,.inl ⟨rfl,rfl⟩⟩,rfl⟩,fun g hg=>by cases hg⟩
 ·exact⟨_,⟨⟨hl,.inr ⟨g,cap,cur,rfl,Nat.zero_le _,r⟩⟩,rfl⟩,fun g' hg=>by cases hg;exact hb⟩
theorem OwnS.reads {w:World} {p:Option Addr} {m c:Nat} {ob:Option Nat} {e:TypeId} {s n:Nat} {xs:List Value} (h:OwnS w (.slice p m c) ob e s n xs):Reads w p xs:=by
 intro h0
 rcases h.cases with⟨_,_,_,h1⟩|⟨g,cap,rest,hv,_,_,_,hh,_⟩
 ·rw [h1] at h0;cases h0
 ·injection hv with hv _ _
  refine⟨g,0,hv,hh.lt,fun j u hu=>?_⟩
  rw [Nat.zero_add,hh.cell,List.getElem?_append_left (List.getElem?_eq_some_iff.1 hu).1];exact hu
theorem OwnS.rows {w:World} {v:Value} {ob:Option Nat} {e:TypeId} {s n:Nat} {V:Nat→List Value} (h:OwnS w v ob e s n (flat s n V)) (hl:∀ i,i<n→(V i).length=s) (hs:0<s) :
  ∃ p c,v=.slice p n c∧n≤c∧c≤maxLen∧(p=none→c=0)∧IsRows w p n s V:=by
 rcases h.cases with⟨rfl,_,rfl,_⟩|⟨g,cap,rest,rfl,_,hc,hm,hh,hlen⟩
 ·exact⟨none,0,rfl,Nat.le_refl _,Nat.zero_le _,fun _=>rfl,Nat.zero_le _,hl,fun h0=>absurd h0 (Nat.lt_irrefl _)⟩
 ·refine⟨_,cap,rfl,hc,hm,fun h=>(by cases h),Nat.le_trans hc hm,hl,fun _=>⟨g,0,rfl,hh.lt,fun i hi j hj=>?_⟩⟩
  have hij:i*s+j<n*s:=by
   have h3:(i+1)*s≤n*s:=Nat.mul_le_mul_right s (by omega)
   rw [Nat.add_mul,Nat.one_mul] at h3
   omega
  rw [Nat.zero_add,hh.cell,List.getElem?_append_left (by rw [flat_len];exact hij)]
  exact flat_at s n V i j hi hj (hl i hi)
section
variable {P:Program} {ops:Array Oper} {Q:Exit→Act→World→Prop}
theorem wp_append_s {w:World} {o:Oper} {a:Act} {K:Act→World→Prop} (s x:Operand) (t:TypeId)
  (ho:o.op=.call { callee:=.builtin .append,args:=#[s,x],argTypes:=#[t,t] })
  (e:TypeId) (z:Value) (size bytes:Nat) (ht:P.underlying t=some (.slice e)) (hi:(P.info? e).map (fun i=>(i.zero,i.size,i.bytes))=some (some z,size,bytes)) (hzs:z.cells.size=size) (hsz:0<size)
  (v:Value) (ob:Option Nat) (n:Nat) (xs:List Value) (hs:a.eval s=v) (hown:OwnS w v ob e size n xs)
  (sp:Option Addr) (m c:Nat) (news:List Value) (hx:a.eval x=.slice sp m c) (hl:news.length=m*size) (hsrc:Reads w sp news) (hm0:0<m) (h1:∀ u∈news,u.oneCell'=true)
  (h63:n+m≤maxLen) (hbytes:(n+m)*bytes≤140737488355328)
  (h:∀ v' ob' w',OwnS w' v' ob' e size (n+m) (xs++news)→(ob'=ob∨∃ k,ob'=some k∧w.heap.size≤k)→Mv (fun k=>ob=some k) w w'→K (a.put o.dst v') w'):o.wp P a w K Q:=by
 obtain⟨b,off,rfl,_,hc⟩:=hsrc (by rw [hl];exact Nat.mul_pos hm0 hsz)
 obtain⟨i,hi0,hz,hsize,hby⟩:=info_parts hi
 have hsrc':∀ j u,news[j]?=some u→w.cell? (Addr.add ⟨b,off,none⟩ j)=some u:=fun j u hu=>by rw [add_at];exact hc j u hu
 have hfin:∀ v' w',w'.ownsRow w.heap.size e size v' (n+m) (xs++news)→w.grownBy w' none→K (a.put o.dst v') w':=fun v' w' ho' hg=>by
  obtain⟨ob',h1,h2⟩:=OwnS.of ho'
  refine h v' ob' w' h1 ?_ ⟨hg.os,hg.tape,hg.output,hg.size,fun k hk _=>hg.block k hk (by intro hc;cases hc)⟩
  rcases h1.cases with⟨_,_,h0,_⟩|⟨g,_,_,_,hob,_⟩
  ·omega
  ·exact .inr ⟨g,hob,h2 g hob⟩
 rcases hown.cases with⟨hv,hob,hn,hxs⟩|⟨g,cap,rest,hv,hob,hnc,hcm,hh,hlen⟩
 ·subst hn hxs
  obtain⟨v',w',hrun,r1,r2,_⟩:=run_append_own (P:=P) w w.heap.size t o.type e i z size bytes ht hi0 hz hsize hby hzs hsz (.slice none 0 0) 0 [] (World.ownsRow_nil w _ e size) ⟨b,off,none⟩ m c news hl hsrc' h1 h63 hbytes (Nat.le_refl _)
  unfold Oper.wp
  simp [execOp,ho,resolve,invoke,builtin,hs,hv,hx,hrun,Result.andThen]
  exact hfin v' w' r1 r2
 ·by_cases hr:n+m≤cap
  ·refine wp_append_own_spare w s x t ho 0 e i size ht hi0 hsize g n cap xs (by rw [hs,hv]) (by rw [← hv];exact hown.own) ⟨b,off,none⟩ m c news hx hl hsrc' h1 hr ?_
   intro w' ho' hg'
   refine h _ (some g) w' ⟨ho',rfl⟩ (.inl hob.symm) ⟨hg'.os,hg'.tape,hg'.output,hg'.size,fun k hk hn=>hg'.block k hk fun hc=>hn ?_⟩
   rw [hob,hc]
  ·obtain⟨v',w',hrun,r1,r2⟩:=run_append_arg_grows (P:=P) w t o.type e i z size bytes ht hi0 hz hsize hby hzs hsz ⟨g,0,none⟩ n cap xs hown.len (fun j u hu=>by
    rw [add_at,Nat.zero_add,hh.cell,List.getElem?_append_left (List.getElem?_eq_some_iff.1 hu).1];exact hu) ⟨b,off,none⟩ m c news hl hsrc' (by omega) h63 hbytes
   unfold Oper.wp
   simp [execOp,ho,resolve,invoke,builtin,hs,hv,hx,hrun,Result.andThen]
   exact hfin v' w' r1 r2
theorem wpList_append_s {w:World} {rest:List Oper} {o:Oper} {a:Act} (hgd:o.guard=none) (s x:Operand) (t:TypeId)
  (ho:o.op=.call { callee:=.builtin .append,args:=#[s,x],argTypes:=#[t,t] })
  (e:TypeId) (z:Value) (size bytes:Nat) (ht:P.underlying t=some (.slice e)) (hi:(P.info? e).map (fun i=>(i.zero,i.size,i.bytes))=some (some z,size,bytes)) (hzs:z.cells.size=size) (hsz:0<size)
  (v:Value) (ob:Option Nat) (n:Nat) (xs:List Value) (hs:a.eval s=v) (hown:OwnS w v ob e size n xs)
  (sp:Option Addr) (m c:Nat) (news:List Value) (hx:a.eval x=.slice sp m c) (hl:news.length=m*size) (hsrc:Reads w sp news) (hm0:0<m) (h1:∀ u∈news,u.oneCell'=true)
  (h63:n+m≤maxLen) (hbytes:(n+m)*bytes≤140737488355328)
  (h:∀ v' ob' w',OwnS w' v' ob' e size (n+m) (xs++news)→(ob'=ob∨∃ k,ob'=some k∧w.heap.size≤k)→Mv (fun k=>ob=some k) w w'→wpList P ops Q rest (a.put o.dst v') w'):wpList P ops Q (o :: rest) a w:=
 wpList_plain hgd fun _ hK=>wp_append_s s x t ho e z size bytes ht hi hzs hsz v ob n xs hs hown sp m c news hx hl hsrc hm0 h1 h63 hbytes fun v' ob' w' h2 h3 h4=>hK _ _ (h v' ob' w' h2 h3 h4)
theorem step_append_s {w:World} {o:Oper} {a:Act} {K:Act→World→Prop} {E:Prop} (hgd:o.guard=none) (s x:Operand) (t:TypeId)
  (ho:o.op=.call { callee:=.builtin .append,args:=#[s,x],argTypes:=#[t,t] })
  (e:TypeId) (z:Value) (size bytes:Nat) (ht:P.underlying t=some (.slice e)) (hi:(P.info? e).map (fun i=>(i.zero,i.size,i.bytes))=some (some z,size,bytes)) (hzs:z.cells.size=size) (hsz:0<size)
  (v:Value) (ob:Option Nat) (n:Nat) (xs:List Value) (hs:a.eval s=v) (hown:OwnS w v ob e size n xs)
  (sp:Option Addr) (m c:Nat) (news:List Value) (hx:a.eval x=.slice sp m c) (hl:news.length=m*size) (hsrc:Reads w sp news) (hm0:0<m) (h1:∀ u∈news,u.oneCell'=true)
  (h63:n+m≤maxLen) (hbytes:(n+m)*bytes≤140737488355328)
  (h:∀ v' ob' w',OwnS w' v' ob' e size (n+m) (xs++news)→(ob'=ob∨∃ k,ob'=some k∧w.heap.size≤k)→Mv (fun k=>ob=some k) w w'→K (a.put o.dst v') w') :
  if Region.wanted o (yielded ops a.tmps)=true then Oper.wp P o a w K Q else E:=by
 have hw:Region.wanted o (yielded ops a.tmps)=true:=by simp [Region.wanted,hgd]
 rw [if_pos hw]
 exact wp_append_s s x t ho e z size bytes ht hi hzs hsz v ob n xs hs hown sp m c news hx hl hsrc hm0 h1 h63 hbytes h
theorem wpList_append_s0 {w:World} {rest:List Oper} {o:Oper} {a:Act} (hgd:o.guard=none) (s x:Operand) (t:TypeId)
  (ho:o.op=.call { callee:=.builtin .append,args:=#[s,x],argTypes:=#[t,t] })
  (e:TypeId) (z:Value) (size bytes:Nat) (ht:P.underlying t=some (.slice e)) (hi:(P.info? e).map (fun i=>(i.zero,i.size,i.bytes))=some (some z,size,bytes))
  (v:Value) (ob:Option Nat) (n:Nat) (xs:List Value) (hs:a.eval s=v) (hown:OwnS w v ob e size n xs) (hx:a.eval x=.slice none 0 0)
  (h:wpList P ops Q rest (a.put o.dst v) w):wpList P ops Q (o :: rest) a w:=by
 obtain⟨i,hi0,hz,hsize,hby⟩:=info_parts hi
 exact wpList_append_own_none hgd s x t ho 0 e i size ht hi0 v n xs hs hown.own hx h
end
end
section
open Go.RowKit
theorem wp_store_splice {P:Program} {op:Oper} {a:Act} {w:World} {K:Act→World→Prop} {Q:Exit→Act→World→Prop} (ty:TypeId) (x y:Operand) (ho:op.op=.store ty x y) (hd:op.dst=none)
  (g o:Nat) (cur:List Value) (t:TypeId) (hg:Holds w g t cur) (hx:a.eval x=.pointer (some ⟨g,o,none⟩)) (cs:List Value) (hy:a.eval y=.agg cs.toArray)
  (hi:(P.info? ty).map (·.size)=some cs.length) (hfit:o+cs.length≤cur.length) (h1:∀ v∈cs,v.oneCell'=true)
  (h:∀ w',Holds w' g t (splice cur o cs)→Touch g w w'→K a w'):op.wp P a w K Q:=by
 have hst:=run_storeCells_at P g o t cs 0 cur.toArray w hg (by simpa using hfit) h1
 have hrun:(storeVar ty ⟨g,o,none⟩ (.agg cs.toArray)).run P w=.ok () (w.setRow g (cur.toArray.toList.take (o+0)++cs++cur.toArray.toList.drop (o+0+cs.length)).toArray):=by
  cases hq:P.info? ty with
  | none=>simp [hq] at hi
  | some i=>
   have hs:cs.length=i.size:=by simp [hq] at hi;omega
   simp [storeVar,sizeOf,typeInfo,hq,Value.cells,hs] at hst ⊢
   exact hst
 unfold Oper.wp execOp
 simp only [ho,hx,hy,Instr.storeAt,Instr.sureAddr,Sem.run_bind,Sem.run_pure,Result.andThen_ok,hrun]
 show K (a.put op.dst undef) _
 rw [hd]
 refine h _ ?_ ⟨rfl,rfl,rfl,by simp [World.setRow],fun k hk hne=>setRow_other w g k _ hne⟩
 simpa [splice,Holds] using setRow_heap w g _ _ t _ hg
theorem wpList_store_spl {P:Program} {ops:Array Oper} {rest:List Oper} {op:Oper} {a:Act} {w:World} {Q:Exit→Act→World→Prop} (hgd:op.guard=none) (ty:TypeId) (x y:Operand) (ho:op.op=.store ty x y) (hd:op.dst=none)
  (g o:Nat) (cur:List Value) (t:TypeId) (hg:Holds w g t cur) (hx:a.eval x=.pointer (some ⟨g,o,none⟩)) (cs:List Value) (hy:a.eval y=.agg cs.toArray)
  (hi:(P.info? ty).map (·.size)=some cs.length) (hfit:o+cs.length≤cur.length) (h1:∀ v∈cs,v.oneCell'=true)
  (h:∀ w',Holds w' g t (splice cur o cs)→Touch g w w'→wpList P ops Q rest a w'):wpList P ops Q (op :: rest) a w:=
 wpList_plain hgd fun _ hK=>wp_store_splice ty x y ho hd g o cur t hg hx cs hy hi hfit h1 fun w' h2 h3=>hK _ _ (h w' h2 h3)
theorem step_store_spl {P:Program} {ops:Array Oper} {op:Oper} {a:Act} {w:World} {K:Act→World→Prop} {Q:Exit→Act→World→Prop} {E:Prop} (hgd:op.guard=none) (ty:TypeId) (x y:Operand) (ho:op.op=.store ty x y) (hd:op.dst=none)
  (g o:Nat) (cur:List Value) (t:TypeId) (hg:Holds w g t cur) (hx:a.eval x=.pointer (some ⟨g,o,none⟩)) (cs:List Value) (hy:a.eval y=.agg cs.toArray)
  (hi:(P.info? ty).map (·.size)=some cs.length) (hfit:o+cs.length≤cur.length) (h1:∀ v∈cs,v.oneCell'=true)
  (h:∀ w',Holds w' g t (splice cur o cs)→Touch g w w'→K a w'):if Region.wanted op (yielded ops a.tmps)=true then Oper.wp P op a w K Q else E:=by
 have hwd:Region.wanted op (yielded ops a.tmps)=true:=by simp [Region.wanted,hgd]
 rw [if_pos hwd]
 exact wp_store_splice ty x y ho hd g o cur t hg hx cs hy hi hfit h1 h
theorem results_tmp_cel {P:Program} {fn:Func} {a u:Tmp} {t:TypeId} (h:fn.results=#[.tmp u,.cell a t]) (tmps:Array Value) (w:World) (b:Nat) (cs:List Value) (d:TypeDesc) (v:Value) (ha:tmps.getD a undef=.pointer (some ⟨b,0,none⟩)) (hv:tmps.getD u undef=v) (hc:w.rangeAt b 0 cs)
  (hu:P.underlying t=some d) (hd:d.isRow=true) (hi:(P.info? t).map (·.size)=some cs.length):(results fn tmps).run P w=.ok (.tuple #[v,.agg cs.toArray]) w:=by
 have hl:=run_loadVar_mid w b 0 t cs d hc hu hd hi
 unfold results
 rw [h]
 rw [Array.getD_eq_getD_getElem?] at ha hv
 simp [ha,hv,asAddr,hl,Sem.run_bind]
theorem flat_append {s m n:Nat} {V W X:Nat→List Value} (hs:0<s) (hv:∀ i,i<m→(V i).length=s) (hw:∀ i,i<n→(W i).length=s) (hx1:∀ i,i<m→X i=V i) (hx2:∀ i,i<n→X (m+i)=W i):flat s m V++flat s n W=flat s (m+n) X:=by
 apply List.ext_getElem?
 intro t
 have hm:=Nat.mod_lt t hs
 have e:t / s*s+t % s=t:=by rw [Nat.mul_comm];exact Nat.div_add_mod t s
 have hmn:(m+n)*s=m*s+n*s:=Nat.add_mul m n s
 by_cases ht:t<m*s
 ·have hk:t / s<m:=Nat.div_lt_of_lt_mul (by rwa [Nat.mul_comm] at ht)
  rw [List.getElem?_append_left (by rw [flat_len];exact ht)]
  have h1:=flat_at s m V (t / s) (t % s) hk hm (hv _ hk)
  have h2:=flat_at s (m+n) X (t / s) (t % s) (by omega) hm (by rw [hx1 _ hk];exact hv _ hk)
  rw [e] at h1 h2
  rw [h1,h2,hx1 _ hk]
 ·by_cases ht2:t<(m+n)*s
  ·rw [List.getElem?_append_right (by rw [flat_len];omega),flat_len]
   have hk:t / s<m+n:=Nat.div_lt_of_lt_mul (by rwa [Nat.mul_comm] at ht2)
   have hk2:m≤t / s:=(Nat.le_div_iff_mul_le hs).2 (by omega)
   have hkn:t / s-m<n:=by omega
   have h1:=flat_at s n W (t / s-m) (t % s) hkn hm (hw _ hkn)
   have h2:=flat_at s (m+n) X (t / s) (t % s) hk hm (by rw [show t / s=m+(t / s-m) by omega,hx2 _ hkn];exact hw _ hkn)
   rw [e] at h2
   rw [show (t / s-m)*s+t % s=t-m*s by rw [Nat.sub_mul];have:m*s≤t / s*s:=Nat.mul_le_mul_right s hk2;omega] at h1
   rw [h1,h2]
   have h3:=hx2 _ hkn
   rw [show m+(t / s-m)=t / s by omega] at h3
   rw [h3]
  ·rw [List.getElem?_eq_none (by rw [List.length_append,flat_len,flat_len];omega),List.getElem?_eq_none (by rw [flat_len];omega)]
theorem flat_of_one {s:Nat} {V:Nat→List Value} (hv:(V 0).length=s):flat s 1 V=V 0:=by
 apply List.ext_getElem?
 intro t
 by_cases ht:t<s
 ·have:=flat_at s 1 V 0 t (by omega) ht hv
  rwa [Nat.zero_mul,Nat.zero_add] at this
 ·rw [List.getElem?_eq_none (by rw [flat_len];omega),List.getElem?_eq_none (by omega)]
theorem flat_snoc {s m:Nat} {V:Nat→List Value} (hs:0<s) (hv:∀ i,i<m+1→(V i).length=s):flat s m V++V m=flat s (m+1) V:=by
 have h1:flat s 1 (fun i=>V (m+i))=V m:=flat_of_one (V:=fun i=>V (m+i)) (hv m (by omega))
 rw [← h1]
 exact flat_append hs (fun i hi=>hv i (by omega)) (fun i hi=>hv _ (by omega)) (fun _ _=>rfl) (fun _ _=>rfl)
theorem flat_zero (s:Nat) (V:Nat→List Value):flat s 0 V=[]:=by simp [flat]
end
section
open Go.RowKit
abbrev Grown (W w':World):Prop:=∃ p:Regrown,w'=Sort.grow (redrawn W p.d) p.os
theorem grown_range {W:World} {g:Nat} {e:TypeId} {L cs:List Value} (h:Holds W g e L) (o:Nat) (hs:∀ (j:Nat) v,cs[j]?=some v→L[o+j]?=some v):∀ w',Grown W w'→w'.rangeAt g o cs:=fun w' hw'=>by
 have hb:=below_of_regrown hw'
 exact (h.bel hb).rangeO o hs
theorem rangeAt_sub {w:World} {g:Nat} {e:TypeId} {L cs:List Value} (h:Holds w g e L) (o:Nat) (hs:(L.drop o).take cs.length=cs):w.rangeAt g o cs:=h.rangeO o fun j v hv=>by
 rw [← hs,List.getElem?_take_of_lt (by have:=(List.getElem?_eq_some_iff.1 hv).1;rw [List.length_take] at this;omega),List.getElem?_drop] at hv
 exact hv
end
section
open Go.RowKit
theorem wpList_clear_at {P:Program} {ops:Array Oper} {rest:List Oper} {op:Oper} {a:Act} {w:World} {Q:Exit→Act→World→Prop} (hgd:op.guard=none) (s:Operand) (t:TypeId)
  (ho:op.op=.call { callee:=.builtin .clear,args:=#[s],argTypes:=#[t] }) (hd:op.dst=none) (e:TypeId) (z:Value) (ht:P.underlying t=some (.slice e)) (hz:(P.info? e).map (·.zero)=some (some z))
  (g o n c:Nat) (h0:0<n) (hs:a.eval s=.slice (some ⟨g,o,none⟩) n c) (cur:List Value) (ct:TypeId) (hg:Holds w g ct cur) (cs:List Value) (hcs:(Builtin.zeroCells z.cells n).toList=cs) (hfit:o+cs.length≤cur.length) (h1:∀ v∈cs,v.oneCell'=true)
  (h:∀ w',Holds w' g ct (splice cur o cs)→Touch g w w'→wpList P ops Q rest a w'):wpList P ops Q (op :: rest) a w:=
 wpList_plain hgd fun K hK=>by
  have hst:=run_storeCells_at P g o ct cs 0 cur.toArray w hg (by simpa using hfit) h1
  simp only [Nat.add_zero] at hst
  have hzv:(zeroValue e).run P w=.ok z w:=run_zero w hz
  have hn:n≠0:=by omega
  have hrun:(Builtin.clear_ #[t] op.type #[.slice (some ⟨g,o,none⟩) n c]).run P w=.ok (.tuple #[]) (w.setRow g (cur.take o++cs++cur.drop (o+cs.length)).toArray):=by
   cases n with
   | zero=>omega
   | succ n=>simp [Builtin.clear_,run_underlying ht,hzv,hcs,hst]
  have hfin:=h (w.setRow g (cur.take o++cs++cur.drop (o+cs.length)).toArray) (by simpa [splice,Holds] using setRow_heap w g _ _ ct _ hg) ⟨rfl,rfl,rfl,by simp [World.setRow],fun k hk hne=>setRow_other w g k _ hne⟩
  have hK2:=hK _ _ hfin
  unfold Oper.wp
  simp [execOp,ho,resolve,invoke,builtin,hs,hrun,Result.andThen]
  show K (a.put op.dst _) _
  rw [hd]
  show K a _
  simpa using hK2
section
variable {P:Program} {ops:Array Oper} {Q:Exit→Act→World→Prop}
theorem wp_build1 {o:Oper} {a:Act} {w:World} {K:Act→World→Prop} {d q:Tmp} (t e:TypeId) (u:Value) (L:List Value) (ho:o.op=.buildSlice t 1 #[(0,.tmp q)]) (hd:o.dst=some d) (hu:a.eval (.tmp q)=u)
  (hrun:∀ w,(Instr.buildSlice t 1 #[(0,u)]).run P w=.ok (.slice (some ⟨w.heap.size,0,none⟩) 1 1) (w.alloc (.cells L.toArray e)))
  (hK:K (a.put (some d) (.slice (some ⟨w.heap.size,0,none⟩) 1 1)) (w.alloc (.cells L.toArray e))):o.wp P a w K Q:=by
 unfold Oper.wp execOp
 simp only [ho,List.map_toArray,List.map_cons,List.map_nil,hu]
 rw [Sem.run_bind,hrun]
 rw [← hd] at hK
 exact hK
theorem step_build1 {o:Oper} {a:Act} {w:World} {K:Act→World→Prop} {d q:Tmp} {E:Prop} (hgd:o.guard=none) (t e:TypeId) (u:Value) (L:List Value) (ho:o.op=.buildSlice t 1 #[(0,.tmp q)]) (hd:o.dst=some d) (hu:a.eval (.tmp q)=u)
  (hrun:∀ w,(Instr.buildSlice t 1 #[(0,u)]).run P w=.ok (.slice (some ⟨w.heap.size,0,none⟩) 1 1) (w.alloc (.cells L.toArray e)))
  (hK:∀ w',Holds w' w.heap.size e L→Below w.heap.size w w'→K (a.put (some d) (.slice (some ⟨w.heap.size,0,none⟩) 1 1)) w'):if Region.wanted o (yielded ops a.tmps)=true then Oper.wp P o a w K Q else E:=by
 have hw:Region.wanted o (yielded ops a.tmps)=true:=by simp [Region.wanted,hgd]
 rw [if_pos hw]
 exact wp_build1 t e u L ho hd hu hrun (hK _ (holds_alloc w e L) ((Below.refl _ _).alloc (Nat.le_refl _) _))
theorem wpList_build1 {rest:List Oper} {o:Oper} {a:Act} {w:World} {d q:Tmp} (hgd:o.guard=none) (t e:TypeId) (u:Value) (L:List Value) (ho:o.op=.buildSlice t 1 #[(0,.tmp q)]) (hd:o.dst=some d) (hu:a.eval (.tmp q)=u)
  (hrun:∀ w,(Instr.buildSlice t 1 #[(0,u)]).run P w=.ok (.slice (some ⟨w.heap.size,0,none⟩) 1 1) (w.alloc (.cells L.toArray e)))
  (h:∀ w',Holds w' w.heap.size e L→Below w.heap.size w w'→wpList P ops Q rest (a.put (some d) (.slice (some ⟨w.heap.size,0,none⟩) 1 1)) w'):wpList P ops Q (o :: rest) a w:=
 wpList_plain hgd fun K hK=>wp_build1 t e u L ho hd hu hrun (hK _ _ (h _ (holds_alloc w e L) ((Below.refl _ _).alloc (Nat.le_refl _) _)))
end
end
end Go.Proofs.YtimdpiifpibgfaaGreatDoor
