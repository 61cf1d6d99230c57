/- For every input the law TopFast returns true (a part of the proof). Condition: the listed variables start as the program's text lays them. -/
import Derived.Deep.Slices
import Derived.Laws.AppendOwnNone
import Derived.Deep.MidRow
import Derived.Deep.WholeRow
import Derived.Lib.ItoaWalk
import Derived.Test.YtimdpiifpibgfaaGreatDoorQf3
set_option linter.unusedVariables false
set_option linter.unusedSimpArgs false
set_option maxRecDepth 20000
set_option maxHeartbeats 16000000
namespace Go.Proofs.YtimdpiifpibgfaaGreatDoor
section
open Go.RowKit Go.Maps
def keepB (d:Nat→Int) (left:Lit→Bool) (e:Ent):Bool:=left e.key||decide (d e.r.toNat<e.s)
theorem filter_keep_step {D0:DataW Value} {l:List Ent} (h:Lists D0 l) (hw:WfE l) {left:Lit→Bool} {e:Ent} (he:e∈l) (d:Nat→Int) (hk:d e.r.toNat<e.s) :
  l.filter (keepB d fun z=>left z&&!z.sameKey e.key)=l.filter (keepB d left):=by
 refine List.filter_congr fun e' he'=>?_
 by_cases hc:e'=e
 ·unfold keepB
  rw [hc,show decide (d e.r.toNat<e.s)=true from by simp [hk],Bool.or_true,Bool.or_true]
 ·have:=Maps.sameKey_ne (fun hc2=>hc (h.one hw he he' hc2))
  show (left e'.key&&!e'.key.sameKey e.key||decide (d e'.r.toNat<e'.s))=_
  rw [this]
  simp [keepB]
theorem filter_gone_step {D0:DataW Value} {l:List Ent} (h:Lists D0 l) (hw:WfE l) {left:Lit→Bool} {e:Ent} (he:e∈l) (d:Nat→Int) (hk:¬ d e.r.toNat<e.s) :
  l.filter (keepB d fun z=>left z&&!z.sameKey e.key)=(l.filter (keepB d left)).filter (fun x=>!(x.r==e.r&&x.s==e.s)):=by
 rw [List.filter_filter]
 refine List.filter_congr fun e' he'=>?_
 by_cases hc:e'=e
 ·have hs:e.key.sameKey e.key=true:=WideAt.sameKey_self (keyL_is e.r e.s)
  rw [hc]
  show (left e.key&&!e.key.sameKey e.key||decide (d e.r.toNat<e.s))=_
  rw [hs]
  simp [hk]
 ·have:=Maps.sameKey_ne (fun hc2=>hc (h.one hw he he' hc2))
  have hne:(e'.r==e.r&&e'.s==e.s)=false:=by
   rw [← sameKey_inst (hw e' he').1 (hw e' he').2 (hw e he).1 (hw e he).2];exact this
  show (left e'.key&&!e'.key.sameKey e.key||decide (d e'.r.toNat<e'.s))=_
  rw [this,hne]
  simp [keepB]
theorem delE_length:∀ (l:List Ent) (r s:Int),l.Pairwise (fun x y=>¬ (x.r=y.r∧x.s=y.s))→(delE l r s).length+(if l.any (fun x=>x.r==r&&x.s==s) then 1 else 0)=l.length
 | [],_,_,_=>rfl
 | x :: l,r,s,h=>by
  obtain⟨h1,h2⟩:=List.pairwise_cons.1 h
  have ih:=delE_length l r s h2
  by_cases hx:(x.r==r&&x.s==s)=true
  ·have hn:l.any (fun x=>x.r==r&&x.s==s)=false:=by
    rw [List.any_eq_false]
    intro y hy hc
    simp only [Bool.and_eq_true,beq_iff_eq] at hc hx
    exact h1 y hy ⟨hx.1.trans hc.1.symm,hx.2.trans hc.2.symm⟩
   rw [hn] at ih
   simp only [delE,List.filter_cons,hx,Bool.not_true,Bool.false_eq_true,if_false,List.any_cons,Bool.true_or,if_true,List.length_cons] at ih ⊢
   omega
  ·have hx:(x.r==r&&x.s==s)=false:=by simpa using hx
   simp only [delE,List.filter_cons,hx,Bool.not_false,if_true,List.any_cons,Bool.false_or,List.length_cons] at ih ⊢
   omega
theorem Lists.del {D:DataW Value} {l:List Ent} (h:Lists D l) (hw:WfE l) (r s:Int) (hr:(Lit.int .i64 r).wf=true) (hs:(Lit.int .i64 s).wf=true):Lists (D.del (keyL r s)) (delE l r s):=by
 have hh:=h.has_inst hw r s hr hs
 have hkk:∀ x∈l,x.key.sameKey (keyL r s)=(x.r==r&&x.s==s):=fun x hx=>sameKey_inst (hw x hx).1 (hw x hx).2 hr hs
 refine⟨h.tidy.del _,?_,h.apart.filter _,fun k=>?_,fun e he z=>?_⟩
 ·have h1:=Maps.size_del (k:=keyL r s) h.tidy
  have h2:=delE_length l r s h.apart
  rw [hh,h.size] at h1
  omega
 ·by_cases hk:k=keyL r s
  ·rw [hk,Maps.has_del_same]
   symm
   rw [List.any_eq_false]
   intro x hx
   have hx2:=List.mem_filter.1 hx
   rw [hkk x hx2.1]
   have:=hx2.2
   revert this
   cases (x.r==r&&x.s==s)<;>simp
  ·rw [Maps.has_del_other hk,h.has]
   unfold delE
   rw [List.any_filter,Bool.eq_iff_iff,List.any_eq_true,List.any_eq_true]
   refine⟨fun ⟨x,hx,hx2⟩=>⟨x,hx,?_⟩,fun ⟨x,hx,hx2⟩=>⟨x,hx,?_⟩⟩
   ·rw [hx2,Bool.and_true,← hkk x hx]
    have:x.key≠keyL r s:=fun hc=>hk ((WideAt.sameKey_eq hx2).symm.trans hc)
    rw [Maps.sameKey_ne this]
    rfl
   ·rw [Bool.and_eq_true] at hx2
    exact hx2.2
 ·have hx2:=List.mem_filter.1 he
  rw [Maps.atKey_del_other,h.at_ e hx2.1]
  intro hc
  have:=keyL_inj (hw e hx2.1).1 (hw e hx2.1).2 hr hs hc
  have h3:=hx2.2
  simp [this.1,this.2] at h3
end
section
open Go.RowKit Go.Maps
def newCut (d u:Nat→Int) (t:Nat):Int:=max (d t) (min (max (u t) 0) 1073741824)
structure Touch2 (g b:Nat) (w w':World):Prop where
 os:w'.os=w.os
 tape:w'.tape=w.tape
 output:w'.output=w.output
 size:w.heap.size≤w'.heap.size
 block:∀ k,k<w.heap.size→k≠g→k≠b→w'.heap[k]?=w.heap[k]?
theorem Touch2.refl (g b:Nat) (w:World):Touch2 g b w w:=⟨rfl,rfl,rfl,Nat.le_refl _,fun _ _ _ _=>rfl⟩
theorem Touch2.left {g b:Nat} {w w1 w2:World} (h:Touch2 g b w w1) (k:Touch g w1 w2):Touch2 g b w w2:=
 ⟨k.os.trans h.os,k.tape.trans h.tape,k.output.trans h.output,Nat.le_trans h.size k.size,fun i hi h1 h2=>(k.block i (Nat.lt_of_lt_of_le hi h.size) h1).trans (h.block i hi h1 h2)⟩
theorem Touch2.right {g b:Nat} {w w1 w2:World} (h:Touch2 g b w w1) (k:Touch b w1 w2):Touch2 g b w w2:=
 ⟨k.os.trans h.os,k.tape.trans h.tape,k.output.trans h.output,Nat.le_trans h.size k.size,fun i hi h1 h2=>(k.block i (Nat.lt_of_lt_of_le hi h.size) h2).trans (h.block i hi h1 h2)⟩
theorem Touch2.fresh {g b R:Nat} {w w1 w2:World} (h:Touch2 g b w w1) (k:Touch R w1 w2) (hR:w.heap.size≤R):Touch2 g b w w2:=
 ⟨k.os.trans h.os,k.tape.trans h.tape,k.output.trans h.output,Nat.le_trans h.size k.size,fun i hi h1 h2=>(k.block i (Nat.lt_of_lt_of_le hi h.size) (by omega)).trans (h.block i hi h1 h2)⟩
theorem Touch2.below {g b:Nat} {w w1 w2:World} (h:Touch2 g b w w1) (k:Below w1.heap.size w1 w2):Touch2 g b w w2:=h.left (.of_below k)
theorem cut_set (m:Value) (d:Nat→Int) (k:Nat) (hk:k<7) (v:Int):(m :: cutL d).set (1+k) (.int .i64 v)=m :: cutL fun j=>if j=k then v else d j:=by
 have:k=0∨k=1∨k=2∨k=3∨k=4∨k=5∨k=6:=by omega
 rcases this with rfl|rfl|rfl|rfl|rfl|rfl|rfl<;>rfl
theorem IxAt.cutTo {w w':World} {g b n:Nat} {d d':Nat→Int} {l:List Ent} (h:IxAt w g b n d l) (ht:Touch g w w') (hc:Holds w' g 312 (.map (some b) :: cutL d')):IxAt w' g b n d' l:=by
 obtain⟨D,hm,hl⟩:=h.map
 exact⟨hc,⟨D,hm.kept (row:=some g) ⟨ht.os,ht.tape,ht.output,ht.size,fun k hk hne=>ht.block k hk (fun e=>hne (by rw [e]))⟩ (by simpa using h.ne.symm),hl⟩,h.good⟩
theorem idx_deps (d:Nat→Int) (k:Nat) (hk:k<7) (w:World) :
  (Instr.index 41 (.agg #[.int .i64 (d 0),.int .i64 (d 1),.int .i64 (d 2),.int .i64 (d 3),.int .i64 (d 4),.int .i64 (d 5),.int .i64 (d 6)]) (.int .i64 k)).run Tryz.prog w=.ok (.int .i64 (d k)) w:=by
 rcases (show k=0∨k=1∨k=2∨k=3∨k=4∨k=5∨k=6 by omega) with rfl|rfl|rfl|rfl|rfl|rfl|rfl<;>kernel_rfl
def pruned (l:List Ent) (d:Nat→Int):List Ent:=l.filter fun e=>decide (d e.r.toNat<e.s)
set_option maxRecDepth 4000 in
theorem prune_any (g b n:Nat) (d u:Nat→Int) (l:List Ent) (w:World) (h:IxAt w g b n d l) :
  Calls Tryz.prog 118 #[.pointer (some ⟨g,0,none⟩),.agg (cutL u).toArray] w fun e w'=>
   e=.returned (.tuple #[])∧IxAt w' g b n (newCut d u) (pruned l (newCut d u))∧Touch2 g b w w':=by
 have HI:=qh h;clear h
 unfold cutL
 go_enter Tryz.func118,Tryz.ntmps118
 have hi1:=HI.out.below (show Below w.heap.size w (w.alloc (.cells #[.int .i64 (u 0),.int .i64 (u 1),.int .i64 (u 2),.int .i64 (u 3),.int .i64 (u 4),.int .i64 (u 5),.int .i64 (u 6)] 41)) by go_grown)
 have ht1:=(Touch2.refl g b w).below (show Below w.heap.size w (w.alloc (.cells #[.int .i64 (u 0),.int .i64 (u 1),.int .i64 (u 2),.int .i64 (u 3),.int .i64 (u 4),.int .i64 (u 5),.int .i64 (u 6)] 41)) by go_grown)
 have HI1:=qh hi1;have HT1:=qh ht1;clear hi1 ht1 HI
 go_wp2_with fail
 go_loopw [8] (fun i wr=>∃ j:Nat,j≤7∧i=.int .i64 j∧IxAt wr g b n (fun t=>if t<j then newCut d u t else d t) l∧Touch2 g b w wr) (fun i _=>7 - (intOf i).toNat)
 case atStart=>exact⟨0,by omega,rfl,HI1.out,HT1.out⟩
 case round=>
  clear HI1 HT1
  obtain⟨j,hj,rfl,hi,ht⟩:=hrel
  have HI:=qh hi;have HT:=qh ht;clear hi ht
  by_cases hj7:j<7
  ·have cj:=HI.out.ix.cell (1+j)
   rw [cut_get _ _ _ hj7,if_neg (Nat.lt_irrefl j)] at cj
   have cf:=HI.out.ix.free (1+j)
   have hS:=HI.out.ix.set (1+j) (.int .i64 (newCut d u j))
   rw [cut_set _ _ _ hj7] at hS
   have hfn:(fun t=>if t=j then newCut d u j else if t<j then newCut d u t else d t)=fun t=>if t<j+1 then newCut d u t else d t:=by
    funext t
    by_cases h1:t=j
    ·rw [if_pos h1,if_pos (by omega),h1]
    ·rw [if_neg h1]
     by_cases h2:t<j
     ·rw [if_pos h2,if_pos (by omega)]
     ·rw [if_neg h2,if_neg (by omega)]
   rw [hfn] at hS
   have HS:=qh hS;clear hS hfn
   have hix:=fun W=>idx_deps u j hj7 W
   go_upto_region 4 with (fail)
   clear hix
   go_region
   go_wp2_with fail
   go_roundw
   case rel=>exact⟨j+1,by omega,by go_num,HI.out.cutTo ((Touch.refl g wr).setCell (1+j) _).drew HS.out,HT.out.left ((Touch.refl g wr).setCell (1+j) _).drew⟩
   case measure=>simp [intOf];omega
  ·have hj77:j=7:=by omega
   subst hj77
   have hfn:cutL (fun t=>if t<7 then newCut d u t else d t)=cutL (newCut d u):=by simp [cutL]
   have hi7:IxAt wr g b n (newCut d u) l:=⟨by rw [← hfn];exact HI.out.ix,HI.out.map,HI.out.good⟩
   clear HI hfn hj hj7
   generalize hee:newCut d u=e at hi7
   have HEE:=qh hee;clear hee
   have m0:=hi7.ix.cell 0
   simp only [List.getElem?_cons_zero] at m0
   obtain⟨D0,hown,hl0⟩:=hi7.map
   have hne0:=hi7.ne
   have hgd:=hi7.good
   go_wp2_with (first
    | (at_range;refine wpList_range_own _ rfl _ 310 rfl 37 363 keyLaw Tryz.underlying310 readN b n D0 rfl hown ?_;intro w0 hrg0 hg0 hs0)
    | fail)
   go_frame
   have hB0:Below wr.heap.size wr w0:=⟨hg0.os,hg0.tape,hg0.output,hg0.size,fun k hk=>hg0.block k hk (by simp)⟩
   have HX:=qh (hi7.ix.below hB0 hi7.ix.lt)
   have HT0:=qh (HT.out.below hB0)
   have HSZ:=qh (show w.heap.size≤wr.heap.size from HT.out.size)
   have HGR:=qh (show g≠wr.heap.size by have:=hi7.lt.1;omega)
   have HF0:=qh (show l.filter (keepB e (Maps.has D0))=l by
    rw [List.filter_eq_self]
    intro x hx
    unfold keepB
    rw [Maps.has_true_of_atKey (hl0.at_ x hx)]
    rfl)
   have HRG:=qh hrg0
   have HL:=qh hl0;have HGD:=qh hgd;have HN:=qh hne0
   clear hi7 hown hl0 hrg0 hg0 hs0 hB0 m0 hgd hne0 HT
   generalize wr.heap.size=R at HSZ HGR HRG ⊢
   go_loopw [6] (fun _ wx=>∃ (left:Lit→Bool) (cnt:Nat) (D:DataW Value),wx.ranges Tryz.prog 37 readN b R n D left cnt∧Lists D (l.filter (keepB e left))∧Holds wx g 312 (.map (some b) :: cutL e)∧Touch2 g b w wx) (fun _ wx=>wx.rangeLeft b R)
   case atStart=>exact⟨_,_,D0,HRG.out,by rw [HF0.out];exact HL.out,HX.out,HT0.out⟩
   case round=>
    clear HRG HX HT0 HF0
    obtain⟨left,cnt,D,hrg,hli,hx,ht⟩:=hrel
    go_wp2_with (first
     | (at_next;refine wpList_next_ranges _ rfl _ rfl 37 keyLaw readN (fun p:Int × Int=>instV p.1 p.2) (fun v:Value=>v) (fun key kl hk=>by obtain⟨r,s,rfl,_⟩:=key_inv hk;exact⟨(r,s),rfl⟩) (fun v y _=>⟨v,rfl⟩) b R n D _ _ rfl hrg ?_ ?_)
     | fail)
    ·intro hc0 hl0
     have hfe:l.filter (keepB e left)=pruned l e:=List.filter_congr fun x hx=>by unfold keepB;rw [hl0];rfl
     rw [hfe] at hli
     have HE:=qh (show IxAt wr g b n e (pruned l e) from ⟨hx,⟨D,hrg.owns,hli⟩,fun y hy=>HGD.out y (List.mem_filter.1 hy).1⟩)
     have HT:=qh ht
     clear hx hrg hli ht hfe hl0 hc0
     go_wp2_with fail
     go_end0
     exact⟨rfl,by rw [HEE.out];exact HE.out,HT.out⟩
    ·intro pr ps cv kl yd yp w1 cnt1 hkey hlk hR hat hrg1 hlt hg1 hs1 hen
     have hy:yd=.held cv:=by
      unfold readN at hR
      injection hR with hR
      injection hR with hR _
      exact hR.symm
     rw [hy] at hat
     have hgf:GoodE (l.filter (keepB e left)):=fun y hy=>HGD.out y (List.mem_filter.1 hy).1
     obtain⟨x,hxm,hek,hcv⟩:=hli.find hgf.wf hat
     have hxl:=(List.mem_filter.1 hxm).1
     have hgx:=HGD.out x hxl
     have hw:=HGD.out.wf x hxl
     obtain⟨k,hkr⟩:∃ k:Nat,x.r=k:=⟨x.r.toNat,by have:=hgx.1;omega⟩
     have hk7:k<7:=by have:=hgx.1;omega
     have hpe:pr=x.r∧ps=x.s:=by
      rw [← hek] at hkey
      have:=keyLaw.inj hkey (key_inst x.r x.s hw.1 hw.2)
      simp only [instV,Value.agg.injEq,Array.mk.injEq,List.cons.injEq,Value.int.injEq,true_and,and_true] at this
      exact this
     obtain⟨h1,h2⟩:=hpe
     rw [hkr] at h1
     subst h1;subst h2;subst hcv;subst hek
     have hT1:=touch_of_grownBy hg1
     have HX1:=qh (hx.touch hT1 HGR.out)
     have HT1:=qh (ht.fresh hT1 HSZ.out)
     have HR1:=qh hrg1
     have HL0:=qh hrg.left_eq
     have HLT:=qh hlt
     have HLI:=qh hli
     have HXL:=qh hxl
     have HKR:=qh hkr
     have HW:=qh hw
     have HGF:=qh hgf
     clear hrg1 hrg hlt hg1 hs1 hR hy hat hkey hlk hx ht hli hT1 hxl hkr hw hgx hgf hxm
     unfold Ent.val notedV instV at hen
     simp only [instV,Ent.val,notedV] at hen ⊢
     go_upto_region 9 with (fail)
     go_name_world W hW
     have hkb:Holds W w1.heap.size 37 [.int .i64 k,.int .i64 x.s]:=by rw [← hW];exact holds_alloc w1 _ _
     have hB:Below w1.heap.size w1 W:=by rw [← hW];go_grown
     clear hW
     have HX2:=qh (HX1.out.below hB HX1.out.lt)
     have HT2:=qh (HT1.out.below hB)
     have HR2:=qh (HR1.out.kept (row:=none) ⟨hB.os,hB.tape,hB.output,hB.size,fun i hi _=>hB.block i hi⟩ (by simp) (by simp))
     clear hB
     generalize w1.heap.size=gk at hkb ⊢
     have k0:=hkb.cell 0
     have k1:=hkb.cell 1
     have ck:=HX2.out.cell (1+k)
     rw [cut_get _ _ _ hk7] at ck
     simp only [yA,yB] at k0 k1
     have HKB:=qh hkb;clear hkb
     by_cases hle:x.s≤e k
     ·have HLE:=qh (show ¬ e x.r.toNat<x.s by rw [HKR.out,Int.toNat_natCast];omega)
      go_region
      go_upto_region 10 with (fail)
      go_name_world W3 hW3
      have hB3:Below W.heap.size W W3:=by rw [← hW3];go_grown
      clear hW3
      have hkb:=HKB.out.below hB3 HKB.out.lt
      have HX3:=qh (HX2.out.below hB3 HX2.out.lt)
      have HT3:=qh (HT2.out.below hB3)
      have HR3:=qh (HR2.out.kept (row:=none) ⟨hB3.os,hB3.tape,hB3.output,hB3.size,fun i hi _=>hB3.block i hi⟩ (by simp) (by simp))
      clear hB3 k0 k1 ck hle
      have k0:=hkb.cell 0
      have k1:=hkb.cell 1
      have m0:=HX3.out.cell 0
      simp only [yA,yB] at k0 k1 m0
      have hkey:=key_inst x.r x.s HW.out.1 HW.out.2
      rw [HKR.out] at hkey
      obtain⟨w5,cnt5,hdel,hr5,hle5,hturn⟩:=(HR3.out.kept (row:=none) (w':=W3.drew) ⟨rfl,rfl,rfl,Nat.le_refl _,fun _ _ _=>rfl⟩ (by simp) (by simp)).drop keyLaw Tryz.underlying310 hkey 0
      unfold instV at hdel
      have hT5:=touch_of_grownBy hturn.grown
      have ht4:=HT3.out.below (w2:=W3.drew) ⟨rfl,rfl,rfl,Nat.le_refl _,fun _ _=>rfl⟩
      have hx4:=HX3.out.drewN 1
      have HR5':=qh hr5
      have HH:=qh hle5
      clear hr5 hle5 hturn hkb
      go_region
      have hr5:=HR5'.out
      have hle5:=HH.out
      clear hdel k0 k1 m0
      have hkx:x.key=keyL k x.s:=by unfold Ent.key;rw [HKR.out]
      have hl5:=HLI.out.del HGF.out.wf x.r x.s HW.out.1 HW.out.2
      have hfs:=filter_gone_step HL.out HGD.out.wf HXL.out e (left:=left) HLE.out
      have hl6:Lists (D.del x.key) (l.filter (keepB e fun z=>left z&&!z.sameKey x.key)):=by
       rw [hfs]
       exact hl5
      rw [hkx,strike_twice,← hkx] at hr5
      have HR5:=qh hr5
      have HL6:=qh hl6
      have HX5:=qh (hx4.touch hT5 HN.out)
      have HT5:=qh (ht4.right hT5)
      clear hr5 hl6 hx4 hT5 ht4 hl5 hfs hkey HR5' HH
      go_wp2_with fail
      go_roundw
      case rel=>exact⟨_,_,_,HR5.out,HL6.out,HX5.out,HT5.out⟩
      case measure=>rw [HR5.out.left_eq,HL0.out];have:=HLT.out;omega
     ·have HLE:=qh (show e x.r.toNat<x.s by rw [HKR.out,Int.toNat_natCast];omega)
      go_region
      go_wp2_with fail
      go_roundw
      case rel=>
       refine⟨_,_,_,HR2.out.kept (row:=none) ⟨rfl,rfl,rfl,Nat.le_refl _,fun _ _ _=>rfl⟩ (by simp) (by simp),?_,HX2.out.drewN 1,HT2.out.below ⟨rfl,rfl,rfl,Nat.le_refl _,fun _ _=>rfl⟩⟩
       rw [filter_keep_step HL.out HGD.out.wf HXL.out e (left:=left) HLE.out]
       exact HLI.out
      case measure=>rw [(HR2.out.kept (row:=none) (w':=W.drew) ⟨rfl,rfl,rfl,Nat.le_refl _,fun _ _ _=>rfl⟩ (by simp) (by simp)).left_eq,HL0.out];exact HLT.out
end
section
open Go.RowKit
inductive Leaf where
 | bool
 | int (k:IntKind)
 | string
 | slice
def Leaf.ok:Leaf→Value→Prop
 | .bool,v=>∃ b,v=.bool b
 | .int k,v=>∃ n,v=.int k n∧(Lit.int k n).wf=true
 | .string,v=>∃ s,v=.string s∧s.size≤maxLen
 | .slice,v=>∃ a l c,v=.slice a l c
def AllOk:List Leaf→List Value→Prop
 | [],[]=>True
 | l :: ls,v :: vs=>l.ok v∧AllOk ls vs
 | _,_=>False
theorem AllOk.append:∀ {ls ms:List Leaf} {vs us:List Value},AllOk ls vs→AllOk ms us→AllOk (ls++ms) (vs++us)
 | [],_,[],_,_,h=>h
 | _ :: _,_,_ :: _,_,h,k=>⟨h.1,AllOk.append h.2 k⟩
 | [],_,_ :: _,_,h,_=>h.elim
 | _ :: _,_,[],_,h,_=>h.elim
theorem AllOk.cons {l:Leaf} {ls:List Leaf}:∀ {vs:List Value},AllOk (l :: ls) vs→∃ v r,vs=v :: r∧l.ok v∧AllOk ls r
 | v :: r,h=>⟨v,r,rfl,h.1,h.2⟩
theorem AllOk.nil:∀ {vs:List Value},AllOk [] vs→vs=[]
 | [],_=>rfl
theorem okWide_cells {P:Program} {w:World} {r:Reach} {base:Nat} {t:TypeId} {v:Value} (ht:(∃ fs,P.underlying t=some (.struct fs))∨∃ n e,P.underlying t=some (.array n e)) (h:Value.okWide P w r base t v):∃ l:List Value,v=.agg l.toArray:=by
 rcases ht with⟨fs,ht⟩|⟨n,e,ht⟩
 ·simp only [Value.okWide,ht] at h
  obtain⟨cs,h1,_⟩:=h
  exact⟨cs.toList,by rw [h1]⟩
 ·simp only [Value.okWide,ht] at h
  obtain⟨cs,h1,_⟩:=h
  exact⟨cs.toList,by rw [h1]⟩
def fieldLeaves (rc:TypeId→Option (List Leaf)) (P:Program):Nat→List Field→Option (List Leaf)
 | _,[]=>some []
 | off,f :: fs=>
  if f.offset=off then
   match rc f.type with
   | some l=>if l.length=P.cellsOf f.type then (match fieldLeaves rc P (off+l.length) fs with|some r=>some (l++r)|none=>none) else none
   | none=>none
  else none
def leaves (P:Program):Nat→TypeId→Option (List Leaf)
 | 0,_=>none
 | n+1,t=>
  match P.underlying t with
  | some .bool=>some [.bool]
  | some (.int k)=>some [.int k]
  | some .string=>some [.string]
  | some (.struct fs)=>match fieldLeaves (leaves P n) P 0 fs.toList with
   | some l=>if l.length=P.cellsOf t then some l else none
   | none=>none
  | some (.array m e)=>match leaves P n e with
   | some l=>if l.length=P.cellsOf e∧m*l.length=P.cellsOf t then some (List.replicate m l).flatten else none
   | none=>none
  | some (.slice _)=>some [.slice]
  | _=>none
section
variable {H:Type} {enc:TypeId × Value→H} {P:Program} {w:World} {base:Nat} {spare:Nat→Bool} {held:Bool}
theorem fields_ok {m:Nat} {rc:TypeId→Option (List Leaf)} (ih:∀ t cs x l,DataW.trod enc P w base spare held m t cs=some x→rc t=some l→AllOk l cs) (cs:List Value) :
  ∀ (fs:List Field) (off:Nat) (ls:List Leaf),(∀ f∈fs,∃ y,DataW.trod enc P w base spare held m f.type ((cs.drop f.offset).take (P.cellsOf f.type))=some y)→fieldLeaves rc P off fs=some ls→AllOk ls ((cs.drop off).take ls.length)
 | [],off,ls,_,h=>by
  simp only [fieldLeaves,Option.some.injEq] at h
  subst h
  simp [AllOk]
 | f :: fs,off,ls,hf,h=>by
  unfold fieldLeaves at h
  split at h
  ·rename_i ho
   split at h
   ·rename_i l hl
    split at h
    ·rename_i hlen
     split at h
     ·rename_i r hr
      simp only [Option.some.injEq] at h
      subst h
      obtain⟨y,hy⟩:=hf f (by simp)
      have h1:=ih _ _ _ _ hy hl
      have h2:=fields_ok ih cs fs _ r (fun g hg=>hf g (by simp [hg])) hr
      rw [ho,← hlen] at h1
      have:=h1.append h2
      rw [List.length_append,List.take_add,List.drop_drop]
      exact this
     ·cases h
    ·cases h
   ·cases h
  ·cases h
theorem array_ok {cs:List Value} {l:List Leaf}:∀ (m k:Nat),(∀ i,i<m→AllOk l ((cs.drop ((k+i)*l.length)).take l.length))→AllOk (List.replicate m l).flatten ((cs.drop (k*l.length)).take (m*l.length))
 | 0,k,_=>by simp [AllOk]
 | m+1,k,h=>by
  rw [List.replicate_succ,List.flatten_cons,Nat.succ_mul,Nat.add_comm (m*l.length),List.take_add,List.drop_drop]
  refine AllOk.append (by simpa using h 0 (by omega)) ?_
  have:=array_ok (cs:=cs) (l:=l) m (k+1) (fun i hi=>by
   have:=h (i+1) (by omega)
   rwa [show k+(i+1)=k+1+i from by omega] at this)
  rwa [Nat.succ_mul] at this
theorem leaves_ok:∀ (n m:Nat) (t:TypeId) (cs:List Value) (x:DataW H × List MemPlace) (ls:List Leaf),DataW.trod enc P w base spare held m t cs=some x→leaves P n t=some ls→AllOk ls cs
 | 0,_,_,_,_,_,_,h=>by cases h
 | n+1,m,t,cs,x,ls,h,hl=>by
  unfold leaves at hl
  split at hl
  ·rename_i hu
   simp only [Option.some.injEq] at hl
   subst hl
   obtain⟨b,rfl,_⟩:=DataW.trod_bool hu h
   exact⟨⟨_,rfl⟩,trivial⟩
  ·rename_i k hu
   simp only [Option.some.injEq] at hl
   subst hl
   obtain⟨q,rfl,_,hwf⟩:=DataW.trod_int hu h
   exact⟨⟨q,rfl,hwf⟩,trivial⟩
  ·rename_i hu
   simp only [Option.some.injEq] at hl
   subst hl
   obtain⟨s,rfl,_,hs⟩:=DataW.trod_string hu h
   exact⟨⟨_,rfl,hs⟩,trivial⟩
  ·rename_i fs hu
   split at hl
   ·rename_i l hfl
    split at hl
    ·rename_i hlen
     simp only [Option.some.injEq] at hl
     subst hl
     obtain⟨xs,k,_,_,hcs,hxs,hx⟩:=DataW.trod_struct hu h
     have:=fields_ok (m:=k) (fun t cs x l h1 h2=>leaves_ok n k t cs x l h1 h2) cs fs.toList 0 l (fun f hf=>by
      obtain⟨i,hi,hfi⟩:=List.getElem_of_mem hf
      have hi2:i<fs.size:=by simpa using hi
      have h2:=hx i f (by rw [Array.getElem?_eq_getElem hi2];simpa using hfi)
      rw [List.getElem?_eq_getElem (by omega)] at h2
      exact⟨_,h2⟩) hfl
     rw [List.drop_zero,List.take_of_length_le (by omega)] at this
     exact this
    ·cases hl
   ·cases hl
  ·rename_i q e hu
   split at hl
   ·rename_i l hle
    split at hl
    ·rename_i hlen
     simp only [Option.some.injEq] at hl
     subst hl
     obtain⟨xs,k,_,_,hcs,hxs,hx⟩:=DataW.trod_array hu h
     have:=array_ok (cs:=cs) (l:=l) q 0 (fun i hi=>by
      have h2:=hx i hi
      rw [List.getElem?_eq_getElem (by omega),← hlen.1] at h2
      rw [Nat.zero_add]
      exact leaves_ok n k e _ _ _ h2 hle)
     rw [Nat.zero_mul,List.drop_zero,List.take_of_length_le (by rw [hcs,← hlen.2];exact Nat.le_refl _)] at this
     exact this
    ·cases hl
   ·cases hl
  ·rename_i e hu
   simp only [Option.some.injEq] at hl
   subst hl
   rcases Deep.open_slice hu h with⟨rfl,_⟩|⟨a,l,c,_,_,_,_,rfl,_⟩
   ·exact⟨⟨_,_,_,rfl⟩,trivial⟩
   ·exact⟨⟨_,_,_,rfl⟩,trivial⟩
  ·cases hl
end
end
section
open Go.RowKit
def IsRows (w:World) (a:Option Addr) (len n:Nat) (V:Nat→List Value):Prop:=
 len≤maxLen∧(∀ i,i<len→(V i).length=n)∧(0<len→∃ b off,a=some ⟨b,off,none⟩∧b<w.heap.size∧∀ i,i<len→∀ j,j<n→w.cell? ⟨b,off+i*n+j,none⟩=(V i)[j]?)
theorem IsRows.below {w w':World} {a:Option Addr} {len n:Nat} {V:Nat→List Value} (h:IsRows w a len n V) (hb:Below w.heap.size w w'):IsRows w' a len n V:=by
 obtain⟨h1,h2,h3⟩:=h
 refine⟨h1,h2,fun h=>?_⟩
 obtain⟨b,off,ha,hlt,hc⟩:=h3 h
 exact⟨b,off,ha,Nat.lt_of_lt_of_le hlt hb.size,fun i hi j hj=>by rw [hb.cell (p:=⟨b,_,none⟩) hlt];exact hc i hi j hj⟩
end
section
open Go.RowKit
structure At where
 q:Int
 d:Nat→Int
def At.cells (a:At):List Value:=[.int .i64 a.q,.int .i64 (a.d 0),.int .i64 (a.d 1),.int .i64 (a.d 2),.int .i64 (a.d 3),.int .i64 (a.d 4),.int .i64 (a.d 5),.int .i64 (a.d 6)]
def At.of (k:Int):At:=⟨k,fun _=>0⟩
def At.eqB (a b:At):Bool:=a.q==b.q&&(a.d 0==b.d 0&&(a.d 1==b.d 1&&(a.d 2==b.d 2&&(a.d 3==b.d 3&&(a.d 4==b.d 4&&(a.d 5==b.d 5&&a.d 6==b.d 6))))))
structure Sd where
 r:Int
 st:Int
 pe:Int
 pr:Int
 ve:Int
 vr:Int
 x:Cm
 a:At
 same:Bool
def below (e1 r1 e2 r2:Int):Bool:=decide (e1<e2)||(e1==e2&&decide (r1<r2))
def q_takes (S:Nat→Sd) (st at':Int) (k:Nat):Bool:=(S k).st==st&&(decide (at'<0)||below (S at'.toNat).ve (S at'.toNat).vr (S k).ve (S k).vr)
def bestTo (S:Nat→Sd) (st:Int):Nat→Int
 | 0=>-1
 | k+1=>if q_takes S st (bestTo S st k) k=true then (k:Int) else bestTo S st k
def mxI (a b:Int):Int:=if b > a then b else a
def At.join (a b:At):At:=⟨mxI a.q b.q,fun i=>mxI (a.d i) (b.d i)⟩
def joinAll (S:Nat→At):Nat→At
 | 0=>S 0
 | k+1=>(joinAll S k).join (S (k+1))
def joinIn (a b:At) (k:Nat):At:=⟨mxI a.q b.q,fun i=>if i<k then mxI (a.d i) (b.d i) else a.d i⟩
theorem joinIn_seven (a b:At):(joinIn a b 7).cells=(a.join b).cells:=by simp [At.cells,joinIn,At.join]
theorem joinIn_zero (a b:At):(joinIn a b 0).cells=a.cells.set 0 (.int .i64 (mxI a.q b.q)):=by simp [At.cells,joinIn]
theorem joinIn_get (a b:At) (k:Nat) (hk:k<7):(joinIn a b k).cells[1+k]?=some (.int .i64 (a.d k)):=by
 rcases (show k=0∨k=1∨k=2∨k=3∨k=4∨k=5∨k=6 by omega) with rfl|rfl|rfl|rfl|rfl|rfl|rfl<;>rfl
theorem joinIn_set (a b:At) (k:Nat) (hk:k<7):(joinIn a b k).cells.set (1+k) (.int .i64 (mxI (a.d k) (b.d k)))=(joinIn a b (k+1)).cells:=by
 rcases (show k=0∨k=1∨k=2∨k=3∨k=4∨k=5∨k=6 by omega) with rfl|rfl|rfl|rfl|rfl|rfl|rfl<;>simp [At.cells,joinIn]
theorem At.cells_one (s:At):s.cells.toArray.all (·.oneCell')=true:=by simp [At.cells,Value.oneCell']
def sameA (own:At) (R:Nat→At):Nat→Nat
 | 0=>0
 | k+1=>sameA own R k+if (R k).eqB own=true then 1 else 0
theorem sameA_le (own:At) (R:Nat→At) (k:Nat):sameA own R k≤k:=by
 induction k with
 | zero=>exact Nat.le_refl _
 | succ k ih=>unfold sameA;split<;>omega
def consA (own:At) (R:Nat→At):Nat→At
 | 0=>own
 | k+1=>R k
def preA (K:Nat) (first:Bool) (own:At) (R:Nat→At) (len:Nat) (late:Bool):Int × At:=
 if first=true∧K≤sameA own R len+2 then (1,own)
 else if len<K / 2∨(first=true∧late=false∧len<sameA own R len+2) then (0,At.of 0)
 else (2,joinAll (consA own R) len)
end
section
open Go.RowKit
theorem wpList_append_cells {P:Program} {w:World} {ops:Array Oper} {rest:List Oper} {o:Oper} {a:Act} {Q:Exit→Act→World→Prop} (hgd:o.guard=none) (s x:Operand) (t:TypeId)
  (ho:o.op=.call { callee:=.builtin .append,args:=#[s,x],argTypes:=#[t,t] })
  (base:Nat) (e:TypeId) (z:Value) (size bytes:Nat) (ht:P.underlying t=some (.slice e)) (hi:(P.info? e).map (fun i=>(i.zero,i.size,i.bytes))=some (some z,size,bytes)) (hzs:z.cells.size=size) (hsz:0<size)
  (v:Value) (n:Nat) (xs:List Value) (hs:a.eval s=v) (hown:w.ownsRow base e size v n xs)
  (sp:Option Addr) (m c:Nat) (news:List Value) (hx:a.eval x=.slice sp m c) (hl:news.length=m*size) (hsrc:Reads w sp news) (hnil:sp=none→c=0) (h1:∀ u∈news,u.oneCell'=true)
  (h63:n+m≤maxLen) (hbytes:(n+m)*bytes≤140737488355328) (hbase:base≤w.heap.size)
  (h:∀ v' w',w'.ownsRow base e size v' (n+m) (xs++news)→Below base w w'→w.grownBy w' v.ownBlock→wpList P ops Q rest (a.put o.dst v') w'):wpList P ops Q (o :: rest) a w:=by
 obtain⟨i,hi0,hz,hsize,hby⟩:=info_parts hi
 cases sp with
 | none=>
  obtain rfl:=hnil rfl
  have hm:news=[]:=by
   by_cases h0:0<news.length
   ·obtain⟨b,off,hb,_⟩:=hsrc h0;cases hb
   ·exact List.eq_nil_of_length_eq_zero (by omega)
  subst hm
  have hm0:m=0:=by
   have hl':m*size=0:=by simpa using hl.symm
   rcases Nat.mul_eq_zero.1 hl' with h|h<;>omega
  subst hm0
  refine wpList_append_own_none hgd s x t ho base e i size ht hi0 v n xs hs hown hx ?_
  exact h v w (by simpa using hown) (Below.refl _ _) ⟨rfl,rfl,rfl,Nat.le_refl _,fun _ _ _=>rfl⟩
 | some ad=>
  refine wpList_append_own w hgd s x t ho base e i z size bytes ht hi0 hz hsize hby hzs hsz v n xs hs hown ad m c news hx hl ?_ h1 h63 hbytes hbase ?_
  ·intro j u hu
   have h0:0<news.length:=by have:=(List.getElem?_eq_some_iff.1 hu).1;omega
   obtain⟨b,off,hb,_,hc⟩:=hsrc h0
   simp only [Option.some.injEq] at hb
   subst hb
   rw [add_at];exact hc j u hu
  ·intro v' w' ho' hg _
   exact h v' w' ho' ((Below.refl _ _).grown hg hbase fun k hk=>(hown.lt k hk).1) hg
theorem owns_holds {w:World} {base e n:Nat} {v:Value} {xs:List Value} (h:w.ownsRow base e 1 v n xs) (hn:0<n) :
  ∃ g cap rest,v=.slice (some ⟨g,0,none⟩) n cap∧base≤g∧Holds w g e (xs++rest)∧n≤cap∧cap≤maxLen∧xs.length=n:=by
 obtain⟨h1,h2⟩:=h
 rcases h2 with⟨_,h0⟩|⟨g,cap,cur,hv,hb,hh,hc,hm,hs,ht⟩
 ·omega
 ·refine⟨g,cap,cur.toList.drop n,hv,hb,?_,hc,hm,by omega⟩
  unfold Holds
  rw [← ht,Nat.mul_one,List.take_append_drop,hh]
theorem getElem_cells8 (l:List Nat) (i:Nat) (h:i<l.length):(cells8 l)[i]?=some (.int .u8 ((l.getD i 0:Nat):Int)):=by simp [cells8,h]
end
section
open Go.RowKit
theorem tmod_facts (n m:Int) (h0:0<m):n % m=(if n.tmod m<0 then n.tmod m+m else n.tmod m)∧-m<n.tmod m∧n.tmod m<m:=by
 have e:=Int.tmod_eq_emod (a:=n) (b:=m)
 have h1:=Int.emod_nonneg n (show m≠0 by omega)
 have h2:=Int.emod_lt_of_pos n h0
 by_cases hd:0≤n∨m ∣ n
 ·rw [if_pos hd] at e;simp only [Int.natCast_zero,Int.sub_zero] at e;rw [if_neg (by omega)];omega
 ·rw [if_neg hd] at e
  have h3:n % m≠0:=fun h=>hd (.inr (Int.dvd_of_emod_eq_zero h))
  rw [if_pos (by omega)];omega
theorem within_lt (n lo hi:Int) (h:lo≤hi):-(hi-lo)≤n.tmod (hi-lo+1)∧n.tmod (hi-lo+1)≤hi-lo:=by
 have:=tmod_facts n (hi-lo+1) (by omega);omega
theorem within_neg {n lo hi:Int} (h:lo≤hi) (ht:n.tmod (hi-lo+1)<0):n.tmod (hi-lo+1)+hi-lo+1=n % (hi-lo+1):=by
 have:=tmod_facts n (hi-lo+1) (by omega);rw [if_pos ht] at this;omega
theorem within_pos {n lo hi:Int} (h:lo≤hi) (ht:0≤n.tmod (hi-lo+1)):n.tmod (hi-lo+1)=n % (hi-lo+1):=by
 have:=tmod_facts n (hi-lo+1) (by omega);rw [if_neg (by omega)] at this;omega
theorem within_any (n lo hi:Int) (w:World) (_hn:-9223372036854775808≤n∧n≤9223372036854775807) (h:lo≤hi) (hlo:-1000000000000000000≤lo) (hhi:hi≤1000000000000000000) :
  Calls Tryz.prog 10 #[.int .i64 n,.int .i64 lo,.int .i64 hi] w fun e w'=>e=.returned (.int .i64 (lo+n % (hi-lo+1)))∧w=w':=by
 have hl:=within_lt n lo hi h
 go_enter Tryz.func10,Tryz.ntmps10
 go_wp2
 ·go_ret
  exact⟨ret_int (by rw [← within_neg h ‹_›]),rfl⟩
 ·go_ret
  exact⟨ret_int (by rw [← within_pos h ‹_›]),rfl⟩
end
section
open Go.RowKit
theorem wpList_store_new {P:Program} {ops:Array Oper} {rest:List Oper} {op:Oper} {a:Act} {Q:Exit→Act→World→Prop} (hgd:op.guard=none) (ty:TypeId) (x y:Operand) (ho:op.op=.store ty x y) (hd:op.dst=none)
  (w:World) (c cells:Array Value) (hx:a.eval x=.pointer (some ⟨w.heap.size,0,none⟩)) (hy:a.eval y=.agg cells)
  (hi:(P.info? ty).map (·.size)=some cells.size) (hc:c.size=cells.size) (h1:cells.all (·.oneCell')=true)
  (h:wpList P ops Q rest a (w.alloc (.cells cells ty))):wpList P ops Q (op :: rest) a (w.alloc (.cells c ty)):=
 wpList_plain hgd fun _ hK=>by
  unfold Oper.wp execOp
  simp only [ho,hx,hy,Instr.storeAt,Instr.sureAddr,Sem.run_bind,Sem.run_pure,Result.andThen_ok,run_storeVar_new w ty c cells hi hc h1]
  refine hK _ _ ?_
  rw [hd]
  exact h
theorem wpList_store_at {P:Program} {ops:Array Oper} {rest:List Oper} {op:Oper} {a:Act} {Q:Exit→Act→World→Prop} (hgd:op.guard=none) (ty:TypeId) (x y:Operand) (ho:op.op=.store ty x y) (hd:op.dst=none)
  (w:World) (c cells:Array Value) (g:Nat) (hg:w.heap.size=g) (hx:a.eval x=.pointer (some ⟨g,0,none⟩)) (hy:a.eval y=.agg cells)
  (hi:(P.info? ty).map (·.size)=some cells.size) (hc:c.size=cells.size) (h1:cells.all (·.oneCell')=true)
  (h:wpList P ops Q rest a (w.alloc (.cells cells ty))):wpList P ops Q (op :: rest) a (w.alloc (.cells c ty)):=
 wpList_store_new hgd ty x y ho hd w c cells (by rw [hg];exact hx) hy hi hc h1 h
theorem IsRows.spot {w:World} {a:Option Addr} {len n:Nat} {V:Nat→List Value} (h:IsRows w a len n V) (h0:0<len):∃ b off,a=some ⟨b,off,none⟩∧b<w.heap.size:=by
 obtain⟨b,off,ha,hlt,_⟩:=h.2.2 h0
 exact⟨b,off,ha,hlt⟩
theorem IsRows.at {w W:World} {b off len n:Nat} {V:Nat→List Value} (h:IsRows w (some ⟨b,off,none⟩) len n V) (hbl:Below w.heap.size w W) {k:Nat} (hk:k<len) (j:Nat) (hj:j<n):W.cell? ⟨b,off+k*n+j,none⟩=(V k)[j]?:=by
 obtain⟨b',off',ha,hlt,hc⟩:=h.2.2 (by omega)
 simp only [Option.some.injEq,Addr.mk.injEq] at ha
 obtain⟨rfl,rfl,_⟩:=ha
 rw [hbl.cell (p:=⟨b,_,none⟩) hlt]
 exact hc k hk j hj
theorem IsRows.range {w W:World} {b off len n:Nat} {V:Nat→List Value} (h:IsRows w (some ⟨b,off,none⟩) len n V) (hbl:Below w.heap.size w W) {k:Nat} (hk:k<len):W.rangeAt b (off+k*n) (V k):=fun j v hv=>by
 have hj:j<n:=by have:=(List.getElem?_eq_some_iff.1 hv).1;rw [h.2.1 k hk] at this;exact this
 rw [h.at hbl hk j hj];exact hv
theorem slow_any (K:Nat) (w:World) (hK:K≤1000):Calls Tryz.prog 213 #[.int .i64 K] w fun e w'=>e=.returned (.int .i64 ((K / 2+1:Nat):Int))∧Below w.heap.size w w':=by
 go_enter Tryz.func213,Tryz.ntmps213
 go_wp2_with fail
 go_ret
 exact⟨ret_int (by omega),by go_grown⟩
theorem fast_any (K:Nat) (w:World) (hK:K≤1000):Calls Tryz.prog 215 #[.int .i64 K] w fun e w'=>e=.returned (.int .i64 ((K:Int) - 1))∧Below w.heap.size w w':=by
 go_enter Tryz.func215,Tryz.ntmps215
 go_wp2_with fail
 go_ret
 exact⟨ret_int (by omega),by go_grown⟩
end
end Go.Proofs.YtimdpiifpibgfaaGreatDoor
