/- A part of the proof that the law TopCopies returns true for every input. -/
import Derived.Deep.Slices
import Derived.Laws.AppendOwnNone
import Derived.Deep.WholeRow
import Derived.Test.YtimdpiifpibgfaaGreatDoorQc4
set_option linter.all false
set_option maxRecDepth 20000
set_option maxHeartbeats 16000000
open Go.RowKit Go.Maps
namespace Go.Proofs.YtimdpiifpibgfaaGreatDoor
open Tryz
section
def GZ(d u:Nat→Int)(t:Nat):Int:=max (d t) (min (max (u t) 0) 1073741824)
structure D6(g b:Nat)(w w':World):Prop where
 os:w'.os=w.os
 tape:w'.tape=w.tape
 output:w'.output=w.output
 size:w.heap.size≤w'.heap.size
 block:∀k,k<w.heap.size→k≠g→k≠b→w'.heap[k]?=w.heap[k]?
theorem D6.refl(g b:Nat)(w:World):D6 g b w w:=⟨rfl,rfl,rfl,Nat.le_refl _,λ_ _ _ _=>rfl⟩
theorem D6.left{g b:Nat}{w w1 w2:World}(h:D6 g b w w1)(k:Touch g w1 w2):D6 g b w w2:=
 ⟨k.os.trans h.os,k.tape.trans h.tape,k.output.trans h.output,Nat.le_trans h.size k.size,λi hi h1 h2=>(k.block i (Nat.lt_of_lt_of_le hi h.size) h1).trans (h.block i hi h1 h2)⟩
theorem D6.right{g b:Nat}{w w1 w2:World}(h:D6 g b w w1)(k:Touch b w1 w2):D6 g b w w2:=
 ⟨k.os.trans h.os,k.tape.trans h.tape,k.output.trans h.output,Nat.le_trans h.size k.size,λi hi h1 h2=>(k.block i (Nat.lt_of_lt_of_le hi h.size) h2).trans (h.block i hi h1 h2)⟩
theorem D6.fresh{g b R:Nat}{w w1 w2:World}(h:D6 g b w w1)(k:Touch R w1 w2)(hR:w.heap.size≤R):D6 g b w w2:=
 ⟨k.os.trans h.os,k.tape.trans h.tape,k.output.trans h.output,Nat.le_trans h.size k.size,λi hi h1 h2=>(k.block i (Nat.lt_of_lt_of_le hi h.size) (by omega)).trans (h.block i hi h1 h2)⟩
theorem D6.below{g b:Nat}{w w1 w2:World}(h:D6 g b w w1)(k:Below w1.heap.size w1 w2):D6 g b w w2:=h.left (.of_below k)
theorem VO(m:Value)(d:Nat→Int)(k:Nat)(hk:k<7)(v:Int):(m :: Cf d).set (1+k) (.int .i64 v)=m :: Cf λj=>if j=k then v else d j:=by
 have:k=0∨k=1∨k=2∨k=3∨k=4∨k=5∨k=6:=by omega
 rcases this with rfl|rfl|rfl|rfl|rfl|rfl|rfl<;>rfl
theorem DL.iy{w w':World}{g b n:Nat}{d d':Nat→Int}{l:List Bf}(h:DL w g b n d l)(ht:Touch g w w')(hc:Holds w' g 312 (.map (some b) :: Cf d')):DL w' g b n d' l:=by obtain⟨D,hm,hl⟩:=h.map;exact⟨hc,⟨D,hm.kept (row:=some g) ⟨ht.os,ht.tape,ht.output,ht.size,λk hk hne=>ht.block k hk (λe=>hne (by rw[e]))⟩ (by simpa using h.ne.symm),hl⟩,h.good⟩
theorem FP(d:Nat→Int)(k:Nat)(hk:k<7)(w:World) :(Instr.index 41 (.agg #[.int .i64 (d 0),.int .i64 (d 1),.int .i64 (d 2),.int .i64 (d 3),.int .i64 (d 4),.int .i64 (d 5),.int .i64 (d 6)]) (.int .i64 k)).run prog w=.ok (.int .i64 (d k)) w:=by rcases(show k=0∨k=1∨k=2∨k=3∨k=4∨k=5∨k=6 by omega) with rfl|rfl|rfl|rfl|rfl|rfl|rfl<;>kernel_rfl
def pruned(l:List Bf)(d:Nat→Int):List Bf:=l.filter λe=>decide (d e.r.toNat<e.s)
set_option maxRecDepth 4000 in
theorem prune_any(g b n:Nat)(d u:Nat→Int)(l:List Bf)(w:World)(h:DL w g b n d l) :Calls prog 118 #[.pointer (some ⟨g,0,none⟩),.agg (Cf u).toArray] w λe w'=> e=.returned (.tuple #[])∧DL w' g b n (GZ d u) (pruned l (GZ d u))∧D6 g b w w':=by
 have HI:=qh h;clear h;unfold Cf;go_in;have hi1:=HI.below (show Below w.heap.size w (w.alloc (.cells #[.int .i64 (u 0),.int .i64 (u 1),.int .i64 (u 2),.int .i64 (u 3),.int .i64 (u 4),.int .i64 (u 5),.int .i64 (u 6)] 41)) by go_grown);have ht1:=(D6.refl g b w).below (show Below w.heap.size w (w.alloc (.cells #[.int .i64 (u 0),.int .i64 (u 1),.int .i64 (u 2),.int .i64 (u 3),.int .i64 (u 4),.int .i64 (u 5),.int .i64 (u 6)] 41)) by go_grown);have HI1:=qh hi1;have HT1:=qh ht1;clear hi1 ht1 HI;go_wp2_with fail;go_loopw [8] (λi wr=>∃j:Nat,j≤7∧i=.int .i64 j∧DL wr g b n (λt=>if t<j then GZ d u t else d t) l∧D6 g b w wr) (λi _=>7 - (intOf i).toNat);case atStart=>exact⟨0,by omega,rfl,HI1.o,HT1.o⟩
 case round=>
  clear HI1 HT1;obtain⟨j,hj,rfl,hi,ht⟩:=hrel;have HI:=qh hi;have HT:=qh ht;clear hi ht;by_cases hj7:j<7
  ·have cj:=HI.ix.cell (1+j);rw[Gi _ _ _ hj7,if_neg (Nat.lt_irrefl j)] at cj;have cf:=HI.ix.free (1+j);have hS:=HI.ix.set (1+j) (.int .i64 (GZ d u j));rw[VO _ _ _ hj7] at hS;have hfn:(λt=>if t=j then GZ d u j else if t<j then GZ d u t else d t)=λt=>if t<j+1 then GZ d u t else d t:=by
    funext t
    by_cases h1:t=j
    ·rw[if_pos h1,if_pos (by omega),h1]
    ·rw[if_neg h1];by_cases h2:t<j
     ·rw[if_pos h2,if_pos (by omega)]
     ·rw[if_neg h2,if_neg (by omega)]
   rw[hfn] at hS;have HS:=qh hS;clear hS hfn;have hix:=λW=>FP u j hj7 W;go_upto_region 4 with(fail);clear hix;go_region;go_wp2_with fail;go_roundw;case rel=>exact⟨j+1,by omega,by go_num,HI.iy ((Touch.refl g wr).setCell (1+j) _).drew HS.o,HT.left ((Touch.refl g wr).setCell (1+j) _).drew⟩
   case measure=>simp[intOf];omega
  ·have hj77:j=7:=by omega
   subst hj77;have hfn:Cf (λt=>if t<7 then GZ d u t else d t)=Cf (GZ d u):=by simp[Cf]
   have hi7:DL wr g b n (GZ d u) l:=⟨by rw[←hfn];exact HI.ix,HI.map,HI.good⟩;clear HI hfn hj hj7;generalize hee:GZ d u=e at hi7;have HEE:=qh hee;clear hee;have m0:=hi7.ix.cell 0;simp only[List.getElem?_cons_zero] at m0;obtain⟨D0,hown,hl0⟩:=hi7.map;have hne0:=hi7.ne;have hgd:=hi7.good;go_wp2_with (first|(at_range;refine wpList_range_own _ rfl _ 310 rfl 37 363 CG underlying310 BO b n D0 rfl hown ?_;intro w0 hrg0 hg0 hs0)|fail)
   go_frame
   have hB0:Below wr.heap.size wr w0:=⟨hg0.os,hg0.tape,hg0.output,hg0.size,λk hk=>hg0.block k hk (by simp)⟩;have HX:=qh (hi7.ix.below hB0 hi7.ix.lt);have HT0:=qh (HT.below hB0);have HSZ:=qh (show w.heap.size≤wr.heap.size from HT.size);have HGR:=qh (show g≠wr.heap.size by have:=hi7.lt.1;omega);have HF0:=qh (show l.filter (Ht e (Maps.has D0))=l by
    rw[List.filter_eq_self];intro x hx;unfold Ht;rw[Maps.has_true_of_atKey (hl0.at_ x hx)]
    rfl)
   have HRG:=qh hrg0;have HL:=qh hl0;have HGD:=qh hgd;have HN:=qh hne0;clear hi7 hown hl0 hrg0 hg0 hs0 hB0 m0 hgd hne0 HT;generalize wr.heap.size=R at HSZ HGR HRG ⊢;go_loopw [6] (λ_ wx=>∃(left:Lit→Bool) (cnt:Nat) (D:DataW Value),wx.ranges prog 37 BO b R n D left cnt∧Lists D (l.filter (Ht e left))∧Holds wx g 312 (.map (some b) :: Cf e)∧D6 g b w wx) (λ_ wx=>wx.rangeLeft b R);case atStart=>exact⟨_,_,D0,HRG.o,by rw[HF0.o];exact HL.o,HX.o,HT0.o⟩
   case round=>
    clear HRG HX HT0 HF0;obtain⟨left,cnt,D,hrg,hli,hx,ht⟩:=hrel;go_wp2_with (first|(at_next;refine wpList_next_ranges _ rfl _ rfl 37 CG BO (λp:Int × Int=>DZ p.1 p.2) (λv:Value=>v) (λkey kl hk=>by obtain⟨r,s,rfl,_⟩:=Hu hk;exact⟨(r,s),rfl⟩) (λv y _=>⟨v,rfl⟩) b R n D _ _ rfl hrg ?_ ?_)|fail)
    ·intro hc0 hl0;have hfe:l.filter (Ht e left)=pruned l e:=List.filter_congr λx hx=>by unfold Ht;rw[hl0];rfl
     rw[hfe] at hli;have HE:=qh (show DL wr g b n e (pruned l e) from⟨hx,⟨D,hrg.owns,hli⟩,λy hy=>HGD.o y (List.mem_filter.1 hy).1⟩);have HT:=qh ht;clear hx hrg hli ht hfe hl0 hc0;go_wp2_with fail
     go_end0
     exact⟨rfl,by rw[HEE.o];exact HE.o,HT.o⟩
    ·intro pr ps cv kl yd yp w1 cnt1 hkey hlk hR hat hrg1 hlt hg1 hs1 hen;have hy:yd=.held cv:=by unfold BO at hR;injection hR with hR;injection hR with hR _;exact hR.symm
     rw[hy] at hat;have hgf:Pz (l.filter (Ht e left)):=λy hy=>HGD.o y (List.mem_filter.1 hy).1;obtain⟨x,hxm,hek,hcv⟩:=hli.find hgf.wf hat;have hxl:=(List.mem_filter.1 hxm).1;have hgx:=HGD.o x hxl;have hw:=HGD.wf x hxl;obtain⟨k,hkr⟩:∃k:Nat,x.r=k:=⟨x.r.toNat,by have:=hgx.1;omega⟩;have hk7:k<7:=by have:=hgx.1;omega
     have hpe:pr=x.r∧ps=x.s:=by rw[←hek] at hkey;have:=CG.inj hkey (Dc x.r x.s hw.1 hw.2);simp only[DZ,Value.agg.injEq,Array.mk.injEq,List.cons.injEq,Value.int.injEq,true_and,and_true] at this;exact this
     obtain⟨h1,h2⟩:=hpe;rw[hkr] at h1;subst h1;subst h2;subst hcv;subst hek;have hT1:=BM hg1;have HX1:=qh (hx.touch hT1 HGR.o);have HT1:=qh (ht.fresh hT1 HSZ.o);have HR1:=qh hrg1;have HL0:=qh hrg.left_eq;have HLT:=qh hlt;have HLI:=qh hli;have HXL:=qh hxl;have HKR:=qh hkr;have HW:=qh hw;have HGF:=qh hgf;clear hrg1 hrg hlt hg1 hs1 hR hy hat hkey hlk hx ht hli hT1 hxl hkr hw hgx hgf hxm;unfold Bf.val LC DZ at hen;simp only[DZ,Bf.val,LC] at hen ⊢;go_upto_region 9 with(fail);go_name_world W hW;have hkb:Holds W w1.heap.size 37 [.int .i64 k,.int .i64 x.s]:=by rw[←hW];exact AA w1 _ _
     have hB:Below w1.heap.size w1 W:=by rw[←hW];go_grown
     clear hW;have HX2:=qh (HX1.below hB HX1.lt);have HT2:=qh (HT1.below hB);have HR2:=qh (HR1.kept (row:=none) ⟨hB.os,hB.tape,hB.output,hB.size,λi hi _=>hB.block i hi⟩ (by simp) (by simp));clear hB;generalize w1.heap.size=gk at hkb ⊢;have k0:=hkb.cell 0;have k1:=hkb.cell 1;have ck:=HX2.cell (1+k);rw[Gi _ _ _ hk7] at ck;simp only[yA,yB] at k0 k1;have HKB:=qh hkb;clear hkb;by_cases hle:x.s≤e k
     ·have HLE:=qh (show ¬e x.r.toNat<x.s by rw[HKR.o,Int.toNat_natCast];omega);go_region;go_upto_region 10 with(fail);go_name_world W3 hW3;have hB3:Below W.heap.size W W3:=by rw[←hW3];go_grown
      clear hW3;have hkb:=HKB.below hB3 HKB.lt;have HX3:=qh (HX2.below hB3 HX2.lt);have HT3:=qh (HT2.below hB3);have HR3:=qh (HR2.kept (row:=none) ⟨hB3.os,hB3.tape,hB3.output,hB3.size,λi hi _=>hB3.block i hi⟩ (by simp) (by simp));clear hB3 k0 k1 ck hle;obtain⟨k0,k1⟩:=CU hkb 0 1;have m0:=Ag HX3.o 0;have hkey:=Dc x.r x.s HW.1 HW.2;rw[HKR.o] at hkey;obtain⟨w5,cnt5,hdel,hr5,hle5,hturn⟩:=(HR3.kept (row:=none) (w':=W3.drew) ⟨rfl,rfl,rfl,Nat.le_refl _,λ_ _ _=>rfl⟩ (by simp) (by simp)).drop CG underlying310 hkey 0;unfold DZ at hdel;have hT5:=BM hturn.grown;have ht4:=HT3.below (w2:=W3.drew) ⟨rfl,rfl,rfl,Nat.le_refl _,λ_ _=>rfl⟩;have hx4:=HX3.drewN 1;have HR5':=qh hr5;have HH:=qh hle5;clear hr5 hle5 hturn hkb;go_region;have hr5:=HR5'.out;have hle5:=HH.o;clear hdel k0 k1 m0;have hkx:x.key=G7 k x.s:=by unfold Bf.key;rw[HKR.o]
      have hl5:=HLI.del HGF.wf x.r x.s HW.1 HW.2;have hfs:=MJ HL.o HGD.wf HXL.o e (left:=left) HLE.o;have hl6:Lists (D.del x.key) (l.filter (Ht e λz=>left z&&!z.sameKey x.key)):=by rw[hfs];exact hl5
      rw[hkx,strike_twice,←hkx] at hr5;have HR5:=qh hr5;have HL6:=qh hl6;have HX5:=qh (hx4.touch hT5 HN.o);have HT5:=qh (ht4.right hT5);clear hr5 hl6 hx4 hT5 ht4 hl5 hfs hkey HR5' HH;go_wp2_with fail;go_roundw;case rel=>exact⟨_,_,_,HR5.o,HL6.o,HX5.o,HT5.o⟩
      case measure=>rw[HR5.left_eq,HL0.o];have:=HLT.o;omega
     ·have HLE:=qh (show e x.r.toNat<x.s by rw[HKR.o,Int.toNat_natCast];omega);go_region;go_wp2_with fail;go_roundw;case rel=>
       refine⟨_,_,_,HR2.kept (row:=none) ⟨rfl,rfl,rfl,Nat.le_refl _,λ_ _ _=>rfl⟩ (by simp) (by simp),?_,HX2.drewN 1,HT2.below ⟨rfl,rfl,rfl,Nat.le_refl _,λ_ _=>rfl⟩⟩;rw[MK HL.o HGD.wf HXL.o e (left:=left) HLE.o];exact HLI.o
      case measure=>rw[(HR2.kept (row:=none) (w':=W.drew) ⟨rfl,rfl,rfl,Nat.le_refl _,λ_ _ _=>rfl⟩ (by simp) (by simp)).left_eq,HL0.o];exact HLT.o
end
theorem Touch.then{g:Nat}{w w1 w2:World}(h:Touch g w w1)(h2:Below w.heap.size w1 w2):Touch g w w2:=
 ⟨h2.os.trans h.os,h2.tape.trans h.tape,h2.output.trans h.output,Nat.le_trans h.size h2.size,λk hk hne=>(h2.block k hk).trans (h.block k hk hne)⟩
theorem Kw{w:World}{g e:Nat}{L:List Value}(h:Holds w g e L):Holds w.drew g e L:=h
abbrev Ju(w:World)(g:Nat)(id seq:Int)(x:Cm)(waits:Bool)(target ticks:Int):Prop:=Holds w g 132 (DU id seq x waits target ticks)
theorem fQ(id:Int)(w:World)(h:1≤id∧id≤8) :Calls prog 46 #[.int .i64 id] w λe w'=>e=.returned (.tuple #[.pointer (some ⟨w.heap.size,0,none⟩),.int .i64 0])∧Ju w' w.heap.size id 0 Cm.zero false 0 0∧Below w.heap.size w w':=by
 obtain⟨h1,h2⟩:=h;go_in;go_wp2_with fail
 go_ret2
 exact⟨rfl,AA w _ _,by go_grown⟩
theorem bV(g:Nat)(id seq:Int)(x:Cm)(waits:Bool)(target ticks n:Int)(w:World)(h:Ju w g id seq x waits target ticks)(hn:waits=false∨n<1) :Calls prog 51 #[.pointer (some ⟨g,0,none⟩),.int .i64 n] w λe w'=>e=.returned (.tuple #[.agg Cm.zero.cells.toArray,.int .i64 0,.bool false])∧Below w.heap.size w w':=by
 have c9:=h.cell 9;have hg:=h.lt;simp only[DU,yA,yB] at c9;have hcase:waits=false∨(waits=true∧n<1):=by
  cases waits
  ·exact .inl rfl
  ·rcases hn with h|h
   ·cases h
   ·exact .inr ⟨rfl,h⟩
 clear hn;rcases hcase with rfl|⟨rfl,hn⟩;all_goals
  go_in;go_wp2_with fail;exact bodyPost_ret (v:=.tuple #[.agg Cm.zero.cells.toArray,.int .i64 0,.bool false]) (by simp[results,results51,go_sem,Cm.zero,Cm.cells];try rfl) rfl ⟨rfl,by go_grown⟩
theorem ZK(g:Nat)(id seq:Int)(x:Cm)(target ticks:Int)(r0 r1 r2 r3 r4:Value)(w:World)(h:Ju w g id seq x true target ticks) :Calls prog 55 #[.pointer (some ⟨g,0,none⟩),.agg #[.int .i64 id,.int .i64 seq,r0,r1,r2,r3,r4]] w λe w'=>e=.returned (.bool true)∧Ju w' g id seq x false target ticks∧Touch g w w':=by
 have c0:=h.cell 0;have c1:=h.cell 1;have c9:=h.cell 9;have f9:=h.free 9;have hg:=h.lt;simp only[DU,yA,yB] at c0 c1 c9;have hH:=qh h;clear h;have e0:(id != id)=false:=by simp
 have e1:(seq != seq)=false:=by simp
 go_in;go_upto_region 1 with(fail);go_region;go_wp2_with fail;have hs:=hH.set 9 (.bool false);simp only[DU,List.set_cons_succ,List.set_cons_zero] at hs;have hA:Holds (((w.setCell ⟨g,9,none⟩ (.bool false)).alloc (.cells #[.int .i64 id,.int .i64 seq,r0,r1,r2,r3,r4] 121)).drew) g 132 (DU id seq x false target ticks):=Ak hs _;go_ret;exact⟨rfl,hA,(((Touch.refl g w).setCell 9 _).next (by go_grown)).drew⟩
section
inductive Jp where
 | bool
 | int (k:IntKind)
 | string
 | slice
def Jp.ok:Jp→Value→Prop
 | .bool,v=>∃b,v=.bool b
 | .int k,v=>∃n,v=.int k n∧(Lit.int k n).wf=true
 | .string,v=>∃s,v=.string s∧s.size≤maxLen
 | .slice,v=>∃a l c,v=.slice a l c
def EK:List Jp→List Value→Prop
 | [],[]=>True
 | l :: ls,v :: vs=>l.ok v∧EK ls vs
 | _,_=>False
theorem EK.length:∀{ls:List Jp} {vs:List Value},EK ls vs→vs.length=ls.length
 | [],[],_=>rfl
 | _ :: ls,_ :: vs,h=>by simp[EK.length h.2]
 | [],_ :: _,h=>h.elim
 | _ :: _,[],h=>h.elim
theorem EK.append:∀{ls ms:List Jp} {vs us:List Value},EK ls vs→EK ms us→EK (ls++ms) (vs++us)
 | [],_,[],_,_,h=>h
 | _ :: _,_,_ :: _,_,h,k=>⟨h.1,EK.append h.2 k⟩
 | [],_,_ :: _,_,h,_=>h.elim
 | _ :: _,_,[],_,h,_=>h.elim
theorem EK.cons{l:Jp}{ls:List Jp}:∀{vs:List Value},EK (l :: ls) vs→∃v r,vs=v :: r∧l.ok v∧EK ls r
 | v :: r,h=>⟨v,r,rfl,h.1,h.2⟩
theorem EK.nil:∀{vs:List Value},EK [] vs→vs=[]
 | [],_=>rfl
def GI(rc:TypeId→Option (List Jp))(P:Program):Nat→List Field→Option (List Jp)
 | _,[]=>some []
 | off,f :: fs=>
  if f.offset=off then
   match rc f.type with
   | some l=>if l.length=P.cellsOf f.type then (match GI rc P (off+l.length) fs with|some r=>some (l++r)|none=>none) else none
   | none=>none
  else none
def leaves(P:Program):Nat→TypeId→Option (List Jp)
 | 0,_=>none
 | n+1,t=>
  match P.underlying t with
  | some .bool=>some [.bool]
  | some (.int k)=>some [.int k]
  | some .string=>some [.string]
  | some (.struct fs)=>match GI (leaves P n) P 0 fs.toList with
   | some l=>if l.length=P.cellsOf t then some l else none
   | none=>none
  | some (.array m e)=>match leaves P n e with
   | some l=>if l.length=P.cellsOf e∧m*l.length=P.cellsOf t then some (List.replicate m l).flatten else none
   | none=>none
  | some (.slice _)=>some [.slice]
  | _=>none
section
variable {H:Type} {enc:TypeId × Value→H} {P:Program} {w:World} {base:Nat} {spare:Nat→Bool} {held:Bool}
theorem QF{m:Nat}{rc:TypeId→Option (List Jp)}(ih:∀t cs x l,DataW.trod enc P w base spare held m t cs=some x→rc t=some l→EK l cs)(cs:List Value) :∀(fs:List Field) (off:Nat) (ls:List Jp),(∀f∈fs,∃y,DataW.trod enc P w base spare held m f.type ((cs.drop f.offset).take (P.cellsOf f.type))=some y)→GI rc P off fs=some ls→EK ls ((cs.drop off).take ls.length)
 | [],off,ls,_,h=>by simp only[GI,Option.some.injEq] at h;subst h;simp[EK]
 | f :: fs,off,ls,hf,h=>by
  unfold GI at h;split at h
  ·rename_i ho;split at h
   ·rename_i l hl;split at h
    ·rename_i hlen;split at h
     ·rename_i r hr;simp only[Option.some.injEq] at h;subst h;obtain⟨y,hy⟩:=hf f (by simp);have h1:=ih _ _ _ _ hy hl;have h2:=QF ih cs fs _ r (λg hg=>hf g (by simp[hg])) hr;rw[ho,←hlen] at h1;have:=h1.append h2;rw[List.length_append,List.take_add,List.drop_drop];exact this
     ·cases h
    ·cases h
   ·cases h
  ·cases h
theorem Ri{cs:List Value}{l:List Jp}:∀(m k:Nat),(∀i,i<m→EK l ((cs.drop ((k+i)*l.length)).take l.length))→EK (List.replicate m l).flatten ((cs.drop (k*l.length)).take (m*l.length))
 | 0,k,_=>by simp[EK]
 | m+1,k,h=>by
  rw[List.replicate_succ,List.flatten_cons,Nat.succ_mul,Nat.add_comm (m*l.length),List.take_add,List.drop_drop];refine EK.append (by simpa using h 0 (by omega)) ?_;have:=Ri (cs:=cs) (l:=l) m (k+1) (λi hi=>by
   have:=h (i+1) (by omega);rwa [show k+(i+1)=k+1+i from by omega] at this)
  rwa [Nat.succ_mul] at this
theorem MR:∀(n m:Nat) (t:TypeId) (cs:List Value) (x:DataW H × List MemPlace) (ls:List Jp),DataW.trod enc P w base spare held m t cs=some x→leaves P n t=some ls→EK ls cs
 | 0,_,_,_,_,_,_,h=>by cases h
 | n+1,m,t,cs,x,ls,h,hl=>by
  unfold leaves at hl;split at hl
  ·rename_i hu;simp only[Option.some.injEq] at hl;subst hl;obtain⟨b,rfl,_⟩:=DataW.trod_bool hu h;exact⟨⟨_,rfl⟩,trivial⟩
  ·rename_i k hu;simp only[Option.some.injEq] at hl;subst hl;obtain⟨q,rfl,_,hwf⟩:=DataW.trod_int hu h;exact⟨⟨q,rfl,hwf⟩,trivial⟩
  ·rename_i hu;simp only[Option.some.injEq] at hl;subst hl;obtain⟨s,rfl,_,hs⟩:=DataW.trod_string hu h;exact⟨⟨_,rfl,hs⟩,trivial⟩
  ·rename_i fs hu;split at hl
   ·rename_i l hfl;split at hl
    ·rename_i hlen;simp only[Option.some.injEq] at hl;subst hl;obtain⟨xs,k,_,_,hcs,hxs,hx⟩:=DataW.trod_struct hu h;have:=QF (m:=k) (λt cs x l h1 h2=>MR n k t cs x l h1 h2) cs fs.toList 0 l (λf hf=>by
      obtain⟨i,hi,hfi⟩:=List.getElem_of_mem hf;have hi2:i<fs.size:=by simpa using hi
      have h2:=hx i f (by rw[Array.getElem?_eq_getElem hi2];simpa using hfi);rw[List.getElem?_eq_getElem (by omega)] at h2;exact⟨_,h2⟩) hfl
     rw[List.drop_zero,List.take_of_length_le (by omega)] at this;exact this
    ·cases hl
   ·cases hl
  ·rename_i q e hu;split at hl
   ·rename_i l hle;split at hl
    ·rename_i hlen;simp only[Option.some.injEq] at hl;subst hl;obtain⟨xs,k,_,_,hcs,hxs,hx⟩:=DataW.trod_array hu h;have:=Ri (cs:=cs) (l:=l) q 0 (λi hi=>by
      have h2:=hx i hi;rw[List.getElem?_eq_getElem (by omega),←hlen.1] at h2;rw[Nat.zero_add];exact MR n k e _ _ _ h2 hle)
     rw[Nat.zero_mul,List.drop_zero,List.take_of_length_le (by rw[hcs,←hlen.2];exact Nat.le_refl _)] at this;exact this
    ·cases hl
   ·cases hl
  ·rename_i e hu;simp only[Option.some.injEq] at hl;subst hl;rcases Deep.open_slice hu h with⟨rfl,_⟩|⟨a,l,c,_,_,_,_,rfl,_⟩
   ·exact⟨⟨_,_,_,rfl⟩,trivial⟩
   ·exact⟨⟨_,_,_,rfl⟩,trivial⟩
  ·cases hl
end
end
def Be(w:World)(a:Option Addr)(len n:Nat)(V:Nat→List Value):Prop:=
 len≤maxLen∧(∀i,i<len→(V i).length=n)∧(0<len→∃b off,a=some ⟨b,off,none⟩∧b<w.heap.size∧∀i,i<len→∀j,j<n→w.cell? ⟨b,off+i*n+j,none⟩=(V i)[j]?)
theorem Be.below{w w':World}{a:Option Addr}{len n:Nat}{V:Nat→List Value}(h:Be w a len n V)(hb:Below w.heap.size w w'):Be w' a len n V:=by obtain⟨h1,h2,h3⟩:=h;refine⟨h1,h2,λh=>?_⟩;obtain⟨b,off,ha,hlt,hc⟩:=h3 h;exact⟨b,off,ha,Nat.lt_of_lt_of_le hlt hb.size,λi hi j hj=>by rw[hb.cell (p:=⟨b,_,none⟩) hlt];exact hc i hi j hj⟩
theorem XJ{H:Type}{enc:TypeId × Value→H}{P:Program}{W:World}{t e:TypeId}{a:Option Addr}{len cap n:Nat}{ls:List Jp}{d:DataW H}{pl:List MemPlace} (ht:P.underlying t=some (.slice e)) (hl:leaves P 9 e=some ls) (hn:P.cellsOf e=n) (h0:0<n) (h:DataW.Trod enc P W 0 (λ_=>true) true t (.slice a len cap) d pl):∃V:Nat→List Value,Be W a len n V∧(∀i,i<len→EK ls (V i))∧len≤cap∧cap≤maxLen:=by
 obtain⟨fuel,hf⟩:=h;subst hn;rcases Deep.open_slice ht hf with⟨hcs,_⟩|⟨x,l,c,m,k,D,Pl,hcs,_,hlc,hm,hmm,hx,hc⟩
 ·simp[Value.cells] at hcs;obtain⟨rfl,rfl,rfl⟩:=hcs;exact⟨λ_=>[],⟨by omega,λi hi=>by omega,λh=>by omega⟩,λi hi=>by omega,by omega,by unfold maxLen;omega⟩
 ·simp[Value.cells] at hcs;obtain⟨rfl,rfl,rfl⟩:=hcs;simp only[if_true] at hmm;subst hmm;obtain⟨V,hV⟩:=Deep.choose_lt (α:=List Value) (p:=λi cs'=>W.cells? 0 (x.add (i*P.cellsOf e)) (P.cellsOf e)=some cs'∧DataW.trod enc P W 0 (λ_=>true) true k e cs'=some (D i,Pl i)) hc;refine⟨V,⟨by omega,λi hi=>(World.cells?_some (hV i (by omega)).1).2.1,λhlen=>?_⟩,λi hi=>MR 9 k e _ _ _ (hV i (by omega)).2 hl,hlc,hm⟩;obtain⟨b,off,spot⟩:=x;obtain⟨_,hl0,hc0⟩:=World.cells?_some (hV 0 (by omega)).1;have h1:=hc0 0 h0;have hne:∃v,(V 0)[0]?=some v:=⟨_,List.getElem?_eq_getElem (by omega)⟩;obtain⟨v,hv⟩:=hne;rw[hv] at h1;have hspot:spot=none:=by simpa[Addr.add] using World.cell?_spot h1
  subst hspot;refine⟨b,off,rfl,by simpa[GU] using block_lt_of_cell h1,λi hi j hj=>?_⟩;have h2:=(World.cells?_some (hV i (by omega)).1).2.2 j hj;rw[GU,GU] at h2;exact h2
structure At where
 q:Int
 d:Nat→Int
def At.cells(a:At):List Value:=[.int .i64 a.q,.int .i64 (a.d 0),.int .i64 (a.d 1),.int .i64 (a.d 2),.int .i64 (a.d 3),.int .i64 (a.d 4),.int .i64 (a.d 5),.int .i64 (a.d 6)]
def At.of(k:Int):At:=⟨k,λ_=>0⟩
def At.eU(a b:At):Bool:=a.q==b.q&&(a.d 0==b.d 0&&(a.d 1==b.d 1&&(a.d 2==b.d 2&&(a.d 3==b.d 3&&(a.d 4==b.d 4&&(a.d 5==b.d 5&&a.d 6==b.d 6))))))
structure Sd where
 r:Int
 st:Int
 pe:Int
 pr:Int
 ve:Int
 vr:Int
 x:Cm
 a:At
 same:Bool
def Sd.cells(s:Sd):List Value:=.int .i64 s.r :: .int .i64 s.st :: .int .i64 s.pe :: .int .i64 s.pr :: .int .i64 s.ve :: .int .i64 s.vr :: (s.x.cells++(s.a.cells++[.bool s.same]))
def below(e1 r1 e2 r2:Int):Bool:=decide (e1<e2)||(e1==e2&&decide (r1<r2))
def TF(a b:Int):Int:=if b > a then b else a
def At.join(a b:At):At:=⟨TF a.q b.q,λi=>TF (a.d i) (b.d i)⟩
def C9(S:Nat→At):Nat→At
 | 0=>S 0
 | k+1=>(C9 S k).join (S (k+1))
def G6(a b:At)(k:Nat):At:=⟨TF a.q b.q,λi=>if i<k then TF (a.d i) (b.d i) else a.d i⟩
theorem Qo(a b:At):(G6 a b 7).cells=(a.join b).cells:=by simp[At.cells,G6,At.join]
theorem SX(a b:At):(G6 a b 0).cells=a.cells.set 0 (.int .i64 (TF a.q b.q)):=by simp[At.cells,G6]
theorem Ui(a b:At)(k:Nat)(hk:k<7):(G6 a b k).cells[1+k]?=some (.int .i64 (a.d k)):=by rcases(show k=0∨k=1∨k=2∨k=3∨k=4∨k=5∨k=6 by omega) with rfl|rfl|rfl|rfl|rfl|rfl|rfl<;>rfl
theorem Uj(a b:At)(k:Nat)(hk:k<7):(G6 a b k).cells.set (1+k) (.int .i64 (TF (a.d k) (b.d k)))=(G6 a b (k+1)).cells:=by rcases(show k=0∨k=1∨k=2∨k=3∨k=4∨k=5∨k=6 by omega) with rfl|rfl|rfl|rfl|rfl|rfl|rfl<;>simp[At.cells,G6]
theorem At.cells_one(s:At):s.cells.toArray.all (·.oneCell')=true:=by simp[At.cells,Value.oneCell']
def Hz(own:At)(R:Nat→At):Nat→Nat
 | 0=>0
 | k+1=>Hz own R k+if (R k).eU own=true then 1 else 0
theorem ZE(own:At)(R:Nat→At)(k:Nat):Hz own R k≤k:=by
 induction k with
 | zero=>exact Nat.le_refl _
 | succ k ih=>unfold Hz;split<;>omega
def Gy(own:At)(R:Nat→At):Nat→At
 | 0=>own
 | k+1=>R k
def TP(K:Nat)(first:Bool)(own:At)(R:Nat→At)(len:Nat)(late:Bool):Int × At:=
 if first=true∧K≤Hz own R len+2 then (1,own)
 else if len<K / 2∨(first=true∧late=false∧len<Hz own R len+2) then (0,At.of 0)
 else (2,C9 (Gy own R) len)
theorem AZ{P:Program}{w:World}{ops:Array Oper}{rest:List Oper}{o:Oper}{a:Act}{Q:Exit→Act→World→Prop}(hgd:o.guard=none)(s x:Operand)(t:TypeId) (ho:o.op=.call { callee:=.builtin .append,args:=#[s,x],argTypes:=#[t,t] }) (base:Nat) (e:TypeId) (z:Value) (size bytes:Nat) (ht:P.underlying t=some (.slice e)) (hi:(P.info? e).map (λi=>(i.zero,i.size,i.bytes))=some (some z,size,bytes)) (hzs:z.cells.size=size) (hsz:0<size) (v:Value) (n:Nat) (xs:List Value) (hs:a.eval s=v) (hown:w.ownsRow base e size v n xs) (sp:Option Addr) (m c:Nat) (news:List Value) (hx:a.eval x=.slice sp m c) (hl:news.length=m*size) (hsrc:Reads w sp news) (hnil:sp=none→c=0) (h1:∀u∈news,u.oneCell'=true) (h63:n+m≤maxLen) (hbytes:(n+m)*bytes≤140737488355328) (hbase:base≤w.heap.size) (h:∀v' w',w'.ownsRow base e size v' (n+m) (xs++news)→Below base w w'→w.grownBy w' v.ownBlock→wpList P ops Q rest (a.put o.dst v') w'):wpList P ops Q (o :: rest) a w:=by
 obtain⟨i,hi0,hz,hsize,hby⟩:=info_parts hi;cases sp with
 | none=>
  obtain rfl:=hnil rfl;have hm:news=[]:=by
   by_cases h0:0<news.length
   ·obtain⟨b,off,hb,_⟩:=hsrc h0;cases hb
   ·exact List.eq_nil_of_length_eq_zero (by omega)
  subst hm;have hm0:m=0:=by
   have hl':m*size=0:=by simpa using hl.symm
   rcases Nat.mul_eq_zero.1 hl' with h|h<;>omega
  subst hm0;refine wpList_append_own_none hgd s x t ho base e i size ht hi0 v n xs hs hown hx ?_;exact h v w (by simpa using hown) (Below.refl _ _) ⟨rfl,rfl,rfl,Nat.le_refl _,λ_ _ _=>rfl⟩
 | some ad=>
  refine wpList_append_own w hgd s x t ho base e i z size bytes ht hi0 hz hsize hby hzs hsz v n xs hs hown ad m c news hx hl ?_ h1 h63 hbytes hbase ?_
  ·intro j u hu;have h0:0<news.length:=by have:=(List.getElem?_eq_some_iff.1 hu).1;omega
   obtain⟨b,off,hb,_,hc⟩:=hsrc h0;simp only[Option.some.injEq] at hb;subst hb;rw[GU];exact hc j u hu
  ·intro v' w' ho' hg _;exact h v' w' ho' ((Below.refl _ _).grown hg hbase λk hk=>(hown.lt k hk).1) hg
theorem Oh(l:List Nat)(i:Nat)(h:i<l.length):(Aa l)[i]?=some (.int .u8 ((l.getD i 0:Nat):Int)):=by simp[Aa,h]
theorem LP(n m:Int)(h0:0<m):n % m=(if n.tmod m<0 then n.tmod m+m else n.tmod m)∧-m<n.tmod m∧n.tmod m<m:=by
 have e:=Int.tmod_eq_emod (a:=n) (b:=m);have h1:=Int.emod_nonneg n (show m≠0 by omega);have h2:=Int.emod_lt_of_pos n h0;by_cases hd:0≤n∨m ∣ n
 ·rw[if_pos hd] at e;simp only[Int.natCast_zero,Int.sub_zero] at e;rw[if_neg (by omega)];omega
 ·rw[if_neg hd] at e;have h3:n % m≠0:=λh=>hd (.inr (Int.dvd_of_emod_eq_zero h));rw[if_pos (by omega)];omega
theorem Xc(n lo hi:Int)(h:lo≤hi):-(hi-lo)≤n.tmod (hi-lo+1)∧n.tmod (hi-lo+1)≤hi-lo:=by have:=LP n (hi-lo+1) (by omega);omega
theorem VC{n lo hi:Int}(h:lo≤hi)(ht:n.tmod (hi-lo+1)<0):n.tmod (hi-lo+1)+hi-lo+1=n % (hi-lo+1):=by have:=LP n (hi-lo+1) (by omega);rw[if_pos ht] at this;omega
theorem VD{n lo hi:Int}(h:lo≤hi)(ht:0≤n.tmod (hi-lo+1)):n.tmod (hi-lo+1)=n % (hi-lo+1):=by have:=LP n (hi-lo+1) (by omega);rw[if_neg (by omega)] at this;omega
theorem LQ(n lo hi:Int)(w:World)(_hn:-9223372036854775808≤n∧n≤9223372036854775807)(h:lo≤hi)(hlo:-1000000000000000000≤lo)(hhi:hi≤1000000000000000000) :Calls prog 10 #[.int .i64 n,.int .i64 lo,.int .i64 hi] w λe w'=>e=.returned (.int .i64 (lo+n % (hi-lo+1)))∧w=w':=by
 have hl:=Xc n lo hi h;go_in
 go_wp2
 ·go_ret;exact⟨Iq (by rw[←VC h ‹_›]),rfl⟩
 ·go_ret;exact⟨Iq (by rw[←VD h ‹_›]),rfl⟩
theorem wf64{n:Int}(h:(Lit.int .i64 n).wf=true):-9223372036854775808≤n∧n≤9223372036854775807:=by simp[Lit.wf,IntKind.min,IntKind.max,IntKind.signed,IntKind.bits] at h;omega
theorem Ai{P:Program}{ops:Array Oper}{rest:List Oper}{op:Oper}{a:Act}{Q:Exit→Act→World→Prop}(hgd:op.guard=none)(ty:TypeId)(x y:Operand)(ho:op.op=.store ty x y)(hd:op.dst=none) (w:World) (c cells:Array Value) (hx:a.eval x=.pointer (some ⟨w.heap.size,0,none⟩)) (hy:a.eval y=.agg cells) (hi:(P.info? ty).map (·.size)=some cells.size) (hc:c.size=cells.size) (h1:cells.all (·.oneCell')=true) (h:wpList P ops Q rest a (w.alloc (.cells cells ty))):wpList P ops Q (op :: rest) a (w.alloc (.cells c ty)):=
 wpList_plain hgd λ_ hK=>by unfold Oper.wp execOp;simp only[ho,hx,hy,Instr.storeAt,Instr.sureAddr,Sem.run_bind,Sem.run_pure,Result.andThen_ok,run_storeVar_new w ty c cells hi hc h1];refine hK _ _ ?_;rw[hd];exact h
theorem Nc{P:Program}{ops:Array Oper}{rest:List Oper}{op:Oper}{a:Act}{Q:Exit→Act→World→Prop}(hgd:op.guard=none)(ty:TypeId)(x y:Operand)(ho:op.op=.store ty x y)(hd:op.dst=none) (w:World) (c cells:Array Value) (g:Nat) (hg:w.heap.size=g) (hx:a.eval x=.pointer (some ⟨g,0,none⟩)) (hy:a.eval y=.agg cells) (hi:(P.info? ty).map (·.size)=some cells.size) (hc:c.size=cells.size) (h1:cells.all (·.oneCell')=true) (h:wpList P ops Q rest a (w.alloc (.cells cells ty))):wpList P ops Q (op :: rest) a (w.alloc (.cells c ty)):=
 Ai hgd ty x y ho hd w c cells (by rw[hg];exact hx) hy hi hc h1 h
theorem Be.spot{w:World}{a:Option Addr}{len n:Nat}{V:Nat→List Value}(h:Be w a len n V)(h0:0<len):∃b off,a=some ⟨b,off,none⟩∧b<w.heap.size:=by obtain⟨b,off,ha,hlt,_⟩:=h.2.2 h0;exact⟨b,off,ha,hlt⟩
theorem Be.at{w W:World}{b off len n:Nat}{V:Nat→List Value}(h:Be w (some ⟨b,off,none⟩) len n V)(hbl:Below w.heap.size w W){k:Nat}(hk:k<len)(j:Nat)(hj:j<n):W.cell? ⟨b,off+k*n+j,none⟩=(V k)[j]?:=by obtain⟨b',off',ha,hlt,hc⟩:=h.2.2 (by omega);simp only[Option.some.injEq,Addr.mk.injEq] at ha;obtain⟨rfl,rfl,_⟩:=ha;rw[hbl.cell (p:=⟨b,_,none⟩) hlt];exact hc k hk j hj
theorem Be.range{w W:World}{b off len n:Nat}{V:Nat→List Value}(h:Be w (some ⟨b,off,none⟩) len n V)(hbl:Below w.heap.size w W){k:Nat}(hk:k<len):W.rangeAt b (off+k*n) (V k):=λj v hv=>by
 have hj:j<n:=by have:=(List.getElem?_eq_some_iff.1 hv).1;rw[h.2.1 k hk] at this;exact this
 rw[h.at hbl hk j hj];exact hv
theorem Be.grown{w:World}{b off len n:Nat}{V:Nat→List Value}(h:Be w (some ⟨b,off,none⟩) len n V)(d:Nat)(os:Array Obj){k:Nat}(hk:k<len)(j:Nat)(hj:j<n):(Sort.grow (redrawn w d) os).cell? ⟨b,off+k*n+j,none⟩=(V k)[j]?:=
 h.at (below_regrown w d os) hk j hj
theorem Sd.cells_one(s:Sd):s.cells.toArray.all (·.oneCell')=true:=by simp[Sd.cells,Cm.cells,At.cells,Value.oneCell']
theorem slow_any(K:Nat)(w:World)(hK:K≤1000):Calls prog 213 #[.int .i64 K] w λe w'=>e=.returned (.int .i64 ((K / 2+1:Nat):Int))∧Below w.heap.size w w':=by go_in;go_wp2_with fail;go_ret;exact⟨Iq (by omega),by go_grown⟩
theorem SB(K:Nat)(w:World)(hK:K≤1000):Calls prog 215 #[.int .i64 K] w λe w'=>e=.returned (.int .i64 ((K:Int) - 1))∧Below w.heap.size w w':=by go_in;go_wp2_with fail;go_ret;exact⟨Iq (by omega),by go_grown⟩
end Go.Proofs.YtimdpiifpibgfaaGreatDoor
