/- For every input the law TopFast returns true (a part of the proof). Condition: the listed variables start as the program's text lays them. -/
import Derived.Test.YtimdpiifpibgfaaGreatDoorQf4
set_option linter.unusedVariables false
set_option linter.unusedSimpArgs false
set_option maxRecDepth 20000
set_option maxHeartbeats 16000000
namespace Go.Proofs.YtimdpiifpibgfaaGreatDoor
section
open Go.RowKit
structure Jx (w W:World) (g2 g3:Nat) (a:At):Prop where
 bel:Below w.heap.size w W
 z:Holds W g2 43 (At.of 0).cells
 a:Holds W g3 43 a.cells
 ge:w.heap.size≤g2
 ge2:w.heap.size≤g3
 ne:g2≠g3
theorem Jx.below {w W W':World} {g2 g3:Nat} {a:At} (h:Jx w W g2 g3 a) (hb:Below W.heap.size W W'):Jx w W' g2 g3 a:=
 ⟨h.bel.trans (hb.mono h.bel.size),h.z.below hb h.z.lt,h.a.below hb h.a.lt,h.ge,h.ge2,h.ne⟩
theorem Jx.set {w W:World} {g2 g3:Nat} {a a':At} (h:Jx w W g2 g3 a) (i:Nat) (v:Value) (hs:a.cells.set i v=a'.cells):Jx w (W.setCell ⟨g3,i,none⟩ v) g2 g3 a':=by
 have t:=(Touch.refl g3 W).setCell i v
 exact⟨h.bel.trans (t.below h.ge2 h.bel.size),h.z.touch t h.ne,by rw [← hs];exact h.a.set i v,h.ge,h.ge2,h.ne⟩
theorem Jx.cong {w W:World} {g2 g3:Nat} {a a':At} (h:Jx w W g2 g3 a) (he:a.cells=a'.cells):Jx w W g2 g3 a':=⟨h.bel,h.z,by rw [← he];exact h.a,h.ge,h.ge2,h.ne⟩
set_option maxRecDepth 4000 in
theorem join_any (b off len cap:Nat) (S:Nat→At) (w:World) (hS:IsRows w (some ⟨b,off,none⟩) len 8 fun i=>(S i).cells) (hl:1≤len) (hlc:len≤cap) (hcm:cap≤9223372036854775807) :
  Calls Tryz.prog 216 #[.slice (some ⟨b,off,none⟩) len cap] w fun e w'=>e=.returned (.agg (joinAll S (len-1)).cells.toArray)∧Below w.heap.size w w':=by
 have HV:=qh hS
 obtain⟨_,_,he,hlt⟩:=hS.spot (by omega)
 simp only [Option.some.injEq,Addr.mk.injEq] at he
 obtain⟨rfl,rfl,_⟩:=he
 clear hS
 have HR0:=qh (fun W (hb:Below w.heap.size w W)=>by have:=HV.out.range hb (show 0<len by omega);simpa using this)
 obtain⟨R,hR⟩:∃ R,R=joinAll S (len-1):=⟨_,rfl⟩
 rw [← hR]
 have HRR:=qh hR;clear hR
 go_enter Tryz.func216,Tryz.ntmps216
 go_upto_region 4 with (first
  | (refine wpList_load_mid rfl 43 _ rfl b off rfl _ _ (HR0.out _ (by go_grown)) Tryz.underlying43 rfl (by kernel_rfl) ?_)
  | (refine wpList_store_at rfl 43 _ _ rfl rfl _ _ (S 0).cells.toArray (w.heap.size+1) (by simp) rfl rfl (by kernel_rfl) (by kernel_rfl) (At.cells_one _) ?_))
 have hjx:Jx w ((w.alloc (.cells #[.int .i64 0,.int .i64 0,.int .i64 0,.int .i64 0,.int .i64 0,.int .i64 0,.int .i64 0,.int .i64 0] 43)).alloc (.cells (S 0).cells.toArray 43)) w.heap.size (w.heap.size+1) (S 0):=by
  refine⟨by go_grown,holds_past (holds_alloc w _ (At.of 0).cells) _,?_,Nat.le_refl _,by omega,by omega⟩
  have:=holds_alloc (w.alloc (.cells (At.of 0).cells.toArray 43)) 43 (S 0).cells
  rw [World.size_alloc] at this
  exact this
 go_name_world W hW
 rw [hW] at hjx
 clear hW HR0
 have HJ:=qh hjx;clear hjx
 generalize w.heap.size=g2 at HJ
 generalize g2+1=g3 at HJ ⊢
 by_cases h1:len=1
 ·subst h1
  by_cases hcap:cap=1
  ·subst hcap
   go_wp2_with fail
   go_loopw [18] (fun i wr=>i=.int .i64 0∧Jx w wr g2 g3 (S 0)) (fun _ _=>0)
   case atStart=>exact⟨rfl,HJ.out⟩
   case round=>
    clear HJ
    obtain⟨rfl,hj⟩:=hrel
    have HJ:=qh (show Jx w wr g2 g3 (joinAll S (1-1)) from hj)
    clear hj
    have hb3:∃ A:At,A=joinAll S (1-1)∧Jx w wr g2 g3 A:=⟨_,rfl,HJ.out⟩
    clear HJ
    obtain⟨A,hA,hj⟩:=hb3
    have HRA:=qh (show R=A by rw [HRR.out,hA])
    clear hA
    have a0:=hj.a.cell 0
    have a1:=hj.a.cell 1
    have a2:=hj.a.cell 2
    have a3:=hj.a.cell 3
    have a4:=hj.a.cell 4
    have a5:=hj.a.cell 5
    have a6:=hj.a.cell 6
    have a7:=hj.a.cell 7
    have u0:=hj.z.cell 0
    have u1:=hj.z.cell 1
    have u2:=hj.z.cell 2
    have u3:=hj.z.cell 3
    have u4:=hj.z.cell 4
    have u5:=hj.z.cell 5
    have u6:=hj.z.cell 6
    have u7:=hj.z.cell 7
    simp only [At.cells,At.of,yA,yB] at a0 a1 a2 a3 a4 a5 a6 a7 u0 u1 u2 u3 u4 u5 u6 u7
    have uf:=fun i=>hj.z.free i
    have hne:=hj.ne
    have HJ:=qh hj;clear hj
    go_wp2_with fail
    clear a0 a1 a2 a3 a4 a5 a6 a7 u0 u1 u2 u3 u4 u5 u6 u7 uf
    have t1:=((((((((Touch.refl g2 wr).setCell 0 (.int .i64 A.q)).setCell 1 (.int .i64 (A.d 0))).setCell 2 (.int .i64 (A.d 1))).setCell 3 (.int .i64 (A.d 2))).setCell 4 (.int .i64 (A.d 3))).setCell 5 (.int .i64 (A.d 4))).setCell 6 (.int .i64 (A.d 5))).setCell 7 (.int .i64 (A.d 6))
    have s1:=((((((((HJ.out.z).set 0 (.int .i64 A.q)).set 1 (.int .i64 (A.d 0))).set 2 (.int .i64 (A.d 1))).set 3 (.int .i64 (A.d 2))).set 4 (.int .i64 (A.d 3))).set 5 (.int .i64 (A.d 4))).set 6 (.int .i64 (A.d 5))).set 7 (.int .i64 (A.d 6))
    simp only [At.cells,At.of,List.set_cons_succ,List.set_cons_zero] at s1
    have b1:=HJ.out.bel.trans (t1.below HJ.out.ge HJ.out.bel.size)
    generalize ((((((((wr.setCell ⟨g2,0,none⟩ (.int .i64 A.q)).setCell ⟨g2,1,none⟩ (.int .i64 (A.d 0))).setCell ⟨g2,2,none⟩ (.int .i64 (A.d 1))).setCell ⟨g2,3,none⟩ (.int .i64 (A.d 2))).setCell ⟨g2,4,none⟩ (.int .i64 (A.d 3))).setCell ⟨g2,5,none⟩ (.int .i64 (A.d 4))).setCell ⟨g2,6,none⟩ (.int .i64 (A.d 5))).setCell ⟨g2,7,none⟩ (.int .i64 (A.d 6)))=W3 at s1 b1 ⊢
    have y0:=s1.cell 0
    have y1:=s1.cell 1
    have y2:=s1.cell 2
    have y3:=s1.cell 3
    have y4:=s1.cell 4
    have y5:=s1.cell 5
    have y6:=s1.cell 6
    have y7:=s1.cell 7
    simp only [yA,yB] at y0 y1 y2 y3 y4 y5 y6 y7
    exact bodyPost_ret (v:=.agg A.cells.toArray) (by simp [results,Tryz.results216,go_sem,y0,y1,y2,y3,y4,y5,y6,y7,At.cells]) rfl ⟨by rw [HRA.out],b1⟩
  ·go_wp2_with fail
   go_loopw [18] (fun i wr=>i=.int .i64 0∧Jx w wr g2 g3 (S 0)) (fun _ _=>0)
   case atStart=>exact⟨rfl,HJ.out⟩
   case round=>
    clear HJ
    obtain⟨rfl,hj⟩:=hrel
    have HJ:=qh (show Jx w wr g2 g3 (joinAll S (1-1)) from hj)
    clear hj
    have hb3:∃ A:At,A=joinAll S (1-1)∧Jx w wr g2 g3 A:=⟨_,rfl,HJ.out⟩
    clear HJ
    obtain⟨A,hA,hj⟩:=hb3
    have HRA:=qh (show R=A by rw [HRR.out,hA])
    clear hA
    have a0:=hj.a.cell 0
    have a1:=hj.a.cell 1
    have a2:=hj.a.cell 2
    have a3:=hj.a.cell 3
    have a4:=hj.a.cell 4
    have a5:=hj.a.cell 5
    have a6:=hj.a.cell 6
    have a7:=hj.a.cell 7
    have u0:=hj.z.cell 0
    have u1:=hj.z.cell 1
    have u2:=hj.z.cell 2
    have u3:=hj.z.cell 3
    have u4:=hj.z.cell 4
    have u5:=hj.z.cell 5
    have u6:=hj.z.cell 6
    have u7:=hj.z.cell 7
    simp only [At.cells,At.of,yA,yB] at a0 a1 a2 a3 a4 a5 a6 a7 u0 u1 u2 u3 u4 u5 u6 u7
    have uf:=fun i=>hj.z.free i
    have hne:=hj.ne
    have HJ:=qh hj;clear hj
    go_wp2_with fail
    clear a0 a1 a2 a3 a4 a5 a6 a7 u0 u1 u2 u3 u4 u5 u6 u7 uf
    have t1:=((((((((Touch.refl g2 wr).setCell 0 (.int .i64 A.q)).setCell 1 (.int .i64 (A.d 0))).setCell 2 (.int .i64 (A.d 1))).setCell 3 (.int .i64 (A.d 2))).setCell 4 (.int .i64 (A.d 3))).setCell 5 (.int .i64 (A.d 4))).setCell 6 (.int .i64 (A.d 5))).setCell 7 (.int .i64 (A.d 6))
    have s1:=((((((((HJ.out.z).set 0 (.int .i64 A.q)).set 1 (.int .i64 (A.d 0))).set 2 (.int .i64 (A.d 1))).set 3 (.int .i64 (A.d 2))).set 4 (.int .i64 (A.d 3))).set 5 (.int .i64 (A.d 4))).set 6 (.int .i64 (A.d 5))).set 7 (.int .i64 (A.d 6))
    simp only [At.cells,At.of,List.set_cons_succ,List.set_cons_zero] at s1
    have b1:=HJ.out.bel.trans (t1.below HJ.out.ge HJ.out.bel.size)
    generalize ((((((((wr.setCell ⟨g2,0,none⟩ (.int .i64 A.q)).setCell ⟨g2,1,none⟩ (.int .i64 (A.d 0))).setCell ⟨g2,2,none⟩ (.int .i64 (A.d 1))).setCell ⟨g2,3,none⟩ (.int .i64 (A.d 2))).setCell ⟨g2,4,none⟩ (.int .i64 (A.d 3))).setCell ⟨g2,5,none⟩ (.int .i64 (A.d 4))).setCell ⟨g2,6,none⟩ (.int .i64 (A.d 5))).setCell ⟨g2,7,none⟩ (.int .i64 (A.d 6)))=W3 at s1 b1 ⊢
    have y0:=s1.cell 0
    have y1:=s1.cell 1
    have y2:=s1.cell 2
    have y3:=s1.cell 3
    have y4:=s1.cell 4
    have y5:=s1.cell 5
    have y6:=s1.cell 6
    have y7:=s1.cell 7
    simp only [yA,yB] at y0 y1 y2 y3 y4 y5 y6 y7
    exact bodyPost_ret (v:=.agg A.cells.toArray) (by simp [results,Tryz.results216,go_sem,y0,y1,y2,y3,y4,y5,y6,y7,At.cells]) rfl ⟨by rw [HRA.out],b1⟩
 ·have hcap:¬ cap=1:=by omega
  go_wp2_with fail
  go_loopw [18] (fun i wr=>∃ k:Nat,k≤len-1∧i=.int .i64 k∧Jx w wr g2 g3 (joinAll S k)) (fun i _=>(len-1) - (intOf i).toNat)
  case atStart=>exact⟨0,by omega,rfl,HJ.out⟩
  case round=>
   clear HJ
   obtain⟨k,hk,rfl,hj⟩:=hrel
   by_cases h2:k<len-1
   ·have HJN:=qh (show joinAll S (k+1)=(joinAll S k).join (S (k+1)) from rfl)
    generalize joinAll S k=A at hj HJN
    have hr:=HV.out.range hj.bel (show k+1<len by omega)
    rw [show off+(k+1)*8=off+8+k*8 by omega] at hr
    generalize S (k+1)=B at hr HJN
    have HR:=qh hr;clear hr
    have HJ:=qh hj;clear hj
    go_upto_region 7 with (first
     | (refine wpList_load_mid rfl 43 _ rfl b (off+8+k*8) rfl _ _ HR.out Tryz.underlying43 rfl (by kernel_rfl) ?_)
     | (refine wpList_store_new rfl 43 _ _ rfl rfl _ _ B.cells.toArray rfl rfl (by kernel_rfl) (by kernel_rfl) (At.cells_one _) ?_))
    have hbx:=holds_alloc wr 43 B.cells
    have hj2:Jx w (wr.alloc (.cells B.cells.toArray 43)) g2 g3 A:=HJ.out.below (by go_grown)
    have hn3:¬ wr.heap.size=g3:=by have:=HJ.out.a.lt;omega
    have hn3':¬ g3=wr.heap.size:=fun h=>hn3 h.symm
    go_name_world W2 hW2
    rw [hW2] at hbx hj2
    clear hW2 HR HJ
    generalize wr.heap.size=gb at hbx hn3 hn3' ⊢
    have b0:=hbx.cell 0
    have b1:=hbx.cell 1
    have b2:=hbx.cell 2
    have b3:=hbx.cell 3
    have b4:=hbx.cell 4
    have b5:=hbx.cell 5
    have b6:=hbx.cell 6
    have b7:=hbx.cell 7
    have a0:=hj2.a.cell 0
    simp only [At.cells,yA,yB] at b0 b1 b2 b3 b4 b5 b6 b7 a0
    have af:=hj2.a.free 0
    have HJ0:=qh (hj2.set (a':=joinIn A B 0) 0 (.int .i64 (mxI A.q B.q)) (joinIn_zero A B).symm)
    clear hj2
    have hidx:=fun q hq W=>idx_deps B.d q hq W
    generalize hB0:B.d 0=d0,hB1:B.d 1=d1,hB2:B.d 2=d2,hB3:B.d 3=d3,hB4:B.d 4=d4,hB5:B.d 5=d5,hB6:B.d 6=d6 at b1 b2 b3 b4 b5 b6 b7 hidx
    clear hB0 hB1 hB2 hB3 hB4 hB5 hB6
    have HI:=qh hidx;clear hidx hbx
    have hmx:(A.q<B.q∧mxI A.q B.q=B.q)∨(¬ A.q<B.q∧mxI A.q B.q=A.q):=by
     by_cases h:A.q<B.q
     ·exact .inl ⟨h,if_pos h⟩
     ·exact .inr ⟨h,if_neg h⟩
    rcases hmx with⟨hq,hm⟩|⟨hq,hm⟩
    all_goals
     rw [show mxI A.q B.q=max A.q B.q from by unfold mxI;split<;>omega] at HJ0
     clear hm
     go_wp2_with fail
     clear b0 b1 b2 b3 b4 b5 b6 b7 a0 af
     go_loopw [30] (fun r w4=>∃ q:Nat,q≤7∧r=.int .i64 q∧Jx w w4 g2 g3 (joinIn A B q)) (fun r _=>7 - (intOf r).toNat)
     case atStart=>exact⟨0,by omega,rfl,HJ0.out⟩
     case round=>
      clear HJ0
      obtain⟨q,hq,rfl,hj⟩:=hrel
      by_cases h3:q<7
      ·have hix:=HI.out q h3
       have hcell:=hj.a.cell (1+q)
       rw [joinIn_get A B q h3] at hcell
       have hfree:=hj.a.free (1+q)
       have HS:=qh (hj.set (a':=joinIn A B (q+1)) (1+q) (.int .i64 (mxI (A.d q) (B.d q))) (joinIn_set A B q h3))
       clear hj
       by_cases h4:A.d q<B.d q
       ·rw [show mxI (A.d q) (B.d q)=max (A.d q) (B.d q) from by unfold mxI;split<;>omega] at HS
        go_wp2_with fail
        go_roundw
        case rel=>exact⟨q+1,by omega,by go_num,HS.out⟩
        case measure=>simp [intOf];omega
       ·rw [show mxI (A.d q) (B.d q)=max (A.d q) (B.d q) from by unfold mxI;split<;>omega] at HS
        go_wp2_with fail
        go_roundw
        case rel=>exact⟨q+1,by omega,by go_num,HS.out⟩
        case measure=>simp [intOf];omega
      ·have hq7:q=7:=by omega
       subst hq7
       have hj':=hj.cong (joinIn_seven A B)
       rw [← HJN.out] at hj'
       have HJ:=qh hj';clear hj'
       clear hj
       go_wp2_with fail
       go_roundw
       case rel=>exact⟨k+1,by omega,by go_num,HJ.out⟩
       case measure=>simp [intOf];omega
   ·have hkl:k=len-1:=by omega
    subst hkl
    have HJ:=qh hj;clear hj
    have hb3:∃ A:At,A=joinAll S (len-1)∧Jx w wr g2 g3 A:=⟨_,rfl,HJ.out⟩
    clear HJ
    obtain⟨A,hA,hj⟩:=hb3
    have HRA:=qh (show R=A by rw [HRR.out,hA])
    clear hA
    have a0:=hj.a.cell 0
    have a1:=hj.a.cell 1
    have a2:=hj.a.cell 2
    have a3:=hj.a.cell 3
    have a4:=hj.a.cell 4
    have a5:=hj.a.cell 5
    have a6:=hj.a.cell 6
    have a7:=hj.a.cell 7
    have u0:=hj.z.cell 0
    have u1:=hj.z.cell 1
    have u2:=hj.z.cell 2
    have u3:=hj.z.cell 3
    have u4:=hj.z.cell 4
    have u5:=hj.z.cell 5
    have u6:=hj.z.cell 6
    have u7:=hj.z.cell 7
    simp only [At.cells,At.of,yA,yB] at a0 a1 a2 a3 a4 a5 a6 a7 u0 u1 u2 u3 u4 u5 u6 u7
    have uf:=fun i=>hj.z.free i
    have hne:=hj.ne
    have HJ:=qh hj;clear hj
    go_wp2_with fail
    clear a0 a1 a2 a3 a4 a5 a6 a7 u0 u1 u2 u3 u4 u5 u6 u7 uf
    have t1:=((((((((Touch.refl g2 wr).setCell 0 (.int .i64 A.q)).setCell 1 (.int .i64 (A.d 0))).setCell 2 (.int .i64 (A.d 1))).setCell 3 (.int .i64 (A.d 2))).setCell 4 (.int .i64 (A.d 3))).setCell 5 (.int .i64 (A.d 4))).setCell 6 (.int .i64 (A.d 5))).setCell 7 (.int .i64 (A.d 6))
    have s1:=((((((((HJ.out.z).set 0 (.int .i64 A.q)).set 1 (.int .i64 (A.d 0))).set 2 (.int .i64 (A.d 1))).set 3 (.int .i64 (A.d 2))).set 4 (.int .i64 (A.d 3))).set 5 (.int .i64 (A.d 4))).set 6 (.int .i64 (A.d 5))).set 7 (.int .i64 (A.d 6))
    simp only [At.cells,At.of,List.set_cons_succ,List.set_cons_zero] at s1
    have b1:=HJ.out.bel.trans (t1.below HJ.out.ge HJ.out.bel.size)
    generalize ((((((((wr.setCell ⟨g2,0,none⟩ (.int .i64 A.q)).setCell ⟨g2,1,none⟩ (.int .i64 (A.d 0))).setCell ⟨g2,2,none⟩ (.int .i64 (A.d 1))).setCell ⟨g2,3,none⟩ (.int .i64 (A.d 2))).setCell ⟨g2,4,none⟩ (.int .i64 (A.d 3))).setCell ⟨g2,5,none⟩ (.int .i64 (A.d 4))).setCell ⟨g2,6,none⟩ (.int .i64 (A.d 5))).setCell ⟨g2,7,none⟩ (.int .i64 (A.d 6)))=W3 at s1 b1 ⊢
    have y0:=s1.cell 0
    have y1:=s1.cell 1
    have y2:=s1.cell 2
    have y3:=s1.cell 3
    have y4:=s1.cell 4
    have y5:=s1.cell 5
    have y6:=s1.cell 6
    have y7:=s1.cell 7
    simp only [yA,yB] at y0 y1 y2 y3 y4 y5 y6 y7
    exact bodyPost_ret (v:=.agg A.cells.toArray) (by simp [results,Tryz.results216,go_sem,y0,y1,y2,y3,y4,y5,y6,y7,At.cells]) rfl ⟨by rw [HRA.out],b1⟩
end
end Go.Proofs.YtimdpiifpibgfaaGreatDoor
