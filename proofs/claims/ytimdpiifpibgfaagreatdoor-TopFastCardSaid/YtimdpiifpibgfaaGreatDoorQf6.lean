/- For every input the law TopFast returns true (a part of the proof). Condition: the listed variables start as the program's text lays them. -/
import Derived.Laws.StructEq
import Derived.Laws.Tables
import Derived.Laws.Cover2
import Derived.Test.YtimdpiifpibgfaaGreatDoorQf5
set_option linter.unusedVariables false
set_option linter.unusedSimpArgs false
set_option maxRecDepth 20000
set_option maxHeartbeats 16000000
namespace Go.Proofs.YtimdpiifpibgfaaGreatDoor
section
open Go.RowKit
theorem drew_below (B:Nat) (w:World):Below B w w.drew:=⟨rfl,rfl,rfl,Nat.le_refl _,fun _ _=>rfl⟩
theorem eq_deps (a0 a1 a2 a3 a4 a5 a6 b0 b1 b2 b3 b4 b5 b6:Int) (w:World):(Op.equalIn 9999 41 (.agg #[.int .i64 a0,.int .i64 a1,.int .i64 a2,.int .i64 a3,.int .i64 a4,.int .i64 a5,.int .i64 a6]) (.agg #[.int .i64 b0,.int .i64 b1,.int .i64 b2,.int .i64 b3,.int .i64 b4,.int .i64 b5,.int .i64 b6])).run Tryz.prog w=.ok (a0==b0&&(a1==b1&&(a2==b2&&(a3==b3&&(a4==b4&&(a5==b5&&a6==b6)))))) w:=by
 have u3:=Tryz.underlying3
 have g3:=Tryz.isAgg3
 have z3:=Tryz.sizeOf3
 rw [show (9999:Nat)=9998+1 from rfl,Op.equalIn]
 simp only [Sem.run_bind,run_underlying Tryz.underlying41,Result.andThen_ok]
 simp only [Std.Legacy.Range.forIn_eq_forIn_range',Std.Legacy.Range.size,Nat.sub_zero,Nat.add_sub_cancel,Nat.div_one,List.range'_succ,List.range'_zero,List.forIn_cons,List.forIn_nil]
 go_simp
 by_cases h0:a0=b0
 ·by_cases h1:a1=b1
  ·by_cases h2:a2=b2
   ·by_cases h3:a3=b3
    ·by_cases h4:a4=b4
     ·by_cases h5:a5=b5
      ·by_cases h6:a6=b6<;>simp [h0,h1,h2,h3,h4,h5,h6]
      ·simp [h0,h1,h2,h3,h4,h5]
     ·simp [h0,h1,h2,h3,h4]
    ·simp [h0,h1,h2,h3]
   ·simp [h0,h1,h2]
  ·simp [h0,h1]
 ·simp [h0]
theorem eq_attr (a b:At) (w:World):(binOp .eql 43 (.agg #[.int .i64 a.q,.int .i64 (a.d 0),.int .i64 (a.d 1),.int .i64 (a.d 2),.int .i64 (a.d 3),.int .i64 (a.d 4),.int .i64 (a.d 5),.int .i64 (a.d 6)]) (.agg #[.int .i64 b.q,.int .i64 (b.d 0),.int .i64 (b.d 1),.int .i64 (b.d 2),.int .i64 (b.d 3),.int .i64 (b.d 4),.int .i64 (b.d 5),.int .i64 (b.d 6)])).run Tryz.prog w=.ok (.bool (a.eqB b)) w:=by
 have hd:=fun w=>eq_deps (a.d 0) (a.d 1) (a.d 2) (a.d 3) (a.d 4) (a.d 5) (a.d 6) (b.d 0) (b.d 1) (b.d 2) (b.d 3) (b.d 4) (b.d 5) (b.d 6) w
 rw [run_eql_struct,show (10000:Nat)=9999+1 from rfl,run_equalIn_struct w 9999 43 _ _ (by kernel_rfl) (by kernel_rfl)]
 unfold At.eqB
 generalize (a.d 0==b.d 0&&(a.d 1==b.d 1&&(a.d 2==b.d 2&&(a.d 3==b.d 3&&(a.d 4==b.d 4&&(a.d 5==b.d 5&&a.d 6==b.d 6))))))=D at hd ⊢
 go_simp
 by_cases h0:a.q=b.q<;>cases D<;>simp [h0,hd]
theorem rows_of_owns {w:World} {base n s:Nat} {e:TypeId} {v:Value} {xs:List Value} (h:w.ownsRow base e s v n xs) (h0:0<n) :
  ∃ g c,v=.slice (some ⟨g,0,none⟩) n c∧base≤g∧n≤c∧c≤maxLen∧∀ V:Nat→List Value,(∀ i,i<n→(V i).length=s)→(∀ i,i<n→∀ j,j<s→xs[i*s+j]?=(V i)[j]?)→IsRows w (some ⟨g,0,none⟩) n s V:=by
 obtain⟨h1,h2⟩:=h
 rcases h2 with⟨_,h2⟩|⟨g,cap,cur,rfl,hg,hh,hc,hm,hs,ht⟩
 ·omega
 ·refine⟨g,cap,rfl,hg,hc,hm,fun V hl hx=>⟨by omega,hl,fun _=>⟨g,0,rfl,(Array.getElem?_eq_some_iff.1 hh).1,fun i hi j hj=>?_⟩⟩⟩
  rw [← hx i hi j hj,← ht]
  have hij:i*s+j<n*s:=by
   have h3:(i+1)*s≤n*s:=Nat.mul_le_mul_right s (by omega)
   rw [Nat.add_mul,Nat.one_mul] at h3
   omega
  rw [List.getElem?_take_of_lt hij,Array.getElem?_toList,Nat.zero_add]
  simp [World.cell?,hh]
def flat (s len:Nat) (V:Nat→List Value):List Value:=(List.range (len*s)).map fun t=>(V (t / s)).getD (t % s) undef
theorem flat_len (s len:Nat) (V:Nat→List Value):(flat s len V).length=len*s:=by simp [flat]
theorem flat_at (s len:Nat) (V:Nat→List Value) (i j:Nat) (hi:i<len) (hj:j<s) (hl:(V i).length=s):(flat s len V)[i*s+j]?=(V i)[j]?:=by
 have hij:i*s+j<len*s:=by
  have h3:(i+1)*s≤len*s:=Nat.mul_le_mul_right s (by omega)
  rw [Nat.add_mul,Nat.one_mul] at h3
  omega
 unfold flat
 rw [List.getElem?_map,List.getElem?_range hij]
 have e1:(i*s+j) / s=i:=by rw [Nat.mul_comm,Nat.mul_add_div (by omega),Nat.div_eq_of_lt hj,Nat.add_zero]
 have e2:(i*s+j) % s=j:=by rw [Nat.mul_comm,Nat.mul_add_mod,Nat.mod_eq_of_lt hj]
 rw [Option.map_some,e1,e2,List.getD_eq_getElem?_getD,List.getElem?_eq_getElem (by omega),Option.getD_some]
theorem cons_rows (own:At) (R:Nat→At) (k i j:Nat) (hi:i<1+k) (hj:j<8):(own.cells++flat 8 k fun i=>(R i).cells)[i*8+j]?=((consA own R i).cells)[j]?:=by
 cases i with
 | zero=>rw [List.getElem?_append_left (by simp [At.cells];omega),Nat.zero_mul,Nat.zero_add];rfl
 | succ i=>
  rw [List.getElem?_append_right (by simp [At.cells];omega),show (i+1)*8+j-own.cells.length=i*8+j by simp [At.cells];omega]
  exact flat_at 8 k _ i j (by omega) hj rfl
theorem IsRows.reads {w W:World} {a:Option Addr} {len s:Nat} {V:Nat→List Value} (h:IsRows w a len s V) (hbl:Below w.heap.size w W) (hs:0<s):Reads W a (flat s len V):=by
 intro h0
 rw [flat_len] at h0
 have hl:0<len:=Nat.pos_of_mul_pos_right h0
 obtain⟨b,off,rfl,hlt⟩:=h.spot hl
 refine⟨b,off,rfl,Nat.lt_of_lt_of_le hlt hbl.size,fun j v hv=>?_⟩
 have hj:j<len*s:=by have:=(List.getElem?_eq_some_iff.1 hv).1;rwa [flat_len] at this
 have hd:=Nat.div_add_mod j s
 have hm:=Nat.mod_lt j hs
 have hk:j / s<len:=Nat.div_lt_of_lt_mul (by rwa [Nat.mul_comm] at hj)
 have h1:=h.at hbl hk (j % s) hm
 have h2:=flat_at s len V (j / s) (j % s) hk hm (h.2.1 _ hk)
 rw [show j / s*s+j % s=j by rw [Nat.mul_comm];exact hd] at h2
 rw [h2,← h1] at hv
 rw [show off+j=off+j / s*s+j % s by rw [Nat.add_assoc,Nat.mul_comm];omega]
 exact hv
theorem flat_one (s len:Nat) (V:Nat→List Value) (hl:∀ i,i<len→(V i).length=s) (h:∀ i,i<len→∀ v∈V i,v.oneCell'=true):∀ u∈flat s len V,u.oneCell'=true:=by
 intro u hu
 obtain⟨k,hk⟩:=List.mem_iff_getElem?.1 hu
 have hk2:k<len*s:=by have:=(List.getElem?_eq_some_iff.1 hk).1;rwa [flat_len] at this
 have hs:0<s:=Nat.pos_of_mul_pos_left (Nat.lt_of_le_of_lt (Nat.zero_le _) hk2)
 have hi:k / s<len:=Nat.div_lt_of_lt_mul (by rwa [Nat.mul_comm] at hk2)
 have hj:=Nat.mod_lt k hs
 have h2:=flat_at s len V (k / s) (k % s) hi hj (hl _ hi)
 rw [show k / s*s+k % s=k by rw [Nat.mul_comm];exact Nat.div_add_mod k s,hk] at h2
 exact h _ hi u (List.mem_of_getElem? h2.symm)
set_option maxRecDepth 4000 in
theorem pre_any (K:Nat) (first late:Bool) (own:At) (a:Option Addr) (len cap:Nat) (R:Nat→At) (w:World) (hS:IsRows w a len 8 fun i=>(R i).cells) (hlc:len≤cap) (hnil:a=none→cap=0) (hK3:3≤K) (hK:K≤7) (hlen:len≤1000000) :
  Calls Tryz.prog 145 #[.int .i64 K,.bool first,.agg #[.int .i64 own.q,.int .i64 (own.d 0),.int .i64 (own.d 1),.int .i64 (own.d 2),.int .i64 (own.d 3),.int .i64 (own.d 4),.int .i64 (own.d 5),.int .i64 (own.d 6)],.slice a len cap,.bool late] w fun e w'=>
   e=.returned (.tuple #[.int .i64 (preA K first own R len late).1,.agg (preA K first own R len late).2.cells.toArray])∧Below w.heap.size w w':=by
 have HV:=qh hS
 have HN:=qh hnil
 clear hS hnil
 obtain⟨R0,hR⟩:∃ R0,R0=preA K first own R len late:=⟨_,rfl⟩
 rw [← hR]
 have HR:=qh hR;clear hR
 go_enter Tryz.func145,Tryz.ntmps145
 have hjx:Jx w ((w.alloc (.cells #[.int .i64 own.q,.int .i64 (own.d 0),.int .i64 (own.d 1),.int .i64 (own.d 2),.int .i64 (own.d 3),.int .i64 (own.d 4),.int .i64 (own.d 5),.int .i64 (own.d 6)] 43)).alloc (.cells #[.int .i64 0,.int .i64 0,.int .i64 0,.int .i64 0,.int .i64 0,.int .i64 0,.int .i64 0,.int .i64 0] 43)) (w.heap.size+1) w.heap.size own:=by
  refine⟨by go_grown,?_,holds_past (holds_alloc w _ own.cells) _,by omega,Nat.le_refl _,by omega⟩
  have:=holds_alloc (w.alloc (.cells own.cells.toArray 43)) 43 (At.of 0).cells
  rw [World.size_alloc] at this
  exact this
 have HJ:=qh hjx;clear hjx
 go_wp2_with fail
 generalize w.heap.size=g7 at HJ
 generalize g7+1=g11 at HJ ⊢
 go_loopw [12,17] (fun sm i wr=>∃ k:Nat,k≤len∧i=.int .i64 k∧sm=.int .i64 (sameA own R k:Nat)∧Jx w wr g11 g7 own) (fun _ i _=>len - (intOf i).toNat)
 case atStart=>exact⟨0,by omega,rfl,rfl,HJ.out⟩
 case round=>
  clear HJ
  obtain⟨k,hk,rfl,rfl,hj⟩:=hrel
  have hsl:=sameA_le own R k
  have HJ:=qh hj;clear hj
  by_cases h1:k<len
  ·obtain⟨b,off,rfl,hlt⟩:=HV.out.spot (by omega)
   have HRG:=qh (HV.out.range HJ.out.bel h1)
   have HSM:=qh (show sameA own R (k+1)=sameA own R k+if (R k).eqB own=true then 1 else 0 from rfl)
   have heq:=eq_attr (R k) own
   generalize sameA own R k=sm0 at HSM hsl ⊢
   generalize R k=B at HRG HSM heq
   go_upto_region 5 with (first
    | (refine wpList_load_mid rfl 43 _ rfl b (off+k*8) rfl _ _ HRG.out Tryz.underlying43 rfl (by kernel_rfl) ?_)
    | (refine wpList_store_new rfl 43 _ _ rfl rfl _ _ B.cells.toArray rfl rfl (by kernel_rfl) (by kernel_rfl) (At.cells_one _) ?_))
   have hbx:=holds_alloc wr 43 B.cells
   have hj2:Jx w (wr.alloc (.cells B.cells.toArray 43)) g11 g7 own:=HJ.out.below (by go_grown)
   go_name_world W2 hW2
   rw [hW2] at hbx hj2
   clear hW2 HRG HJ
   have b0:=hbx.cell 0
   have b1:=hbx.cell 1
   have b2:=hbx.cell 2
   have b3:=hbx.cell 3
   have b4:=hbx.cell 4
   have b5:=hbx.cell 5
   have b6:=hbx.cell 6
   have b7:=hbx.cell 7
   have a0:=hj2.a.cell 0
   have a1:=hj2.a.cell 1
   have a2:=hj2.a.cell 2
   have a3:=hj2.a.cell 3
   have a4:=hj2.a.cell 4
   have a5:=hj2.a.cell 5
   have a6:=hj2.a.cell 6
   have a7:=hj2.a.cell 7
   simp only [At.cells,yA,yB] at b0 b1 b2 b3 b4 b5 b6 b7 a0 a1 a2 a3 a4 a5 a6 a7
   have HJ:=qh hj2;clear hj2 hbx
   generalize B.eqB own=q at heq HSM
   cases q
   all_goals
    go_wp2_with fail
    go_roundw
    case rel=>exact⟨k+1,by omega,by go_num,by rw [HSM.out];simp,HJ.out⟩
    case measure=>simp [intOf];omega
  ·have hkl:k=len:=by omega
   subst hkl
   have HPR:=qh (show preA K first own R k late=if first=true∧K≤sameA own R k+2 then (1,own) else if k<K / 2∨(first=true∧late=false∧k<sameA own R k+2) then (0,At.of 0) else (2,joinAll (consA own R) k) from rfl)
   rw [HPR.out] at HR
   clear HPR
   generalize sameA own R k=sm0 at HR hsl ⊢
   have hc1:(first=true∧K≤sm0+2)∨(first=true∧¬ K≤sm0+2)∨first=false:=by cases first<;>simp<;>omega
   have hfin:¬ (first=true∧K≤sm0+2)→∀ a1 a2:Int × At,(R0=if first=true∧K≤sm0+2 then a1 else a2)→R0=a2:=fun h _ _ hr=>by rw [hr,if_neg h]
   rcases hc1 with⟨rfl,h2⟩|⟨rfl,h2⟩|rfl
   ·have hs2:(K:Int) - 1-1≤(sm0:Int):=by omega
    go_wp2_with fail
    refine (fast_any K _ (by omega)).mono ?_
    rintro e w2 ⟨rfl,hb⟩
    have HJ:=qh (HJ.out.below hb)
    clear hb
    have u0:=HJ.out.z.cell 0
    have u1:=HJ.out.z.cell 1
    have u2:=HJ.out.z.cell 2
    have u3:=HJ.out.z.cell 3
    have u4:=HJ.out.z.cell 4
    have u5:=HJ.out.z.cell 5
    have u6:=HJ.out.z.cell 6
    have u7:=HJ.out.z.cell 7
    have a0:=HJ.out.a.cell 0
    have a1:=HJ.out.a.cell 1
    have a2:=HJ.out.a.cell 2
    have a3:=HJ.out.a.cell 3
    have a4:=HJ.out.a.cell 4
    have a5:=HJ.out.a.cell 5
    have a6:=HJ.out.a.cell 6
    have a7:=HJ.out.a.cell 7
    simp only [At.cells,At.of,yA,yB] at u0 u1 u2 u3 u4 u5 u6 u7 a0 a1 a2 a3 a4 a5 a6 a7
    have uf:=fun i=>HJ.out.z.free i
    have hne:=HJ.out.ne
    have hne':=Ne.symm hne
    go_upto_region 9 with (fail)
    go_region
    go_wp2_with fail
    clear u0 u1 u2 u3 u4 u5 u6 u7 a0 a1 a2 a3 a4 a5 a6 a7 uf
    have t1:=((((((((Touch.refl g11 w2).setCell 0 (.int .i64 own.q)).setCell 1 (.int .i64 (own.d 0))).setCell 2 (.int .i64 (own.d 1))).setCell 3 (.int .i64 (own.d 2))).setCell 4 (.int .i64 (own.d 3))).setCell 5 (.int .i64 (own.d 4))).setCell 6 (.int .i64 (own.d 5))).setCell 7 (.int .i64 (own.d 6))
    have s1:=((((((((HJ.out.z).set 0 (.int .i64 own.q)).set 1 (.int .i64 (own.d 0))).set 2 (.int .i64 (own.d 1))).set 3 (.int .i64 (own.d 2))).set 4 (.int .i64 (own.d 3))).set 5 (.int .i64 (own.d 4))).set 6 (.int .i64 (own.d 5))).set 7 (.int .i64 (own.d 6))
    simp only [At.cells,At.of,List.set_cons_succ,List.set_cons_zero] at s1
    have b1:=HJ.out.bel.trans (t1.below HJ.out.ge HJ.out.bel.size)
    have s1:=holds_drew s1
    have b1:=b1.trans (drew_below _ _)
    generalize ((((((((w2.setCell ⟨g11,0,none⟩ (.int .i64 own.q)).setCell ⟨g11,1,none⟩ (.int .i64 (own.d 0))).setCell ⟨g11,2,none⟩ (.int .i64 (own.d 1))).setCell ⟨g11,3,none⟩ (.int .i64 (own.d 2))).setCell ⟨g11,4,none⟩ (.int .i64 (own.d 3))).setCell ⟨g11,5,none⟩ (.int .i64 (own.d 4))).setCell ⟨g11,6,none⟩ (.int .i64 (own.d 5))).setCell ⟨g11,7,none⟩ (.int .i64 (own.d 6))).drew=W3 at s1 b1 ⊢
    have y0:=s1.cell 0
    have y1:=s1.cell 1
    have y2:=s1.cell 2
    have y3:=s1.cell 3
    have y4:=s1.cell 4
    have y5:=s1.cell 5
    have y6:=s1.cell 6
    have y7:=s1.cell 7
    simp only [yA,yB] at y0 y1 y2 y3 y4 y5 y6 y7
    have hr:R0=(1,own):=by rw [HR.out];rw [if_pos (by first|exact⟨rfl,by omega⟩|exact⟨trivial,by omega⟩|(simp;omega))]
    rw [hr]
    exact bodyPost_ret (v:=.tuple #[.int .i64 1,.agg (own).cells.toArray]) (by simp [results,Tryz.results145,go_sem,y0,y1,y2,y3,y4,y5,y6,y7,At.cells,At.of]) rfl ⟨rfl,b1⟩
   ·have hs2:¬ (K:Int) - 1-1≤(sm0:Int):=by omega
    have H2:=qh h2;clear h2
    go_wp2_with fail
    refine (fast_any K _ (by omega)).mono ?_
    rintro e w2 ⟨rfl,hb⟩
    have HJ:=qh (HJ.out.below hb)
    clear hb
    go_wp2_with fail
    refine (slow_any K _ (by omega)).mono ?_
    rintro e w3 ⟨rfl,hb⟩
    have HJ:=qh (HJ.out.below hb)
    clear hb
    have hc2:((k:Int)<((K / 2+1:Nat):Int) - 1∧k<K / 2)∨(¬ (k:Int)<((K / 2+1:Nat):Int) - 1∧¬ k<K / 2):=by omega
    rcases hc2 with⟨h3,h4⟩|⟨h3,h4⟩
    ·have H4:=qh h4;clear h4
     have u0:=HJ.out.z.cell 0
     have u1:=HJ.out.z.cell 1
     have u2:=HJ.out.z.cell 2
     have u3:=HJ.out.z.cell 3
     have u4:=HJ.out.z.cell 4
     have u5:=HJ.out.z.cell 5
     have u6:=HJ.out.z.cell 6
     have u7:=HJ.out.z.cell 7
     have a0:=HJ.out.a.cell 0
     have a1:=HJ.out.a.cell 1
     have a2:=HJ.out.a.cell 2
     have a3:=HJ.out.a.cell 3
     have a4:=HJ.out.a.cell 4
     have a5:=HJ.out.a.cell 5
     have a6:=HJ.out.a.cell 6
     have a7:=HJ.out.a.cell 7
     simp only [At.cells,At.of,yA,yB] at u0 u1 u2 u3 u4 u5 u6 u7 a0 a1 a2 a3 a4 a5 a6 a7
     have uf:=fun i=>HJ.out.z.free i
     have hne:=HJ.out.ne
     have hne':=Ne.symm hne
     go_wp2_with fail
     clear u0 u1 u2 u3 u4 u5 u6 u7 a0 a1 a2 a3 a4 a5 a6 a7 uf
     have t1:=((((((((Touch.refl g11 w3).setCell 0 (.int .i64 0)).setCell 1 (.int .i64 0)).setCell 2 (.int .i64 0)).setCell 3 (.int .i64 0)).setCell 4 (.int .i64 0)).setCell 5 (.int .i64 0)).setCell 6 (.int .i64 0)).setCell 7 (.int .i64 0)
     have s1:=((((((((HJ.out.z).set 0 (.int .i64 0)).set 1 (.int .i64 0)).set 2 (.int .i64 0)).set 3 (.int .i64 0)).set 4 (.int .i64 0)).set 5 (.int .i64 0)).set 6 (.int .i64 0)).set 7 (.int .i64 0)
     simp only [At.cells,At.of,List.set_cons_succ,List.set_cons_zero] at s1
     have b1:=HJ.out.bel.trans (t1.below HJ.out.ge HJ.out.bel.size)
     generalize ((((((((w3.setCell ⟨g11,0,none⟩ (.int .i64 0)).setCell ⟨g11,1,none⟩ (.int .i64 0)).setCell ⟨g11,2,none⟩ (.int .i64 0)).setCell ⟨g11,3,none⟩ (.int .i64 0)).setCell ⟨g11,4,none⟩ (.int .i64 0)).setCell ⟨g11,5,none⟩ (.int .i64 0)).setCell ⟨g11,6,none⟩ (.int .i64 0)).setCell ⟨g11,7,none⟩ (.int .i64 0))=W3 at s1 b1 ⊢
     have y0:=s1.cell 0
     have y1:=s1.cell 1
     have y2:=s1.cell 2
     have y3:=s1.cell 3
     have y4:=s1.cell 4
     have y5:=s1.cell 5
     have y6:=s1.cell 6
     have y7:=s1.cell 7
     simp only [yA,yB] at y0 y1 y2 y3 y4 y5 y6 y7
     have hr:R0=(0,(At.of 0)):=by rw [HR.out];rw [if_neg (fun h=>H2.out h.2),if_pos (.inl H4.out)]
     rw [hr]
     exact bodyPost_ret (v:=.tuple #[.int .i64 0,.agg ((At.of 0)).cells.toArray]) (by simp [results,Tryz.results145,go_sem,y0,y1,y2,y3,y4,y5,y6,y7,At.cells,At.of]) rfl ⟨rfl,b1⟩
    ·have H4:=qh h4;clear h4
     cases late
     ·by_cases h5:k<sm0+2
      ·have h6:(k:Int) - (sm0:Int)<2:=by omega
       have u0:=HJ.out.z.cell 0
       have u1:=HJ.out.z.cell 1
       have u2:=HJ.out.z.cell 2
       have u3:=HJ.out.z.cell 3
       have u4:=HJ.out.z.cell 4
       have u5:=HJ.out.z.cell 5
       have u6:=HJ.out.z.cell 6
       have u7:=HJ.out.z.cell 7
       have a0:=HJ.out.a.cell 0
       have a1:=HJ.out.a.cell 1
       have a2:=HJ.out.a.cell 2
       have a3:=HJ.out.a.cell 3
       have a4:=HJ.out.a.cell 4
       have a5:=HJ.out.a.cell 5
       have a6:=HJ.out.a.cell 6
       have a7:=HJ.out.a.cell 7
       simp only [At.cells,At.of,yA,yB] at u0 u1 u2 u3 u4 u5 u6 u7 a0 a1 a2 a3 a4 a5 a6 a7
       have uf:=fun i=>HJ.out.z.free i
       have hne:=HJ.out.ne
       have hne':=Ne.symm hne
       go_wp2_with fail
       clear u0 u1 u2 u3 u4 u5 u6 u7 a0 a1 a2 a3 a4 a5 a6 a7 uf
       have t1:=((((((((Touch.refl g11 w3).setCell 0 (.int .i64 0)).setCell 1 (.int .i64 0)).setCell 2 (.int .i64 0)).setCell 3 (.int .i64 0)).setCell 4 (.int .i64 0)).setCell 5 (.int .i64 0)).setCell 6 (.int .i64 0)).setCell 7 (.int .i64 0)
       have s1:=((((((((HJ.out.z).set 0 (.int .i64 0)).set 1 (.int .i64 0)).set 2 (.int .i64 0)).set 3 (.int .i64 0)).set 4 (.int .i64 0)).set 5 (.int .i64 0)).set 6 (.int .i64 0)).set 7 (.int .i64 0)
       simp only [At.cells,At.of,List.set_cons_succ,List.set_cons_zero] at s1
       have b1:=HJ.out.bel.trans (t1.below HJ.out.ge HJ.out.bel.size)
       generalize ((((((((w3.setCell ⟨g11,0,none⟩ (.int .i64 0)).setCell ⟨g11,1,none⟩ (.int .i64 0)).setCell ⟨g11,2,none⟩ (.int .i64 0)).setCell ⟨g11,3,none⟩ (.int .i64 0)).setCell ⟨g11,4,none⟩ (.int .i64 0)).setCell ⟨g11,5,none⟩ (.int .i64 0)).setCell ⟨g11,6,none⟩ (.int .i64 0)).setCell ⟨g11,7,none⟩ (.int .i64 0))=W3 at s1 b1 ⊢
       have y0:=s1.cell 0
       have y1:=s1.cell 1
       have y2:=s1.cell 2
       have y3:=s1.cell 3
       have y4:=s1.cell 4
       have y5:=s1.cell 5
       have y6:=s1.cell 6
       have y7:=s1.cell 7
       simp only [yA,yB] at y0 y1 y2 y3 y4 y5 y6 y7
       have hr:R0=(0,(At.of 0)):=by rw [HR.out];rw [if_neg (fun h=>H2.out h.2),if_pos (.inr (by first|exact⟨rfl,rfl,by omega⟩|(simp;omega)))]
       rw [hr]
       exact bodyPost_ret (v:=.tuple #[.int .i64 0,.agg ((At.of 0)).cells.toArray]) (by simp [results,Tryz.results145,go_sem,y0,y1,y2,y3,y4,y5,y6,y7,At.cells,At.of]) rfl ⟨rfl,b1⟩
      ·have h6:¬ (k:Int) - (sm0:Int)<2:=by omega
       have u0:=HJ.out.z.cell 0
       have u1:=HJ.out.z.cell 1
       have u2:=HJ.out.z.cell 2
       have u3:=HJ.out.z.cell 3
       have u4:=HJ.out.z.cell 4
       have u5:=HJ.out.z.cell 5
       have u6:=HJ.out.z.cell 6
       have u7:=HJ.out.z.cell 7
       have a0:=HJ.out.a.cell 0
       have a1:=HJ.out.a.cell 1
       have a2:=HJ.out.a.cell 2
       have a3:=HJ.out.a.cell 3
       have a4:=HJ.out.a.cell 4
       have a5:=HJ.out.a.cell 5
       have a6:=HJ.out.a.cell 6
       have a7:=HJ.out.a.cell 7
       simp only [At.cells,At.of,yA,yB] at u0 u1 u2 u3 u4 u5 u6 u7 a0 a1 a2 a3 a4 a5 a6 a7
       have uf:=fun i=>HJ.out.z.free i
       have hne:=HJ.out.ne
       have hne':=Ne.symm hne
       have hown:(w3.alloc (.cells #[.int .i64 own.q,.int .i64 (own.d 0),.int .i64 (own.d 1),.int .i64 (own.d 2),.int .i64 (own.d 3),.int .i64 (own.d 4),.int .i64 (own.d 5),.int .i64 (own.d 6)] 43)).ownsRow w3.heap.size 43 8 (.slice (some ⟨w3.heap.size,0,none⟩) 1 1) 1 own.cells:=
        World.ownsRow_lit w3 own.cells.toArray 1 (Nat.le_refl _) (by decide) (by simp [At.cells])
       have hsrc:Reads (w3.alloc (.cells #[.int .i64 own.q,.int .i64 (own.d 0),.int .i64 (own.d 1),.int .i64 (own.d 2),.int .i64 (own.d 3),.int .i64 (own.d 4),.int .i64 (own.d 5),.int .i64 (own.d 6)] 43)) a (flat 8 k fun i=>(R i).cells):=HV.out.reads (HJ.out.bel.alloc HJ.out.bel.size _) (by omega)
       have h1c:∀ u∈flat 8 k (fun i=>(R i).cells),u.oneCell'=true:=flat_one 8 k _ (fun i hi=>rfl) (fun i hi v hv=>by have:=At.cells_one (R i);rw [List.all_toArray] at this;exact List.all_eq_true.1 this v hv)
       have HOWN:=qh hown;have HSRC:=qh hsrc;have H1C:=qh h1c
       clear hown hsrc h1c
       go_wp2_with (at_builtin;go_must (refine wpList_append_cells rfl (.tmp 58) (.tmp 59) 164 rfl w3.heap.size 43 (.agg #[.int .i64 0,.int .i64 0,.int .i64 0,.int .i64 0,.int .i64 0,.int .i64 0,.int .i64 0,.int .i64 0]) 8 64 rfl (by kernel_rfl) rfl (by decide) _ 1 own.cells rfl HOWN.out a k cap (flat 8 k fun i=>(R i).cells) rfl (flat_len 8 k _) HSRC.out HN.out H1C.out (by unfold maxLen;omega) (by omega) (by simp) ?_);intro v4 w4 ho4 hb4 _;obtain⟨g4,c4,rfl,hg4,hc4,hm4,hr4⟩:=rows_of_owns ho4 (by omega);clear ho4)
       have hb34:Below w3.heap.size w3 w4:=(show Below w3.heap.size w3 _ by go_grown).trans hb4
       have HJ:=qh (HJ.out.below hb34)
       clear hb34 hb4 HOWN HSRC H1C u0 u1 u2 u3 u4 u5 u6 u7 a0 a1 a2 a3 a4 a5 a6 a7 uf
       refine (join_any g4 0 (1+k) c4 (consA own R) w4 (hr4 (fun i=>(consA own R i).cells) (fun i hi=>rfl) (fun i hi j hj=>cons_rows own R k i j hi hj)) (by omega) hc4 (by unfold maxLen at hm4;omega)).mono ?_
       rintro e w5 ⟨rfl,hb⟩
       have HJ:=qh (HJ.out.below hb)
       clear hb hr4 hg4 hc4 hm4
       rw [Nat.add_sub_cancel_left]
       have hra:R0=(2,joinAll (consA own R) k):=by rw [HR.out];rw [if_neg (fun h=>H2.out h.2),if_neg (fun h=>h.elim H4.out (fun h=>by omega))]
       have HRA:=qh hra;clear hra
       generalize joinAll (consA own R) k=A at HRA ⊢
       unfold At.cells
       have u0:=HJ.out.z.cell 0
       have u1:=HJ.out.z.cell 1
       have u2:=HJ.out.z.cell 2
       have u3:=HJ.out.z.cell 3
       have u4:=HJ.out.z.cell 4
       have u5:=HJ.out.z.cell 5
       have u6:=HJ.out.z.cell 6
       have u7:=HJ.out.z.cell 7
       have a0:=HJ.out.a.cell 0
       have a1:=HJ.out.a.cell 1
       have a2:=HJ.out.a.cell 2
       have a3:=HJ.out.a.cell 3
       have a4:=HJ.out.a.cell 4
       have a5:=HJ.out.a.cell 5
       have a6:=HJ.out.a.cell 6
       have a7:=HJ.out.a.cell 7
       simp only [At.cells,At.of,yA,yB] at u0 u1 u2 u3 u4 u5 u6 u7 a0 a1 a2 a3 a4 a5 a6 a7
       have uf:=fun i=>HJ.out.z.free i
       have hne:=HJ.out.ne
       have hne':=Ne.symm hne
       go_wp2_with fail
       clear u0 u1 u2 u3 u4 u5 u6 u7 a0 a1 a2 a3 a4 a5 a6 a7 uf
       have t1:=((((((((Touch.refl g11 w5).setCell 0 (.int .i64 A.q)).setCell 1 (.int .i64 (A.d 0))).setCell 2 (.int .i64 (A.d 1))).setCell 3 (.int .i64 (A.d 2))).setCell 4 (.int .i64 (A.d 3))).setCell 5 (.int .i64 (A.d 4))).setCell 6 (.int .i64 (A.d 5))).setCell 7 (.int .i64 (A.d 6))
       have s1:=((((((((HJ.out.z).set 0 (.int .i64 A.q)).set 1 (.int .i64 (A.d 0))).set 2 (.int .i64 (A.d 1))).set 3 (.int .i64 (A.d 2))).set 4 (.int .i64 (A.d 3))).set 5 (.int .i64 (A.d 4))).set 6 (.int .i64 (A.d 5))).set 7 (.int .i64 (A.d 6))
       simp only [At.cells,At.of,List.set_cons_succ,List.set_cons_zero] at s1
       have b1:=HJ.out.bel.trans (t1.below HJ.out.ge HJ.out.bel.size)
       generalize ((((((((w5.setCell ⟨g11,0,none⟩ (.int .i64 A.q)).setCell ⟨g11,1,none⟩ (.int .i64 (A.d 0))).setCell ⟨g11,2,none⟩ (.int .i64 (A.d 1))).setCell ⟨g11,3,none⟩ (.int .i64 (A.d 2))).setCell ⟨g11,4,none⟩ (.int .i64 (A.d 3))).setCell ⟨g11,5,none⟩ (.int .i64 (A.d 4))).setCell ⟨g11,6,none⟩ (.int .i64 (A.d 5))).setCell ⟨g11,7,none⟩ (.int .i64 (A.d 6)))=W3 at s1 b1 ⊢
       have y0:=s1.cell 0
       have y1:=s1.cell 1
       have y2:=s1.cell 2
       have y3:=s1.cell 3
       have y4:=s1.cell 4
       have y5:=s1.cell 5
       have y6:=s1.cell 6
       have y7:=s1.cell 7
       simp only [yA,yB] at y0 y1 y2 y3 y4 y5 y6 y7
       have hr:R0=(2,A):=HRA.out
       rw [hr]
       exact bodyPost_ret (v:=.tuple #[.int .i64 2,.agg (A).cells.toArray]) (by simp [results,Tryz.results145,go_sem,y0,y1,y2,y3,y4,y5,y6,y7,At.cells,At.of]) rfl ⟨rfl,b1⟩
     ·
      have u0:=HJ.out.z.cell 0
      have u1:=HJ.out.z.cell 1
      have u2:=HJ.out.z.cell 2
      have u3:=HJ.out.z.cell 3
      have u4:=HJ.out.z.cell 4
      have u5:=HJ.out.z.cell 5
      have u6:=HJ.out.z.cell 6
      have u7:=HJ.out.z.cell 7
      have a0:=HJ.out.a.cell 0
      have a1:=HJ.out.a.cell 1
      have a2:=HJ.out.a.cell 2
      have a3:=HJ.out.a.cell 3
      have a4:=HJ.out.a.cell 4
      have a5:=HJ.out.a.cell 5
      have a6:=HJ.out.a.cell 6
      have a7:=HJ.out.a.cell 7
      simp only [At.cells,At.of,yA,yB] at u0 u1 u2 u3 u4 u5 u6 u7 a0 a1 a2 a3 a4 a5 a6 a7
      have uf:=fun i=>HJ.out.z.free i
      have hne:=HJ.out.ne
      have hne':=Ne.symm hne
      have hown:(w3.alloc (.cells #[.int .i64 own.q,.int .i64 (own.d 0),.int .i64 (own.d 1),.int .i64 (own.d 2),.int .i64 (own.d 3),.int .i64 (own.d 4),.int .i64 (own.d 5),.int .i64 (own.d 6)] 43)).ownsRow w3.heap.size 43 8 (.slice (some ⟨w3.heap.size,0,none⟩) 1 1) 1 own.cells:=
       World.ownsRow_lit w3 own.cells.toArray 1 (Nat.le_refl _) (by decide) (by simp [At.cells])
      have hsrc:Reads (w3.alloc (.cells #[.int .i64 own.q,.int .i64 (own.d 0),.int .i64 (own.d 1),.int .i64 (own.d 2),.int .i64 (own.d 3),.int .i64 (own.d 4),.int .i64 (own.d 5),.int .i64 (own.d 6)] 43)) a (flat 8 k fun i=>(R i).cells):=HV.out.reads (HJ.out.bel.alloc HJ.out.bel.size _) (by omega)
      have h1c:∀ u∈flat 8 k (fun i=>(R i).cells),u.oneCell'=true:=flat_one 8 k _ (fun i hi=>rfl) (fun i hi v hv=>by have:=At.cells_one (R i);rw [List.all_toArray] at this;exact List.all_eq_true.1 this v hv)
      have HOWN:=qh hown;have HSRC:=qh hsrc;have H1C:=qh h1c
      clear hown hsrc h1c
      go_wp2_with (at_builtin;go_must (refine wpList_append_cells rfl (.tmp 58) (.tmp 59) 164 rfl w3.heap.size 43 (.agg #[.int .i64 0,.int .i64 0,.int .i64 0,.int .i64 0,.int .i64 0,.int .i64 0,.int .i64 0,.int .i64 0]) 8 64 rfl (by kernel_rfl) rfl (by decide) _ 1 own.cells rfl HOWN.out a k cap (flat 8 k fun i=>(R i).cells) rfl (flat_len 8 k _) HSRC.out HN.out H1C.out (by unfold maxLen;omega) (by omega) (by simp) ?_);intro v4 w4 ho4 hb4 _;obtain⟨g4,c4,rfl,hg4,hc4,hm4,hr4⟩:=rows_of_owns ho4 (by omega);clear ho4)
      have hb34:Below w3.heap.size w3 w4:=(show Below w3.heap.size w3 _ by go_grown).trans hb4
      have HJ:=qh (HJ.out.below hb34)
      clear hb34 hb4 HOWN HSRC H1C u0 u1 u2 u3 u4 u5 u6 u7 a0 a1 a2 a3 a4 a5 a6 a7 uf
      refine (join_any g4 0 (1+k) c4 (consA own R) w4 (hr4 (fun i=>(consA own R i).cells) (fun i hi=>rfl) (fun i hi j hj=>cons_rows own R k i j hi hj)) (by omega) hc4 (by unfold maxLen at hm4;omega)).mono ?_
      rintro e w5 ⟨rfl,hb⟩
      have HJ:=qh (HJ.out.below hb)
      clear hb hr4 hg4 hc4 hm4
      rw [Nat.add_sub_cancel_left]
      have hra:R0=(2,joinAll (consA own R) k):=by rw [HR.out];rw [if_neg (fun h=>H2.out h.2),if_neg (fun h=>h.elim H4.out (fun h=>by simp at h))]
      have HRA:=qh hra;clear hra
      generalize joinAll (consA own R) k=A at HRA ⊢
      unfold At.cells
      have u0:=HJ.out.z.cell 0
      have u1:=HJ.out.z.cell 1
      have u2:=HJ.out.z.cell 2
      have u3:=HJ.out.z.cell 3
      have u4:=HJ.out.z.cell 4
      have u5:=HJ.out.z.cell 5
      have u6:=HJ.out.z.cell 6
      have u7:=HJ.out.z.cell 7
      have a0:=HJ.out.a.cell 0
      have a1:=HJ.out.a.cell 1
      have a2:=HJ.out.a.cell 2
      have a3:=HJ.out.a.cell 3
      have a4:=HJ.out.a.cell 4
      have a5:=HJ.out.a.cell 5
      have a6:=HJ.out.a.cell 6
      have a7:=HJ.out.a.cell 7
      simp only [At.cells,At.of,yA,yB] at u0 u1 u2 u3 u4 u5 u6 u7 a0 a1 a2 a3 a4 a5 a6 a7
      have uf:=fun i=>HJ.out.z.free i
      have hne:=HJ.out.ne
      have hne':=Ne.symm hne
      go_wp2_with fail
      clear u0 u1 u2 u3 u4 u5 u6 u7 a0 a1 a2 a3 a4 a5 a6 a7 uf
      have t1:=((((((((Touch.refl g11 w5).setCell 0 (.int .i64 A.q)).setCell 1 (.int .i64 (A.d 0))).setCell 2 (.int .i64 (A.d 1))).setCell 3 (.int .i64 (A.d 2))).setCell 4 (.int .i64 (A.d 3))).setCell 5 (.int .i64 (A.d 4))).setCell 6 (.int .i64 (A.d 5))).setCell 7 (.int .i64 (A.d 6))
      have s1:=((((((((HJ.out.z).set 0 (.int .i64 A.q)).set 1 (.int .i64 (A.d 0))).set 2 (.int .i64 (A.d 1))).set 3 (.int .i64 (A.d 2))).set 4 (.int .i64 (A.d 3))).set 5 (.int .i64 (A.d 4))).set 6 (.int .i64 (A.d 5))).set 7 (.int .i64 (A.d 6))
      simp only [At.cells,At.of,List.set_cons_succ,List.set_cons_zero] at s1
      have b1:=HJ.out.bel.trans (t1.below HJ.out.ge HJ.out.bel.size)
      generalize ((((((((w5.setCell ⟨g11,0,none⟩ (.int .i64 A.q)).setCell ⟨g11,1,none⟩ (.int .i64 (A.d 0))).setCell ⟨g11,2,none⟩ (.int .i64 (A.d 1))).setCell ⟨g11,3,none⟩ (.int .i64 (A.d 2))).setCell ⟨g11,4,none⟩ (.int .i64 (A.d 3))).setCell ⟨g11,5,none⟩ (.int .i64 (A.d 4))).setCell ⟨g11,6,none⟩ (.int .i64 (A.d 5))).setCell ⟨g11,7,none⟩ (.int .i64 (A.d 6)))=W3 at s1 b1 ⊢
      have y0:=s1.cell 0
      have y1:=s1.cell 1
      have y2:=s1.cell 2
      have y3:=s1.cell 3
      have y4:=s1.cell 4
      have y5:=s1.cell 5
      have y6:=s1.cell 6
      have y7:=s1.cell 7
      simp only [yA,yB] at y0 y1 y2 y3 y4 y5 y6 y7
      have hr:R0=(2,A):=HRA.out
      rw [hr]
      exact bodyPost_ret (v:=.tuple #[.int .i64 2,.agg (A).cells.toArray]) (by simp [results,Tryz.results145,go_sem,y0,y1,y2,y3,y4,y5,y6,y7,At.cells,At.of]) rfl ⟨rfl,b1⟩
   ·
    go_wp2_with fail
    refine (slow_any K _ (by omega)).mono ?_
    rintro e w3 ⟨rfl,hb⟩
    have HJ:=qh (HJ.out.below hb)
    clear hb
    have hc2:((k:Int)<((K / 2+1:Nat):Int) - 1∧k<K / 2)∨(¬ (k:Int)<((K / 2+1:Nat):Int) - 1∧¬ k<K / 2):=by omega
    rcases hc2 with⟨h3,h4⟩|⟨h3,h4⟩
    ·have H4:=qh h4;clear h4
     have u0:=HJ.out.z.cell 0
     have u1:=HJ.out.z.cell 1
     have u2:=HJ.out.z.cell 2
     have u3:=HJ.out.z.cell 3
     have u4:=HJ.out.z.cell 4
     have u5:=HJ.out.z.cell 5
     have u6:=HJ.out.z.cell 6
     have u7:=HJ.out.z.cell 7
     have a0:=HJ.out.a.cell 0
     have a1:=HJ.out.a.cell 1
     have a2:=HJ.out.a.cell 2
     have a3:=HJ.out.a.cell 3
     have a4:=HJ.out.a.cell 4
     have a5:=HJ.out.a.cell 5
     have a6:=HJ.out.a.cell 6
     have a7:=HJ.out.a.cell 7
     simp only [At.cells,At.of,yA,yB] at u0 u1 u2 u3 u4 u5 u6 u7 a0 a1 a2 a3 a4 a5 a6 a7
     have uf:=fun i=>HJ.out.z.free i
     have hne:=HJ.out.ne
     have hne':=Ne.symm hne
     go_wp2_with fail
     clear u0 u1 u2 u3 u4 u5 u6 u7 a0 a1 a2 a3 a4 a5 a6 a7 uf
     have t1:=((((((((Touch.refl g11 w3).setCell 0 (.int .i64 0)).setCell 1 (.int .i64 0)).setCell 2 (.int .i64 0)).setCell 3 (.int .i64 0)).setCell 4 (.int .i64 0)).setCell 5 (.int .i64 0)).setCell 6 (.int .i64 0)).setCell 7 (.int .i64 0)
     have s1:=((((((((HJ.out.z).set 0 (.int .i64 0)).set 1 (.int .i64 0)).set 2 (.int .i64 0)).set 3 (.int .i64 0)).set 4 (.int .i64 0)).set 5 (.int .i64 0)).set 6 (.int .i64 0)).set 7 (.int .i64 0)
     simp only [At.cells,At.of,List.set_cons_succ,List.set_cons_zero] at s1
     have b1:=HJ.out.bel.trans (t1.below HJ.out.ge HJ.out.bel.size)
     generalize ((((((((w3.setCell ⟨g11,0,none⟩ (.int .i64 0)).setCell ⟨g11,1,none⟩ (.int .i64 0)).setCell ⟨g11,2,none⟩ (.int .i64 0)).setCell ⟨g11,3,none⟩ (.int .i64 0)).setCell ⟨g11,4,none⟩ (.int .i64 0)).setCell ⟨g11,5,none⟩ (.int .i64 0)).setCell ⟨g11,6,none⟩ (.int .i64 0)).setCell ⟨g11,7,none⟩ (.int .i64 0))=W3 at s1 b1 ⊢
     have y0:=s1.cell 0
     have y1:=s1.cell 1
     have y2:=s1.cell 2
     have y3:=s1.cell 3
     have y4:=s1.cell 4
     have y5:=s1.cell 5
     have y6:=s1.cell 6
     have y7:=s1.cell 7
     simp only [yA,yB] at y0 y1 y2 y3 y4 y5 y6 y7
     have hr:R0=(0,(At.of 0)):=by rw [HR.out];rw [if_neg (fun h=>by simp at h),if_pos (.inl H4.out)]
     rw [hr]
     exact bodyPost_ret (v:=.tuple #[.int .i64 0,.agg ((At.of 0)).cells.toArray]) (by simp [results,Tryz.results145,go_sem,y0,y1,y2,y3,y4,y5,y6,y7,At.cells,At.of]) rfl ⟨rfl,b1⟩
    ·have H4:=qh h4;clear h4
     have u0:=HJ.out.z.cell 0
     have u1:=HJ.out.z.cell 1
     have u2:=HJ.out.z.cell 2
     have u3:=HJ.out.z.cell 3
     have u4:=HJ.out.z.cell 4
     have u5:=HJ.out.z.cell 5
     have u6:=HJ.out.z.cell 6
     have u7:=HJ.out.z.cell 7
     have a0:=HJ.out.a.cell 0
     have a1:=HJ.out.a.cell 1
     have a2:=HJ.out.a.cell 2
     have a3:=HJ.out.a.cell 3
     have a4:=HJ.out.a.cell 4
     have a5:=HJ.out.a.cell 5
     have a6:=HJ.out.a.cell 6
     have a7:=HJ.out.a.cell 7
     simp only [At.cells,At.of,yA,yB] at u0 u1 u2 u3 u4 u5 u6 u7 a0 a1 a2 a3 a4 a5 a6 a7
     have uf:=fun i=>HJ.out.z.free i
     have hne:=HJ.out.ne
     have hne':=Ne.symm hne
     have hown:(w3.alloc (.cells #[.int .i64 own.q,.int .i64 (own.d 0),.int .i64 (own.d 1),.int .i64 (own.d 2),.int .i64 (own.d 3),.int .i64 (own.d 4),.int .i64 (own.d 5),.int .i64 (own.d 6)] 43)).ownsRow w3.heap.size 43 8 (.slice (some ⟨w3.heap.size,0,none⟩) 1 1) 1 own.cells:=
      World.ownsRow_lit w3 own.cells.toArray 1 (Nat.le_refl _) (by decide) (by simp [At.cells])
     have hsrc:Reads (w3.alloc (.cells #[.int .i64 own.q,.int .i64 (own.d 0),.int .i64 (own.d 1),.int .i64 (own.d 2),.int .i64 (own.d 3),.int .i64 (own.d 4),.int .i64 (own.d 5),.int .i64 (own.d 6)] 43)) a (flat 8 k fun i=>(R i).cells):=HV.out.reads (HJ.out.bel.alloc HJ.out.bel.size _) (by omega)
     have h1c:∀ u∈flat 8 k (fun i=>(R i).cells),u.oneCell'=true:=flat_one 8 k _ (fun i hi=>rfl) (fun i hi v hv=>by have:=At.cells_one (R i);rw [List.all_toArray] at this;exact List.all_eq_true.1 this v hv)
     have HOWN:=qh hown;have HSRC:=qh hsrc;have H1C:=qh h1c
     clear hown hsrc h1c
     go_wp2_with (at_builtin;go_must (refine wpList_append_cells rfl (.tmp 58) (.tmp 59) 164 rfl w3.heap.size 43 (.agg #[.int .i64 0,.int .i64 0,.int .i64 0,.int .i64 0,.int .i64 0,.int .i64 0,.int .i64 0,.int .i64 0]) 8 64 rfl (by kernel_rfl) rfl (by decide) _ 1 own.cells rfl HOWN.out a k cap (flat 8 k fun i=>(R i).cells) rfl (flat_len 8 k _) HSRC.out HN.out H1C.out (by unfold maxLen;omega) (by omega) (by simp) ?_);intro v4 w4 ho4 hb4 _;obtain⟨g4,c4,rfl,hg4,hc4,hm4,hr4⟩:=rows_of_owns ho4 (by omega);clear ho4)
     have hb34:Below w3.heap.size w3 w4:=(show Below w3.heap.size w3 _ by go_grown).trans hb4
     have HJ:=qh (HJ.out.below hb34)
     clear hb34 hb4 HOWN HSRC H1C u0 u1 u2 u3 u4 u5 u6 u7 a0 a1 a2 a3 a4 a5 a6 a7 uf
     refine (join_any g4 0 (1+k) c4 (consA own R) w4 (hr4 (fun i=>(consA own R i).cells) (fun i hi=>rfl) (fun i hi j hj=>cons_rows own R k i j hi hj)) (by omega) hc4 (by unfold maxLen at hm4;omega)).mono ?_
     rintro e w5 ⟨rfl,hb⟩
     have HJ:=qh (HJ.out.below hb)
     clear hb hr4 hg4 hc4 hm4
     rw [Nat.add_sub_cancel_left]
     have hra:R0=(2,joinAll (consA own R) k):=by rw [HR.out];rw [if_neg (fun h=>by simp at h),if_neg (fun h=>h.elim H4.out (fun h=>by simp at h))]
     have HRA:=qh hra;clear hra
     generalize joinAll (consA own R) k=A at HRA ⊢
     unfold At.cells
     have u0:=HJ.out.z.cell 0
     have u1:=HJ.out.z.cell 1
     have u2:=HJ.out.z.cell 2
     have u3:=HJ.out.z.cell 3
     have u4:=HJ.out.z.cell 4
     have u5:=HJ.out.z.cell 5
     have u6:=HJ.out.z.cell 6
     have u7:=HJ.out.z.cell 7
     have a0:=HJ.out.a.cell 0
     have a1:=HJ.out.a.cell 1
     have a2:=HJ.out.a.cell 2
     have a3:=HJ.out.a.cell 3
     have a4:=HJ.out.a.cell 4
     have a5:=HJ.out.a.cell 5
     have a6:=HJ.out.a.cell 6
     have a7:=HJ.out.a.cell 7
     simp only [At.cells,At.of,yA,yB] at u0 u1 u2 u3 u4 u5 u6 u7 a0 a1 a2 a3 a4 a5 a6 a7
     have uf:=fun i=>HJ.out.z.free i
     have hne:=HJ.out.ne
     have hne':=Ne.symm hne
     go_wp2_with fail
     clear u0 u1 u2 u3 u4 u5 u6 u7 a0 a1 a2 a3 a4 a5 a6 a7 uf
     have t1:=((((((((Touch.refl g11 w5).setCell 0 (.int .i64 A.q)).setCell 1 (.int .i64 (A.d 0))).setCell 2 (.int .i64 (A.d 1))).setCell 3 (.int .i64 (A.d 2))).setCell 4 (.int .i64 (A.d 3))).setCell 5 (.int .i64 (A.d 4))).setCell 6 (.int .i64 (A.d 5))).setCell 7 (.int .i64 (A.d 6))
     have s1:=((((((((HJ.out.z).set 0 (.int .i64 A.q)).set 1 (.int .i64 (A.d 0))).set 2 (.int .i64 (A.d 1))).set 3 (.int .i64 (A.d 2))).set 4 (.int .i64 (A.d 3))).set 5 (.int .i64 (A.d 4))).set 6 (.int .i64 (A.d 5))).set 7 (.int .i64 (A.d 6))
     simp only [At.cells,At.of,List.set_cons_succ,List.set_cons_zero] at s1
     have b1:=HJ.out.bel.trans (t1.below HJ.out.ge HJ.out.bel.size)
     generalize ((((((((w5.setCell ⟨g11,0,none⟩ (.int .i64 A.q)).setCell ⟨g11,1,none⟩ (.int .i64 (A.d 0))).setCell ⟨g11,2,none⟩ (.int .i64 (A.d 1))).setCell ⟨g11,3,none⟩ (.int .i64 (A.d 2))).setCell ⟨g11,4,none⟩ (.int .i64 (A.d 3))).setCell ⟨g11,5,none⟩ (.int .i64 (A.d 4))).setCell ⟨g11,6,none⟩ (.int .i64 (A.d 5))).setCell ⟨g11,7,none⟩ (.int .i64 (A.d 6)))=W3 at s1 b1 ⊢
     have y0:=s1.cell 0
     have y1:=s1.cell 1
     have y2:=s1.cell 2
     have y3:=s1.cell 3
     have y4:=s1.cell 4
     have y5:=s1.cell 5
     have y6:=s1.cell 6
     have y7:=s1.cell 7
     simp only [yA,yB] at y0 y1 y2 y3 y4 y5 y6 y7
     have hr:R0=(2,A):=HRA.out
     rw [hr]
     exact bodyPost_ret (v:=.tuple #[.int .i64 2,.agg (A).cells.toArray]) (by simp [results,Tryz.results145,go_sem,y0,y1,y2,y3,y4,y5,y6,y7,At.cells,At.of]) rfl ⟨rfl,b1⟩
end
end Go.Proofs.YtimdpiifpibgfaaGreatDoor
