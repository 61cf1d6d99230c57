/- For every input the law TopFast returns true (a part of the proof). Condition: the listed variables start as the program's text lays them. -/
import Derived.Deep.RegionWith
import Derived.Deep.CutRange
import Derived.Lib.QuietBelow
import Derived.BigQuiet
import Derived.Lib.ItoaWalk
import Derived.Laws.StructEq
import Derived.Laws.Tables
import Derived.Laws.Cover2
import Derived.IntWalk
import Derived.Laws.Strings
import Derived.Sort.Walk0
import Derived.Lib.MinMaxS
import Derived.Test.YtimdpiifpibgfaaGreatDoorQf1
set_option linter.unusedVariables false
set_option linter.unusedSimpArgs false
set_option maxRecDepth 20000
set_option maxHeartbeats 16000000
namespace Go.Proofs.YtimdpiifpibgfaaGreatDoor
section
open Go.RowKit
theorem within5_any (n m:Int) (w:World):Calls Tryz.prog 126 #[.int .i64 n,.int .i64 m] w fun e w'=>e=.returned (.bool (decide (1≤n)&&decide (n≤m)))∧Below w.heap.size w w':=by
 go_enter Tryz.func126,Tryz.ntmps126
 go_wp2_with fail
 all_goals
  go_ret
  exact⟨ret_bool (by first|(simp [*];done)|(simp;omega)),by go_grown⟩
theorem eq_cmd (a0 a1 a2 b0 b1 b2:Int) (a3 a4 a5 a6 b3 b4 b5 b6:ByteArray) (w:World):(Op.equalIn 10000 23 (.agg #[.int .i64 a0,.int .i64 a1,.int .i64 a2,.string a3,.string a4,.string a5,.string a6]) (.agg #[.int .i64 b0,.int .i64 b1,.int .i64 b2,.string b3,.string b4,.string b5,.string b6])).run Tryz.prog w=.ok (a0==b0&&(a1==b1&&(a2==b2&&(decide (a3.toList=b3.toList)&&(decide (a4.toList=b4.toList)&&(decide (a5.toList=b5.toList)&&decide (a6.toList=b6.toList))))))) w:=by
 rw [show (10000:Nat)=9999+1 from rfl,run_equalIn_struct w 9999 23 _ _ (by kernel_rfl) (by kernel_rfl)]
 go_simp
 by_cases h0:a0=b0
 ·by_cases h1:a1=b1
  ·by_cases h2:a2=b2
   ·by_cases h3:a3.toList=b3.toList
    ·by_cases h4:a4.toList=b4.toList
     ·by_cases h5:a5.toList=b5.toList
      ·by_cases h6:a6.toList=b6.toList<;>simp [h0,h1,h2,h3,h4,h5,h6]
      ·simp [h0,h1,h2,h3,h4,h5]
     ·simp [h0,h1,h2,h3,h4]
    ·simp [h0,h1,h2,h3]
   ·simp [h0,h1,h2]
  ·simp [h0,h1]
 ·simp [h0]
def bareE (k:Int) (b:ByteArray):ByteArray:=if k=5 then b else ⟨#[]⟩
def bareO (k:Int) (o:ByteArray):ByteArray:=if k=4 then o else ⟨#[]⟩
def bareV (k:Int) (v:ByteArray):ByteArray:=if k=2∨k=4 then v else ⟨#[]⟩
def eqC (a b o v b' o' v':ByteArray):Bool:=decide (a.toList=a.toList)&&(decide (b.toList=b'.toList)&&(decide (o.toList=o'.toList)&&decide (v.toList=v'.toList)))
def longB (a b o v:ByteArray):Bool:=decide ((16:Int)<a.size)||(decide ((16:Int)<b.size)||(decide ((64:Int)<o.size)||decide ((64:Int)<v.size)))
def zeroC (k c s:Int) (a b o v:ByteArray):Bool:=k==0&&(c==0&&(s==0&&(decide (a.toList=(⟨#[]⟩:ByteArray).toList)&&(decide (b.toList=(⟨#[]⟩:ByteArray).toList)&&(decide (o.toList=(⟨#[]⟩:ByteArray).toList)&&decide (v.toList=(⟨#[]⟩:ByteArray).toList))))))
def rightA (k c s:Int) (a b o v:ByteArray):Bool:=zeroC k c s a b o v||(((decide (1≤k)&&decide (k≤5))&&((decide (1≤c)&&decide (c≤8))&&(decide (1≤s)&&decide (s≤1099511627776))))&&(eqC a b o v (bareE k b) (bareO k o) (bareV k v)&&(!longB a b o v&&(!decide (a.toList=[])||k==5))))
theorem eql_zero (k c s:Int) (a b o v:ByteArray) (W:World):(binOp .eql 23 (.agg #[.int .i64 k,.int .i64 c,.int .i64 s,.string a,.string b,.string o,.string v]) (.agg #[.int .i64 0,.int .i64 0,.int .i64 0,.string ⟨#[]⟩,.string ⟨#[]⟩,.string ⟨#[]⟩,.string ⟨#[]⟩])).run Tryz.prog W=.ok (.bool (zeroC k c s a b o v)) W:=by
 rw [run_eql_struct,eq_cmd]
 rfl
set_option maxRecDepth 4000 in
theorem bare_fun (k c s:Int) (a b o v:ByteArray) (w:World):Calls Tryz.prog 127 #[.agg #[.int .i64 k,.int .i64 c,.int .i64 s,.string a,.string b,.string o,.string v]] w fun e w'=>e=.returned (.agg #[.int .i64 k,.int .i64 c,.int .i64 s,.string a,.string (bareE k b),.string (bareO k o),.string (bareV k v)])∧Below w.heap.size w w':=by
 have hcase:(k=2∧(k==2)=true)∨(k=4∧(k==2)=false∧(k==4)=true)∨(k=5∧(k==2)=false∧(k==4)=false∧(k==5)=true)∨((¬ k=2∧¬ k=4∧¬ k=5)∧(k==2)=false∧(k==4)=false∧(k==5)=false):=by
  simp only [beq_iff_eq,beq_eq_false_iff_ne];omega
 rcases hcase with⟨hk,e2⟩|⟨hk,e2,e4⟩|⟨hk,e2,e4,e5⟩|⟨⟨h2,h4,h5⟩,e2,e4,e5⟩
 ·have h1:bareE k b=⟨#[]⟩:=if_neg (by omega)
  have h2:bareO k o=⟨#[]⟩:=if_neg (by omega)
  have h3:bareV k v=v:=if_pos (by omega)
  rw [h1,h2,h3]
  clear h1 h2 h3 hk
  go_enter Tryz.func127,Tryz.ntmps127
  go_wp2_with fail
  exact bodyPost_ret (v:=.agg #[.int .i64 k,.int .i64 c,.int .i64 s,.string a,.string ⟨#[]⟩,.string ⟨#[]⟩,.string v]) (by simp [results,Tryz.results127,go_sem]) rfl ⟨rfl,by go_grown⟩
 ·have h1:bareE k b=⟨#[]⟩:=if_neg (by omega)
  have h2:bareO k o=o:=if_pos (by omega)
  have h3:bareV k v=v:=if_pos (by omega)
  rw [h1,h2,h3]
  clear h1 h2 h3 hk
  go_enter Tryz.func127,Tryz.ntmps127
  go_upto_region 6 with (fail)
  go_region
  go_wp2_with fail
  exact bodyPost_ret (v:=.agg #[.int .i64 k,.int .i64 c,.int .i64 s,.string a,.string ⟨#[]⟩,.string o,.string v]) (by simp [results,Tryz.results127,go_sem]) rfl ⟨rfl,by go_grown⟩
 ·have h1:bareE k b=b:=if_pos (by omega)
  have h2:bareO k o=⟨#[]⟩:=if_neg (by omega)
  have h3:bareV k v=⟨#[]⟩:=if_neg (by omega)
  rw [h1,h2,h3]
  clear h1 h2 h3 hk
  go_enter Tryz.func127,Tryz.ntmps127
  go_wp2_with fail
  exact bodyPost_ret (v:=.agg #[.int .i64 k,.int .i64 c,.int .i64 s,.string a,.string b,.string ⟨#[]⟩,.string ⟨#[]⟩]) (by simp [results,Tryz.results127,go_sem]) rfl ⟨rfl,by go_grown⟩
 ·have h1':bareE k b=⟨#[]⟩:=if_neg (by omega)
  have h2':bareO k o=⟨#[]⟩:=if_neg (by omega)
  have h3':bareV k v=⟨#[]⟩:=if_neg (by omega)
  rw [h1',h2',h3']
  clear h1' h2' h3' h2 h4 h5
  go_enter Tryz.func127,Tryz.ntmps127
  go_wp2_with fail
  exact bodyPost_ret (v:=.agg #[.int .i64 k,.int .i64 c,.int .i64 s,.string a,.string ⟨#[]⟩,.string ⟨#[]⟩,.string ⟨#[]⟩]) (by simp [results,Tryz.results127,go_sem]) rfl ⟨rfl,by go_grown⟩
theorem neq_cmd (k c s:Int) (a b o v b' o' v':ByteArray) (W:World):(binOp .neq 23 (.agg #[.int .i64 k,.int .i64 c,.int .i64 s,.string a,.string b,.string o,.string v]) (.agg #[.int .i64 k,.int .i64 c,.int .i64 s,.string a,.string b',.string o',.string v'])).run Tryz.prog W=.ok (.bool (!eqC a b o v b' o' v')) W:=by
 rw [run_neq_struct,eq_cmd]
 simp [eqC]
theorem long_cases (a b o v:ByteArray):((16:Int)<a.size∧longB a b o v=true)∨(¬ (16:Int)<a.size∧(16:Int)<b.size∧longB a b o v=true)∨(¬ (16:Int)<a.size∧¬ (16:Int)<b.size∧(64:Int)<o.size∧longB a b o v=true) ∨
  (¬ (16:Int)<a.size∧¬ (16:Int)<b.size∧¬ (64:Int)<o.size∧(64:Int)<v.size∧longB a b o v=true)∨(¬ (16:Int)<a.size∧¬ (16:Int)<b.size∧¬ (64:Int)<o.size∧¬ (64:Int)<v.size∧longB a b o v=false):=by
 unfold longB
 by_cases h1:(16:Int)<a.size
 ·exact .inl ⟨h1,by simp [h1]⟩
 by_cases h2:(16:Int)<b.size
 ·exact .inr (.inl ⟨h1,h2,by simp [h2]⟩)
 by_cases h3:(64:Int)<o.size
 ·exact .inr (.inr (.inl ⟨h1,h2,h3,by simp [h3]⟩))
 by_cases h4:(64:Int)<v.size
 ·exact .inr (.inr (.inr (.inl ⟨h1,h2,h3,h4,by simp [h4]⟩)))
 ·exact .inr (.inr (.inr (.inr ⟨h1,h2,h3,h4,by simp [h1,h2,h3,h4]⟩)))
set_option maxRecDepth 4000 in
theorem right_cmd (k c s:Int) (a b o v:ByteArray) (w:World):Calls Tryz.prog 70 #[.agg #[.int .i64 k,.int .i64 c,.int .i64 s,.string a,.string b,.string o,.string v]] w fun e w'=>e=.returned (.bool (rightA k c s a b o v))∧Below w.heap.size w w':=by
 have hq:=eql_zero k c s a b o v
 have kb:=bare_fun k c s a b o v
 have hq2:=neq_cmd k c s a b o v (bareE k b) (bareO k o) (bareV k v)
 have hR:=qh (show rightA k c s a b o v=(zeroC k c s a b o v||(((decide (1≤k)&&decide (k≤5))&&((decide (1≤c)&&decide (c≤8))&&(decide (1≤s)&&decide (s≤1099511627776))))&&(eqC a b o v (bareE k b) (bareO k o) (bareV k v)&&(!longB a b o v&&(!decide (a.toList=[])||k==5))))) from rfl)
 generalize rightA k c s a b o v=R at hR ⊢
 generalize zeroC k c s a b o v=z at hq hR
 cases z
 case true=>
  go_enter Tryz.func70,Tryz.ntmps70
  go_wp2_with fail
  go_ret
  exact⟨ret_bool (by rw [hR.out];rfl),by go_grown⟩
 generalize eqC a b o v (bareE k b) (bareO k o) (bareV k v)=E at hq2 hR
 generalize bareE k b=b',bareO k o=o',bareV k v=v' at kb hq2
 have KB:=qh kb;clear kb
 have h1:=fun W=>within5_any k 5 W
 have h2:=fun W=>within5_any c 8 W
 have h3:=fun W=>within5_any s 1099511627776 W
 obtain⟨p,hp⟩:∃ p:Bool,p=(decide (1≤k)&&decide (k≤5)):=⟨_,rfl⟩
 obtain⟨p2,hp2⟩:∃ p:Bool,p=(decide (1≤c)&&decide (c≤8)):=⟨_,rfl⟩
 obtain⟨p3,hp3⟩:∃ p:Bool,p=(decide (1≤s)&&decide (s≤1099511627776)):=⟨_,rfl⟩
 rw [← hp] at h1 hR
 rw [← hp2] at h2 hR
 rw [← hp3] at h3 hR
 have K1:=qh h1;have K2:=qh h2;have K3:=qh h3
 clear h1 h2 h3 hp hp2 hp3
 have hcase:p=false∨(p=true∧p2=false)∨(p=true∧p2=true∧p3=false)∨(p=true∧p2=true∧p3=true∧E=false)∨(p=true∧p2=true∧p3=true∧E=true):=by
  cases p<;>cases p2<;>cases p3<;>cases E<;>simp
 rcases hcase with rfl|⟨rfl,rfl⟩|⟨rfl,rfl,rfl⟩|⟨rfl,rfl,rfl,rfl⟩|⟨rfl,rfl,rfl,rfl⟩
 all_goals
  go_enter Tryz.func70,Tryz.ntmps70
  go_upto_region 3 with (fail)
  clear hq
  go_name_world W hW
  have hX:Holds W w.heap.size 23 [.int .i64 k,.int .i64 c,.int .i64 s,.string a,.string b,.string o,.string v]:=by rw [← hW];exact holds_alloc w _ _
  have HB:Below w.heap.size w W:=by rw [← hW];go_grown
  clear hW
  have x0:=fun d os=>hX.grown d os 0
  have x1:=fun d os=>hX.grown d os 1
  have x2:=fun d os=>hX.grown d os 2
  have x3:=fun d os=>hX.grown d os 3
  have x4:=fun d os=>hX.grown d os 4
  have x5:=fun d os=>hX.grown d os 5
  have x6:=fun d os=>hX.grown d os 6
  simp only [yA,yB] at x0 x1 x2 x3 x4 x5 x6
  refine wp_region_quiet_below (by kernel_rfl) (by kernel_rfl) ?_
  repeat go_big_quiet_step (first
   | (go_at_call 126;with_reducible exact calls_regrown fun W _=>K1.out W)
   | (go_at_call 126;with_reducible exact calls_regrown fun W _=>K2.out W)
   | (go_at_call 126;with_reducible exact calls_regrown fun W _=>K3.out W)
   | (go_at_call 127;with_reducible exact calls_regrown fun W _=>KB.out W))
  refine wpQuiet_nil ?_
  intro w2 hw'
  have hb2:=below_of_regrown hw'
  have HB2:=qh (below_next HB hb2)
  have hX2:=hX.below hb2 hX.lt
  clear hw' x0 x1 x2 x3 x4 x5 x6
  have x0:=hX2.cell 0
  have x3:=hX2.cell 3
  have x4:=hX2.cell 4
  have x5:=hX2.cell 5
  have x6:=hX2.cell 6
  simp only [yA,yB] at x0 x3 x4 x5 x6
  clear hX hX2 hb2 HB hq2
 ·go_wp2_with fail
  go_ret
  exact⟨ret_bool (by rw [hR.out];simp),HB2.out⟩
 ·go_wp2_with fail
  go_ret
  exact⟨ret_bool (by rw [hR.out];simp),HB2.out⟩
 ·go_wp2_with fail
  go_ret
  exact⟨ret_bool (by rw [hR.out];simp),HB2.out⟩
 ·go_wp2_with fail
  go_ret
  exact⟨ret_bool (by rw [hR.out];simp),HB2.out⟩
 ·rcases long_cases a b o v with⟨h1,hl⟩|⟨h1,h2,hl⟩|⟨h1,h2,h3,hl⟩|⟨h1,h2,h3,h4,hl⟩|⟨h1,h2,h3,h4,hl⟩
  all_goals
   rw [hl] at hR
   clear hl
  case inr.inr.inr.inr=>
   go_wp2_with fail
   all_goals
    go_ret
    exact⟨ret_bool (by rw [hR.out];simp [*]),HB2.out⟩
  all_goals
   go_wp2_with fail
   go_ret
   exact⟨ret_bool (by rw [hR.out];simp),HB2.out⟩
def rightI (r s:Int):Bool:=decide (0≤r)&&(decide (r<7)&&(decide (1≤s)&&decide (s≤1073741824)))
theorem rightI_cases (r s:Int):(¬ 0≤r∧rightI r s=false)∨(0≤r∧¬ r<7∧rightI r s=false)∨(0≤r∧r<7∧¬ 1≤s∧rightI r s=false)∨(0≤r∧r<7∧1≤s∧¬ s≤1073741824∧rightI r s=false)∨(0≤r∧r<7∧1≤s∧s≤1073741824∧rightI r s=true):=by
 unfold rightI
 by_cases h1:0≤r
 ·by_cases h2:r<7
  ·by_cases h3:1≤s
   ·by_cases h4:s≤1073741824
    ·exact .inr (.inr (.inr (.inr ⟨h1,h2,h3,h4,by simp [h1,h2,h3,h4]⟩)))
    ·exact .inr (.inr (.inr (.inl ⟨h1,h2,h3,h4,by simp [h4]⟩)))
   ·exact .inr (.inr (.inl ⟨h1,h2,h3,by simp [h3]⟩))
  ·exact .inr (.inl ⟨h1,h2,by simp [h2]⟩)
 ·exact .inl ⟨h1,by simp [h1]⟩
set_option maxRecDepth 4000 in
theorem right_inst (r s:Int) (w:World):Calls Tryz.prog 134 #[.agg #[.int .i64 r,.int .i64 s]] w fun e w'=>e=.returned (.bool (rightI r s))∧Below w.heap.size w w':=by
 rcases rightI_cases r s with⟨h1,hb⟩|⟨h1,h2,hb⟩|⟨h1,h2,h3,hb⟩|⟨h1,h2,h3,h4,hb⟩|⟨h1,h2,h3,h4,hb⟩
 all_goals
  rw [hb]
  clear hb
  go_enter Tryz.func134,Tryz.ntmps134
  go_wp2_with fail
  go_ret
  exact⟨rfl,by go_grown⟩
end
end Go.Proofs.YtimdpiifpibgfaaGreatDoor
namespace SpanP
abbrev T:=ByteArray
def lt (a b:T):Bool:=Go.Op.bytesLess a.toList b.toList
def emp (a:T):Bool:=a.toList.isEmpty
def under (k hi:T):Bool:=emp hi||lt k hi
def empty (lo hi:T):Bool:=!under lo hi
def meets (al ah bl bh:T):Bool:=!empty al ah&&!empty bl bh&&under al bh&&under bl ah
def succ (k:T):T:=k++⟨#[0]⟩
end SpanP
namespace Go.Proofs.YtimdpiifpibgfaaGreatDoor
section
open Go.RowKit
theorem under_any (k hi:ByteArray) (w:World):Calls Tryz.prog 291 #[.string k,.string hi] w fun e w'=>e=.returned (.bool (SpanP.under k hi))∧w=w':=by
 go_enter Tryz.func291,Tryz.ntmps291
 go_wp2
 ·go_ret
  exact⟨ret_bool (by simp [SpanP.under,SpanP.emp,‹hi.toList=[]›]),rfl⟩
 ·go_ret
  exact⟨rfl,rfl⟩
theorem empty_any (lo hi:ByteArray) (w:World):Calls Tryz.prog 326 #[.agg #[.string lo,.string hi]] w fun e w'=>e=.returned (.bool (SpanP.empty lo hi))∧Below w.heap.size w w':=by
 go_enter Tryz.func326,Tryz.ntmps326
 go_wp2_with (go_at_call 291;refine (under_any _ _ _).mono ?_;rintro e w' ⟨rfl,rfl⟩)
 go_ret
 exact⟨rfl,by go_grown⟩
theorem of_any (k:ByteArray) (w:World) (hk:k.size≤140737488351232):Calls Tryz.prog 325 #[.string k] w fun e w'=>e=.returned (.agg #[.string k,.string (SpanP.succ k)])∧Below w.heap.size w w':=by
 go_enter Tryz.func325,Tryz.ntmps325
 go_wp2
 exact bodyPost_ret (v:=.agg #[.string k,.string (SpanP.succ k)]) (by simp [results,Tryz.results325,go_sem,SpanP.succ]) rfl ⟨rfl,by go_grown⟩
theorem meets_any (al ah bl bh:ByteArray) (w:World):Calls Tryz.prog 299 #[.agg #[.string al,.string ah],.agg #[.string bl,.string bh]] w fun e w'=>e=.returned (.bool (SpanP.meets al ah bl bh))∧Below w.heap.size w w':=by
 have hfin:SpanP.meets al ah bl bh=(!SpanP.empty al ah&&!SpanP.empty bl bh&&SpanP.under al bh&&SpanP.under bl ah):=rfl
 have E1:=fun W=>empty_any al ah W
 have E2:=fun W=>empty_any bl bh W
 have U1:=fun W=>under_any al bh W
 have U2:=fun W=>under_any bl ah W
 generalize SpanP.meets al ah bl bh=m at hfin
 generalize SpanP.empty al ah=e1 at E1 hfin
 generalize SpanP.empty bl bh=e2 at E2 hfin
 generalize SpanP.under al bh=u1 at U1 hfin
 generalize SpanP.under bl ah=u2 at U2 hfin
 have H:=qh hfin;clear hfin
 have E1:=qh E1;have E2:=qh E2;have U1:=qh U1;have U2:=qh U2
 go_enter Tryz.func299,Tryz.ntmps299
 go_wp2_with fail
 refine (E1.out _).mono ?_
 rintro e w1 ⟨rfl,hb1⟩
 obtain⟨hc1,hf1⟩:=bcell hb1
 have HB1:Below w.heap.size w w1:=below_next (by go_grown) hb1
 cases e1
 ·go_wp2_with fail
  refine (E2.out _).mono ?_
  rintro e w2 ⟨rfl,hb2⟩
  have hz:=hb1.size
  simp at hz
  have hz0:w.heap.size<w1.heap.size:=by omega
  have hz1:w.heap.size+1<w1.heap.size:=by omega
  obtain⟨hc2,hf2⟩:=bcell hb2
  have HB2:Below w.heap.size w w2:=below_next HB1 hb2
  cases e2
  ·go_wp2_with fail
   refine (U1.out _).mono ?_
   rintro e w3 ⟨rfl,rfl⟩
   cases u1
   ·go_wp2_with fail
    go_ret
    exact⟨ret_bool (by rw [H.out];rfl),HB2⟩
   ·go_wp2_with fail
    refine (U2.out _).mono ?_
    rintro e w3 ⟨rfl,rfl⟩
    go_wp2_with fail
    go_ret
    exact⟨ret_bool (by rw [H.out];rfl),HB2⟩
  ·go_wp2_with fail
   go_ret
   exact⟨ret_bool (by rw [H.out];rfl),HB2⟩
 ·go_wp2_with fail
  go_ret
  exact⟨ret_bool (by rw [H.out];rfl),HB1⟩
end
section
open Go.RowKit
theorem holds_past {w:World} {g e:Nat} {L:List Value} (h:Holds w g e L) (o:Obj):Holds (w.alloc o) g e L:=by
 have:=h.lt
 exact h.below (B:=w.heap.size) ((Below.refl _ _).alloc (Nat.le_refl _) o) this
def keysC (x:Cm):ByteArray × ByteArray × Bool:=if x.k=1∨x.k=2∨x.k=3∨x.k=4 then (x.a,SpanP.succ x.a,true) else if x.k=5 then (x.a,x.b,true) else (⟨#[]⟩,⟨#[]⟩,false)
def writesC (x:Cm):Bool:=x.k==2||(x.k==3||x.k==4)
def clashC (x y:Cm):Bool:=(keysC x).2.2&&(keysC y).2.2&&(x.c==y.c||((writesC x||writesC y)&&SpanP.meets (keysC x).1 (keysC x).2.1 (keysC y).1 (keysC y).2.1))
set_option maxRecDepth 4000 in
theorem keys_any (x:Cm) (w:World) (ha:x.a.size≤1000000):Calls Tryz.prog 297 #[.agg #[.int .i64 x.k,.int .i64 x.c,.int .i64 x.s,.string x.a,.string x.b,.string x.o,.string x.v]] w fun e w'=>e=.returned (.tuple #[.agg #[.string (keysC x).1,.string (keysC x).2.1],.bool (keysC x).2.2])∧Below w.heap.size w w':=by
 obtain⟨k,c,s,a,b,o,v⟩:=x
 simp only at ha
 have hc:(k=1∨k=2∨k=3∨k=4)∨k=5∨((k==1)=false∧(k==2)=false∧(k==3)=false∧(k==4)=false∧(k==5)=false):=by
  simp only [beq_eq_false_iff_ne,ne_eq]
  omega
 rcases hc with hk|rfl|⟨e1,e2,e3,e4,e5⟩
 ·have hkk:keysC ⟨k,c,s,a,b,o,v⟩=(a,SpanP.succ a,true):=by unfold keysC;rw [if_pos (by simp;omega)]
  rw [hkk]
  clear hkk
  rcases hk with rfl|rfl|rfl|rfl
  ·go_enter Tryz.func297,Tryz.ntmps297
   go_wp2_with fail
   refine (of_any a _ (by omega)).mono ?_
   rintro e w1 ⟨rfl,hb⟩
   have hz:=holds_alloc (w.alloc (.cells #[.int .i64 1,.int .i64 c,.int .i64 s,.string a,.string b,.string o,.string v] 23)) 286 [.string ⟨#[]⟩,.string ⟨#[]⟩]
   rw [World.size_alloc] at hz
   have hz1:=hz.below hb (by simp)
   have z0:=hz1.cell 0
   have z1:=hz1.cell 1
   have zf:=fun i=>hz1.free i
   simp only [yA,yB] at z0 z1
   have HB:=qh (below_next (show Below w.heap.size w _ by go_grown) hb)
   clear hb hz
   have HZ:=qh hz1;clear hz1
   go_wp2_with fail
   have hs:=(HZ.out.set 0 (.string a)).set 1 (.string (SpanP.succ a))
   simp only [List.set_cons_zero,List.set_cons_succ] at hs
   have s0:=hs.cell 0
   have s1:=hs.cell 1
   simp only [yA,yB] at s0 s1
   have hB:=HB.out
   exact bodyPost_ret (v:=.tuple #[.agg #[.string a,.string (SpanP.succ a)],.bool true]) (by simp [results,Tryz.results297,go_sem,s0,s1]) rfl ⟨rfl,by go_grown⟩
  ·go_enter Tryz.func297,Tryz.ntmps297
   go_wp2_with fail
   refine (of_any a _ (by omega)).mono ?_
   rintro e w1 ⟨rfl,hb⟩
   have hz:=holds_alloc (w.alloc (.cells #[.int .i64 2,.int .i64 c,.int .i64 s,.string a,.string b,.string o,.string v] 23)) 286 [.string ⟨#[]⟩,.string ⟨#[]⟩]
   rw [World.size_alloc] at hz
   have hz1:=hz.below hb (by simp)
   have z0:=hz1.cell 0
   have z1:=hz1.cell 1
   have zf:=fun i=>hz1.free i
   simp only [yA,yB] at z0 z1
   have HB:=qh (below_next (show Below w.heap.size w _ by go_grown) hb)
   clear hb hz
   have HZ:=qh hz1;clear hz1
   go_wp2_with fail
   have hs:=(HZ.out.set 0 (.string a)).set 1 (.string (SpanP.succ a))
   simp only [List.set_cons_zero,List.set_cons_succ] at hs
   have s0:=hs.cell 0
   have s1:=hs.cell 1
   simp only [yA,yB] at s0 s1
   have hB:=HB.out
   exact bodyPost_ret (v:=.tuple #[.agg #[.string a,.string (SpanP.succ a)],.bool true]) (by simp [results,Tryz.results297,go_sem,s0,s1]) rfl ⟨rfl,by go_grown⟩
  ·go_enter Tryz.func297,Tryz.ntmps297
   go_wp2_with fail
   refine (of_any a _ (by omega)).mono ?_
   rintro e w1 ⟨rfl,hb⟩
   have hz:=holds_alloc (w.alloc (.cells #[.int .i64 3,.int .i64 c,.int .i64 s,.string a,.string b,.string o,.string v] 23)) 286 [.string ⟨#[]⟩,.string ⟨#[]⟩]
   rw [World.size_alloc] at hz
   have hz1:=hz.below hb (by simp)
   have z0:=hz1.cell 0
   have z1:=hz1.cell 1
   have zf:=fun i=>hz1.free i
   simp only [yA,yB] at z0 z1
   have HB:=qh (below_next (show Below w.heap.size w _ by go_grown) hb)
   clear hb hz
   have HZ:=qh hz1;clear hz1
   go_wp2_with fail
   have hs:=(HZ.out.set 0 (.string a)).set 1 (.string (SpanP.succ a))
   simp only [List.set_cons_zero,List.set_cons_succ] at hs
   have s0:=hs.cell 0
   have s1:=hs.cell 1
   simp only [yA,yB] at s0 s1
   have hB:=HB.out
   exact bodyPost_ret (v:=.tuple #[.agg #[.string a,.string (SpanP.succ a)],.bool true]) (by simp [results,Tryz.results297,go_sem,s0,s1]) rfl ⟨rfl,by go_grown⟩
  ·go_enter Tryz.func297,Tryz.ntmps297
   go_wp2_with fail
   refine (of_any a _ (by omega)).mono ?_
   rintro e w1 ⟨rfl,hb⟩
   have hz:=holds_alloc (w.alloc (.cells #[.int .i64 4,.int .i64 c,.int .i64 s,.string a,.string b,.string o,.string v] 23)) 286 [.string ⟨#[]⟩,.string ⟨#[]⟩]
   rw [World.size_alloc] at hz
   have hz1:=hz.below hb (by simp)
   have z0:=hz1.cell 0
   have z1:=hz1.cell 1
   have zf:=fun i=>hz1.free i
   simp only [yA,yB] at z0 z1
   have HB:=qh (below_next (show Below w.heap.size w _ by go_grown) hb)
   clear hb hz
   have HZ:=qh hz1;clear hz1
   go_wp2_with fail
   have hs:=(HZ.out.set 0 (.string a)).set 1 (.string (SpanP.succ a))
   simp only [List.set_cons_zero,List.set_cons_succ] at hs
   have s0:=hs.cell 0
   have s1:=hs.cell 1
   simp only [yA,yB] at s0 s1
   have hB:=HB.out
   exact bodyPost_ret (v:=.tuple #[.agg #[.string a,.string (SpanP.succ a)],.bool true]) (by simp [results,Tryz.results297,go_sem,s0,s1]) rfl ⟨rfl,by go_grown⟩
 ·have hkk:keysC ⟨5,c,s,a,b,o,v⟩=(a,b,true):=by unfold keysC;rw [if_neg (by simp),if_pos rfl]
  rw [hkk]
  clear hkk
  go_enter Tryz.func297,Tryz.ntmps297
  go_wp2_with fail
  exact bodyPost_ret (v:=.tuple #[.agg #[.string a,.string b],.bool true]) (by simp [results,Tryz.results297,go_sem]) rfl ⟨rfl,by go_grown⟩
 ·have hkk:keysC ⟨k,c,s,a,b,o,v⟩=(⟨#[]⟩,⟨#[]⟩,false):=by
   simp only [beq_eq_false_iff_ne,ne_eq] at e1 e2 e3 e4 e5
   unfold keysC
   rw [if_neg (by simp only;omega),if_neg (by simp only;omega)]
  rw [hkk]
  clear hkk
  go_enter Tryz.func297,Tryz.ntmps297
  go_wp2_with fail
  exact bodyPost_ret (v:=.tuple #[.agg #[.string ⟨#[]⟩,.string ⟨#[]⟩],.bool false]) (by simp [results,Tryz.results297,go_sem]) rfl ⟨rfl,by go_grown⟩
set_option maxRecDepth 4000 in
theorem writes_any (x:Cm) (w:World):Calls Tryz.prog 298 #[.agg #[.int .i64 x.k,.int .i64 x.c,.int .i64 x.s,.string x.a,.string x.b,.string x.o,.string x.v]] w fun e w'=>e=.returned (.bool (writesC x))∧Below w.heap.size w w':=by
 obtain⟨k,c,s,a,b,o,v⟩:=x
 have hc:((k==2)=true∧writesC ⟨k,c,s,a,b,o,v⟩=true)∨((k==2)=false∧(k==3)=true∧writesC ⟨k,c,s,a,b,o,v⟩=true)∨((k==2)=false∧(k==3)=false∧(k==4)=true∧writesC ⟨k,c,s,a,b,o,v⟩=true)∨((k==2)=false∧(k==3)=false∧(k==4)=false∧writesC ⟨k,c,s,a,b,o,v⟩=false):=by
  unfold writesC
  simp only
  cases (k==2)<;>cases (k==3)<;>cases (k==4)<;>simp
 rcases hc with⟨e1,e⟩|⟨e1,e2,e⟩|⟨e1,e2,e3,e⟩|⟨e1,e2,e3,e⟩
 all_goals
  rw [e]
  clear e
  go_enter Tryz.func298,Tryz.ntmps298
  go_wp2_with fail
  go_ret
  exact⟨ret_bool (by simp [*]),by go_grown⟩
set_option maxRecDepth 4000 in
theorem clash_any (x y:Cm) (w:World) (ha:x.a.size≤1000000) (hb:y.a.size≤1000000):Calls Tryz.prog 257 #[.agg #[.int .i64 x.k,.int .i64 x.c,.int .i64 x.s,.string x.a,.string x.b,.string x.o,.string x.v],.agg #[.int .i64 y.k,.int .i64 y.c,.int .i64 y.s,.string y.a,.string y.b,.string y.o,.string y.v]] w fun e w'=>e=.returned (.bool (clashC x y))∧Below w.heap.size w w':=by
 have K1:=fun W=>keys_any x W ha
 have K2:=fun W=>keys_any y W hb
 have W1:=fun W=>writes_any x W
 have W2:=fun W=>writes_any y W
 have M:=fun W=>meets_any (keysC x).1 (keysC x).2.1 (keysC y).1 (keysC y).2.1 W
 have hR:clashC x y=((keysC x).2.2&&(keysC y).2.2&&(x.c==y.c||((writesC x||writesC y)&&SpanP.meets (keysC x).1 (keysC x).2.1 (keysC y).1 (keysC y).2.1))):=rfl
 generalize SpanP.meets (keysC x).1 (keysC x).2.1 (keysC y).1 (keysC y).2.1=m at M hR
 generalize writesC x=w1 at W1 hR
 generalize writesC y=w2 at W2 hR
 generalize keysC x=kx at K1 M hR
 generalize keysC y=ky at K2 M hR
 obtain⟨p1,p2,p⟩:=kx
 obtain⟨q1,q2,q⟩:=ky
 simp only at K1 K2 M hR
 rw [hR]
 clear hR
 have HK1:=qh K1;have HK2:=qh K2;have HW1:=qh W1;have HW2:=qh W2;have HM:=qh M
 clear K1 K2 W1 W2 M
 have hxy:((x.c==y.c)=true)∨((x.c==y.c)=false):=by cases (x.c==y.c)<;>simp
 go_enter Tryz.func257,Tryz.ntmps257
 have hbx:Holds ((w.alloc (.cells x.cells.toArray 23)).alloc (.cells y.cells.toArray 23)) w.heap.size 23 x.cells:=holds_past (holds_alloc w _ _) _
 have hby:Holds ((w.alloc (.cells x.cells.toArray 23)).alloc (.cells y.cells.toArray 23)) (w.heap.size+1) 23 y.cells:=by
  have:=holds_alloc (w.alloc (.cells x.cells.toArray 23)) 23 y.cells
  rwa [World.size_alloc] at this
 have hb0:Below w.heap.size w ((w.alloc (.cells x.cells.toArray 23)).alloc (.cells y.cells.toArray 23)):=by go_grown
 unfold Cm.cells at hbx hby hb0
 go_wp2_with fail
 refine (HK1.out _).mono ?_
 rintro e w3 ⟨rfl,hb3⟩
 have HX:=qh (hbx.below hb3 hbx.lt);have HY:=qh (hby.below hb3 hby.lt);have HB:=qh (below_next hb0 hb3)
 clear hbx hby hb0 hb3
 generalize w.heap.size+1=gy at HY ⊢
 generalize w.heap.size=gx at HX ⊢
 have y0:=HY.out.cell 0
 have y1:=HY.out.cell 1
 have y2:=HY.out.cell 2
 have y3:=HY.out.cell 3
 have y4:=HY.out.cell 4
 have y5:=HY.out.cell 5
 have y6:=HY.out.cell 6
 simp only [yA,yB] at y0 y1 y2 y3 y4 y5 y6
 have ylt:=HY.out.lt
 have xlt:=HX.out.lt
 go_wp2_with fail
 refine (HK2.out _).mono ?_
 rintro e w4 ⟨rfl,hb4⟩
 have hp0:=holds_alloc w3 286 [.string p1,.string p2]
 have HP:=qh (hp0.below hb4 hp0.lt)
 have hx1:=holds_past HX.out (.cells #[.string p1,.string p2] 286)
 have HX1:=qh (hx1.below hb4 hx1.lt)
 have hy1:=holds_past HY.out (.cells #[.string p1,.string p2] 286)
 have HY1:=qh (hy1.below hb4 hy1.lt)
 have HB1:=qh ((HB.out.alloc HB.out.size (.cells #[.string p1,.string p2] 286)).trans (hb4.mono (by have:=HB.out.size;simp;omega)))
 clear hx1 hy1 hp0 hb4 y0 y1 y2 y3 y4 y5 y6 ylt xlt HX HY HB
 generalize w3.heap.size=gp at HP ⊢
 have x0:=HX1.out.cell 0
 have x1:=HX1.out.cell 1
 have x2:=HX1.out.cell 2
 have x3:=HX1.out.cell 3
 have x4:=HX1.out.cell 4
 have x5:=HX1.out.cell 5
 have x6:=HX1.out.cell 6
 have y0:=HY1.out.cell 0
 have y1:=HY1.out.cell 1
 have y2:=HY1.out.cell 2
 have y3:=HY1.out.cell 3
 have y4:=HY1.out.cell 4
 have y5:=HY1.out.cell 5
 have y6:=HY1.out.cell 6
 simp only [yA,yB] at x0 x1 x2 x3 x4 x5 x6 y0 y1 y2 y3 y4 y5 y6
 have xlt:=HX1.out.lt
 have ylt:=HY1.out.lt
 have plt:=HP.out.lt
 have hbs:=HB1.out.size
 clear HK1 HK2
 cases p
 ·go_wp2_with fail
  have hB:=HB1.out
  go_ret
  exact⟨ret_bool (by simp),by go_grown⟩
 cases q
 ·go_wp2_with fail
  have hB:=HB1.out
  go_ret
  exact⟨ret_bool (by simp),by go_grown⟩
 rcases hxy with hc|hc
 ·go_wp2_with fail
  have hB:=HB1.out
  go_ret
  exact⟨ret_bool (by simp [hc]),by go_grown⟩
 ·go_wp2_with fail
  refine (HW1.out _).mono ?_
  rintro e w5 ⟨rfl,hb5⟩
  have hcc:=qh hc
  clear x0 x1 x2 x3 x4 x5 x6 y0 y1 y2 y3 y4 y5 y6 hc
  have hq0:=holds_alloc w4 286 [.string q1,.string q2]
  have HQ2:=qh (hq0.below hb5 hq0.lt)
  have hp0:=holds_past HP.out (.cells #[.string q1,.string q2] 286)
  have HP2:=qh (hp0.below hb5 hp0.lt)
  have hy1:=holds_past HY1.out (.cells #[.string q1,.string q2] 286)
  have HY2:=qh (hy1.below hb5 hy1.lt)
  have HB2:=qh ((HB1.out.alloc HB1.out.size (.cells #[.string q1,.string q2] 286)).trans (hb5.mono (by simp;omega)))
  clear hq0 hp0 hy1 hb5 xlt ylt plt hbs HX1 HY1 HP HB1
  generalize w4.heap.size=gq at HQ2 ⊢
  have hbs:=HB2.out.size
  have plt:=HP2.out.lt
  have qlt:=HQ2.out.lt
  cases w1
  ·
   have y0:=HY2.out.cell 0
   have y1:=HY2.out.cell 1
   have y2:=HY2.out.cell 2
   have y3:=HY2.out.cell 3
   have y4:=HY2.out.cell 4
   have y5:=HY2.out.cell 5
   have y6:=HY2.out.cell 6
   simp only [yA,yB] at y0 y1 y2 y3 y4 y5 y6
   go_wp2_with fail
   refine (HW2.out _).mono ?_
   rintro e w6 ⟨rfl,hb6⟩
   clear y0 y1 y2 y3 y4 y5 y6
   have HB3:=qh (HB2.out.trans (hb6.mono hbs))
   have HP3:=qh (HP2.out.below hb6 plt)
   have HQ3:=qh (HQ2.out.below hb6 qlt)
   have hbs3:=HB3.out.size
   cases w2
   ·go_wp2_with fail
    have hB:=HB3.out
    go_ret
    exact⟨ret_bool (by simp [hcc.out]),by go_grown⟩
   have s0:=HP3.out.cell 0
   have s1:=HP3.out.cell 1
   have t0:=HQ3.out.cell 0
   have t1:=HQ3.out.cell 1
   simp only [yA,yB] at s0 s1 t0 t1
   go_wp2_with fail
   refine (HM.out _).mono ?_
   rintro e w7 ⟨rfl,hb7⟩
   have HB4:=qh (HB3.out.trans (hb7.mono hbs3))
   clear hb7
   cases m
   all_goals
    go_wp2_with fail
    have hB:=HB4.out
    go_ret
    exact⟨ret_bool (by simp [hcc.out]),by go_grown⟩
  ·
   have s0:=HP2.out.cell 0
   have s1:=HP2.out.cell 1
   have t0:=HQ2.out.cell 0
   have t1:=HQ2.out.cell 1
   simp only [yA,yB] at s0 s1 t0 t1
   go_wp2_with fail
   refine (HM.out _).mono ?_
   rintro e w7 ⟨rfl,hb7⟩
   have HB4:=qh (HB2.out.trans (hb7.mono hbs))
   clear hb7
   cases m
   all_goals
    go_wp2_with fail
    have hB:=HB4.out
    go_ret
    exact⟨ret_bool (by simp [hcc.out]),by go_grown⟩
end
section
open Go.RowKit
theorem Touch.then {g:Nat} {w w1 w2:World} (h:Touch g w w1) (h2:Below w.heap.size w1 w2):Touch g w w2:=
 ⟨h2.os.trans h.os,h2.tape.trans h.tape,h2.output.trans h.output,Nat.le_trans h.size h2.size,fun k hk hne=>(h2.block k hk).trans (h.block k hk hne)⟩
theorem holds_drew {w:World} {g e:Nat} {L:List Value} (h:Holds w g e L):Holds w.drew g e L:=h
abbrev CAt (w:World) (g:Nat) (id seq:Int) (x:Cm) (waits:Bool) (target ticks:Int):Prop:=Holds w g 132 (clientCells id seq x waits target ticks)
theorem new_in (id:Int) (w:World) (h:1≤id∧id≤8) :
  Calls Tryz.prog 46 #[.int .i64 id] w fun e w'=>e=.returned (.tuple #[.pointer (some ⟨w.heap.size,0,none⟩),.int .i64 0])∧CAt w' w.heap.size id 0 Cm.zero false 0 0∧Below w.heap.size w w':=by
 obtain⟨h1,h2⟩:=h
 go_enter Tryz.func46,Tryz.ntmps46
 go_wp2_with fail
 go_ret2
 exact⟨rfl,holds_alloc w _ _,by go_grown⟩
theorem tick_no (g:Nat) (id seq:Int) (x:Cm) (waits:Bool) (target ticks n:Int) (w:World) (h:CAt w g id seq x waits target ticks) (hn:waits=false∨n<1) :
  Calls Tryz.prog 51 #[.pointer (some ⟨g,0,none⟩),.int .i64 n] w fun e w'=>e=.returned (.tuple #[.agg Cm.zero.cells.toArray,.int .i64 0,.bool false])∧Below w.heap.size w w':=by
 have c9:=h.cell 9
 have hg:=h.lt
 simp only [clientCells,yA,yB] at c9
 have hcase:waits=false∨(waits=true∧n<1):=by
  cases waits
  ·exact .inl rfl
  ·rcases hn with h|h
   ·cases h
   ·exact .inr ⟨rfl,h⟩
 clear hn
 rcases hcase with rfl|⟨rfl,hn⟩
 all_goals
  go_enter Tryz.func51,Tryz.ntmps51
  go_wp2_with fail
  exact bodyPost_ret (v:=.tuple #[.agg Cm.zero.cells.toArray,.int .i64 0,.bool false]) (by simp [results,Tryz.results51,go_sem,Cm.zero,Cm.cells];try rfl) rfl ⟨rfl,by go_grown⟩
theorem tell_yes (g:Nat) (id seq:Int) (x:Cm) (target ticks:Int) (r0 r1 r2 r3 r4:Value) (w:World) (h:CAt w g id seq x true target ticks) :
  Calls Tryz.prog 55 #[.pointer (some ⟨g,0,none⟩),.agg #[.int .i64 id,.int .i64 seq,r0,r1,r2,r3,r4]] w fun e w'=>e=.returned (.bool true)∧CAt w' g id seq x false target ticks∧Touch g w w':=by
 have c0:=h.cell 0
 have c1:=h.cell 1
 have c9:=h.cell 9
 have f9:=h.free 9
 have hg:=h.lt
 simp only [clientCells,yA,yB] at c0 c1 c9
 have hH:=qh h;clear h
 have e0:(id != id)=false:=by simp
 have e1:(seq != seq)=false:=by simp
 go_enter Tryz.func55,Tryz.ntmps55
 go_upto_region 1 with (fail)
 go_region
 go_wp2_with fail
 have hs:=hH.out.set 9 (.bool false)
 simp only [clientCells,List.set_cons_succ,List.set_cons_zero] at hs
 have hA:Holds (((w.setCell ⟨g,9,none⟩ (.bool false)).alloc (.cells #[.int .i64 id,.int .i64 seq,r0,r1,r2,r3,r4] 121)).drew) g 132 (clientCells id seq x false target ticks):=holds_past hs _
 go_ret
 exact⟨rfl,hA,(((Touch.refl g w).setCell 9 _).next (by go_grown)).drew⟩
end
section
open Go.RowKit
end
end Go.Proofs.YtimdpiifpibgfaaGreatDoor
