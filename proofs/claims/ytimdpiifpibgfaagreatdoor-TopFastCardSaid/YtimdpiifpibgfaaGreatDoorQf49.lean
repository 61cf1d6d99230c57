/- For every input the law TopFast returns true (a part of the proof). Condition: the listed variables start as the program's text lays them. -/
import Derived.Test.YtimdpiifpibgfaaGreatDoorQf48
set_option linter.unusedVariables false
set_option linter.unusedSimpArgs false
set_option maxRecDepth 20000
set_option maxHeartbeats 16000000
namespace Go.Proofs.YtimdpiifpibgfaaGreatDoor
section
open Go.RowKit Go.Maps
theorem letters_ok (w:World) (own:Nat→Nat) (gC n q:Nat) (c:Cm) (s:Cs) (h:ClSt w own gC n q c s) (h0:0<s.lets.length) (hl:s.lets.length≤1000) :
  Calls Tryz.prog 13 #[.pointer (some ⟨gC,0,none⟩)] w fun e w'=>∃ gL cap rest,e=.returned (.slice (some ⟨gL,0,none⟩) s.lets.length cap)∧w.heap.size≤gL∧Holds w' gL 47 (flat 51 s.lets.length (letV c q s.lets)++rest)∧Below w.heap.size w w':=by
 obtain⟨dv,gN,cN,gCl,cCl,gCa,lv,hv,gs,gcl,hB,hN,hp⟩:=h
 obtain⟨ob,h1,_⟩:=hB.lts
 refine (cletters gC n s.lets.length dv _ _ _ lv hv ob _ w hB.cl h1 (letV_one c q s.lets _) h0 hl).mono ?_
 rintro e w' ⟨P,ob',rfl,ho,hob,hz,hb⟩
 obtain⟨g,cap,rest,rfl,rfl,_,_,hh,_⟩:=ho.blk h0
 exact⟨g,cap,rest,rfl,hob g rfl,hh,hb⟩
theorem letV_from (c:Cm) (q:Nat) (l:List Lt) (i:Nat):(letV c q l i)[1]?=some (.int .i64 ((l.getD i (0,0,0)).2.1:Nat))∧(letV c q l i)[2]?=some (.int .i64 ((l.getD i (0,0,0)).2.2:Nat)):=⟨rfl,rfl⟩
theorem histL_14 (c:Cm) (rest:List Value):(histL c++rest)[14]?=some (.int .i64 2):=rfl
theorem wfTop {n:Int} (h:(Lit.int .i64 n).wf=true):-9223372036854775808≤n∧n≤9223372036854775807:=by
 simp [Lit.wf,IntKind.min,IntKind.max,IntKind.signed,IntKind.bits] at h
 omega
theorem fast1_lose {n q out:Nat} {s s2:Cs} {m:Lt} {rest:List Lt} (h:fast1 n q out s=some s2) (hl:s.lets=m :: rest) (hc:m.2.2=out∨m.2.1=out):loseS s=some s2:=by
 unfold fast1 at h
 rw [hl] at h
 simpa [hc] using h
theorem fast1_give {n q out:Nat} {s s2:Cs} {m:Lt} {rest:List Lt} (h:fast1 n q out s=some s2) (hl:s.lets=m :: rest) (hc:¬ (m.2.2=out∨m.2.1=out)):giveS n q s=some s2:=by
 unfold fast1 at h
 rw [hl] at h
 simpa [hc] using h
theorem ClSt.lt {w:World} {own:Nat→Nat} {gC n q:Nat} {c:Cm} {s:Cs} (h:ClSt w own gC n q c s):∀ k,own k≠0→k<w.heap.size:=by
 obtain⟨dv,gN,cN,gCl,cCl,gCa,lv,hv,gs,gcl,hB,hN,hp⟩:=h
 exact hB.lt
def FastAt (B:Nat) (w0:World) (n q out:Nat) (c:Cm) (gC p i:Nat) (w:World) (own:Nat→Nat):Prop:=
 ∃ s0 s,fastStage n q out p=some s0∧fastN n q out i s0=some s∧ClSt w own gC n q c s∧OwnB B w0 own w∧CmOk c
theorem topfast_any (n tto lost k c s:Int) (a b o v:ByteArray) (w:World) (hn:(Lit.int .i64 n).wf=true) (hto:(Lit.int .i64 tto).wf=true) (hlo:(Lit.int .i64 lost).wf=true) (_:(Lit.int .i64 k).wf=true) (_:(Lit.int .i64 c).wf=true) (_:(Lit.int .i64 s).wf=true) (_:a.size≤maxLen) (_:b.size≤maxLen) (_:o.size≤maxLen) (_:v.size≤maxLen) :
  Calls Tryz.prog 3 #[.int .i64 n,.int .i64 tto,.int .i64 lost,.agg #[.int .i64 k,.int .i64 c,.int .i64 s,.string a,.string b,.string o,.string v]] w fun e w'=>e=.returned (.bool true)∧Below w.heap.size w w':=by
 have hn:=wfTop hn
 have hto:=wfTop hto
 have hlo:=wfTop hlo
 obtain⟨r,hr⟩:∃ r:Nat,n % 3=(r:Int):=⟨(n % 3).toNat,by omega⟩
 have hr3:r<3:=by omega
 obtain⟨nn,hnn⟩:∃ nn,nn=sizeOf3 r:=⟨_,rfl⟩
 have h357:nn=3∨nn=5∨nn=7:=by rcases (show r=0∨r=1∨r=2 by omega) with rfl|rfl|rfl<;>simp [hnn,sizeOf3]
 have hm1:=Int.emod_nonneg tto (show (nn:Int)≠0 by omega)
 have hm2:=Int.emod_lt_of_pos tto (show (0:Int)<nn by omega)
 obtain⟨me,hme⟩:∃ me:Nat,tto % (nn:Int)=(me:Int):=⟨(tto % (nn:Int)).toNat,by omega⟩
 have hd1:=Int.emod_nonneg lost (show (nn:Int) - 1≠0 by omega)
 have hd2:=Int.emod_lt_of_pos lost (show (0:Int)<(nn:Int) - 1 by omega)
 obtain⟨d,hd⟩:∃ d:Nat,1+lost % ((nn:Int) - 1)=(d:Int):=⟨(1+lost % ((nn:Int) - 1)).toNat,by omega⟩
 obtain⟨out,hout⟩:∃ out,(me+d) % nn=out:=⟨_,rfl⟩
 have hmen:me<nn:=by omega
 have houtn:out<nn:=by rw [← hout];exact Nat.mod_lt _ (by omega)
 have hone:out≠me:=by
  intro he
  rw [← hout] at he
  by_cases hlt:me+d<nn
  ·rw [Nat.mod_eq_of_lt hlt] at he;omega
  ·rw [Nat.mod_eq_sub_mod (by omega),Nat.mod_eq_of_lt (by omega)] at he;omega
 have hck:fastCks nn me out=true:=fast_cks nn (by rcases h357 with h|h|h<;>simp [h]) me (by simp [hmen]) out (by simp [houtn]) hone
 simp only [fastCks,Bool.and_eq_true] at hck
 obtain⟨⟨ck0,ck1⟩,ck2⟩:=hck
 have hck:∀ p,p<2→stageCk nn me out p=true:=fun p hp=>by rcases (show p=0∨p=1 by omega) with rfl|rfl;exact ck0;exact ck1
 obtain⟨x,hx⟩:∃ x:Cm,x=⟨k,c,s,a,b,o,v⟩:=⟨_,rfl⟩
 have hxc:(.agg #[.int .i64 k,.int .i64 c,.int .i64 s,.string a,.string b,.string o,.string v]:Value)=.agg x.cells.toArray:=by rw [hx];rfl
 rw [hxc]
 have hn3:3≤nn:=by omega
 have hn7:nn≤7:=by omega
 have hcA:CmOk (theCall cmdA):=cmOk_of (theCall cmdA) cmdA_ok (by decide)
 obtain⟨A,hA⟩:∃ A:Nat→World→Prop,A=fun gC W=>∃ own,ClSt W own gC nn 0 (theCall cmdA) (startS nn)∧OwnB w.heap.size w own W:=⟨_,rfl⟩
 obtain⟨S,hS⟩:∃ S:Nat→Nat→World→Prop,S=fun gC p W=>∃ own,FastAt w.heap.size w nn me out (theCall x) gC p 0 W own:=⟨_,rfl⟩
 obtain⟨T,hT⟩:∃ T:Nat→Nat→Nat→Nat→World→Prop,T=fun gC p gL i W=>p<2∧∃ own,FastAt w.heap.size w nn me out (theCall x) gC p i W own∧own gL=0∧∃ s0 rest,fastStage nn me out p=some s0∧Holds W gL 47 (flat 51 s0.lets.length (letV (theCall x) me s0.lets)++rest):=⟨_,rfl⟩
 refine ctopfast n tto lost x nn me d out (stageLen nn me out) (fun p j=>(stageLet nn me out p j).2.1) (fun p j=>(stageLet nn me out p j).2.2) w A S T ⟨hn3,hn7⟩ hto hlo hme hd hout ?_ ?_ awake_ok2 ?_ ?_ ?_ ?_ ?_ ?_ ?_ ?_ ?_ ?_ ?_ ?_
 ·intro p hp
  obtain⟨_,_,_,_,h,_⟩:=stage_at (hck p hp)
  exact h
 ·intro W hBW
  refine (of_ok n r (theCall cmdA) hn hr W hcA rfl rfl).mono ?_
  rintro e w' ⟨gC,rfl,own,h1,h2,h3⟩
  rw [← hnn] at h1
  subst hA
  exact⟨gC,rfl,⟨own,h1,hBW.bel h3,fun k hk=>Nat.le_trans hBW.le (h2 k hk)⟩,h3⟩
 ·subst hA
  rintro gC W ⟨own,h,hO⟩
  exact hO.1
 ·subst hA
  rintro gC W W' ⟨own,h,hO⟩ hb
  exact⟨own,ClG.bel h hb,hO.bel hb⟩
 ·subst hA
  rintro gC W ⟨own,h,hO⟩
  exact nodes_ok W own gC nn 0 _ _ h
 ·subst hA hS
  rintro gC W ⟨own,h,hO⟩
  refine (call_ok W own gC nn me 0 x _ h hn3 hn7 hmen).mono ?_
  rintro e w' ⟨b,rfl,⟨rfl,hc,own',h2,h3⟩|⟨rfl,hb,_⟩⟩
  ·exact⟨true,rfl,fun _=>⟨own',callS nn me,callS nn me,rfl,rfl,h2,hO.step h3,hc⟩,fun h=>by cases h⟩
  ·exact⟨false,rfl,fun h=>(by cases h),fun _=>(hO.bel hb).1⟩
 ·subst hS hT
  rintro gC p W hp ⟨own,s0,s,e1,e2,h,hO,hc⟩
  obtain rfl:s0=s:=Option.some.inj e2
  obtain⟨s1,f1,f2,f3,f4,_⟩:=stage_at (hck p hp)
  obtain rfl:s1=s0:=Option.some.inj (f1.symm.trans e1)
  refine (letters_ok W own gC nn me _ s1 h (by omega) (by omega)).mono ?_
  rintro e w' ⟨gL,cap,rest,rfl,hg,hh,hb⟩
  rw [f2]
  refine⟨gL,cap,rfl,hp,own,⟨s1,s1,e1,rfl,ClG.bel h hb,hO.bel hb,hc⟩,?_,s1,rest,e1,hh⟩
  by_cases h0:own gL=0
  ·exact h0
  ·have:=h.lt gL h0
   omega
 ·subst hT
  rintro gC p gL i W ⟨hp,own,hF,h0,s0,rest,e1,hh⟩
  refine⟨_,hh,fun j hj=>?_⟩
  obtain⟨s1,f1,f2,f3,f4,f5,_⟩:=stage_at (hck p hp)
  obtain rfl:s1=s0:=Option.some.inj (f1.symm.trans e1)
  have hj2:j<s1.lets.length:=by omega
  have hx1:j*51+1<(flat 51 s1.lets.length (letV (theCall x) me s1.lets)).length:=by rw [flat_len];omega
  have hx2:j*51+2<(flat 51 s1.lets.length (letV (theCall x) me s1.lets)).length:=by rw [flat_len];omega
  rw [List.getElem?_append_left hx1,List.getElem?_append_left hx2,flat_at 51 _ _ j 1 hj2 (by decide) rfl,flat_at 51 _ _ j 2 hj2 (by decide) rfl,(letV_from _ _ _ _).1,(letV_from _ _ _ _).2,f5 j]
  exact⟨rfl,rfl⟩
 ·subst hT
  rintro gC p gL i W W' ⟨hp,own,⟨s0,s,e1,e2,h,hO,hc⟩,h0,s0',rest,e3,hh⟩ hb
  exact⟨hp,own,⟨s0,s,e1,e2,ClG.bel h hb,hO.bel hb,hc⟩,h0,s0',rest,e3,hh.bel hb⟩
 ·subst hT
  rintro gC p gL i W hp hi ⟨_,own,⟨s0,s,e1,e2,h,hO,hc⟩,h0,s0',rest,e3,hh⟩ hcond
  obtain⟨s1,f1,f2,f3,f4,f5,f6⟩:=stage_at (hck p hp)
  obtain rfl:s1=s0:=Option.some.inj (f1.symm.trans e1)
  obtain⟨s',m,r2,s2,g1,g2,g3,g4,g5,g6,g7⟩:=f6 i hi
  obtain rfl:s'=s:=Option.some.inj (g1.symm.trans e2)
  rw [g3] at hcond
  refine (do_lose W own gC nn me _ s' s2 h (fast1_lose g6 g2 hcond) g5 g4).mono ?_
  rintro e w' ⟨rfl,own',h2,h3⟩
  have hgl:=hh.lt
  exact⟨rfl,hp,own',⟨s1,s2,e1,g7,h2,hO.step h3,hc⟩,by rw [h3.1 gL hgl,h0],s0',rest,e3,hh.mv h3.2 fun hx=>hx h0⟩
 ·subst hT
  rintro gC p gL i W hp hi ⟨_,own,⟨s0,s,e1,e2,h,hO,hc⟩,h0,s0',rest,e3,hh⟩ hcond
  obtain⟨s1,f1,f2,f3,f4,f5,f6⟩:=stage_at (hck p hp)
  obtain rfl:s1=s0:=Option.some.inj (f1.symm.trans e1)
  obtain⟨s',m,r2,s2,g1,g2,g3,g4,g5,g6,g7⟩:=f6 i hi
  obtain rfl:s'=s:=Option.some.inj (g1.symm.trans e2)
  rw [g3] at hcond
  refine (do_give W own gC nn me _ s' s2 h (fast1_give g6 g2 hcond) g4 hn3 hn7 hmen hc rfl rfl).mono ?_
  rintro e w' ⟨rfl,own',h2,h3⟩
  have hgl:=hh.lt
  exact⟨rfl,hp,own',⟨s1,s2,e1,g7,h2,hO.step h3,hc⟩,by rw [h3.1 gL hgl,h0],s0',rest,e3,hh.mv h3.2 fun hx=>hx h0⟩
 ·subst hS hT
  rintro gC p gL W ⟨hp,own,⟨s0,s,e1,e2,h,hO,hc⟩,_⟩
  obtain⟨s1,f1,f2,_⟩:=stage_at (hck p hp)
  obtain rfl:s1=s0:=Option.some.inj (f1.symm.trans e1)
  refine⟨own,s,s,?_,rfl,h,hO,hc⟩
  rw [show fastStage nn me out (p+1)=(fastStage nn me out p).bind fun s=>fastN nn me out s.lets.length s from rfl,e1]
  rw [← f2] at e2
  exact e2
 ·subst hS
  rintro gC W ⟨own,s0,s,e1,e2,h,hO,hc⟩
  obtain rfl:s0=s:=Option.some.inj e2
  rw [e1] at ck2
  simp only [Bool.and_eq_true,beq_iff_eq] at ck2
  refine (hist_ok W own gC nn me _ s0 h ck2.1).mono ?_
  rintro e w' ⟨g,c2,rest,rfl,_,hh,hb⟩
  exact⟨g,c2,_,rfl,hh,histL_14 _ _,own,s0,s0,e1,rfl,ClG.bel h hb,hO.bel hb,hc⟩
 ·subst hS
  rintro gC W ⟨own,s0,s,e1,e2,h,hO,hc⟩
  obtain rfl:s0=s:=Option.some.inj e2
  rw [e1] at ck2
  simp only [Bool.and_eq_true,Bool.not_eq_true'] at ck2
  refine (waits_ok W own gC nn me _ s0 h).mono ?_
  rintro e w' ⟨rfl,hb⟩
  rw [ck2.2]
  exact⟨rfl,(hO.bel hb).1⟩
end
end Go.Proofs.YtimdpiifpibgfaaGreatDoor
