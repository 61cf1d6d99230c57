/- A part of the proof that the law TopCopies returns true for every input. -/
import Derived.Test.YtimdpiifpibgfaaGreatDoorQc41
set_option linter.all false
set_option maxRecDepth 20000
set_option maxHeartbeats 16000000
open Go.RowKit Go.Maps
namespace Go.Proofs.YtimdpiifpibgfaaGreatDoor
open Tryz
section
theorem Zi(c:Cm)(h:EC c.k c.c c.s c.a c.b c.o c.v=true)(hk:c.k≠0):Gu c:=by
 have h2:=h;unfold EC at h2;rw[Bool.or_eq_true] at h2;rcases h2 with h2|h2
 ·simp only[NW,Bool.and_eq_true,beq_iff_eq] at h2;exact absurd h2.1 hk
 ·simp only[Bool.and_eq_true,decide_eq_true_eq,Bool.not_eq_true',J6,Bool.or_eq_false_iff,decide_eq_false_iff_not] at h2;exact⟨h,⟨h2.1.1.1,h2.1.1.2⟩,h2.1.2.1,h2.1.2.2,by omega,by omega,by omega,by omega⟩
set_option maxRecDepth 4000 in
theorem V8(g:Nat)(id seq:Int)(y x:Cm)(tg0 ticks tg:Int)(w:World)(h:Ju w g id seq y false tg0 ticks)(hs:0≤seq∧seq≤1000000000)(htg:0≤tg∧tg<7) :Calls prog 47 #[.pointer (some ⟨g,0,none⟩),.agg #[.int .i64 x.k,.int .i64 x.c,.int .i64 x.s,.string x.a,.string x.b,.string x.o,.string x.v],.int .i64 tg] w λe w'=> (e=.returned (.tuple #[.agg #[.int .i64 x.k,.int .i64 id,.int .i64 (seq+1),.string x.a,.string x.b,.string x.o,.string x.v],.bool true])∧Ju w' g id (seq+1) ⟨x.k,id,seq+1,x.a,x.b,x.o,x.v⟩ true tg 0∧Touch g w w'∧EC x.k id (seq+1) x.a x.b x.o x.v=true∧x.k≠0)∨(e=.returned (.tuple #[.agg Cm.zero.cells.toArray,.bool false])∧Below w.heap.size w w'∧(EC x.k id (seq+1) x.a x.b x.o x.v=false∨x.k=0)):=by
 obtain⟨k,c,s,a,b,o,v⟩:=x;simp only;have c0:=h.cell 0;have c1:=h.cell 1;have c9:=h.cell 9;have hg:=h.lt;have hf:=λi=>h.free i;simp only[DU,yA,yB] at c0 c1 c9;have hH:=qh h;clear h;have hF:=qh hf;clear hf;obtain⟨hs0,hs1⟩:=hs;obtain⟨ht0,ht1⟩:=htg;have et:decide (tg<0)=false:=by simp;omega
 have et7:decide (7≤tg)=false:=by simp;omega
 have hsw:IntKind.i64.wrap (seq+1)=seq+1:=IntWalk.i64_in _ (by omega);go_in;go_upto_region 1 with(fail);go_region;go_upto_region 2 with(fail);clear hsw;go_name_world W hW;have hG:Ju W g id seq y false tg0 ticks:=by rw[←hW];exact Ak (Ak hH.out _) _
 have hX:Holds W w.heap.size 23 [.int .i64 k,.int .i64 id,.int .i64 (seq+1),.string a,.string b,.string o,.string v]:=by rw[←hW];exact Ak (AA w _ _) _
 have hZ:Holds W (w.heap.size+1) 23 Cm.zero.cells:=by rw[←hW];have:=AA (w.alloc (.cells #[.int .i64 k,.int .i64 id,.int .i64 (seq+1),.string a,.string b,.string o,.string v] 23)) 23 Cm.zero.cells;rw[World.size_alloc] at this;exact this
 have hT:Touch g w W:=by rw[←hW];exact Touch.of_below (by go_grown)
 have hW0:Below w.heap.size w W:=by rw[←hW];go_grown
 clear hW c0 c1 c9;have c9:=Ag hG 9;obtain⟨x0,x1,x2,x3,x4,x5,x6⟩:=GR hX 0 1 2 3 4 5 6;have hBW:Below w.heap.size w W:=hW0;have HG:=qh hG;have HX:=qh hX;have HZ:=qh hZ;have HT:=qh hT;have HBW:=qh hBW;clear hBW hW0;clear hG hX hZ hT;go_wp2_with fail;generalize hrA:EC k id (seq+1) a b o v=r;refine Ac (hrA▸EU k id (seq+1) a b o v _) ?_;rintro w5 hb5;have HBW:=qh (AB HBW.o hb5);have HG:=qh (HG.below hb5 HG.lt);have HX:=qh (HX.below hb5 HX.lt);have HZ:=qh (HZ.below hb5 HZ.lt);have HT:=qh (HT.next hb5);have hs5:=hb5.size;clear hb5 c9 x0 x1 x2 x3 x4 x5 x6;obtain⟨x0,x1,x2,x3,x4,x5,x6⟩:=GR HX.o 0 1 2 3 4 5 6;have gc:=λi=>HG.cell i;have gf:=λi=>HG.free i;have zf:=λi=>HZ.free i;have g1:=gc 1;have g2:=gc 2;have g3:=gc 3;have g4:=gc 4;have g5:=gc 5;have g6:=gc 6;have g7:=gc 7;have g8:=gc 8;have g9:=gc 9;have g10:=gc 10;have g11:=gc 11;have z0:=HZ.cell 0;have z1:=HZ.cell 1;have z2:=HZ.cell 2;have z3:=HZ.cell 3;have z4:=HZ.cell 4;have z5:=HZ.cell 5;have z6:=HZ.cell 6;simp only[DU,Cm.zero,Cm.cells,yA,yB] at g1 g2 g3 g4 g5 g6 g7 g8 g9 g10 g11 z0 z1 z2 z3 z4 z5 z6;clear gc;have hne1:¬g=w.heap.size:=by omega
 have hne2:¬w.heap.size=g:=by omega
 have hne3:¬g=w.heap.size+1:=by omega
 have hne4:¬w.heap.size+1=g:=by omega
 have hrk:r=false∨(r=true∧(k==0)=true)∨(r=true∧(k==0)=false):=by
  cases r
  ·exact .inl rfl
  ·cases hk:(k==0)
   ·exact .inr (.inr ⟨rfl,rfl⟩)
   ·exact .inr (.inl ⟨rfl,rfl⟩)
 have hrA2:=qh hrA;clear hrA;rcases hrk with rfl|⟨rfl,ek⟩|⟨rfl,ek⟩
 ·clear g1 g2 g3 g4 g5 g6 g7 g8 g9 g10 g11 gf;go_wp2_with fail;have hZ3:=((((((HZ.set 0 (.int .i64 0)).set 1 (.int .i64 0)).set 2 (.int .i64 0)).set 3 (.string ⟨#[]⟩)).set 4 (.string ⟨#[]⟩)).set 5 (.string ⟨#[]⟩)).set 6 (.string ⟨#[]⟩);simp only[Cm.zero,Cm.cells,List.set_cons_succ,List.set_cons_zero] at hZ3;have hT4:=(((((((Touch.refl (w.heap.size+1) w5).setCell 0 (.int .i64 0)).setCell 1 (.int .i64 0)).setCell 2 (.int .i64 0)).setCell 3 (.string ⟨#[]⟩)).setCell 4 (.string ⟨#[]⟩)).setCell 5 (.string ⟨#[]⟩)).setCell 6 (.string ⟨#[]⟩);have hB4:=HBW.trans (hT4.below (B:=w.heap.size) (by omega) HBW.size);obtain⟨y0,y1,y2,y3,y4,y5,y6⟩:=GR hZ3 0 1 2 3 4 5 6;clear x0 x1 x2 x3 x4 x5 x6 z0 z1 z2 z3 z4 z5 z6 zf;refine bodyPost_ret (v:=.tuple #[.agg Cm.zero.cells.toArray,.bool false]) ?_ rfl (.inr ⟨rfl,hB4,.inl hrA2.out⟩);generalize (((((((w5.setCell ⟨w.heap.size+1,0,none⟩ (.int .i64 0)).setCell ⟨w.heap.size+1,1,none⟩ (.int .i64 0)).setCell ⟨w.heap.size+1,2,none⟩ (.int .i64 0)).setCell ⟨w.heap.size+1,3,none⟩ (.string ⟨#[]⟩)).setCell ⟨w.heap.size+1,4,none⟩ (.string ⟨#[]⟩)).setCell ⟨w.heap.size+1,5,none⟩ (.string ⟨#[]⟩)).setCell ⟨w.heap.size+1,6,none⟩ (.string ⟨#[]⟩))=W3 at y0 y1 y2 y3 y4 y5 y6 ⊢;simp[results,results47,go_sem,y0,y1,y2,y3,y4,y5,y6,Cm.zero,Cm.cells];try rfl
 ·clear g1 g2 g3 g4 g5 g6 g7 g8 g9 g10 g11 gf;go_wp2_with fail;have hZ3:=((((((HZ.set 0 (.int .i64 0)).set 1 (.int .i64 0)).set 2 (.int .i64 0)).set 3 (.string ⟨#[]⟩)).set 4 (.string ⟨#[]⟩)).set 5 (.string ⟨#[]⟩)).set 6 (.string ⟨#[]⟩);simp only[Cm.zero,Cm.cells,List.set_cons_succ,List.set_cons_zero] at hZ3;have hT4:=(((((((Touch.refl (w.heap.size+1) w5).setCell 0 (.int .i64 0)).setCell 1 (.int .i64 0)).setCell 2 (.int .i64 0)).setCell 3 (.string ⟨#[]⟩)).setCell 4 (.string ⟨#[]⟩)).setCell 5 (.string ⟨#[]⟩)).setCell 6 (.string ⟨#[]⟩);have hB4:=HBW.trans (hT4.below (B:=w.heap.size) (by omega) HBW.size);obtain⟨y0,y1,y2,y3,y4,y5,y6⟩:=GR hZ3 0 1 2 3 4 5 6;clear x0 x1 x2 x3 x4 x5 x6 z0 z1 z2 z3 z4 z5 z6 zf;refine bodyPost_ret (v:=.tuple #[.agg Cm.zero.cells.toArray,.bool false]) ?_ rfl (.inr ⟨rfl,hB4,.inr (by simpa using ek)⟩);generalize (((((((w5.setCell ⟨w.heap.size+1,0,none⟩ (.int .i64 0)).setCell ⟨w.heap.size+1,1,none⟩ (.int .i64 0)).setCell ⟨w.heap.size+1,2,none⟩ (.int .i64 0)).setCell ⟨w.heap.size+1,3,none⟩ (.string ⟨#[]⟩)).setCell ⟨w.heap.size+1,4,none⟩ (.string ⟨#[]⟩)).setCell ⟨w.heap.size+1,5,none⟩ (.string ⟨#[]⟩)).setCell ⟨w.heap.size+1,6,none⟩ (.string ⟨#[]⟩))=W3 at y0 y1 y2 y3 y4 y5 y6 ⊢;simp[results,results47,go_sem,y0,y1,y2,y3,y4,y5,y6,Cm.zero,Cm.cells];try rfl
 ·have hk2:k≠0:=by simpa using ek
  go_upto_region 4 with(fail);go_region;go_upto_region 5 with(fail);go_name_world W2 hW2;have hT2:Touch g w5 W2:=by rw[←hW2];exact((((((((((((Touch.refl g w5).setCell 1 _).setCell 2 _).setCell 3 _).setCell 4 _).setCell 5 _).setCell 6 _).setCell 7 _).setCell 8 _).setCell 9 _).setCell 10 _).setCell 11 _).drew
  have hG2:Ju W2 g id (seq+1) ⟨k,id,seq+1,a,b,o,v⟩ true tg 0:=by rw[←hW2];have:=((((((((((HG.set 1 (.int .i64 (seq+1))).set 2 (.int .i64 k)).set 3 (.int .i64 id)).set 4 (.int .i64 (seq+1))).set 5 (.string a)).set 6 (.string b)).set 7 (.string o)).set 8 (.string v)).set 9 (.bool true)).set 10 (.int .i64 tg)).set 11 (.int .i64 0);simp only[DU,List.set_cons_succ,List.set_cons_zero] at this;exact Kw this
  have hX2:=HX.touch hT2 hne2;have hZ2:=HZ.touch hT2 hne4;have hT3:=HT.trans hT2;have HG2:=qh hG2;have HZ2:=qh hZ2;have HT3:=qh hT3;clear hW2 g1 g2 g3 g4 g5 g6 g7 g8 g9 g10 g11 gf z0 z1 z2 z3 z4 z5 z6 zf x0 x1 x2 x3 x4 x5 x6 hG2 hZ2 hT3 hT2;have x0:=hX2.cell 0;have x1:=hX2.cell 1;have x2:=hX2.cell 2;have x3:=hX2.cell 3;have x4:=hX2.cell 4;have x5:=hX2.cell 5;have x6:=hX2.cell 6;have z0:=HZ2.cell 0;have z1:=HZ2.cell 1;have z2:=HZ2.cell 2;have z3:=HZ2.cell 3;have z4:=HZ2.cell 4;have z5:=HZ2.cell 5;have z6:=HZ2.cell 6;have zf:=λi=>HZ2.free i;simp only[Cm.zero,Cm.cells,yA,yB] at x0 x1 x2 x3 x4 x5 x6 z0 z1 z2 z3 z4 z5 z6;clear hX2;go_wp2_with fail;have hZ3:=((((((HZ2.set 0 (.int .i64 k)).set 1 (.int .i64 id)).set 2 (.int .i64 (seq+1))).set 3 (.string a)).set 4 (.string b)).set 5 (.string o)).set 6 (.string v);simp only[Cm.zero,Cm.cells,List.set_cons_succ,List.set_cons_zero] at hZ3;have hT4:=(((((((Touch.refl (w.heap.size+1) W2).setCell 0 (.int .i64 k)).setCell 1 (.int .i64 id)).setCell 2 (.int .i64 (seq+1))).setCell 3 (.string a)).setCell 4 (.string b)).setCell 5 (.string o)).setCell 6 (.string v);have hG3:=HG2.touch hT4 hne3;have hB4:=hT4.below (B:=w.heap.size) (by omega) HT3.size;have hT5:=HT3.then hB4;obtain⟨y0,y1,y2,y3,y4,y5,y6⟩:=GR hZ3 0 1 2 3 4 5 6;clear x0 x1 x2 x3 x4 x5 x6 z0 z1 z2 z3 z4 z5 z6 zf;refine bodyPost_ret (v:=.tuple #[.agg #[.int .i64 k,.int .i64 id,.int .i64 (seq+1),.string a,.string b,.string o,.string v],.bool true]) ?_ rfl (.inl ⟨rfl,hG3,hT5,hrA2.out,hk2⟩);generalize (((((((W2.setCell ⟨w.heap.size+1,0,none⟩ (.int .i64 k)).setCell ⟨w.heap.size+1,1,none⟩ (.int .i64 id)).setCell ⟨w.heap.size+1,2,none⟩ (.int .i64 (seq+1))).setCell ⟨w.heap.size+1,3,none⟩ (.string a)).setCell ⟨w.heap.size+1,4,none⟩ (.string b)).setCell ⟨w.heap.size+1,5,none⟩ (.string o)).setCell ⟨w.heap.size+1,6,none⟩ (.string v))=W3 at y0 y1 y2 y3 y4 y5 y6 ⊢;simp[results,results47,go_sem,y0,y1,y2,y3,y4,y5,y6]
end
section
variable [In]
theorem dV(gC i g:Nat)(c:Cm)(R1 R2:World→Prop)(w:World) (KN:∀W,Below w.heap.size w W→Calls prog 17 #[.pointer (some ⟨gC,0,none⟩),.int .i64 i] W λe W'=>e=.returned (.pointer (some ⟨g,0,none⟩))∧Below W.heap.size W W') (KA:∀W,Below w.heap.size w W→Calls prog 71 #[.pointer (some ⟨g,0,none⟩),.agg (c.cells).toArray] W λe W'=>e=.returned (.int .i64 0)∧R1 W') (KO:∀W,R1 W→Calls prog 31 #[.pointer (some ⟨gC,0,none⟩),.int .i64 i] W λe W'=>e=.returned (.tuple #[])∧R2 W') :Calls prog 48 #[.pointer (some ⟨gC,0,none⟩),.agg (c.cells).toArray,.int .i64 i] w λe w'=>e=.returned (.tuple #[])∧R2 w':=by have KN:=qh KN;have KA:=qh KA;have KO:=qh KO;have HB:=qh (Base.start w);go_in;go_upto_region 1 with(fail);go_name_world W hW;have hW:BR w [.cells (c.cells:List Value).toArray 23]=W:=hW;have HS:=qh (show Holds W (w.heap.size) 23 (c.cells) from AX _ hW 0 rfl);have hbW:=Ae _ hW;have hsW:=BP _ hW;simp only[List.length_cons,List.length_nil] at hsW;clear hW;have HB:=ET hbW HB;clear hbW hsW;go_wp2_with fail;refine Ac (KN.o _ HB.below) ?_;rintro w1 hb;obtain⟨HS,HB⟩:=DC hb HS HB;clear hb KN;have HBB:=HB.below;generalize w.heap.size=gS at HS ⊢;have HR:=qh HS.AY;go_wp2_with (first|(with_reducible refine lR 0 HR.o ?_));refine Ac (KA.o _ HBB) ?_;rintro w2 h1;have H1:=qh h1;clear h1 HR HS HB KA;go_wp2_with fail;refine Ac (KO.o _ H1.o) ?_;rintro w3 h3;have H3:=qh h3;clear h3 H1 KO;go_wp2_with fail;exact bE ⟨rfl,H3.o⟩
def Bd(k:Nat)(sq:Int)(x:Cm):Cm:=⟨x.k,(k:Int)+1,sq+1,x.a,x.b,x.o,x.v⟩
def fits(y:Cm):Prop:=EC y.k y.c y.s y.a y.b y.o y.v=true∧y.k≠0
def RN(g:Nat)(y:Cm)(tto:Nat)(L:List Value)(r:Bool)(w w':World):Prop:=(r=true∧L=y.cells∧Ju w' g y.c y.s y true tto 0∧Touch g w w'∧fits y)∨(r=false∧Below w.heap.size w w'∧¬fits y)
theorem RN.size{g:Nat}{y:Cm}{tto:Nat}{L:List Value}{r:Bool}{w w':World}(h:RN g y tto L r w w'):w.heap.size≤w'.heap.size:=by
 rcases h with⟨_,_,_,h,_⟩|⟨_,h,_⟩
 ·exact h.size
 ·exact h.size
theorem RN.mv{g:Nat}{y:Cm}{tto:Nat}{L:List Value}{r:Bool}{w w':World}(h:RN g y tto L r w w'):Mv (λk=>k=g) w w':=by
 rcases h with⟨_,_,_,h,_⟩|⟨_,h,_⟩
 ·exact .AU h rfl
 ·exact .of_below h
theorem RN.keep{g b:Nat}{y:Cm}{tto:Nat}{L:List Value}{r:Bool}{w w':World}{t:TypeId}{M:List Value}(h:RN g y tto L r w w')(hb:Holds w b t M)(hn:b≠g):Holds w' b t M:=hb.mv h.mv hn
theorem dR(g k:Nat)(sq:Int)(x x0 y:Cm)(hy:y=Bd k sq x)(tg0 tk0:Int)(tto:Nat)(w:World)(h:Ju w g ((k:Int)+1) sq x0 false tg0 tk0)(ht:tto<7)(hs:0≤sq∧sq≤1000000000) :Calls prog 47 #[.pointer (some ⟨g,0,none⟩),.agg #[.int .i64 x.k,.int .i64 x.c,.int .i64 x.s,.string x.a,.string x.b,.string x.o,.string x.v],.int .i64 tto] w λe w'=>∃L r,e=.returned (.tuple #[.agg (L:List Value).toArray,.bool r])∧L.length=7∧(∀u∈L,u.oneCell'=true)∧RN g y tto L r w w':=by
 subst hy;refine(V8 g ((k:Int)+1) sq x0 x tg0 tk0 tto w h hs (by omega)).mono ?_;rintro e w' (⟨rfl,h1,h2,h3,h4⟩|⟨rfl,hb,hr⟩)
 ·exact⟨(Bd k sq x).cells,true,rfl,rfl,by simp[Cm.cells,Value.oneCell'],.inl ⟨rfl,rfl,h1,h2,h3,h4⟩⟩
 ·refine⟨Cm.zero.cells,false,rfl,rfl,by simp[Cm.zero,Cm.cells,Value.oneCell'],.inr ⟨rfl,hb,?_⟩⟩;rintro⟨f1,f2⟩;rcases hr with hr|hr
  ·exact absurd (hr.symm.trans f1) (by decide)
  ·exact f2 hr
def QA(k:Nat)(y:Cm):Ev:=⟨1,(k:Int)+1,y,Rep.zero⟩
def Called(gC gCa n tto k:Nat)(gcl:Nat→Nat)(CA:List Value)(y:Cm)(obh:Option Nat)(le:Nat)(EL:List Value)(dv nv clv cav lv:Value)(w W:World):Prop:=∃hv ob,Holds W gC 85 (DV n dv nv clv cav lv hv)∧AO W hv ob 55 14 (le+1) (EL++IW (QA k y) (.slice none 0 0))∧(ob=obh∨∃x,ob=some x∧w.heap.size≤x)∧Holds W gCa 23 (splice CA (k*7) y.cells) ∧
 Ju W (gcl k) y.c y.s y true tto 0∧fits y∧Mv (λx=>x=gC∨x=gCa∨x=gcl k∨obh=some x) w W
theorem iW(gC gCl cCl gCa n tto k:Nat)(hk:k<8)(gcl:Nat→Nat)(rC CA:List Value)(sq:Int)(hsq:0≤sq∧sq≤1000000000)(x x0 y:Cm)(hy:y=Bd k sq x)(tg0 tk0:Int)(hv:Value)(obh:Option Nat)(le:Nat)(EL:List Value)(hle:le≤1000)(dv nv lv:Value)(R:World→Prop)(w:World) (h:Holds w gC 85 (DV n dv nv (.slice (some ⟨gCl,0,none⟩) 8 cCl) (.slice (some ⟨gCa,0,none⟩) 8 8) lv hv)) (hC:Holds w gCl 92 (ptrs 8 gcl++rC)) (hX:Ju w (gcl k) ((k:Int)+1) sq x0 false tg0 tk0) (hA:Holds w gCa 23 CA) (hcs:CA.length=56) (hH:AO w hv obh 55 14 le EL) (ht:tto<n) (hn:n≤7) (KM:∀W,Called gC gCa n tto k gcl CA y obh le EL dv nv (.slice (some ⟨gCl,0,none⟩) 8 cCl) (.slice (some ⟨gCa,0,none⟩) 8 8) lv w W→Calls prog 48 #[.pointer (some ⟨gC,0,none⟩),.agg y.cells.toArray,.int .i64 tto] W λe W'=>e=.returned (.tuple #[])∧R W') :Calls prog 26 #[.pointer (some ⟨gC,0,none⟩),.agg (Eb ((k:Int)+1) tto x).toArray] w λe w'=>(e=.returned (.bool true)∧R w')∨(e=.returned (.bool false)∧Below w.heap.size w w'∧¬fits y):=by
 have KM:=qh KM;have KK:=qh (UM ((k:Int)+1) (by omega) (by omega));have KB:=qh (λW (h:Ju W (gcl k) ((k:Int)+1) sq x0 false tg0 tk0)=>dR (gcl k) k sq x x0 y hy tg0 tk0 tto W h (by omega) hsq);have HC:=qh h;have HCL:=qh hC;have HX:=qh (show Holds w (gcl k) 132 _ from hX);have HA:=qh hA;have HH:=qh hH;have HC0:=HC;have HX0:=HX;have HA0:=HA;have HH0:=HH;obtain⟨ph,ch,rfl⟩:∃ph ch,hv=.slice ph le ch:=by
  rcases hH.cases with⟨r,_,r2,_⟩|⟨_,_,_,r,_⟩
  ·subst r2;exact⟨_,_,r⟩
  ·exact⟨_,_,r⟩
 have HB:=qh (Base.start w);have hti:(tto:Int)<(n:Int):=by omega
 have ht0:¬((tto:Int)<0):=by omega
 have hwk:IntKind.i64.wrap ((k:Int)+1-1)=(k:Int):=by rw[show (k:Int)+1-1=k by omega];exact IntWalk.i64_in _ (by omega)
 have hwk2:IntKind.i64.wrap (k:Int)=(k:Int):=IntWalk.i64_in _ (by omega);have hk0:(0:Int)≤(k:Int):=by omega
 have hk8:(k:Int)<8:=by omega
 have hdn:decide (n≤tto)=false:=by simp;omega
 clear h hC hX hA hH hsq hy;go_in;go_upto_region 1 with(fail);go_name_world W hW;obtain⟨HS,hbW,hsW⟩:=Ff 32 (Eb ((k:Int)+1) tto x) hW;clear hW;obtain⟨HC,HCL,HX,HA,HH,HB⟩:=FI hbW HC HCL HX HA HH HB;clear hbW hsW;generalize hB0:w.heap.size=gS at HS HB ⊢;obtain⟨s1,s3⟩:=Jo HS.o 1 3;have c0:=Jt HC.o 0;refine wp_region_quiet_below (by kernel_rfl) (by kernel_rfl) ?_;repeat go_big_quiet_step (first|(go_at_call 37;with_reducible exact AL λW _=>KK.o W))
 refine wpQuiet_nil ?_;intro w2 hw';have hb2:=AP hw';obtain⟨HC,HCL,HX,HA,HH,HB⟩:=FI hb2 HC HCL HX HA HH HB;have HS:=ET hb2 HS;clear hw' hb2 s1 s3 c0 KK;go_upto_region 3 with(fail);try simp only[hdn]
 have hgsx:gS≠gcl k:=by have:=HX0.lt;omega
 go_cut [5,6] from 25 to 42 (λys zs wx=>∃bx L r,ys=.pointer (some ⟨bx,0,none⟩)∧zs=.bool r∧L.length=7∧Holds wx bx 23 L∧Holds wx gS 32 (Eb ((k:Int)+1) tto x)∧∃W W1,Below w.heap.size w W∧RN (gcl k) y tto L r W W1∧Touch bx W1 wx∧w.heap.size≤bx);case first=>
  obtain⟨HC,HCL,HX,HB,HS⟩:=Fq (AQ _ w2) HC HCL HX HB HS;refine EQ [13,18] 20 (λhSn=>?_);generalize w2.drew=wd at HC HCL HX HB HS hSn ⊢;simp only[List.replicate];refine Dz 0 ?_;refine BG 3 [7,8,13,14,15,16,18,19] (λw hSw=>Ag (HC.bel hSw) 3) ?_;refine CS 4 ?_;refine BG 5 [6,7,8,13,14,15,16,18,19] (λw hSw=>Ag (HS.bel hSw) 3) ?_;refine FT 6 ?_;refine He 8 [13,14,15,16,18,19] (some 34) (?vg9) rfl (Or.inl ⟨by rfl,?hg9⟩) hSn ?rg9;case hg9=>
   intro w hSw;have bp:=(HCL.bel hSw).cell k;rw[Jl 8 gcl rC k hk] at bp;go_simp;try with_reducible rfl
  simp only[Act.put,zA,zB,zC];refine CS 9 ?_;refine BG 10 [13,14,15,16,18,19] (λw hSw=>GR (HS.bel hSw) 4 5 6 7 8 9 10) ?_;refine CS 11 ?_;refine BG 12 [13,14,15,16,18,19] (λw hSw=>Ag (HS.bel hSw) 1) ?_;refine rdA [13,17] (Aw.cons rfl (λK hK=>?_) (Aw.cons rfl (λK hK=>?_) (Aw.nil)))
  ·skip
   go_simp;have hSW:=hSn;refine(KB.o _ (HX.bel hSn)).mono ?_;rintro e wp ⟨L,r,rfl,hL7,hL1,hbr⟩;have HBR:=qh hbr;have HS1:=qh (hbr.keep (HS.bel hSn) hgsx);have hbs:=hbr.size;try(have HZ1:=qh (hbr.keep HZ.o (λhe=>hgbx (he.trans rfl))))
   clear hbr;refine BN hK ?_;clear hK;refine Dz 14 ?_ (hS:=IJ);refine BH 17 rfl (λK hK=>?_);go_simp;have hal:=λo=>Below.alloc hSn hSn.size o;first|(refine hK.out _ _ (λ_=>hal _) ?_;have hSn:=hal (.cells #[.int .i64 0,.int .i64 0,.int .i64 0,.string ⟨#[]⟩,.string ⟨#[]⟩,.string ⟨#[]⟩,.string ⟨#[]⟩] 23);have HZ:=qh (AA wd 23 [.int .i64 0,.int .i64 0,.int .i64 0,.string ⟨#[]⟩,.string ⟨#[]⟩,.string ⟨#[]⟩,.string ⟨#[]⟩]);have hgbx:wd.heap.size≠gcl k:=Ne.symm (Nat.ne_of_lt HX.lt);change wpAnyL _ _ _ _ _ _ _ _ _ (wd.alloc (.cells #[.int .i64 0,.int .i64 0,.int .i64 0,.string ⟨#[]⟩,.string ⟨#[]⟩,.string ⟨#[]⟩,.string ⟨#[]⟩] 23));generalize hwc:wd.alloc (.cells #[.int .i64 0,.int .i64 0,.int .i64 0,.string ⟨#[]⟩,.string ⟨#[]⟩,.string ⟨#[]⟩,.string ⟨#[]⟩] 23)=wc at hSn HZ ⊢)|(refine hK.out _ _ IJ ?_;have HZ1:=qh (AA wp 23 [.int .i64 0,.int .i64 0,.int .i64 0,.string ⟨#[]⟩,.string ⟨#[]⟩,.string ⟨#[]⟩,.string ⟨#[]⟩]);have hbal:=(Below.refl wp.heap.size wp).alloc (Nat.le_refl _) (.cells #[.int .i64 0,.int .i64 0,.int .i64 0,.string ⟨#[]⟩,.string ⟨#[]⟩,.string ⟨#[]⟩,.string ⟨#[]⟩] 23);change wpAnyL _ _ _ _ _ _ _ _ _ (wp.alloc (.cells #[.int .i64 0,.int .i64 0,.int .i64 0,.string ⟨#[]⟩,.string ⟨#[]⟩,.string ⟨#[]⟩,.string ⟨#[]⟩] 23));generalize hwc:wp.alloc (.cells #[.int .i64 0,.int .i64 0,.int .i64 0,.string ⟨#[]⟩,.string ⟨#[]⟩,.string ⟨#[]⟩,.string ⟨#[]⟩] 23)=wc at HZ1 hbal ⊢)
   clear hK;try simp only[Act.put,zA,zB,zC]
   refine BH 18 rfl (λK hK=>?_);refine tB L HZ1.o ?_ (OH hL1) (hi:=by rw[hL7];kernel_rfl) (hl:=by rw[hL7];rfl);intro wf hhf htf;refine BN hK ?_;clear hK;refine CS 19 ?_ (hS:=IJ);refine Dl ?_;go_wp2_with fail
   go_meet
   have hgsl:=HS.lt;subst hB0;first|exact⟨_,L,r,rfl,rfl,hL7,hhf,(HS1.bel hbal).touch htf (by omega),wd,wp,HB.below,HBR.o,(Touch.bel (Touch.refl _ wp) hbal).trans htf,Nat.le_trans HB.le hbs⟩|exact⟨_,L,r,rfl,rfl,hL7,hhf,HS1.touch htf (by omega),wc,wp,(HB.bel hSW).below,HBR.o,htf,HB.le⟩
  ·skip
   go_simp;have hal:=λo=>Below.alloc hSn hSn.size o;first|(refine hK.out _ _ (λ_=>hal _) ?_;have hSn:=hal (.cells #[.int .i64 0,.int .i64 0,.int .i64 0,.string ⟨#[]⟩,.string ⟨#[]⟩,.string ⟨#[]⟩,.string ⟨#[]⟩] 23);have HZ:=qh (AA wd 23 [.int .i64 0,.int .i64 0,.int .i64 0,.string ⟨#[]⟩,.string ⟨#[]⟩,.string ⟨#[]⟩,.string ⟨#[]⟩]);have hgbx:wd.heap.size≠gcl k:=Ne.symm (Nat.ne_of_lt HX.lt);change wpAnyL _ _ _ _ _ _ _ _ _ (wd.alloc (.cells #[.int .i64 0,.int .i64 0,.int .i64 0,.string ⟨#[]⟩,.string ⟨#[]⟩,.string ⟨#[]⟩,.string ⟨#[]⟩] 23));generalize hwc:wd.alloc (.cells #[.int .i64 0,.int .i64 0,.int .i64 0,.string ⟨#[]⟩,.string ⟨#[]⟩,.string ⟨#[]⟩,.string ⟨#[]⟩] 23)=wc at hSn HZ ⊢)|(refine hK.out _ _ IJ ?_;have HZ1:=qh (AA wp 23 [.int .i64 0,.int .i64 0,.int .i64 0,.string ⟨#[]⟩,.string ⟨#[]⟩,.string ⟨#[]⟩,.string ⟨#[]⟩]);have hbal:=(Below.refl wp.heap.size wp).alloc (Nat.le_refl _) (.cells #[.int .i64 0,.int .i64 0,.int .i64 0,.string ⟨#[]⟩,.string ⟨#[]⟩,.string ⟨#[]⟩,.string ⟨#[]⟩] 23);change wpAnyL _ _ _ _ _ _ _ _ _ (wp.alloc (.cells #[.int .i64 0,.int .i64 0,.int .i64 0,.string ⟨#[]⟩,.string ⟨#[]⟩,.string ⟨#[]⟩,.string ⟨#[]⟩] 23));generalize hwc:wp.alloc (.cells #[.int .i64 0,.int .i64 0,.int .i64 0,.string ⟨#[]⟩,.string ⟨#[]⟩,.string ⟨#[]⟩,.string ⟨#[]⟩] 23)=wc at HZ1 hbal ⊢)
   clear hK;try simp only[Act.put,zA,zB,zC]
   refine BH 13 rfl (λK hK=>?_);go_simp;have hSW:=hSn;refine(KB.o _ (HX.bel hSn)).mono ?_;rintro e wp ⟨L,r,rfl,hL7,hL1,hbr⟩;have HBR:=qh hbr;have HS1:=qh (hbr.keep (HS.bel hSn) hgsx);have hbs:=hbr.size;try(have HZ1:=qh (hbr.keep HZ.o (λhe=>hgbx (he.trans rfl))))
   clear hbr;refine BN hK ?_;clear hK;refine Dz 14 ?_ (hS:=IJ);refine BH 18 rfl (λK hK=>?_);refine tB L HZ1.o ?_ (OH hL1) (hi:=by rw[hL7];kernel_rfl) (hl:=by rw[hL7];rfl);intro wf hhf htf;refine BN hK ?_;clear hK;refine CS 19 ?_ (hS:=IJ);refine Dl ?_;go_wp2_with fail
   go_meet
   have hgsl:=HS.lt;subst hB0;first|exact⟨_,L,r,rfl,rfl,hL7,hhf,(HS1.bel hbal).touch htf (by omega),wd,wp,HB.below,HBR.o,(Touch.bel (Touch.refl _ wp) hbal).trans htf,Nat.le_trans HB.le hbs⟩|exact⟨_,L,r,rfl,rfl,hL7,hhf,HS1.touch htf (by omega),wc,wp,(HB.bel hSW).below,HBR.o,htf,HB.le⟩
 case rest=>
  obtain⟨bx,L,r,rfl,rfl,hL7,hbx,hss,W,W1,hbW,hbr,htx,hbxw⟩:=hcut;rcases hbr with⟨rfl,rfl,hcat,ht1,hra⟩|⟨rfl,hb1,hnr⟩
  ·have hrk:=qh hra;have hmA:Mv (λx=>x=gcl k) w wc:=(((Mv.of_below hbW).mv (Mv.AU ht1 rfl:Mv (λx=>x=gcl k) W W1) (λk hk=>.inl hk)).mv (Mv.AU htx rfl:Mv (λk=>k=bx) W1 wc) (λk hk=>.inr (hk▸hbxw)));have hl0:=HX0.lt;have hlA:=HA0.lt;have hlC:=HC0.lt;have hlH:=HH0.lt;have dH:∀z,obh=some z→z≠gC∧z≠gCa∧z≠gcl k∧z≠bx∧z≠gS:=λz hz=>⟨AO.ne_of HH0.o HC0.o (by decide) z hz,AO.ne_of HH0.o HA0.o (by decide) z hz,AO.ne_of HH0.o HX0.o (by decide) z hz,by have:=hlH z hz;omega,by have:=hlH z hz;omega⟩;have dA:gC≠gCa∧gcl k≠gCa∧bx≠gCa∧gS≠gCa:=⟨HC0.ne_of HA0.o (by decide),HX0.ne_of HA0.o (by decide),by omega,by omega⟩;have dC:gCa≠gC∧gcl k≠gC∧bx≠gC∧gS≠gC:=⟨Ne.symm dA.1,HX0.ne_of HC0.o (by decide),by omega,by omega⟩;have HC1:=qh (HC0.mv hmA (HC0.ne_of HX0.o (by decide)));have HA1:=qh (HA0.mv hmA (HA0.ne_of HX0.o (by decide)));have HX1:=qh (show Holds wc (gcl k) 132 (DU y.c y.s y true tto 0) from hcat.mv (Mv.AU htx rfl:Mv (λk=>k=bx) W1 wc) (by omega));have HH1:=qh (HH0.mv hmA (λz hz=>(dH z hz).2.2.1));have HBX:=qh hbx;have HS2:=qh hss;have HM:=qh (hmA.more (G:=λx=>x=gC∨x=gCa∨x=gcl k∨obh=some x) (λx hx=>.inr (.inr (.inl hx))));clear hss hbx hcat ht1 hra hmA htx HC HX HA HS HB HC0 HX0 HA0 HH0 HH HCL KB;have HC:=HC1;have HA:=HA1;have HX:=HX1;have HS:=HS2;have HH:=HH1;clear HC1 HA1 HX1 HS2 HH1;go_upto_region 6 with(fail);obtain⟨HC,HA,HX,HBX,HS,HM⟩:=FI (AQ _ wc) HC HA HX HBX HS HM;have HH:=ET (AQ _ wc) HH;refine EQ [9] 10 (λhSn=>?_);generalize wc.drew=wd at HC HA HX HBX HS HM HH hSn ⊢;simp only[List.replicate];refine Dz 0 ?_;refine BG 3 [8,9] (λw hSw=>Ag (HC.bel hSw) 4) ?_;refine CS 4 ?_;refine BG 5 [6,8,9] (λw hSw=>Ag (HS.bel hSw) 3) ?_;refine CS 6 ?_;refine BG 7 [8,9] (λw hSw=>GR (HBX.bel hSw) 0 1 2 3 4 5 6) ?_;refine CS 8 ?_;refine BH 9 rfl (λK hK=>?_);refine Ec rfl 23 (.tmp 52) (.tmp 51) rfl rfl gCa (k*7) _ 23 (HA.bel hSn) rfl (y.cells) rfl (by kernel_rfl) (by rw[hcs];simp[Cm.cells];omega) (by simp[Cm.cells,Value.oneCell']) ?_;intro w6 hh6 ht6;have hm6:Mv (λk=>k=gCa) _ w6:=Mv.AU ht6 rfl;have HA:=qh (show Holds w6 gCa 23 (splice CA (k*7) y.cells) from hh6);have HC:=qh ((HC.bel hSn).mv hm6 dA.1);have HX:=qh ((HX.bel hSn).mv hm6 dA.2.1);have HBX:=qh ((HBX.bel hSn).mv hm6 dA.2.2.1);have HS:=qh ((HS.bel hSn).mv hm6 dA.2.2.2);have HH:=qh ((HH.bel hSn).mv hm6 (λz hz=>(dH z hz).2.1));have HM:=qh ((HM.bel hSn).mv hm6 (λk hk=>.inl (.inr (.inl hk))));clear hh6 ht6 hm6;refine BN hK ?_;clear hK;refine Dl ?_;clear hSn;go_upto_region 7 with(fail);obtain⟨HC,HA,HX,HBX,HS,HM⟩:=FI (AQ _ w6) HC HA HX HBX HS HM;have HH:=ET (AQ _ w6) HH;refine EQ [10,13] 14 (λhSn=>?_);generalize w6.drew=wd at HC HA HX HBX HS HM HH hSn ⊢;simp only[List.replicate];refine Jr 0 ?_;refine BG 4 [10,11,12,13] (λw hSw=>Ag (HC.bel hSw) 6) ?_;refine CS 5 ?_;refine BG 6 [8,9,10,11,12,13] (λw hSw=>Ag (HS.bel hSw) 3) ?_;refine BG 7 [8,9,10,11,12,13] (λw hSw=>GR (HBX.bel hSw) 0 1 2 3 4 5 6) ?_;refine CS 8 ?_;refine BH 9 rfl (λK hK=>?_);refine tU 55 (.agg (IW (QA k y) (.slice none 0 0)).toArray) (IW (QA k y) (.slice none 0 0)) ?_;intro wa hna hba;have hSn:=AB hSn hba;have HNA:=qh hna;generalize wd.heap.size=gn at HNA ⊢;obtain⟨HC,HA,HX,HBX,HS,HM⟩:=FI hSn HC HA HX HBX HS HM;have HH:=ET hSn HH;clear hna hba;change K (Act.put _ (some 62) _) _;refine BN hK ?_;clear hK;refine BH 10 rfl (λK hK=>?_);refine tS (.agg jw.toArray) 14 168 HH.o (IW (QA k y) (.slice none 0 0)) (HNA.reads 0 _ (λj v hv=>by rw[Nat.zero_add];exact hv)) ?_ (SA _ ⟨none,0,0,rfl⟩);intro v9 ob9 w9 ho9 hob9 hm9;have hle9:=HM.size;have HC9:=qh (HC.mv hm9 (λhf=>(dH _ hf).1 rfl));have HA9:=qh (HA.mv hm9 (λhf=>(dH _ hf).2.1 rfl));have HX9:=qh (HX.mv hm9 (λhf=>(dH _ hf).2.2.1 rfl));have HBX9:=qh (HBX.mv hm9 (λhf=>(dH _ hf).2.2.2.1 rfl));have HS9:=qh (HS.mv hm9 (λhf=>(dH _ hf).2.2.2.2 rfl));have HM9:=qh (HM.mv hm9 (λx hx=>.inl (.inr (.inr (.inr hx)))));have HO9:=qh ho9;have hob8:ob9=obh∨∃k,ob9=some k∧w.heap.size≤k:=hob9.imp id (λ⟨k,h,h2⟩=>⟨k,h,by omega⟩);have hgt9:∀k,ob9=some k→k≠gC:=(λk hk=>AO.ne_of HO9.o HC9.o (by decide) k hk);clear ho9 hob9 hm9;change K (Act.put _ (some 63) _) _;refine BN hK ?_;clear hK;refine FT 11 ?_ (hS:=IJ);refine BH 13 rfl (λK hK=>?_);refine tC 6 HC9.o v9 ?_ (hu:=HO9.c1) (h1:=HO9.c2);intro w10 hh10 ht10;have hm10:Mv (λk=>k=gC) w9 w10:=Mv.AU ht10 rfl;have HS:=qh (HS9.mv hm10 dC.2.2.2);have HBX:=qh (HBX9.mv hm10 dC.2.2.1);have HCD:=qh (show Called gC gCa n tto k gcl CA y obh le EL dv nv (.slice (some ⟨gCl,0,none⟩) 8 cCl) (.slice (some ⟨gCa,0,none⟩) 8 8) lv w w10 from⟨v9,ob9,hh10,HO9.mv hm10 hgt9,hob8,HA9.mv hm10 dC.1,HX9.mv hm10 dC.2.1,hrk.out,HM9.mv hm10 (λk hk=>.inl (.inl hk))⟩);clear hh10 ht10 hm10;refine BN hK ?_;clear hK;refine Dl ?_;clear hSn HC HA HX HM HH HC9 HA9 HX9 HBX9 HS9 HM9 HO9 HNA;have s1:=Ag HS.o 1;have HRB:=qh HBX.AY;go_wp2_with (first|(with_reducible refine lR 0 HRB.o ?_));refine Ac (KM.o _ HCD.o) ?_;rintro w12 h9;have H9:=qh h9;clear h9 s1 HRB HS HBX HCD KM;go_wp2_with fail;go_ret;exact .inl ⟨rfl,H9.o⟩
  ·have hbb:Below w.heap.size w wc:=(hbW.trans (hb1.mono hbW.size)).trans (htx.below hbxw (Nat.le_trans hbW.size hb1.size));have HBB:=qh hbb;have HNR:=qh hnr;clear hnr hbb hb1 htx hbW hbx hss HC HX HA HS HB HC0 HX0 HA0 HH0 HH HCL KB KM;go_wp2_with fail;go_ret;exact .inr ⟨rfl,hB0▸HBB.o,HNR.o⟩
end
section
@[reducible] def QO [In] [Bs] [Hs] (c:Cm):Hs:=⟨Ee Hs.sq (cK c) c.s,Ee Hs.cm (cK c) c,evs c 2⟩
theorem JR(n j:Nat)(p:Ph)(hj:j<n)(d:Ph):(List.replicate n p).getD j d=p:=by simp[List.getD_eq_getElem?_getD,List.getElem?_replicate,hj]
theorem Nq(k:Nat)(sq:Int)(x:Cm):cK (Bd k sq x)=k:=by show ((k:Int)+1).toNat-1=k;omega
theorem gu{CA cs:List Value}{o:Nat}(ho:o+cs.length≤CA.length):(splice CA o cs).length=CA.length∧∀(j:Nat) v,cs[j]?=some v→(splice CA o cs)[o+j]?=some v:=by
 refine⟨by unfold splice;simp;omega,λj v hv=>?_⟩;have hj:j<cs.length:=(List.getElem?_eq_some_iff.1 hv).1;have ht:(List.take o CA).length=o:=by rw[List.length_take];omega
 unfold splice;rw[List.getElem?_append_right (by omega),ht,show o+j-o=j by omega,List.getElem?_append_left hj];exact hv
section
variable {I I':In} {b:Bs} {h0:Hs} {w:World} {own:Nat→Nat} {gC n q q':Nat} {c c':Cm}
theorem Bg.any(h:@Bg I b h0 w own gC n q c (BU n))(hck:cK c<8)(hck':cK c'<8):@Bg I' b h0 w own gC n q' c' (BU n):=by
 obtain⟨dv,gN,cN,gCl,cCl,gCa,lv,hv,gs,gcl,⟨a1,a2,a3,a4,a5,a6,a7,a8,a9,⟨CA,b1,b2,b3⟩,⟨ob,b5,b6⟩,b7,b10⟩,hN,hp⟩:=h;have hall:∀j,j<8→∃tg tk,Ju w (gcl j) ((j:Int)+1) (h0.sq j) (h0.cm j) false tg tk:=λj hj=>by
  by_cases hjc:j=cK c
  ·subst hjc;rcases a7 with⟨_,_,h⟩|⟨h,_⟩
   ·exact h
   ·exact absurd rfl h
  ·exact a8 j hj hjc
 refine⟨dv,gN,cN,gCl,cCl,gCa,lv,hv,gs,gcl,@Nh.mk I' b h0 _ _ _ _ _ _ _ _ _ _ _ _ _ _ _ _ _ _ _ a1 a2 a3 a4 a5 a6 (.inl ⟨rfl,rfl,hall _ hck'⟩) (λj hj _=>hall j hj) a9 ⟨CA,b1,b2,λh=>absurd rfl h⟩ ⟨ob,b5,b6⟩ b7 b10,λi hi=>?_,hp⟩;have h:=hN i hi;have e:(BU n).phs.getD i .fresh=.fresh:=JR n i _ hi _;rw[e] at h ⊢;exact h.any
theorem Bg.next(h:@Bg I b h0 w own gC n q c (Jq n 0))(hck:cK c<8)(hck':cK c'<8):@Bg I' (@JO I b q c) (@QO I b h0 c) w own gC n q' c' (BU n):=by
 obtain⟨dv,gN,cN,gCl,cCl,gCa,lv,hv,gs,gcl,⟨a1,a2,a3,a4,a5,a6,a7,a8,a9,⟨CA,b1,b2,b3⟩,⟨ob,b5,b6⟩,b7,b10⟩,hN,hp⟩:=h;have hall:∀j,j<8→∃tg tk,Ju w (gcl j) ((j:Int)+1) (Ee h0.sq (cK c) c.s j) (Ee h0.cm (cK c) c j) false tg tk:=λj hj=>by
  by_cases hjc:j=cK c
  ·subst hjc;rw[CX,CX];rcases a7 with⟨h,_⟩|⟨_,h⟩
   ·cases h
   ·exact h
  ·rw[CY _ _ _ _ hjc,CY _ _ _ _ hjc];exact a8 j hj hjc
 refine⟨dv,gN,cN,gCl,cCl,gCa,lv,hv,gs,gcl,@Nh.mk I' (@JO I b q c) (@QO I b h0 c) _ _ _ _ _ _ _ _ _ _ _ _ _ _ _ _ _ _ _ a1 a2 a3 a4 a5 a6 (.inl ⟨rfl,rfl,hall _ hck'⟩) (λj hj _=>hall j hj) a9 ⟨CA,b1,b2,λh=>absurd rfl h⟩ ⟨ob,b5,b6⟩ b7 b10,λi hi=>?_,by simp[BU]⟩;have h:=hN i hi;have e:(Jq n 0).phs.getD i .fresh=.com:=JR n i _ hi _;have e2:(BU n).phs.getD i .fresh=.fresh:=JR n i _ hi _;rw[e] at h;rw[e2];exact h.next
end
variable [In] [Bs] [Hs]
theorem LZ(w:World)(own:Nat→Nat)(gC n q k:Nat)(x c:Cm)(hcx:c=Bd k (Hs.sq k) x)(hk:k<8)(hsq:0≤Hs.sq k∧Hs.sq k≤1000000000)(hev:Hs.ev.length≤900)(h:Bg w own gC n q c (BU n))(hq:q<n)(hn:n≤7)(hOk:fits c→EN n q c∧NY c) :Calls prog 11 #[.pointer (some ⟨gC,0,none⟩),.agg (Eb ((k:Int)+1) q x).toArray] w λe w'=>∃b,e=.returned (.bool b)∧((b=true∧fits c∧∃own',Bg w' own' gC n q c (EM n q)∧Stepped w own w' own')∨(b=false∧¬fits c∧Below w.heap.size w w')):=by
 have hckk:cK c=k:=by rw[hcx];exact Nq k _ x
 have hck:cK c<8:=by omega
 have hcc:c.c=(k:Int)+1:=by rw[hcx];rfl
 refine X3 gC ((k:Int)+1) q x _ w λW hb=>?_;have h':=JB.bel h hck hb;obtain⟨dv,gN,cN,gCl,cCl,gCa,lv,hv,gs,gcl,hB,hN,hp⟩:=h';have hsz:=hb.size;have hol:∀k,own k≠0→k<w.heap.size:=by obtain⟨_,_,_,_,_,_,_,_,_,_,hB0,_⟩:=h;exact hB0.lt
 obtain⟨rC,hcp⟩:=hB.cp;obtain⟨rN,hnp⟩:=hB.np;obtain⟨CA,hca,hca56,_⟩:=hB.calls;obtain⟨tg0,tk0,hcat⟩:∃tg tk,Ju W (gcl k) ((k:Int)+1) (Hs.sq k) (Hs.cm k) false tg tk:=by
  rcases hB.c0 with⟨_,_,e3⟩|⟨e1,_⟩
  ·rw[hckk] at e3;exact e3
  ·exact absurd rfl e1
 obtain⟨hnil,obh,pvh,pbh,hh1,hh2,hh3⟩:=hB.his;refine(iW gC gCl cCl gCa n q k hk gcl rC CA (Hs.sq k) hsq x (Hs.cm k) c hcx tg0 tk0 hv obh Hs.ev.length (flat 14 Hs.ev.length (GH Hs.ev pvh)) (by omega) dv _ lv (λw'=>fits c∧∃own',Bg w' own' gC n q c (EM n q)∧Stepped w own w' own') W hB.cl hcp hcat hca hca56 hh1.1 hq hn λW1 hC=>?_).mono ?_
 ·obtain⟨hv1,obh1,c1,c2,c3,c4,c5,hfit,c7⟩:=hC;obtain⟨hBs,hHs⟩:=hOk hfit;have hn3:=hBs.n7.1;have hs7:=c7.size;have dG:∀z t L,Holds W z t L→t≠85→t≠23→t≠132→t≠55→¬(z=gC∨z=gCa∨z=gcl k∨obh=some z):=by
   rintro z t L hk h1 h2 h3 h4 (rfl|rfl|rfl|h)
   ·exact h1 (CP hk hB.cl)
   ·exact h2 (CP hk hca)
   ·exact h3 (CP hk hcat)
   ·exact AO.ne_of hh1.1 hk h4.symm z h rfl
  have hG1:∀z,(z=gC∨z=gCa∨z=gcl k∨obh=some z)→own z=1:=by
   rintro z (rfl|rfl|rfl|h)
   ·exact hB.ow.1
   ·exact hB.ow.2.2.2
   ·exact hB.clo k hk
   ·exact hh2 z h
  have hold:∀k,k<W.heap.size→Bo own W W1 1 k=own k:=λk hk=>Dj _ _ _ _ _ hk;have hltc:∀j,j<8→gcl j<W.heap.size:=λj hj=>Nat.lt_of_lt_of_le (hol _ (by rw[hB.clo j hj];decide)) hsz;have hown:∀{v:Value} {ob:Option Nat} {e:TypeId} {s n:Nat} {xs:List Value},AO W v ob e s n xs→e≠85→e≠23→e≠132→e≠55→∀g,ob=some g→¬(g=gC∨g=gCa∨g=gcl k∨obh=some g):=λho h1 h2 h3 h4 g hg=>by
   rcases ho.cases with⟨_,h0,_⟩|⟨g1,_,_,_,h0,_,_,hh,_⟩
   ·rw[h0] at hg;cases hg
   ·rw[h0] at hg;cases hg;exact dG _ _ _ hh h1 h2 h3 h4
  obtain⟨obl,hl1,hl2⟩:=hB.lts;obtain⟨sp1,sp2⟩:=gu (CA:=CA) (cs:=c.cells) (o:=k*7) (by rw[hca56];simp[Cm.cells];omega);have hev1:=F9.snoc (e:=QA k c) c2 (λi hi=>(hh1.2 i hi).mv c7 (hown (hh1.2 i hi) (by decide) (by decide) (by decide) (by decide))) (AV.nil _);have he1:evs c 1=Hs.ev++[QA k c]:=by
   show Hs.ev++[⟨1,(cK c:Int)+1,c,Rep.zero⟩]=_;rw[hckk]
   rfl
  have hB1:Nh W1 (Bo own W W1 1) gC n q c [] 1 true dv gN cN gCl cCl gCa lv hv1 gs gcl:=by
   refine⟨c1,⟨by rw[hold _ hB.cl.lt,hB.ow.1],by rw[hold _ hnp.lt,hB.ow.2.1],by rw[hold _ hcp.lt,hB.ow.2.2.1],by rw[hold _ hca.lt,hB.ow.2.2.2]⟩,⟨rN,hnp.mv c7 (dG _ _ _ hnp (by decide) (by decide) (by decide) (by decide))⟩,hB.cN,⟨rC,hcp.mv c7 (dG _ _ _ hcp (by decide) (by decide) (by decide) (by decide))⟩,hB.cCl,.inr ⟨by decide,q,0,?_⟩,λj hj hj0=>?_,λj hj=>by rw[hold _ (hltc j hj),hB.clo j hj],⟨_,c4,by rw[sp1,hca56],λ_ j v hv=>by rw[hckk];exact sp2 j v hv⟩,⟨obl,hl1.mv c7 (hown hl1 (by decide) (by decide) (by decide) (by decide)),λg hg=>by rw[hold _ (hl1.lt g hg),hl2 g hg]⟩,⟨λh=>?_,obh1,_,_,he1▸hev1,λg hg=>?_,λi hi g hg=>?_⟩,Gq hB.lt hs7⟩
   ·rw[hckk,←hcc];exact c5
   ·obtain⟨tg,tk,h3⟩:=hB.cs j hj hj0;refine⟨tg,tk,h3.mv c7 λhg=>?_⟩;rcases hg with hg|hg|hg|hg
    ·exact(Holds.ne_of h3 hB.cl (by decide)) hg
    ·exact(Holds.ne_of h3 hca (by decide)) hg
    ·exact hB.kT j hj hj0 (by rw[hckk];exact hg)
    ·exact AO.ne_of hh1.1 h3 (by decide) _ hg rfl
   ·rw[he1,List.length_append] at h;simp at h
   ·rcases c3 with c3|⟨z,c3,c3'⟩
    ·have:=hh2 g (c3▸hg);rw[hold g (AO.lt hh1.1 g (c3▸hg)),this]
    ·rw[c3] at hg;cases hg;exact Di _ _ _ _ _ (by omega) (c2.lt _ c3)
   ·rw[he1,List.length_append,List.length_singleton] at hi;by_cases hi2:i=Hs.ev.length
    ·subst hi2;rw[CX] at hg;cases hg
    ·rw[CY _ _ _ _ hi2] at hg;rw[hold g (AO.lt (hh1.2 i (by show i<Hs.ev.length;omega)) g hg)];exact hh3 i (by show i<Hs.ev.length;omega) g hg
  have hN1:Hm W1 (Bo own W W1 1) n q c (BU n).phs 0 gs (λ_=>[]) (λ_=>false):=hN.mv c7 (λk hk _=>by rw[hG1 k hk];decide) hold;have hoW:∀k,Bo own W W1 1 k≠0→k<W1.heap.size:=hB1.lt;have hSt:Stepped w own W1 (Bo own W W1 1):=⟨λk hk=>hold k (by omega),(Mv.of_below hb).mv c7 λk hk=>.inl (by rw[hG1 k hk];decide)⟩;obtain⟨rN1,hnp1⟩:=hB1.np;generalize hoe:Bo own W W1 1=own1 at hB1 hN1 hoW hSt;refine(dV gC q (gs q) c (λW'=>∃own2,JB W' own2 gC n q c ⟨(List.replicate n Ph.fresh).set q (.lead [] 0),[],1,true,0⟩ (λj=>if j=q then Bz 1 n q else []) (λ_=>false)∧Stepped w own W' own2) (λW'=>fits c∧∃own',Bg W' own' gC n q c (EM n q)∧Stepped w own W' own') W1 (λW2 hb2=>Rn gC n gN cN q gs rN1 dv _ _ lv hv1 W2 (hB1.cl.bel hb2) (hnp1.bel hb2) hq) (λW2 hb2=>?_) (λW2 hR=>?_))
  ·have hsz2:=hb2.size;have hB2:Nh W2 own1 gC n q c [] 1 true dv gN cN gCl cCl gCa lv hv1 gs gcl:=hB1.mv (G:=λ_=>False) hck (.of_below hb2) (λ_ h=>h.elim) (λ_ _=>rfl) (λk hk=>Nat.lt_of_lt_of_le (hoW k hk) hsz2);have hN2:Hm W2 own1 n q c (BU n).phs 0 gs (λ_=>[]) (λ_=>false):=hN1.mv (G:=λ_=>False) (.of_below hb2) (λ_ h=>h.elim) (λ_ _=>rfl);have hnq:=hN2 q hq;rw[show (BU n).phs.getD q .fresh=.fresh from JR n q _ hq _] at hnq;refine Ac (Y1 W2 (λk=>own1 k=2+q) (gs q) n q c 0 hBs hnq (λk hk=>Nat.lt_of_lt_of_le (hoW k (by omega)) hsz2)) ?_;rintro W' ⟨hnc,hm⟩;have hs3:=hm.size;have hold2:∀k,k<W2.heap.size→Bo own1 W2 W' (2+q) k=own1 k:=λk hk=>Dj _ _ _ _ _ hk;refine⟨rfl,Bo own1 W2 W' (2+q),⟨dv,gN,cN,gCl,cCl,gCa,lv,hv1,gs,gcl,hB2.mv hck hm (λk hk _=>by omega) hold2 (Gq hB2.lt hs3),λj hj=>?_,by simp⟩,(hSt.bel hb2).trans ⟨hold2,hm.more λk hk=>by omega⟩⟩;by_cases hj2:j=q
   ·subst hj2;have h9:((List.replicate n Ph.fresh).set j (.lead [] 0)).getD j .fresh=.lead [] 0:=by simp[List.getD_eq_getElem?_getD,hq]
    simp only[if_true];rw[h9];exact hnc.foot λk hk hkl=>by
     rcases hk with hk|⟨h5,h6⟩
     ·rw[hold2 k (Nat.lt_of_lt_of_le (hoW k (by omega)) hsz2)];exact hk
     ·exact Di _ _ _ _ _ h5 h6
   ·have h9:((List.replicate n Ph.fresh).set q (.lead [] 0)).getD j .fresh=.fresh:=by have h10:=JR n j .fresh hj .fresh;simp only[List.getD_eq_getElem?_getD] at h10;simp only[List.getD_eq_getElem?_getD,List.getElem?_set,if_neg (Ne.symm hj2)];exact h10
    simp only[if_neg hj2];rw[h9];have h7:=hN2 j hj;rw[show (BU n).phs.getD j .fresh=.fresh from JR n j _ hj _] at h7;have h8:Bh W' (λk=>own1 k=2+j) (gs j) n j q c .fresh [] false 0:=h7.mv hm λk hk _ hf2=>by omega
    exact h8.foot λk hk hkl=>by rw[hold2 k (Nat.lt_of_lt_of_le (hoW k (by omega)) hsz2)];exact hk
  ·obtain⟨own2,hG,hsp⟩:=hR;have hlen:(Bz 1 n q).length=n-1:=by simp[Bz,FU]
   refine(Ny W2 own2 gC n q q c _ (Bz 1 n q) _ _ hG hq (by simp) (λj hj=>by simp[hj]) (λj=>rfl) (λm hm=>?_) (by simp[hlen];omega) hck).mono ?_
   ·simp only[Bz,FU,List.mem_map,List.mem_range] at hm;obtain⟨r,⟨i,hi,rfl⟩,rfl⟩:=hm;show (if i<q then i else i+1)<n;split<;>omega
   ·rintro e w' ⟨rfl,own',h5,h6⟩;exact⟨rfl,hfit,own',by simpa[EM] using h5,hsp.trans h6⟩
 ·rintro e w' (⟨rfl,h1⟩|⟨rfl,hb2,hnr⟩)
  ·exact⟨true,rfl,.inl ⟨rfl,h1⟩⟩
  ·exact⟨false,rfl,.inr ⟨rfl,hnr,hb.trans (hb2.mono hb.size)⟩⟩
end
end Go.Proofs.YtimdpiifpibgfaaGreatDoor
