/- A part of the proof that the law TopCopies returns true for every input. -/
import Derived.Test.YtimdpiifpibgfaaGreatDoorQc33
set_option linter.all false
set_option maxRecDepth 20000
set_option maxHeartbeats 16000000
open Go.RowKit Go.Maps
namespace Go.Proofs.YtimdpiifpibgfaaGreatDoor
open Tryz
section
variable [In]
theorem bG{v:Value}{o:Nat→Ow}{pv:Nat→Value}(h:Bq v)(h2:∀i,i<8→Bq (pv i)):∀u∈Es v o pv,u.oneCell'=true:=by have:=LM (o:=o) h h2;simpa[List.all_eq_true] using this
theorem ZC(g n me gd gw gc gfr:Nat)(P:Value)(o:Nat→Ow)(pv:Nat→Value)(d kp:Nat→Int)(since tk:Int)(waits out ans:Value)(w:World) (nd:Holds w g 102 (A7 n me gd gw gc gfr P o pv d kp since tk waits out ans)) (hd:∀r,r<7→0≤d r∧d r≤1000) (KC:∀W,Below w.heap.size w W→Calls prog 164 #[.pointer (some ⟨g,0,none⟩)] W λe w'=>e=.returned (.slice none 0 0)∧Below W.heap.size W w') :Calls prog 91 #[.pointer (some ⟨g,0,none⟩)] w λe w'=>e=.returned (.tuple #[])∧Below w.heap.size w w':=by
 have KP:=qh (λW=>XO d hd W);have KC:=qh KC;have HN:=qh nd;have HB:=qh (Base.start w);clear nd;go_in;go_upto_region 0 with(fail);obtain⟨n55,n56,n57,n58,n59,n60,n61⟩:=jk HN.o 55 56 57 58 59 60 61;refine wp_region_quiet_below (by kernel_rfl) (by kernel_rfl) ?_;repeat go_big_quiet_step (first|(go_at_call 164;with_reducible exact AL λW h2=>KC.o W h2)|(go_at_call 163;with_reducible exact AL λW h2=>KP.o W))
 refine wpQuiet_nil ?_;intro w3 hw';have hb3:=AP hw';have HB:=ET hb3 HB;clear hw' hb3 n55 n56 n57 n58 n59 n60 n61 HN;go_wp2_with fail;go_loopw [20] (λvi wr=>vi=.int .i64 0∧w3=wr) (λ_ _=>0);case atStart=>exact⟨rfl,rfl⟩
 case round=>
  obtain⟨rfl,rfl⟩:=hrel;go_wp2_with fail;go_loopw [67] (λvi wr=>vi=.int .i64 0∧w3=wr) (λ_ _=>0);case atStart=>exact⟨rfl,rfl⟩
  case round=>obtain⟨rfl,rfl⟩:=hrel;go_wp2_with fail;exact bE ⟨rfl,HB.below⟩
theorem Sl(q:Nat)(c:Cm):(G8 q c).toArray.all (·.oneCell')=true:=by simp[G8,cellL,Value.oneCell']
def VI(g n me gd gw gc gfr q:Nat)(S:St)(d kp:Nat→Int)(since tk:Int)(waits out ans:Value)(w w':World):Prop:=∃P pv ob pb,Holds w' g 102 (A7 n me gd gw gc gfr P S.ow pv (doneD d q) kp (since+1) tk waits out ans)∧AV w' P ob S.ps∧OwnAt w' S.ow pv pb∧(∀k,ob=some k→w.heap.size≤k)∧(∀i,i<8→∀k,pb i=some k→w.heap.size≤k)∧Mv (λk=>k=g) w w'
theorem az(g n me gd gw gc gfr q:Nat)(S:St)(P:Value)(ob:Option Nat)(pv:Nat→Value)(pb:Nat→Option Nat)(d kp:Nat→Int)(since tk:Int)(c:Cm)(hcc:Gu c)(hS:S.Ok)(hsq:(S.ow (c.c.toNat-1)).seq<c.s)(waits out ans:Value)(w:World) (nd:Holds w g 102 (A7 n me gd gw gc gfr P S.ow pv d kp since tk waits out ans)) (hP:AV w P ob S.ps) (hO:OwnAt w S.ow pv pb) (hq:q<7) (hdm:d q=In.sl-1) (hd9:∀r,r<7→0≤d r∧d r≤1000∧MC q r≤d r) (hsi:0≤since∧since≤1000) (KC:∀W,Below w.heap.size w W→Calls prog 164 #[.pointer (some ⟨g,0,none⟩)] W λe w'=>∃gk ck rest,e=.returned (.slice (some ⟨gk,0,none⟩) 1 ck)∧Holds w' gk 267 (FQ q c++rest)∧Below W.heap.size W w') :Calls prog 91 #[.pointer (some ⟨g,0,none⟩)] w λe w'=>e=.returned (.tuple #[])∧VI g n me gd gw gc gfr q (IC S c) d kp since tk waits out ans w w':=by
 have KP:=qh (λgk ck rest W hk=>Y5 q gk ck c rest d W hdm hd9 hq hk);have KA:=qh (λW h h2=>(iC S P ob pv pb c W h h2 hS hcc hsq).mono λe w' (h:Px (IC S c) W e w')=>h);have hdl:d q<In.sl:=by omega
 have hsw:IntKind.i64.wrap (since+1)=since+1:=IntWalk.i64_in _ (by omega);have HSW:=qh hsw;generalize IC S c=S2 at KA ⊢;obtain⟨pP,nP,cP,rfl⟩:=hP.Bq;have HPA:=qh hP;have HOA:=qh hO;have HDL:=qh hdl;clear hcc hP hO hdm hd9 hS hsq hdl hsi hsw;have KC:=qh KC;have HN:=qh nd;have HB:=qh (Base.start w);have hqi:(q:Int)<7:=by omega
 have hgl:=nd.lt;clear nd;go_in;go_upto_region 0 with(fail);obtain⟨HN,HB,HPA,HOA⟩:=Dy (AQ _ w) HN HB HPA HOA;refine EQ [] 12 (λhSn=>?_);generalize w.drew=wd at HN HB HPA HOA hSn ⊢;simp only[List.replicate];refine Dz 0 ?_;refine BG 3 [] (λw hSw=>GR (HN.bel hSw) 55 56 57 58 59 60 61) ?_;refine CS 4 ?_;refine BH 5 rfl (λK hK=>?_);go_simp;refine(KC.o _ (HB.bel hSn).below).mono ?_;rintro e w2 ⟨gk,ck,rk,rfl,hk,hb⟩;have hSn:=AB hSn hb;have HK:=qh hk;clear hk;clear hb;refine BN hK ?_;clear hK;refine BH 6 rfl (λK hK=>?_);go_simp;refine(KP.o gk ck rk _ HK.o).mono ?_;rintro e w3 ⟨R,obR,rfl,hoR,hobR,hb⟩;have hSn:=AB hSn hb;have HR:=qh hoR;clear hoR HK;clear hb;refine BN hK ?_;clear hK;refine Jr 7 ?_;refine CS 11 ?_;refine Dl ?_;obtain⟨HN,HB,HPA,HOA⟩:=Dy hSn HN HB HPA HOA;clear hSn;obtain⟨gR,cR,rR,rfl,rfl,hc1,hc2,hgR,hgRl⟩:=HR.blk (Nat.zero_lt_one);have HK:=qh hgR;clear hgR hobR HR;go_wp2_with fail;go_loopw [20] (λvi wr=>(vi=.int .i64 0∧w3=wr)∨(vi=.int .i64 1∧VI g n me gd gw gc gfr q S2 d kp since tk waits out ans w wr)) (λvi _=>1 - (intOf vi).toNat);case atStart=>exact .inl ⟨rfl,rfl⟩
 case round=>
  rcases hrel with⟨rfl,rfl⟩|⟨rfl,hrd⟩
  ·have HRK:=qh (Ea HK.o 0 (cs:=G8 q c) rfl);go_upto_region 4 with(first|(refine lM 0 HRK.o ?_)|(refine sW (G8 q c) (AA w3 _ _) ?_ (Sl q c);intro w4 hh4 ht4));have hal:Below w3.heap.size w3 w4:=Below.trans ((Below.refl _ _).alloc (Nat.le_refl _) _) (ht4.below (Nat.le_refl _) (by simp));have hs3:=HB.le;have HX:=qh hh4;obtain⟨HN,HB,HPA,HOA⟩:=Dy hal HN HB HPA HOA;clear hal hh4 ht4 HRK HK;generalize hgp:w3.heap.size=gp at HX ⊢;have HRX:=qh (λ(w':World) (h:Below w4.drew.heap.size w4.drew w')=>(Ea ((HN.bel (AQ _ w4)).bel h) 6 (cs:=Es (.slice pP nP cP) S.ow pv) rfl));obtain⟨HN,HB,HX,HPA,HOA⟩:=Fq (AQ _ w4) HN HB HX HPA HOA;refine EQ [14] 15 (λhSn=>?_);generalize w4.drew=wd at HN HB HX HPA HOA HRX hSn ⊢;simp only[List.replicate];refine Jr 0 ?_;refine He 4 [8,9,10,11,12,13,14] (some 29) (.agg (Es (.slice pP nP cP) S.ow pv).toArray) rfl (yieldsIf_load_mid (by rfl) 66 _ rfl g 6 rfl (Es (.slice pP nP cP) S.ow pv) _ (λw hSw=>HRX.o w hSw) underlying66 rfl (by as_aux_lemma=>kernel_rfl)) hSn ?rg15;simp only[Act.put,zA,zB,zC];refine FT 5 ?_;refine BG 7 [8,9,10,11,12,13,14] (λw hSw=>GR (HX.bel hSw) 7 8 9 10 11 12 13) ?_;refine BH 8 rfl (λK hK=>?_);go_simp;refine(KA.o _ (HPA.bel hSn) (HOA.bel hSn)).mono ?_;rintro e w5 ⟨v5,ob5,pv5,pb5,R5,rfl,hp5,ho5,hob5,hpb5,hb⟩;have hSn:=AB hSn hb;obtain⟨p5,n5,m5,rfl⟩:=hp5.Bq;have hone:=bG (o:=S2.ow) hp5.Bq ho5.sl;have HP:=qh hp5;have HO:=qh ho5;have hob:=hob5;have hpb:=hpb5;clear hp5 hob5 ho5 hpb5;clear hb;refine BN hK ?_;clear hK;refine Jr 9 ?_;refine CS 13 ?_;refine BH 14 rfl (λK hK=>?_);have hSb:=hSn;refine Ec rfl 66 (.tmp 37) (.tmp 34) rfl rfl g 6 _ 102 (HN.bel hSn) rfl (Es (.slice p5 n5 m5) S2.ow pv5) rfl (by kernel_rfl) (by simp[A7,Es,Aq,Gl,BF]) hone ?_;intro w6 hh6 ht6;have HN:=qh (show Holds w6 g 102 (A7 n me gd gw gc gfr (.slice p5 n5 m5) S2.ow pv5 d kp since tk waits out ans) from(TI n me gd gw gc gfr (.slice pP nP cP) S.ow pv d kp since tk waits out ans (.slice p5 n5 m5) S2.ow pv5)▸hh6);have HB5:=HB.bel hSb;have hs5:=HB5.le;have hsd:=HB.le;have hob2:∀k,ob5=some k→w.heap.size≤k:=λk hk=>Nat.le_trans hsd (hob k hk);have hpb2:∀i,i<8→∀k,pb5 i=some k→w.heap.size≤k:=λi hi k hk=>Nat.le_trans hsd (hpb i hi k hk);have HP:=qh (AO.touch HP.o ht6 (λk hk=>by have:=hob k hk;omega));have HO:=qh (HO.mv (Mv.AU (F:=λk=>k=g) ht6 rfl) (λi hi k hk e=>by have:=hpb i hi k hk;omega));have HM:=qh (Mv.touch (F:=λk=>k=g) (Mv.of_below HB5.below) ht6 (.inl rfl));have HX:=qh ((HX.bel hSb).touch ht6 (by omega));clear hh6 ht6 hSb HB5 hone;refine BN hK ?_;clear hK;refine Dl ?_;clear hSn HB HRX hob hpb HPA HOA;have hdl:=HDL.o;go_upto_region 5 with(fail);obtain⟨HN,HP,HO,HM,HX⟩:=Fq (AQ _ w6) HN HP HO HM HX;refine EQ [19] 20 (λhSn=>?_);generalize w6.drew=wd at HN HP HO HM HX hSn ⊢;simp only[List.replicate];refine Dz 0 ?_;refine BG 3 [18,19] (λw hSw=>Ag (HX.bel hSw) 0) ?_;refine Dz 4 ?_;refine BG 7 [10,11,15,18,19] (λw hSw=>Ag (HX.bel hSw) 0) ?_;refine Dz 8 ?_;refine He 11 [15,18,19] (some 49) (?vg35) rfl (Or.inl ⟨by rfl,?hg35⟩) hSn ?rg35;case hg35=>
    intro w hSw;have bd:=(HN.bel hSw).cell (55+q);rw[IK _ _ _ _ _ _ _ _ _ _ _ _ _ _ _ _ q hq] at bd;go_simp;try with_reducible rfl
   simp only[Act.put,zA,zB,zC];refine FT 12 ?_;refine BG 14 [15,18,19] (λw hSw=>Ag (HX.bel hSw) 1) ?_;refine Jr 15 ?_;refine BH 19 rfl (λK hK=>?_);refine Ce rfl 3 (.tmp 56) (.tmp 53) rfl rfl g (55+q) 102 _ (HN.bel hSn) (by simp[A7];omega) rfl (.int .i64 (max (d q) In.sl)) rfl rfl (by kernel_rfl) rfl ?_;intro w7 hh7 ht7;have HN:=qh (show Holds w7 g 102 (A7 n me gd gw gc gfr (.slice p5 n5 m5) S2.ow pv5 (doneD d q) kp since tk waits out ans) by rw[show max (d q) In.sl=In.sl from Int.max_eq_right (Int.le_of_lt hdl)] at hh7;exact(Ut n me gd gw gc gfr (.slice p5 n5 m5) S2.ow pv5 d kp since tk waits out ans q In.sl hq)▸hh7);have HP:=qh (AO.touch (HP.bel hSn) ht7 (λk hk=>by have:=hob2 k hk;omega));have HO:=qh ((HO.bel hSn).mv (Mv.AU (F:=λk=>k=g) ht7 rfl) (λi hi k hk e=>by have:=hpb2 i hi k hk;omega));have HM:=qh ((HM.bel hSn).touch ht7 (.inl rfl));clear hh7 ht7;refine BN hK ?_;clear hK;refine Dl ?_;clear hSn HX hdl;have n69:=Ag HN.o 69;have hsw:=HSW.o;go_wp2_with (first|(refine sC 69 HN.o (.int .i64 (since+1)) ?_;intro w8 hh8 ht8;have HN8:=qh (show Holds w8 g 102 (A7 n me gd gw gc gfr (.slice p5 n5 m5) S2.ow pv5 (doneD d q) kp (since+1) tk waits out ans) from(TG n me gd gw gc gfr (.slice p5 n5 m5) S2.ow pv5 (doneD d q) kp since tk waits out ans (since+1))▸hh8);have HT8:=qh ht8;clear hh8 ht8));go_roundw;case rel=>exact .inr ⟨by simp,_,pv5,ob5,pb5,HN8.o,AO.touch HP.o HT8.o (λk hk=>by have:=hob2 k hk;omega),HO.mv (Mv.AU (F:=λk=>k=g) HT8.o rfl) (λi hi k hk e=>by have:=hpb2 i hi k hk;omega),hob2,hpb2,HM.touch HT8.o (.inl rfl)⟩
   case measure=>simp[intOf]
  ·have HD:=qh hrd;clear hrd HK;go_wp2_with fail;go_loopw [67] (λvi wr2=>vi=.int .i64 0∧wr=wr2) (λ_ _=>0);case atStart=>exact⟨rfl,rfl⟩
   case round=>obtain⟨rfl,rfl⟩:=hrel;go_wp2_with fail;exact bE ⟨rfl,HD.o⟩
end
def JX(l:List Ad)(r:Nat):Int:=l.foldr (λe m=>if e.r=(r:Int) then max e.s m else m) 0
structure Qc(l:List Ad)(left:Lit→Bool)(T:Nat→Int):Prop where
 ge:∀e∈l,left e.key=false→e.s≤T e.r.toNat
 at_:∀r:Nat,T r=0∨∃e∈l,e.r=r∧e.s=T r
 pos:∀r,0≤T r
theorem Vr:∀(l:List Ad) (r:Nat) (t:Int),(∀e∈l,e.r=r→e.s≤t)→(t=0∨∃e∈l,e.r=r∧e.s=t)→0≤t→JX l r=t:=by
 have hle:∀(l:List Ad) (r:Nat) (t:Int),(∀e∈l,e.r=r→e.s≤t)→0≤t→JX l r≤t:=by
  intro l r t h h0;induction l with
  | nil=>exact h0
  | cons x l ih=>
   have:=ih λe he=>h e (List.mem_cons_of_mem _ he);show (if x.r=(r:Int) then max x.s (JX l r) else JX l r)≤t;split
   ·have:=h x List.mem_cons_self (by assumption);omega
   ·exact this
 have hge:∀(l:List Ad) (r:Nat),0≤JX l r∧∀e∈l,e.r=r→e.s≤JX l r:=by
  intro l r;induction l with
  | nil=>exact⟨Int.le_refl _,λe he=>(by cases he)⟩
  | cons x l ih=>
   have hx:JX (x :: l) r=if x.r=(r:Int) then max x.s (JX l r) else JX l r:=rfl;refine⟨?_,λe he hr=>?_⟩
   ·rw[hx];split<;>omega
   ·rw[hx];rcases List.mem_cons.1 he with rfl|he
    ·rw[if_pos hr];omega
    ·have:=ih.2 e he hr;split<;>omega
 intro l r t h1 h2 h3;have a:=hle l r t h1 h3;rcases h2 with rfl|⟨e,he,hr,rfl⟩
 ·have:=(hge l r).1;omega
 ·have:=(hge l r).2 e he hr;omega
theorem Qc.done{l:List Ad}{left:Lit→Bool}{T:Nat→Int}(h:Qc l left T)(hl:∀k,left k=false)(hg:Ij l):Cf T=Cf (JX l):=by have:∀r:Nat,JX l r=T r:=λr=>Vr l r (T r) (λe he hr=>by have:=h.ge e he (hl _);rw[hr,Int.toNat_natCast] at this;exact this) (h.at_ r) (h.pos r);rw[show JX l=T from funext this]
theorem eP(T:Nat→Int)(k:Nat)(hk:k<7):(Cf T)[k]?=some (.int .i64 (T k)):=by rcases(show k=0∨k=1∨k=2∨k=3∨k=4∨k=5∨k=6 by omega) with rfl|rfl|rfl|rfl|rfl|rfl|rfl<;>rfl
theorem VA(T:Nat→Int)(k:Nat)(hk:k<7)(v:Int):(Cf T).set k (.int .i64 v)=Cf λj=>if j=k then v else T j:=by rcases(show k=0∨k=1∨k=2∨k=3∨k=4∨k=5∨k=6 by omega) with rfl|rfl|rfl|rfl|rfl|rfl|rfl<;>rfl
theorem YN(T:Nat→Int):(Cf T).toArray.all (·.oneCell')=true:=by simp[Cf,Value.oneCell']
theorem Qc.start{l:List Ad}{left:Lit→Bool}(h:∀e∈l,left e.key=true):Qc l left λ_=>0:=⟨λe he hf=>(by rw[h e he] at hf;cases hf),λ_=>.inl rfl,λ_=>Int.le_refl _⟩
theorem Qc.step{l:List Ad}{left:Lit→Bool}{T:Nat→Int}(h:Qc l left T)(hg:Ij l){e:Ad}(he:e∈l){k:Nat}(hk:e.r=k):Qc l (λz=>left z&&!z.sameKey e.key) λj=>if j=k then max (T k) e.s else T j:=by
 have hw:=hg.wf;have hkk:∀e'∈l,(e'.key).sameKey e.key=(e'.r==e.r&&e'.s==e.s):=λe' he'=>Dw (hw e' he').1 (hw e' he').2 (hw e he).1 (hw e he).2;refine⟨λe' he' hf=>?_,λr=>?_,λr=>?_⟩
 ·simp only[hkk e' he',Bool.and_eq_false_iff,Bool.not_eq_false',Bool.and_eq_true,beq_iff_eq] at hf;have h0:=hg e' he';rcases hf with hf|hf
  ·have:=h.ge e' he' hf;show e'.s≤if e'.r.toNat=k then max (T k) e.s else T e'.r.toNat;split
   ·rename_i hc;rw[hc] at this;omega
   ·exact this
  ·show e'.s≤if e'.r.toNat=k then max (T k) e.s else T e'.r.toNat;rw[if_pos (by omega)];omega
 ·show (if r=k then max (T k) e.s else T r)=0∨∃e'∈l,e'.r=r∧e'.s=if r=k then max (T k) e.s else T r;by_cases hr:r=k
  ·subst hr;rw[if_pos rfl];by_cases hc:T r≤e.s
   ·exact .inr ⟨e,he,hk,by omega⟩
   ·rw[show max (T r) e.s=T r by omega];exact h.at_ r
  ·rw[if_neg hr];exact h.at_ r
 ·show 0≤if r=k then max (T k) e.s else T r;have h1:=h.pos r;have h2:=h.pos k;split<;>omega
theorem Yw(g b n:Nat)(l:List Ad)(w:World)(h:Ap w g b n l) :Calls prog 208 #[.pointer (some ⟨g,0,none⟩)] w λe w'=>e=.returned (.agg (Cf (JX l)).toArray)∧Below w.heap.size w w':=by
 have HI:=qh h;have hbw0:=h.lt.2;clear h;go_in;go_upto_region 1 with(fail);have HZ:=qh (AA w 41 Bj);have HB:=qh (show Below w.heap.size w (w.alloc (.cells Bj.toArray 41)) by go_grown);unfold Bj at HZ HB;go_name_world W hW;rw[hW] at HZ HB;clear hW;have HZ:=qh (show Holds W w.heap.size 41 Bj from HZ.o);have HI:=qh (HI.below HB.o);have HC:=qh HI.iw;have hle:=HB.size;have hlt0:=HZ.lt;go_upto_region 2 with(first|(refine lM 1 HC.o ?_)|(refine sW Bj (AA W _ _) ?_ Ih;intro wc hh ht));have hb2:Below W.heap.size W (W.alloc (.cells Bj.toArray 41)):=by go_grown
 have HB2:=qh (show Below W.heap.size W wc from hb2.trans (ht.below (Nat.le_refl _) hb2.size));have HT3:=qh (show Holds wc W.heap.size 41 (Cf λ_=>0) from hh);clear hh ht hb2 HC;have HI:=qh (HI.below HB2.o);have HZ:=qh (AC HZ.o HB2.o);have HB:=qh (AB HB.o HB2.o);have hzlt:=HZ.lt;have hne3:w.heap.size≠W.heap.size:=by omega
 have hB3:w.heap.size≤W.heap.size:=by omega
 generalize W.heap.size=g3 at HT3 hne3 hB3 hle ⊢;have m0:=HI.ix.cell 0;simp only[List.getElem?_cons_zero] at m0;obtain⟨D,hown,hl⟩:=HI.map;have HL:=qh hl;clear hl;have HGD:=qh HI.good;have HBL:=qh HI.lt.2;go_wp2_with (first|(at_range;refine wpList_range_own _ rfl _ 246 rfl 37 45 CG underlying246 BO b n D rfl hown ?_;intro w0 hrg0 hg0 hs0)|fail)
 go_frame
 have hb0:Below wc.heap.size wc w0:=⟨hg0.os,hg0.tape,hg0.output,hg0.size,λk hk=>hg0.block k hk (by simp)⟩;have hb3:g3<wc.heap.size:=HT3.lt;have HB:=qh (AB HB.o hb0);have HZ:=qh (AC HZ.o hb0);have HT3:=qh (AC HT3.o hb0);have HRG:=qh hrg0;have hbR:=HBL.o;have hzR:w.heap.size<wc.heap.size:=by omega
 clear hrg0 hg0 hs0 hown m0 hb0;generalize wc.heap.size=R at HRG hb3 hbR hzR ⊢;clear HI HB2 HBL;go_loopw [4] (λ_ wr=>∃(left:Lit→Bool) (cnt:Nat) (T:Nat→Int),wr.ranges prog 37 BO b R n D left cnt∧Below w.heap.size w wr∧Holds wr g3 41 (Cf T)∧Holds wr w.heap.size 41 Bj∧Qc l left T∧R<wr.heap.size) (λ_ wr=>wr.rangeLeft b R);case atStart=>exact⟨_,_,_,HRG.o,HB.o,HT3.o,HZ.o,Qc.start λe he=>Maps.has_true_of_atKey (HL.at_ e he),HRG.lt⟩
 case round=>
  clear HRG HB HZ HT3;obtain⟨left,cnt,T,hrg,hb,ht3,hz,hT,hRs⟩:=hrel;have HB:=qh hb;have HT3:=qh ht3;have HZ:=qh hz;have HTT:=qh hT;clear hb ht3 hz hT;go_wp2_with (first|(at_next;refine wpList_next_ranges _ rfl _ rfl 37 CG BO (λp:Int × Int=>DZ p.1 p.2) (λv:Value=>v) (λkey kl hk=>by obtain⟨r,s,rfl,_⟩:=Hu hk;exact⟨(r,s),rfl⟩) (λv y _=>⟨v,rfl⟩) b R n D _ _ rfl hrg ?_ ?_)|fail)
  ·intro hc0 hl0;have HE:=qh (HTT.done hl0 HGD.o);have HT3:=qh HT3.AY;clear hrg hl0 hc0;go_wp2_with (first|(refine lM 0 HT3.o ?_)|(refine sW (Cf T) HZ.o ?_ (YN _);intro wc hh ht));exact bC hh.AY ⟨by rw[HE.o],HB.trans (ht.below (Nat.le_refl _) HB.size)⟩
  ·intro pr ps cv kl yd yp w1 cnt1 hkey hlk hR hat hrg1 hlt hg1 hs1 hen;have hy:yd=.held cv:=by unfold BO at hR;injection hR with hR;injection hR with hR _;exact hR.symm
   rw[hy] at hat;obtain⟨e,he,hek⟩:=Ns HL.o HGD.wf hat;have hpe:pr=e.r∧ps=e.s:=by have hw:=HGD.wf e he;rw[←hek] at hkey;have:=CG.inj hkey (Dc e.r e.s hw.1 hw.2);simp only[DZ,Value.agg.injEq,Array.mk.injEq,List.cons.injEq,Value.int.injEq,true_and,and_true] at this;exact this
   obtain⟨h1,h2⟩:=hpe;subst h1;subst h2;subst hek;have hge:=HGD.o e he;obtain⟨k,hk⟩:∃k:Nat,e.r=k:=⟨e.r.toNat,by omega⟩;have hk7:k<7:=by omega
   have hki:(k:Int)<7:=by omega
   have HTT2:=qh (HTT.step HGD.o he hk);have hbw:Below wr.heap.size wr w1→True:=λ_=>trivial;have HB1:=qh (show Below w.heap.size w w1 from HB.trans ⟨hg1.os,hg1.tape,hg1.output,hg1.size,λk hk=>hg1.block k (by have:=HB.size;omega) (by intro hc;injection hc with hc;omega)⟩);have hz1:w1.heap[w.heap.size]?=wr.heap[w.heap.size]?:=hg1.block _ HZ.lt (by intro hc;injection hc with hc;omega);have ht1:w1.heap[g3]?=wr.heap[g3]?:=hg1.block _ HT3.lt (by intro hc;injection hc with hc;omega);have HZ1:=qh (show Holds w1 w.heap.size 41 Bj by have:=HZ.o;unfold Holds at *;rw[hz1];exact this);have HT1:=qh (show Holds w1 g3 41 (Cf T) by have:=HT3.o;unfold Holds at *;rw[ht1];exact this);have hR1:R<w1.heap.size:=by omega
   have HRG:=qh hrg1;have HLT:=qh hlt;have HL0:=qh hrg.left_eq;clear hrg1 hrg hlt hg1 hs1 hR hy hat hkey hlk HB hz1 ht1 hbw HZ HT3 HTT;rw[hk] at hen ⊢;simp only[DZ] at hen ⊢;go_upto_region 5 with(fail);clear hen;have HX:=qh (AA w1 37 [.int .i64 k,.int .i64 e.s]);have hal:Below w1.heap.size w1 (w1.alloc (.cells #[.int .i64 k,.int .i64 e.s] 37)):=by go_grown
   have HT0:=qh (show Touch g3 w1 (w1.alloc (.cells #[.int .i64 k,.int .i64 e.s] 37)) from Touch.of_below hal);obtain⟨HZ1,HT1⟩:=DC hal HZ1 HT1;have HB1:=qh (HB1.trans (hal.mono HB1.size));clear hal;have hgx:w1.heap.size≠g3:=by omega
   generalize w1.heap.size=gX at HX hgx ⊢;generalize w1.alloc (.cells #[.int .i64 k,.int .i64 e.s] 37)=wq at HX HT0 HZ1 HT1 HB1 ⊢;have hcg:=eP T k hk7;have HCG:=qh hcg;clear hcg;have HB1:=qh (Base.mk HB1.o HB1.size);obtain⟨HX,HT1,HZ1,HB1,HT0⟩:=Fq (AQ _ wq) HX HT1 HZ1 HB1 HT0;refine EQ [10] 11 (λhSn=>?_);generalize wq.drew=wd at HX HT1 HZ1 HB1 HT0 hSn ⊢;simp only[List.replicate];refine CS 0 ?_;refine BG 1 [9,10] (λw hSw=>CU (HX.bel hSw) 0 1) ?_;refine CS 2 ?_;refine BG 3 [4,5,8,9,10] (λw hSw=>CU (HX.bel hSw) 0 1) ?_;refine CS 4 ?_;refine He 5 [8,9,10] (some 23) (?vg6) rfl (Or.inl ⟨by rfl,?hg6⟩) hSn ?rg6;case hg6=>
    intro w hSw;have bk:=(HT1.bel hSw).cell k;rw[HCG.o] at bk;go_simp;try with_reducible rfl
   simp only[Act.put,zA,zB,zC];refine CS 6 ?_;refine BG 7 [8,9,10] (λw hSw=>CU (HX.bel hSw) 0 1) ?_;refine FT 8 ?_;refine BH 10 rfl (λK hK=>?_);refine Ce rfl 3 (.tmp 27) (.tmp 26) rfl rfl g3 k 41 _ (HT1.bel hSn) (by simp[Cf];omega) rfl (.int .i64 (max (T k) e.s)) rfl rfl (by kernel_rfl) rfl ?_;intro w7 hh7 ht7;have HT7:=qh (VA T k hk7 _▸hh7);have HT0:=qh ((HT0.bel hSn).trans ht7);have HZ7:=qh ((HZ1.bel hSn).touch ht7 hne3);have HB7:=qh ((HB1.bel hSn).touch ht7 hB3);clear hh7 ht7;refine BN hK ?_;clear hK;refine Dl ?_;clear hSn HX HT1 HZ1 HB1;have hrg3:=HRG.kept (Fz HT0.o) (by intro hc;injection hc with hc;omega) (by intro hc;injection hc with hc;omega);have HRG3:=qh hrg3;have hR7:=hrg3.lt;clear hrg3;go_roundw;case rel=>exact⟨_,_,_,_,_,_,_,_,_,_,_,_,_,_,_,⟨_,_,_,HRG3.o,HB7.below,HT7.o,HZ7.o,HTT2.o,hR7⟩,rfl⟩
   case measure=>rw[HRG3.left_eq,HL0.o];exact HLT.o
section
variable [In] [Bs]
theorem CP{w:World}{a:Nat}{t t':TypeId}{L L':List Value}(h:Holds w a t L)(h':Holds w a t' L'):t=t':=Decidable.byContradiction λhn=>(h.ne_of h' hn) rfl
def Rx:List TypeId:=[102,125,129,208,163,127]
def Hr:Ph→Bool
 | .com=>true
 | _=>false
structure EN(n q:Nat)(c:Cm):Prop where
 hq:q<n
 n7:3≤n∧n≤7
 hc:Gu c
 sl:Bs.d q=In.sl-1
 top:JX Bs.L q=In.sl-1
 no:Fj Bs.L q In.sl=false
 at_:N8 Bs.E q c
 len:Bs.L.length≤100
 done:∀e∈Bs.L,e.s≤Bs.d e.r.toNat
 dd:∀r,0≤Bs.d r∧Bs.d r≤100
 up:∀r,r<7→MC q r≤Bs.d r
 nb:Bs.nb≤20
 fine:Bs.S.Fine Bs.nb
 seq:(Bs.S.ow (cK c)).seq<c.s
 sc:0≤Bs.sc∧Bs.sc<8
 kp:∀r,0≤Bs.kp r∧Bs.kp r≤Bs.d r
section
variable {w w':World} {F G:Af} {g n me q:Nat} {c:Cm} {ph:Ph} {recs cout:Value} {dn:Dn} {wt:Bool} {m:Nat} {V V0:Nat→List Value} {an:Bool} {tk:Int} {lim lim':Nat}
 {gd mb mb' gw gc gfr:Nat} {P:Value} {pv:Nat→Value} {waits out out' ans:Value}
theorem Ba.drained{gl gm nl gi gx ni:Nat}{L:List Ad}{E:List Bf}{leads:Value}(h1:BC w gc n me gl gm nl gi gx ni L E leads recs cout)(h2:nl≤2*Bs.nb+bnd ph)(h3:ni≤2*Bs.nb+bnd ph)(h4:F gl∧F gm∧F gi∧F gx)(h5:JD w F me q c L E leads ph)(hf:F gc) (hm:Mv G w w') (hG:∀k,G k→k<w.heap.size→∃t L,Holds w k t L∧t∈Rx) (hc:Holds w' gc 163 (Az n me gl gi leads (.slice none 0 0) (.slice none 0 0))):Ba w' F gc n me q c ph (.slice none 0 0) (.slice none 0 0):=by
 have hl:=h1.lt;have hT:∀(a:Nat) (t:TypeId) (L:List Value),Holds w a t L→t∉Rx→¬G a:=λa t L ha ht hg=>by obtain⟨t',L',h,h'⟩:=hG a hg ha.lt;exact ht (CP ha h▸h')
 have hM:∀a,a<w.heap.size→Gv w a→¬G a:=λa hal ha hg=>by obtain⟨t',L',h,h'⟩:=hG a hg hal;exact Bv ha h rfl
 refine⟨⟨gl,gm,nl,gi,gx,ni,L,E,leads,h1.LJ hm hc (hT _ _ _ h1.lg.ix (by decide)) (hM _ hl.2.2.1 h1.lg.isMap) (hT _ _ _ h1.ix.ix (by decide)) (hM _ hl.2.2.2.2 h1.ix.isMap),h2,h3,h4,h5.mv (T:=Qq) hm (λk hk hkl=>?_) (λ_ h=>h)⟩,hf⟩;obtain⟨t',L',h,h'⟩:=hG k hk hkl;exact Eh h ((show ∀t∈Rx,t∉Qq by decide) _ h')
theorem DR.drained(h:DR w F g n me q c ph recs cout dn wt 0 V0 an tk lim gd mb gw gc gfr P pv waits out ans)(hm:Mv G w w')(hG:∀k,G k→k<w.heap.size→∃t L,Holds w k t L∧t∈Rx) (hn:Holds w' g 102 (A7 n me gd gw gc gfr P (NC q c dn).ow pv (Rq q dn) (Na q dn) (RF dn) tk waits out' ans)) (hd:D5 w' F gd gw mb') (hlm:mb'≤lim') (hc:Ba w' F gc n me q c ph (.slice none 0 0) (.slice none 0 0)) (ho:Dv w' F out' m V) :DR w' F g n me q c ph (.slice none 0 0) (.slice none 0 0) dn wt m V an tk lim' gd mb' gw gc gfr P pv waits out' ans:=by
 obtain⟨nd,dk,lm,co,fr,st,wa,ou,an',f1,f2⟩:=h;have hA:∀T:List TypeId,(∀t∈Rx,t∉T)→∀k,G k→k<w.heap.size→Dx w F T k:=λT ht k hk hl=>by obtain⟨t',L',h,h'⟩:=hG k hk hl;exact Eh h (ht _ h')
 exact⟨hn,hd,hlm,hc,fr.away (T:=[197]) f2 hm (hA _ (by decide)) (by decide),st.mv (T:=[69]) hm (hA _ (by decide)) (by decide),wa.mv (T:=[37]) hm (hA _ (by decide)) (by decide),ho,an'.mv (T:=P7) hm (hA _ (by decide)) (λ_ h=>h),f1,f2⟩
end
theorem QD:∀t∈D7,t∈Rx:=by decide
def Drained(F:Af)(g n me q:Nat)(c:Cm)(ph:Ph)(dn:Dn)(wt:Bool)(m:Nat)(V:Nat→List Value)(tk:Int)(lim:Nat)(w w':World):Prop:=DJ w' (grow F w w') g n me q c ph (.slice none 0 0) (.slice none 0 0) dn wt m V false tk lim∧Mv F w w'
theorem YV(w:World)(F:Af)(B g n me q:Nat)(c:Cm)(ph:Ph)(recs cout:Value)(dn:Dn)(wt:Bool)(tk:Int)(lim r m:Nat)(V V0:Nat→List Value) (h:DJ w F g n me q c ph recs cout dn wt 0 V0 false tk lim) (hr:IR w B r recs) (ho:Dv w F cout m V) (hm:m≤100) (hV:∀u∈flat 51 m V,u.oneCell'=true) (hFB:∀k,B≤k→k<w.heap.size→F k) (hlim:lim≤27000) :Calls prog 90 #[.pointer (some ⟨g,0,none⟩)] w λe w'=>e=.returned (.bool true)∧Drained F g n me q c ph dn wt m V tk (lim+500*r) w w':=by
 obtain⟨gd,mb,gw,gc,gfr,P,pv,waits,out,ans,h⟩:=h;have h':=h;obtain⟨nd,dk,lm,⟨⟨gl,gm,nl,gi,gx,ni,L,E,leads,h1,h2,h3,h4,h5⟩,hf⟩,fr,st,wa,⟨h0,obo,ou,hou⟩,an',f1,f2⟩:=h';obtain rfl:=h0 rfl;obtain⟨hc0,obc,hco,hcof⟩:=ho;have hF:∀W,∀k,F k→k<w.heap.size→grow F w W k:=λW k hk _=>.inl hk;have hnew:∀W k,w.heap.size≤k→k<W.heap.size→grow F w W k:=λW k h1 h2=>.inr ⟨h1,h2⟩;rcases hr with⟨rfl,rfl⟩|⟨rfl,gr,cr,mr,rv,rest,rfl,hgr,hrv,hmr,hBr⟩
 ·refine Ac (aP g n me gd mb gw gc gl gi gfr m F leads cout obc _ P _ pv _ _ _ tk waits ans w nd dk h1.hc hco hV (by omega) hm hc0) ?_;rintro w' ⟨out',ob',hn,hd,hc,ho',hob',hz',hm'⟩;have hG:∀k,(k=g∨k=gc∨IB w F D7 k)→k<w.heap.size→∃t L,Holds w k t L∧t∈Rx:=by
   rintro k (rfl|rfl|⟨_,t,L,h,ht⟩) _
   ·exact⟨_,_,nd,by decide⟩
   ·exact⟨_,_,h1.hc,by decide⟩
   ·exact⟨_,_,h,QD _ ht⟩
  refine⟨rfl,⟨gd,mb,gw,gc,gfr,P,pv,waits,out',ans,((h.foot (hF w')).drained hm' hG hn hd (by omega) ?_ ⟨hz',ob',ho',λk hk=>hnew _ k (hob' k hk) (ho'.lt k hk)⟩)⟩,?_⟩
  ·exact Ba.drained h1 h2 h3 ⟨.inl h4.1,.inl h4.2.1,.inl h4.2.2.1,.inl h4.2.2.2⟩ (h5.foot (hF w')) (.inl hf) hm' hG hc
  ·exact hm'.more (by rintro k (rfl|rfl|h);exact f1;exact hf;exact h.1)
 ·refine Ac (aQ g n me gd mb gw gc gl gi gfr gr cr mr B m F leads cout obc _ rv rest P _ pv _ _ _ tk waits ans w nd dk h1.hc hgr hrv hmr hco hV (by omega) hm hc0) ?_;rintro w' ⟨out',ob',hn,hd,hc,ho',hob',hz',hm'⟩;have hG:∀k,(k=g∨k=gc∨k=gr∨IB w F D7 k)→k<w.heap.size→∃t L,Holds w k t L∧t∈Rx:=by
   rintro k (rfl|rfl|rfl|⟨_,t,L,h,ht⟩) _
   ·exact⟨_,_,nd,by decide⟩
   ·exact⟨_,_,h1.hc,by decide⟩
   ·exact⟨_,_,hgr,by decide⟩
   ·exact⟨_,_,h,QD _ ht⟩
  refine⟨rfl,⟨gd,_,gw,gc,gfr,P,pv,waits,out',ans,((h.foot (hF w')).drained hm' hG hn hd (by omega) ?_ ⟨hz',ob',ho',λk hk=>hnew _ k (hob' k hk) (ho'.lt k hk)⟩)⟩,?_⟩
  ·exact Ba.drained h1 h2 h3 ⟨.inl h4.1,.inl h4.2.1,.inl h4.2.2.1,.inl h4.2.2.2⟩ (h5.foot (hF w')) (.inl hf) hm' hG hc
  ·exact hm'.more (by rintro k (rfl|rfl|rfl|h);exact f1;exact hf;exact hFB _ hBr hgr.lt;exact h.1)
theorem DJ.step{w W W':World}{F:Af}{g n me q:Nat}{c:Cm}{ph:Ph}{recs cout:Value}{dn:Dn}{wt:Bool}{m:Nat}{V:Nat→List Value}{an:Bool}{tk:Int}{lim:Nat}(h:DJ W' (grow (grow F w W) W W') g n me q c ph recs cout dn wt m V an tk lim)(h1:w.heap.size≤W.heap.size)(h2:W.heap.size≤W'.heap.size) :DJ W' (grow F w W') g n me q c ph recs cout dn wt m V an tk lim:=h.foot λk hk _=>grow_step h1 h2 hk
theorem Mv.step{w W W':World}{F:Af}(h:Mv F w W)(h2:Mv (grow F w W) W W'):Mv F w W':=h.part h2 λk hk=>hk
def J5:Ph→Dn→Dn
 | .com,.no=>.run
 | _,dn=>dn
def FM:Ph→Dn
 | .com=>.yes
 | _=>.no
theorem OV{q:Nat}{c:Cm}{n:Nat}(hB:EN n q c):∀e∈CO (CO Bs.L (e1 q c)) (e3 q c),e=e3 q c∨e.s≤Bs.d e.r.toNat:=λe he=>by
 rcases JL he with rfl|⟨he,hk⟩
 ·exact .inl rfl
 ·rcases JL he with rfl|⟨he,_⟩
  ·exact absurd ⟨rfl,rfl⟩ hk
  ·exact .inr (hB.done e he)
theorem Lc{q:Nat}{c:Cm}{n:Nat}(hB:EN n q c)(r:Nat):Bs.d r≤doneD Bs.d q r∧0≤doneD Bs.d q r∧doneD Bs.d q r≤101:=by
 have h1:=hB.dd r;have h2:=hB.dd q;have h3:=hB.sl;unfold doneD;split
 ·rename_i e;subst e;omega
 ·omega
theorem Qj{q:Nat}{c:Cm}{n:Nat}(hB:EN n q c)(dn:Dn)(r:Nat):0≤Rq q dn r∧Rq q dn r≤101:=by have h1:=hB.dd r;have h2:=Lc hB r;unfold Rq;split<;>omega
theorem gU(w:World)(F:Af)(g n me q:Nat)(c:Cm)(ph:Ph)(dn:Dn)(wt:Bool)(tk:Int)(lim m:Nat)(V:Nat→List Value)(hB:EN n q c) (h:DJ w F g n me q c ph (.slice none 0 0) (.slice none 0 0) dn wt m V false tk lim) (hdn:dn=.no∨(dn=.yes∧ph=.com)) :Calls prog 91 #[.pointer (some ⟨g,0,none⟩)] w λe w'=>e=.returned (.tuple #[])∧DJ w' (grow F w w') g n me q c ph (.slice none 0 0) (.slice none 0 0) (J5 ph dn) wt m V false tk lim∧Mv F w w':=by
 obtain⟨gd,mb,gw,gc,gfr,P,pv,waits,out,ans,h⟩:=h;have h':=h;obtain⟨nd,dk,lm,⟨⟨gl,gm,nl,gi,gx,ni,L,E,leads,a1,a2,a3,a4,a5⟩,hf⟩,fr,st,wa,ou,an',f1,f2⟩:=h';have hq7:q<7:=by have:=hB.hq;have:=hB.n7;omega
 have hl1:=Lp Bs.L (e1 q c);have hl2:=Lp (CO Bs.L (e1 q c)) (e3 q c);have hlB:=hB.len;have hLl:L.length≤1000:=by
  cases ph with
  | fresh=>rw[a5.1];omega
  | lead A tk'=>rw[a5.2.1.1];omega
  | pre=>rw[a5.1];omega
  | com=>rw[a5.1];omega
 have hnone:J5 ph dn=dn→(∀e∈L,e.s≤Rq q dn e.r.toNat∨(e=⟨q,In.sl,cellL 1 c true⟩∧Rq q dn q<In.sl)) →
   Calls prog 91 #[.pointer (some ⟨g,0,none⟩)] w λe w'=>e=.returned (.tuple #[])∧DJ w' (grow F w w') g n me q c ph (.slice none 0 0) (.slice none 0 0) (J5 ph dn) wt m V false tk lim∧Mv F w w':=by
  intro hd hall;refine(ZC g n me gd gw gc gfr P _ pv _ _ _ tk waits out ans w nd (λr _=>by have:=Qj hB dn r;omega) (λW hb=>?_)).mono ?_
  ·refine(J4 g n me gd gw gc gl gm nl gi gx ni gfr q 1 c true false L E leads _ _ P _ pv _ _ _ tk waits out ans W (nd.bel hb) (a1.bel hb) hLl (λr=>by have:=Qj hB dn r;omega) hall (.inr ⟨rfl,rfl⟩)).mono ?_;rintro e w' ⟨R,ob,rfl,hR,_,hb'⟩;rw[hR rfl];exact⟨rfl,hb'⟩
  ·rintro e w' ⟨rfl,hb⟩;rw[hd];exact⟨rfl,⟨gd,mb,gw,gc,gfr,P,pv,waits,out,ans,(h.bel hb).foot λk hk _=>.inl hk⟩,Mv.of_below hb⟩
 have hL1:∀e∈CO Bs.L (e1 q c),e.s≤Rq q .no e.r.toNat∨(e=⟨q,In.sl,cellL 1 c true⟩∧Rq q .no q<In.sl):=λe he=>by
  rcases JL he with rfl|⟨he,_⟩
  ·exact .inr ⟨rfl,by have:=hB.sl;show Bs.d q<_;omega⟩
  ·exact .inl (hB.done e he)
 rcases hdn with rfl|⟨rfl,rfl⟩
 ·cases ph with
  | fresh=>exact hnone rfl (by rw[a5.1];exact λe he=>.inl (hB.done e he))
  | lead A tk'=>exact hnone rfl (by rw[a5.2.1.1];exact hL1)
  | pre=>exact hnone rfl (by rw[a5.1];exact hL1)
  | com=>
   obtain⟨ob,pb,s1,s2,s3,s4⟩:=st;have hsl:=hB.sl;refine(az g n me gd gw gc gfr q Bs.S P ob pv pb Bs.d Bs.kp Bs.sc tk c hB.hc (hB.fine.ok (by have:=hB.nb;omega)) hB.seq waits out ans w nd s1 s2 hq7 hB.sl (λr hr=>⟨(hB.dd r).1,by have:=(hB.dd r).2;omega,hB.up r hr⟩) (by have:=hB.sc;omega) (λW hb=>?_)).mono ?_
   ·refine(J4 g n me gd gw gc gl gm nl gi gx ni gfr q 3 c false true L E leads _ _ P _ pv _ _ _ tk waits out ans W (nd.bel hb) (a1.bel hb) hLl (λr=>by have:=Qj hB .no r;omega) (by
     rw[a5.1];intro e he;rcases OV hB e he with rfl|h
     ·exact .inr ⟨rfl,by show Bs.d q<_;omega⟩
     ·exact .inl h) (.inl ⟨rfl,rfl,rfl,by rw[a5.1];exact Gp _ _,by show Bs.d q<_;omega⟩)).mono ?_
    rintro e w' ⟨R,ob,rfl,_,hR,hb'⟩;obtain⟨gk,ck,rest,rfl,_,_,_,hk,_⟩:=(hR rfl).blk (by decide);exact⟨gk,ck,rest,rfl,hk,hb'⟩
   ·rintro e w' ⟨rfl,P',pv',ob',pb',hn,hp,ho,hob,hpb,hm⟩;have hF:∀k,F k→k<w.heap.size→grow F w w' k:=λk hk _=>.inl hk;exact⟨rfl,⟨gd,mb,gw,gc,gfr,P',pv',waits,out,ans,(h.foot hF).CQ (dn':=.run) hm hn rfl ⟨ob',pb',hp,ho,λk hk=>.inr ⟨hob k hk,AO.lt hp k hk⟩,λi hi k hk=>.inr ⟨hpb i hi k hk,AO.lt (ho i hi) k hk⟩⟩ ((h.foot hF).wa.CQ nd hm) ((h.foot hF).ou.CQ nd hm) ((h.foot hF).an.CQ nd hm)⟩,hm.more λk hk=>hk▸f1⟩
 ·refine hnone rfl ?_;rw[a5.1];intro e he;rcases OV hB e he with rfl|h
  ·refine .inl ?_;show In.sl≤doneD Bs.d q ((q:Int)).toNat;rw[Int.toNat_natCast];unfold doneD;rw[if_pos rfl];exact Int.le_refl _
  ·exact .inl (Int.le_trans h (Lc hB _).1)
end
end Go.Proofs.YtimdpiifpibgfaaGreatDoor
