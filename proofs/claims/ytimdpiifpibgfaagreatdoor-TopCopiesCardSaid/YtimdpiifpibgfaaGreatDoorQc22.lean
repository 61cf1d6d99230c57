/- A part of the proof that the law TopCopies returns true for every input. -/
import Derived.Test.YtimdpiifpibgfaaGreatDoorQc21
set_option linter.all false
set_option maxRecDepth 20000
set_option maxHeartbeats 16000000
open Go.RowKit
namespace Go.Proofs.YtimdpiifpibgfaaGreatDoor
open Tryz
def Fh(l:List Fl)(i:Nat):List Fl:=l.take i++l.drop (i+1)
def WS(l:List Fl)(i:Nat)(tt:ByteArray):List Fl:=
 if (Am (Fh l i) tt).2 then (Fh l i).set (Am (Fh l i) tt).1 ⟨tt,(l.getD i .zero).p,(l.getD i .zero).n,(l.getD i .zero).c,(l.getD i .zero).kept⟩
 else (Fh l i).take (Am (Fh l i) tt).1++⟨tt,(l.getD i .zero).p,(l.getD i .zero).n,(l.getD i .zero).c,(l.getD i .zero).kept⟩ :: (Fh l i).drop (Am (Fh l i) tt).1
theorem VS:∀(l:List Fl) (rest:List Value) (k:Nat) (x:Fl),k<l.length→splice (Ii l++rest) (k*3) x.cells=Ii (l.set k x)++rest
 | [],_,_,_,h=>by simp at h
 | y :: l,rest,0,x,_=>rfl
 | y :: l,rest,k+1,x,h=>by
  have ih:=VS l rest k x (by simpa using h);rw[GK,List.append_assoc,List.set_cons_succ,GK,List.append_assoc,←ih];show splice (_ :: _ :: _ :: (Ii l++rest)) _ _=_;rw[show (k+1)*3=k*3+1+1+1 by omega]
  rfl
def Zc(gd:Nat)(of:Option Nat)(l:List Fl)(i:Nat)(tt:ByteArray)(w w':World):Prop:=
 ∃fs' of',BD w' gd fs' of' (WS l i tt)∧(of'=of∨∃g,of'=some g∧w.heap.size≤g)∧Mv (λk=>k=gd∨of=some k) w w'
theorem Zt(gd i:Nat)(fs:Value)(of:Option Nat)(l:List Fl)(nm tt:ByteArray)(w:World)(h:BD w gd fs of l)(hi:Am l nm=(i,true))(htt:P5 tt)(hl:l.length≤900) :Calls prog 166 #[.pointer (some ⟨gd,0,none⟩),.string nm,.string tt] w λe w'=>e=.returned (.int .i64 0)∧Zc gd of l i tt w w':=by
 have hil:i<l.length:=by have:=(FO l nm).2;rw[hi] at this;exact this rfl
 have KM:=qh (λW=>Rt tt W htt);have KK:=qh (λW (h:BD W gd fs of l)=>OU gd fs of l nm i W h.d h.f hi);have KP:=qh (λW (h:BD W gd fs of l)=>O7 gd _ W h.d);have hg:=h.f.blk (by omega);obtain⟨g1,cap1,rest1,rfl,rfl,hc1,hc2,hh1,hl1⟩:=hg;have hg1d:g1≠gd:=hh1.ne_of h.d (by decide);have hgd:=h.d.lt;have hg1l:=hh1.lt;have hne1:∀y:Fl,y∈l→∀g,y.ob=some g→g≠g1:=λy hy g hg=>by obtain⟨_,ho,_⟩:=h.b y hy;exact AO.ne_of ho hh1 (by decide) g hg
 have hned:∀y:Fl,y∈l→∀g,y.ob=some g→g≠gd:=λy hy g hg=>by obtain⟨_,ho,_⟩:=h.b y hy;exact AO.ne_of ho h.d (by decide) g hg
 obtain⟨x,hx⟩:∃x,x=l.getD i .zero:=⟨_,rfl⟩;have hrow:(Ii l++rest1).length=cap1*3:=hl1;have hfc:∀(j:Nat) (v:Value),x.cells[j]?=some v→(Ii l++rest1)[i*3+j]?=some v:=λj v hv=>by have hj:j<3:=(List.getElem?_eq_some_iff.1 hv).1;rw[Ql l rest1 i j hil hj,←hx];exact hv
 have hmem:x∈l:=hx▸getD_mem l i hil;have hL2:(Ii l).take (i*3)++(Ii l).drop ((i+1)*3)=Ii (Fh l i):=by rw[Oc,Ob];exact(Oa _ _).symm
 have hn2:(Fh l i).length=l.length-1:=by unfold Fh;rw[List.length_append,List.length_take,List.length_drop];omega
 have hsub:∀y,y∈Fh l i→y∈l:=λy hy=>by
  rcases List.mem_append.1 hy with hy|hy
  ·exact List.mem_of_mem_take hy
  ·exact List.mem_of_mem_drop hy
 have hren:∀k ok,Am (Fh l i) tt=(k,ok)→WS l i tt=if ok then (Fh l i).set k ⟨tt,x.p,x.n,x.c,x.kept⟩ else (Fh l i).take k++⟨tt,x.p,x.n,x.c,x.kept⟩ :: (Fh l i).drop k:=λk ok hk=>by unfold WS;rw[hk,←hx]
 have KF:=qh (λW v ob (hd:Holds W gd 125 (IV v)) (h:BQ W v ob (Fh l i))=>Jf gd v ob (Fh l i) tt W hd h);have KD:=qh (λW (h:BQ W (.slice (some ⟨g1,0,none⟩) l.length cap1) (some g1) l)=>YR g1 l.length cap1 i (Ii l) W h (VR l) hil (by omega));have KI:=qh (λk v bs y W h hx hne hi=>Le v (some g1) (Fh l i) k bs y W h hx hne hi (by omega));have hkle:=FO (Fh l i) tt;generalize hF:Am (Fh l i) tt=F at KF hkle hren;obtain⟨k,ok⟩:=F;simp only[] at hkle;replace hren:=hren k ok rfl;have HREN:=qh hren;have HFC:=qh hfc;have HL2:=qh hL2;have HX:=qh h;have HD:=qh h.d;have HH:=qh hh1;have HF:=qh h.f;have HFO:=qh (λy hy=>h.b y hy);have HM:=qh (Mv.refl (λk=>k=gd∨some g1=some k) w);have HBw:=qh (Base.start w);have hii:(i:Int)<l.length:=by omega
 have hiw:IntKind.i64.wrap ((i:Int)+1)=(i:Int)+1:=IntWalk.i64_in _ (by omega);clear h hh1 hx hi hF hren hfc hL2 htt;go_in;have d2:=Ag HD.o 2;go_wp2_with fail;refine Ac (KM.o _) ?_;rintro w1 hb;obtain⟨HX,HD,HH,HM,HF,HBw⟩:=FI hb HX HD HH HM HF HBw;clear hb d2;go_wp2_with fail;refine Ac (KK.o _ HX.o) ?_;rintro w2 hb;obtain⟨HX,HD,HH,HM,HF,HBw⟩:=FI hb HX HD HH HM HF HBw;clear hb;go_wp2_with fail;refine Ac (KP.o _ HX.o) ?_;rintro w3 hb;obtain⟨HX,HD,HH,HM,HF,HBw⟩:=FI hb HX HD HH HM HF HBw;clear hb;have d1:=Ag HD.o 1;have HR:=qh (HH.Ci (i*3) HFC.o);go_upto_region 9 with(first|(refine lM (i*3) HR.o ?_)|(refine Ai rfl 129 _ _ rfl rfl _ _ x.cells.toArray rfl rfl (by kernel_rfl) (by kernel_rfl) (Fl.one' _) ?_));go_name_world W hW;have hbx:Holds W w3.heap.size 129 x.cells:=by rw[←hW];exact AA w3 _ _
 have hal:Below w3.heap.size w3 W:=by rw[←hW];exact(Below.refl _ _).alloc (Nat.le_refl _) _
 have HB9:=qh hbx;have hs3:=HM.size;obtain⟨HX,HD,HH,HM,HF,HBw⟩:=FI hal HX HD HH HM HF HBw;have h39:w3.heap.size<W.heap.size:=HB9.lt;have hgbd:gd≠w3.heap.size∧g1≠w3.heap.size:=by omega
 clear hW hbx hal HR d1;have hgbw:w.heap.size≤w3.heap.size:=hs3;generalize w3.heap.size=gb at HB9 hgbd hgbw h39 ⊢;go_upto_region 10 with(first|(refine sC 0 HB9.o (.string tt) ?_;intro w5 hh5 ht5));obtain⟨y,hy⟩:∃y:Fl,y=⟨tt,x.p,x.n,x.c,x.kept⟩:=⟨_,rfl⟩;have HB9:=qh (show Holds w5 gb 129 y.cells by rw[hy];exact hh5);have hm5:Mv (λk=>k=gb) W w5:=Mv.AU ht5 rfl;have HD:=qh (HD.mv hm5 hgbd.1);have HF:=qh (HF.mv hm5 (λg hg=>by cases hg;exact hgbd.2));have HM:=qh (HM.mv hm5 (λk hk=>.inr (by omega)));have HY:=qh hy;clear hh5 ht5 hm5 hy HX HH HBw;have d1:=Ag HD.o 1;go_wp2_with fail;refine Ac (KD.o _ HF.o) ?_;rintro w6 ⟨ho6,ht6⟩;have hm6:Mv (λk=>k=g1) w5 w6:=Mv.AU ht6 rfl;have HD:=qh (HD.mv hm6 (Ne.symm hg1d));have HB9:=qh (HB9.mv hm6 (Ne.symm hgbd.2));have HM:=qh (HM.mv hm6 (λk hk=>.inl (.inr (by rw[hk]))));rw[HL2.o] at ho6;have HO6:=qh ho6;clear ho6 ht6 hm6 d1 HF;go_upto_region 11 with(first|(refine sC 1 HD.o (.slice (some ⟨g1,0,none⟩) (l.length-1:Nat) cap1) ?_;intro w7 hh7 ht7));have hm7:Mv (λk=>k=gd) w6 w7:=Mv.AU ht7 rfl;have HD:=qh (show Holds w7 gd 125 (IV (.slice (some ⟨g1,0,none⟩) (l.length-1:Nat) cap1)) from hh7);have HF:=qh (show BQ w7 (.slice (some ⟨g1,0,none⟩) (l.length-1:Nat) cap1) (some g1) (Fh l i) by unfold BQ;rw[hn2];exact HO6.mv hm7 (λg hg=>by cases hg;exact hg1d));have HB9:=qh (HB9.mv hm7 (Ne.symm hgbd.1));have HM:=qh (HM.mv hm7 (λk hk=>.inl (.inl hk)));clear hh7 ht7 hm7 HO6;go_wp2_with fail;refine Ac (KF.o _ _ _ HD.o HF.o) ?_;rintro w8 hb;obtain⟨HD,HF,HB9,HM⟩:=Dy hb HD HF HB9 HM;clear hb;have HFO2:=qh (show ∀z,z∈Fh l i→∀W',Mv (λk=>k=gd∨some g1=some k) w W'→Fg W' z from λz hz W' hm=>(HFO.o z (hsub z hz)).mv hm (λg hg hc=>hc.elim (hned z (hsub z hz) g hg) (λhc=>hne1 z (hsub z hz) g hg (by injection hc with hc;exact hc.symm))));have HYO:=qh (show ∀W',Mv (λk=>k=gd∨some g1=some k) w W'→Fg W' y from λW' hm=>by
  rw[HY.o];exact Fg.kept ((HFO.o x hmem).mv hm (λg hg hc=>hc.elim (hned x hmem g hg) (λhc=>hne1 x hmem g hg (by injection hc with hc;exact hc.symm)))) tt x.kept)
 have hren:=HREN.o;rw[←HY.o] at hren;have HREN:=qh hren;clear hren;have hkc:(k:Int)<l.length:=by omega
 have hsw:=HM.size;have hwg:=hg1l;cases ok
 ·go_upto_region 15 with(fail);have HRB:=qh (λ(w':World) (h:Below w8.drew.heap.size w8.drew w')=>(((HB9.bel (AQ _ w8)).bel h).AY));obtain⟨HD,HF,HB9,HM⟩:=Dy (AQ _ w8) HD HF HB9 HM;refine EQ [8,11] 12 (λhSn=>?_);generalize w8.drew=wd at HD HF HB9 HM HRB hSn ⊢;simp only[List.replicate];refine Jr 0 ?_;refine BG 4 [8,9,10,11] (λw hSw=>Ag (HD.bel hSw) 1) ?_;refine CS 5 ?_;refine He 6 [7,8,9,10,11] (some 75) (.agg (y.cells).toArray) rfl (yieldsIf_load_mid (by rfl) 129 _ rfl gb 0 rfl (y.cells) _ (λw hSw=>HRB.o w hSw) underlying129 rfl (by as_aux_lemma=>kernel_rfl)) hSn ?rg7;simp only[Act.put,zA,zB,zC];refine BH 7 rfl (λK hK=>?_);go_simp;have hal:=λo=>Below.alloc hSn hSn.size o;refine hK.out _ _ (λ_=>hal _) ?_;have hSn:=hal (.cells y.cells.toArray 129);have HG:=qh (show Holds (wd.alloc (.cells y.cells.toArray 129)) wd.heap.size 129 y.cells from AA wd _ _);clear hal;change wpAnyL _ _ _ _ _ _ _ _ _ (wd.alloc (.cells y.cells.toArray 129));generalize wd.alloc (.cells y.cells.toArray 129)=wa at hSn HG ⊢;clear hK;try simp only[Act.put,zA,zB,zC]
  refine BH 8 rfl (λK hK=>?_);go_simp;have hsd:=HM.size;have hgn:g1≠wd.heap.size:=by have:=HM.size;omega
  refine(KI.o k _ _ y _ (HF.bel hSn) HG.o (λh=>hgn (by injection h)) hkle.1).mono ?_;rintro e w9 ⟨v9,ob9,rfl,hf9,hob9,hm9⟩;have hsa:=hSn.size;obtain⟨p6,n6,c6,rfl⟩:∃p n c,v9=.slice p n c:=by obtain⟨p,c,hv,_⟩:=hf9.rows;exact⟨p,_,c,hv⟩
  have HF9:=qh hf9;have HOB:=qh (show ob9=some g1∨∃g,ob9=some g∧w.heap.size≤g from hob9.imp id λ⟨g,h1,h2⟩=>⟨g,h1,by omega⟩);have HD9:=qh ((HD.bel hSn).mv hm9 (λh=>hg1d (by injection h)));have HM9:=qh ((HM.bel hSn).mv hm9 (λk hk=>.inl (.inr hk)));clear hf9 hob9 hm9;refine BN hK ?_;clear hK;refine FT 9 ?_ (hS:=IJ);refine BH 11 rfl (λK hK=>?_);refine tC 1 HD9.o (.slice p6 n6 c6) ?_;intro w10 hh10 ht10;have HD10:=qh (show Holds w10 gd 125 (IV (.slice p6 n6 c6)) from hh10);have HT:=qh ht10;clear hh10 ht10;refine BN hK ?_;clear hK;refine Dl ?_;have hm10:Mv (λk=>k=gd) _ w10:=Mv.AU HT.o rfl;have HM10:=qh (HM9.mv hm10 (λk hk=>.inl (.inl hk)));have HF10:=qh (HF9.mv hm10 (AO.ne_of HF9.o HD9.o (by decide)));clear hSn HD HF HB9 HM HRB HG HT HF9 HD9 HM9 hm10;go_wp2_with fail;go_ret;refine⟨rfl,_,ob9,⟨HD10.o,?_,λz hz=>?_⟩,HOB.o,HM10.o⟩
  ·rw[HREN.o];exact HF10.o
  ·rw[HREN.o] at hz;rcases List.mem_append.1 hz with hz|hz
   ·exact HFO2.o z (List.mem_of_mem_take hz) _ HM10.o
   ·rcases List.mem_cons.1 hz with rfl|hz
    ·exact HYO.o _ HM10.o
    ·exact HFO2.o z (List.mem_of_mem_drop hz) _ HM10.o
 ·go_upto_region 13 with(fail);have HRB:=qh (λ(w':World) (h:Below w8.drew.heap.size w8.drew w')=>(((HB9.bel (AQ _ w8)).bel h).AY));have hkf:k<(Fh l i).length:=hkle.2 trivial;have hbk:=AO.blk HF.o (by omega);obtain⟨g0,cap0,rest0,hv0,hg0,_,_,hh0,hl0⟩:=hbk;cases hg0;injection hv0 with _ hn0 hc0;subst hc0;have HH0:=qh hh0;clear hh0;have hki:(k:Int)<(l.length-1:Nat):=by omega
  clear hl1 hrow hn0;obtain⟨HD,HF,HB9,HM,HH0⟩:=Fq (AQ _ w8) HD HF HB9 HM HH0;refine EQ [7] 8 (λhSn=>?_);generalize w8.drew=wd at HD HF HB9 HM HH0 HRB hSn ⊢;simp only[List.replicate];refine Dz 0 ?_;refine BG 3 [6,7] (λw hSw=>Ag (HD.bel hSw) 1) ?_;refine CS 4 ?_;refine He 5 [6,7] (some 67) (.agg (y.cells).toArray) rfl (yieldsIf_load_mid (by rfl) 129 _ rfl gb 0 rfl (y.cells) _ (λw hSw=>HRB.o w hSw) underlying129 rfl (by as_aux_lemma=>kernel_rfl)) hSn ?rg15;simp only[Act.put,zA,zB,zC];refine CS 6 ?_;refine BH 7 rfl (λK hK=>?_);refine Ec rfl 129 (.tmp 68) (.tmp 67) rfl rfl g1 (k*3) _ 129 (HH0.bel hSn) rfl y.cells rfl (by kernel_rfl) (by rw[List.length_append,Eo,Fl.len];omega) (Fl.one _) ?_;intro w10 hh10 ht10;have HH9:=qh hh10;have HT:=qh ht10;clear hh10 ht10;refine BN hK ?_;clear hK;refine Dl ?_;have hm10:Mv (λk=>k=g1) _ w10:=Mv.AU HT.o rfl;have HM10:=qh ((HM.bel hSn).mv hm10 (λk hk=>.inl (.inr (by rw[hk]))));have HD10:=qh ((HD.bel hSn).mv hm10 (Ne.symm hg1d));have hh9:=HH9.o;rw[VS _ _ _ _ hkf] at hh9;have hf10:BQ w10 (.slice (some ⟨g1,0,none⟩) ((Fh l i).set k y).length cap1) (some g1) ((Fh l i).set k y):=AO.mk' hh9 (by rw[Eo]) (by rw[List.length_append,Eo,List.length_set] at *;exact hl0) (by rw[List.length_set,hn2];omega) hc2;rw[List.length_set,hn2] at hf10;have HF10:=qh hf10;clear hSn HD HF HB9 HM HRB HT hm10 HH0 HH9 hh9 hf10;go_wp2_with fail;go_ret;refine⟨rfl,_,some g1,⟨HD10.o,?_,λz hz=>?_⟩,.inl rfl,HM10.o⟩
  ·rw[HREN.o];exact HF10.o
  ·rw[HREN.o] at hz;rcases List.mem_or_eq_of_mem_set hz with hz|rfl
   ·exact HFO2.o z hz _ HM10.o
   ·exact HYO.o _ HM10.o
def EJ(k:Nat):ByteArray:=⟨#[108,111,103,46,49,46,UInt8.ofNat (48+k)]⟩
def Nw:ByteArray:=⟨#[105,109,97,103,101]⟩
def Hg:ByteArray:=⟨#[105,109,97,103,101,46,110,101,119]⟩
theorem aW:∀k,k<10→P5 (EJ k):=by
 have h:∀k:Fin 10,(EJ k).toList.isEmpty=false∧(EJ k).size≤24∧∀i:Fin 7,33≤((EJ k).data[i.val]!).toNat∧((EJ k).data[i.val]!).toNat≤126:=by decide +kernel
 intro k hk;obtain⟨h1,h2,h3⟩:=h ⟨k,hk⟩;refine⟨h1,h2,λi hi=>?_⟩;have h4:=h3 ⟨i,hi⟩;have e:((EJ k).data[i]!)=(EJ k)[i]:=getElem!_pos (EJ k).data i hi;simpa only[e] using h4
theorem aV:P5 Nw:=by
 refine⟨by decide +kernel,by decide,λi hi=>?_⟩;have h:∀i:Fin 5,33≤((Nw).data[i.val]!).toNat∧((Nw).data[i.val]!).toNat≤126:=by decide +kernel
 have h4:=h ⟨i,hi⟩;have e:(Nw.data[i]!)=Nw[i]:=getElem!_pos Nw.data i hi;simpa only[e] using h4
theorem aX:P5 Hg:=by
 refine⟨by decide +kernel,by decide,λi hi=>?_⟩;have h:∀i:Fin 9,33≤((Hg).data[i.val]!).toNat∧((Hg).data[i.val]!).toNat≤126:=by decide +kernel
 have h4:=h ⟨i,hi⟩;have e:(Hg.data[i]!)=Hg[i]:=getElem!_pos Hg.data i hi;simpa only[e] using h4
theorem Yv:∀i j,i<10→j<10→SpanP.lt (EJ i) (EJ j)=decide (i<j)∧SpanP.same (EJ i) (EJ j)=decide (i=j):=by
 have h:∀i j:Fin 10,SpanP.lt (EJ i) (EJ j)=decide (i.val<j.val)∧SpanP.same (EJ i) (EJ j)=decide (i.val=j.val):=by decide +kernel
 intro i j hi hj;exact h ⟨i,hi⟩ ⟨j,hj⟩
theorem fJ:∀j,j<10→SpanP.lt Nw (EJ j)=true∧SpanP.lt Hg (EJ j)=true∧SpanP.lt (EJ j) Nw=false∧SpanP.same (EJ j) Nw=false∧SpanP.lt (EJ j) Hg=false∧SpanP.same (EJ j) Hg=false:=by
 have h:∀j:Fin 10,SpanP.lt Nw (EJ j)=true∧SpanP.lt Hg (EJ j)=true∧SpanP.lt (EJ j) Nw=false∧SpanP.same (EJ j) Nw=false∧SpanP.lt (EJ j) Hg=false∧SpanP.same (EJ j) Hg=false:=by decide +kernel
 intro j hj;exact h ⟨j,hj⟩
theorem Va:SpanP.lt Nw Hg=true∧SpanP.lt Nw Nw=false∧SpanP.same Nw Nw=true:=by decide +kernel
theorem Jg:∀(a b:List Fl) (nm:ByteArray),(∀x∈a,SpanP.lt x.nm nm=true)→Am (a++b) nm=(a.length+(Am b nm).1,(Am b nm).2)
 | [],b,nm,_=>by simp
 | x :: a,b,nm,h=>by have ih:=Jg a b nm λy hy=>h y (List.mem_cons_of_mem _ hy);rw[List.cons_append];rw[show Am (x :: (a++b)) nm=((Am (a++b) nm).1+1,(Am (a++b) nm).2) from if_pos (h x List.mem_cons_self),ih,List.length_cons];simp only[Prod.mk.injEq,and_true];omega
theorem Gz(x:Fl)(b:List Fl)(nm:ByteArray)(h:SpanP.lt x.nm nm=false):Am (x :: b) nm=(0,SpanP.same x.nm nm):=by unfold Am;rw[if_neg (by rw[h];decide)]
structure BK(im sg:List Fl)(k m:Nat):Prop where
 im:im=[]∨∃x,im=[x]∧x.nm=Nw∧x.n≤20000
 len:sg.length=k
 nm:∀j,j<k→(sg.getD j .zero).nm=EJ (j+1)
 pos:∀j,j<k→1≤(sg.getD j .zero).n
 big:∀j,j+1<k→4096<(sg.getD j .zero).n
 sum:sizes sg=m
theorem Iu(a b:List Fl):sizes (a++b)=sizes a+sizes b:=by unfold sizes;rw[List.map_append,List.sum_append]
theorem E8(x:Fl)(b:List Fl):sizes (x :: b)=x.n+sizes b:=by unfold sizes;rw[List.map_cons,List.sum_cons]
theorem PI:∀(l:List Fl) (c:Nat),(∀j,j<l.length→c≤(l.getD j .zero).n)→l.length*c≤sizes l
 | [],c,_=>by simp
 | x :: l,c,h=>by
  have ih:=PI l c λj hj=>by simpa using h (j+1) (by simpa using hj)
  have h0:=h 0 (by simp);rw[List.getD_cons_zero] at h0;rw[E8,List.length_cons,Nat.add_mul,Nat.one_mul];omega
theorem BK.few{im sg:List Fl}{k m:Nat}(h:BK im sg k m)(hm:m≤32000):k≤8:=by
 rcases Nat.eq_zero_or_pos k with h0|h0
 ·omega
 ·have h1:=PI (sg.take (k-1)) 4097 λj hj=>by rw[List.length_take,h.len] at hj;have:=h.big j (by omega);rw[List.getD_eq_getElem?_getD,List.getElem?_take_of_lt (by omega),←List.getD_eq_getElem?_getD];exact this
  have h2:=JS sg (k-1);rw[h.sum] at h2;rw[List.length_take,h.len,Nat.min_eq_left (by omega)] at h1;omega
theorem BK.kG{im sg:List Fl}{k m:Nat}(h:BK im sg k m):sizes im≤20000∧im.length≤1:=by
 rcases h.im with rfl|⟨x,rfl,_,hn⟩
 ·exact⟨by decide,by decide⟩
 ·rw[E8];exact⟨hn,Nat.le_refl _⟩
theorem BK.kw{im sg:List Fl}{k m:Nat}(h:BK im sg k m)(j:Nat)(hj:j<10):∀x∈im,SpanP.lt x.nm (EJ j)=true:=λx hx=>by
 rcases h.im with rfl|⟨y,rfl,hn,_⟩
 ·cases hx
 ·rw[List.mem_singleton.1 hx,hn];exact(fJ j hj).1
theorem TW:∀(sg:List Fl) (o j:Nat),(∀i,i<sg.length→(sg.getD i .zero).nm=EJ (o+i))→o≤j→j<10→o+sg.length<11→Am sg (EJ j)=if j-o<sg.length then (j-o,true) else (sg.length,false)
 | [],o,j,_,_,_,_=>by simp[Am]
 | x :: sg,o,j,h,ho,hj,hk=>by
  have h0:=h 0 (by simp);rw[List.getD_cons_zero,Nat.add_zero] at h0;rw[List.length_cons] at hk;by_cases hoj:o=j
  ·subst hoj;rw[Gz x sg _ (by rw[h0,(Yv _ _ (by omega) hj).1];simp),h0,(Yv _ _ (by omega) hj).2];simp
  ·have ih:=TW sg (o+1) j (λi hi=>by have:=h (i+1) (by simpa using hi);rw[List.getD_cons_succ] at this;rw[this];congr 1;omega) (by omega) hj (by omega);rw[show Am (x :: sg) (EJ j)=((Am sg (EJ j)).1+1,(Am sg (EJ j)).2) from if_pos (by rw[h0,(Yv _ _ (by omega) hj).1];simp;omega),ih,List.length_cons];by_cases hc:j - (o+1)<sg.length
   ·rw[if_pos hc,if_pos (by omega)];simp only[Prod.mk.injEq,and_true];omega
   ·rw[if_neg hc,if_neg (by omega)]
theorem BK.find{im sg:List Fl}{k m:Nat}(h:BK im sg k m)(hk:k≤8)(j:Nat)(h1:1≤j)(h2:j≤k+1):Am (im++sg) (EJ j)=if j≤k then (im.length+(j-1),true) else (im.length+k,false):=by
 rw[Jg im sg _ (h.kw j (by omega)),TW sg 1 j (λi hi=>by rw[Nat.add_comm];exact h.nm i (by rw[←h.len];exact hi)) h1 (by omega) (by rw[h.len];omega),h.len];by_cases hc:j≤k
 ·rw[if_pos hc,if_pos (by omega)]
 ·rw[if_neg hc,if_neg (by omega)]
theorem BK.jE{im sg:List Fl}{k m:Nat}(h:BK im sg k m)(hk:k≤8):Am (im++sg) Hg=(im.length,false):=by
 have hi:∀x∈im,SpanP.lt x.nm Hg=true:=λx hx=>by
  rcases h.im with rfl|⟨y,rfl,hn,_⟩
  ·cases hx
  ·rw[List.mem_singleton.1 hx,hn];exact Va.1
 rw[Jg im sg _ hi];cases sg with
 | nil=>rfl
 | cons x sg=>
  have h0:=h.nm 0 (by rw[←h.len];simp);rw[List.getD_cons_zero] at h0;have hl:=fJ 1 (by omega);rw[Gz x sg _ (by rw[h0];exact hl.2.2.2.2.1),h0,hl.2.2.2.2.2]
  rfl
def VH(l' l:List Fl)(p:Option Addr):Prop:=∀y∈l',(∃x∈l,x.ob=y.ob)∨y.p=p
theorem D8(a b:List Fl)(i:Nat):(a++b).getD (a.length+i) .zero=b.getD i .zero:=by rw[List.getD_eq_getElem?_getD,List.getElem?_append_right (by omega),Nat.add_sub_cancel_left,←List.getD_eq_getElem?_getD]
theorem En(a b:List Fl)(i:Nat)(x:Fl):(a++b).set (a.length+i) x=a++b.set i x:=by rw[List.set_append_right _ _ (by omega),Nat.add_sub_cancel_left]
theorem QW:∀(l:List Fl) (i:Nat) (x:Fl),i<l.length→sizes (l.set i x)+(l.getD i .zero).n=sizes l+x.n
 | [],i,x,h=>by simp at h
 | y :: l,0,x,_=>by rw[List.set_cons_zero,E8,E8,List.getD_cons_zero];omega
 | y :: l,i+1,x,h=>by have ih:=QW l i x (by simpa using h);rw[List.set_cons_succ,E8,E8,List.getD_cons_succ];omega
theorem Ld(l:List Fl)(i j:Nat)(x:Fl)(hi:i<l.length):(l.set i x).getD j .zero=if j=i then x else l.getD j .zero:=by
 rw[List.getD_eq_getElem?_getD,List.getElem?_set];by_cases h:i=j
 ·subst h;rw[if_pos rfl,if_pos hi,if_pos rfl];rfl
 ·rw[if_neg h,if_neg (Ne.symm h),←List.getD_eq_getElem?_getD]
theorem Ji(l:List Fl)(x:Fl)(j:Nat):(l++[x]).getD j .zero=if j<l.length then l.getD j .zero else if j=l.length then x else .zero:=by
 rw[List.getD_eq_getElem?_getD];by_cases h:j<l.length
 ·rw[if_pos h,List.getElem?_append_left h,←List.getD_eq_getElem?_getD]
 ·rw[if_neg h,List.getElem?_append_right (by omega)];by_cases h2:j=l.length
  ·subst h2;simp
  ·rw[if_neg h2,List.getElem?_eq_none (by simp;omega)];rfl
theorem BK.set{im sg:List Fl}{k m:Nat}(h:BK im sg k m)(h1:1≤k)(y:Fl)(len:Nat)(hy:y.nm=EJ k)(hn:y.n=(sg.getD (k-1) .zero).n+len):BK im (sg.set (k-1) y) k (m+len):=by
 have hl:=h.len;have hi:k-1<sg.length:=by omega
 have hp:=h.pos (k-1) (by omega);refine⟨h.im,by rw[List.length_set,hl],λj hj=>?_,λj hj=>?_,λj hj=>?_,?_⟩
 ·rw[Ld _ _ _ _ hi];split
  ·rename_i e;subst e;rw[hy,Nat.sub_add_cancel h1]
  ·exact h.nm j hj
 ·rw[Ld _ _ _ _ hi];split
  ·omega
  ·exact h.pos j hj
 ·rw[Ld _ _ _ _ hi,if_neg (by omega)];exact h.big j hj
 ·have:=QW sg (k-1) y hi;rw[h.sum,hn] at this;omega
theorem BK.app1{im sg:List Fl}{k m:Nat}(h:BK im sg k m)(h1:1≤k)(hk:k≤8)(p:Option Addr)(len c:Nat) :∃sg',(∃i,Am (Ew (im++sg) (EJ k) p len c) (EJ k)=(i,true)∧IX (Ew (im++sg) (EJ k) p len c) i=im++sg')∧BK im sg' k (m+len)∧VH (im++sg') (im++sg) p:=by
 have hl:=h.len;have hi:k-1<sg.length:=by omega
 have hf:=h.find hk k h1 (by omega);rw[if_pos (Nat.le_refl k)] at hf;have hm:Nr (im++sg) (EJ k)=im++sg:=if_pos (by rw[hf]);have hnk:(sg.getD (k-1) .zero).nm=EJ k:=by rw[h.nm (k-1) (by omega),Nat.sub_add_cancel h1]
 have ha:Ew (im++sg) (EJ k) p len c=im++sg.set (k-1) ⟨EJ k,p,(sg.getD (k-1) .zero).n+len,c,(sg.getD (k-1) .zero).kept⟩:=by unfold Ew;rw[hm,hf,D8,En,hnk]
 have hL:=h.set h1 ⟨EJ k,p,(sg.getD (k-1) .zero).n+len,c,(sg.getD (k-1) .zero).kept⟩ len rfl rfl;have hf2:=hL.find hk k h1 (by omega);rw[if_pos (Nat.le_refl k)] at hf2;refine⟨sg.set (k-1) ⟨EJ k,p,(sg.getD (k-1) .zero).n+len,c,((sg.getD (k-1) .zero).n+len:Nat)⟩,⟨im.length+(k-1),by rw[ha];exact hf2,?_⟩,h.set h1 _ len rfl rfl,λy hy=>?_⟩
 ·rw[ha];unfold IX;rw[D8,En,Ld _ _ _ _ hi,if_pos rfl,List.set_set]
 ·rcases List.mem_append.1 hy with hy|hy
  ·exact .inl ⟨y,List.mem_append.2 (.inl hy),rfl⟩
  ·rcases List.mem_or_eq_of_mem_set hy with hy|rfl
   ·exact .inl ⟨y,List.mem_append.2 (.inr hy),rfl⟩
   ·exact .inr rfl
theorem BK.snoc{im sg:List Fl}{k m:Nat}(h:BK im sg k m)(hb:k=0∨4096<(sg.getD (k-1) .zero).n)(y:Fl)(len:Nat)(hy:y.nm=EJ (k+1))(hn:y.n=len)(hlen:1≤len):BK im (sg++[y]) (k+1) (m+len):=by
 have hl:=h.len;refine⟨h.im,by rw[List.length_append,hl];rfl,λj hj=>?_,λj hj=>?_,λj hj=>?_,?_⟩
 ·rw[Ji,hl];split
  ·exact h.nm j (by assumption)
  ·rw[if_pos (by omega),hy,show j=k by omega]
 ·rw[Ji,hl];split
  ·exact h.pos j (by assumption)
  ·rw[if_pos (by omega)];omega
 ·rw[Ji,hl,if_pos (by omega)];by_cases hjk:j+1<k
  ·exact h.big j hjk
  ·rcases hb with hb|hb
   ·omega
   ·rw[show j=k-1 by omega];exact hb
 ·rw[Iu,h.sum,E8,hn]
  rfl
theorem BK.iO{im sg:List Fl}{k m:Nat}(h:BK im sg k m)(hk:k≤7)(hb:k=0∨4096<(sg.getD (k-1) .zero).n)(p:Option Addr)(len c:Nat)(hlen:1≤len) :∃sg',(∃i,Am (Ew (im++sg) (EJ (k+1)) p len c) (EJ (k+1))=(i,true)∧IX (Ew (im++sg) (EJ (k+1)) p len c) i=im++sg')∧BK im sg' (k+1) (m+len)∧VH (im++sg') (im++sg) p:=by
 have hl:=h.len;have hf:=h.find (by omega) (k+1) (by omega) (by omega);rw[if_neg (by omega)] at hf;have hm:Nr (im++sg) (EJ (k+1))=im++(sg++[⟨EJ (k+1),none,0,0,0⟩]):=by unfold Nr;rw[hf,if_neg (by simp)];show (im++sg).take (im.length+k)++_ :: (im++sg).drop (im.length+k)=_;rw[show im.length+k=(im++sg).length by rw[List.length_append,hl],List.take_length,List.drop_length,List.append_assoc]
 have hg:∀y:Fl,(sg++[y]).getD k .zero=y:=λy=>by rw[Ji,hl,if_neg (by omega),if_pos rfl]
 have hs:∀y z:Fl,(sg++[y]).set k z=sg++[z]:=λy z=>by rw[←hl,List.set_append_right _ _ (Nat.le_refl _),Nat.sub_self];rfl
 have ha:Ew (im++sg) (EJ (k+1)) p len c=im++(sg++[⟨EJ (k+1),p,0+len,c,0⟩]):=by unfold Ew;rw[hm,hf,D8,En,hg,hs]
 have hL:=h.snoc hb ⟨EJ (k+1),p,0+len,c,0⟩ len rfl (Nat.zero_add _) hlen;have hf2:=hL.find (by omega) (k+1) (by omega) (by omega);rw[if_pos (Nat.le_refl _),Nat.add_sub_cancel] at hf2;refine⟨sg++[⟨EJ (k+1),p,0+len,c,(0+len:Nat)⟩],⟨im.length+k,by rw[ha];exact hf2,?_⟩,h.snoc hb _ len rfl (Nat.zero_add _) hlen,λy hy=>?_⟩
 ·rw[ha];unfold IX;rw[D8,En,hg,hs]
 ·rcases List.mem_append.1 hy with hy|hy
  ·exact .inl ⟨y,List.mem_append.2 (.inl hy),rfl⟩
  ·rcases List.mem_append.1 hy with hy|hy
   ·exact .inl ⟨y,List.mem_append.2 (.inr hy),rfl⟩
   ·rw[List.mem_singleton.1 hy];exact .inr rfl
theorem BK.keep{im sg:List Fl}{k m:Nat}(h:BK im sg k m)(hk:k≤8)(p:Option Addr)(len c:Nat)(hlen:len≤20000) :∃i im',Am (Ew (im++sg) Hg p len c) Hg=(i,true)∧Am (IX (Ew (im++sg) Hg p len c) i) Hg=(i,true)∧WS (IX (Ew (im++sg) Hg p len c) i) i Nw=im'++sg∧BK im' sg k m∧VH (im'++sg) (im++sg) p∧((Nr (im++sg) Hg).getD (Am (im++sg) Hg).1 .zero).n=0:=by
 have hf:=h.jE hk;have hin:∀x∈im,SpanP.lt x.nm Hg=true:=λx hx=>by
  rcases h.im with rfl|⟨y,rfl,hn,_⟩
  ·cases hx
  ·rw[List.mem_singleton.1 hx,hn];exact Va.1
 have hm:Nr (im++sg) Hg=im++⟨Hg,none,0,0,0⟩ :: sg:=by
  unfold Nr;rw[hf,if_neg (by simp)];show (im++sg).take im.length++_ :: (im++sg).drop im.length=_;rw[List.take_left',List.drop_left']
  ·rfl
  ·rfl
 have hg:∀(y:Fl),(im++y :: sg).getD im.length .zero=y:=λy=>by have:=D8 im (y :: sg) 0;rw[Nat.add_zero] at this;exact this
 have hs:∀(y z:Fl),(im++y :: sg).set im.length z=im++z :: sg:=λy z=>by have:=En im (y :: sg) 0 z;rw[Nat.add_zero] at this;exact this
 have ha:Ew (im++sg) Hg p len c=im++⟨Hg,p,0+len,c,0⟩ :: sg:=by unfold Ew;rw[hm,hf,hg,hs]
 have hfy:∀y:Fl,y.nm=Hg→Am (im++y :: sg) Hg=(im.length,true):=λy hy=>by rw[Jg im _ _ hin,Gz y sg _ (by rw[hy];decide +kernel),hy];simp only[Prod.mk.injEq];exact⟨rfl,by decide +kernel⟩
 have hsy:IX (Ew (im++sg) Hg p len c) im.length=im++⟨Hg,p,0+len,c,(0+len:Nat)⟩ :: sg:=by rw[ha];unfold IX;rw[hg,hs]
 have hfo:Fh (im++(⟨Hg,p,0+len,c,(0+len:Nat)⟩:Fl) :: sg) im.length=im++sg:=by unfold Fh;rw[List.take_left' rfl,show im++(⟨Hg,p,0+len,c,(0+len:Nat)⟩:Fl) :: sg=(im++[⟨Hg,p,0+len,c,(0+len:Nat)⟩])++sg by simp,List.drop_left' (by simp)]
 have hfi:Am (im++sg) Nw=(0,!im.isEmpty):=by
  rcases h.im with rfl|⟨x,rfl,hn,_⟩
  ·cases sg with
   | nil=>rfl
   | cons x sg=>
    have h0:=h.nm 0 (by rw[←h.len];simp);rw[List.getD_cons_zero] at h0;have hl:=fJ 1 (by omega);rw[List.nil_append,Gz x sg _ (by rw[h0];exact hl.2.2.1),h0,hl.2.2.2.1]
    rfl
  ·show Am (x :: sg) Nw=_;rw[Gz x sg _ (by rw[hn];exact Va.2.1),hn,Va.2.2]
   rfl
 refine⟨im.length,[⟨Nw,p,0+len,c,(0+len:Nat)⟩],by rw[ha];exact hfy _ rfl,by rw[hsy];exact hfy _ rfl,?_,⟨.inr ⟨_,rfl,rfl,by show 0+len≤_;omega⟩,h.len,h.nm,h.pos,h.big,h.sum⟩,λy hy=>?_,by rw[hm,hf];show ((im++_ :: sg).getD im.length .zero).n=0;rw[hg]⟩
 ·rw[hsy];unfold WS;rw[hfo,hfi,hg];rcases h.im with rfl|⟨x,rfl,hn,_⟩
  ·rfl
  ·rfl
 ·rcases List.mem_append.1 hy with hy|hy
  ·rw[List.mem_singleton.1 hy];exact .inr rfl
  ·exact .inl ⟨y,List.mem_append.2 (.inr hy),rfl⟩
end Go.Proofs.YtimdpiifpibgfaaGreatDoor
