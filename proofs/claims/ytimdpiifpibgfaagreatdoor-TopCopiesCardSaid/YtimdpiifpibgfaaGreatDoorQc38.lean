/- A part of the proof that the law TopCopies returns true for every input. -/
import Derived.Test.YtimdpiifpibgfaaGreatDoorQc37
set_option linter.all false
set_option maxRecDepth 20000
set_option maxHeartbeats 16000000
open Go.RowKit Go.Maps
namespace Go.Proofs.YtimdpiifpibgfaaGreatDoor
open Tryz
section
variable [In]
theorem OZ{w:World}{g:Nat}{rest:List Value}(m:Nat)(V:Nat→List Value)(hV:∀i,(V i).length=51)(h:Holds w g 47 (flat 51 m V++rest))(j:Nat)(hj:j<m):w.rangeAt g (j*51) (V j):=
 h.Ci (j*51) λt v hv=>by
  have ht:t<51:=by have:=(List.getElem?_eq_some_iff.1 hv).1;rw[hV] at this;exact this
  have h1:j*51+t<m*51:=by have:(j+1)*51≤m*51:=Nat.mul_le_mul_right 51 (by omega);omega
  rw[List.getElem?_append_left (by rw[BJ];exact h1),EP 51 m V j t hj ht (hV j)];exact hv
theorem SG(xs:List Value)(V:Nat→List Value)(hV:∀i,(V i).length=51)(j:Nat):(xs++flat 51 j V)++V j=xs++flat 51 (j+1) V:=by rw[List.append_assoc,Jh (by decide) (λi _=>hV i)]
def UD(gC n ml:Nat)(dv nv clv cav hv:Value)(xs:List Value)(V:Nat→List Value)(obl:Option Nat)(w:World)(j:Nat)(wr:World):Prop:=∃lv' ob',Holds wr gC 85 (DV n dv nv clv cav lv' hv)∧AO wr lv' ob' 47 51 (ml+j) (xs++flat 51 j V)∧(ob'=obl∨∃k,ob'=some k∧w.heap.size≤k)∧Mv (λk=>k=gC∨obl=some k) w wr
theorem OH{L:List Value}(h:∀u∈L,u.oneCell'=true):L.toArray.all (·.oneCell')=true:=by simpa using h
theorem Nu{L:List Value}(h:L.length=51):(prog.info? 47).map (·.size)=some L.length:=by rw[h];kernel_rfl
def VL(ks fs ts:Nat→Nat)(qq:Nat)(xx:Nat→Cm)(j:Nat):List Value:=Ah (ks j) (fs j) (ts j) qq (xx j)
theorem ig(gC gN n cN i ml m:Nat)(gs:Nat→Nat)(rN:List Value)(dv clv cav lv hv:Value)(xs:List Value)(ks fs ts:Nat→Nat)(qq:Nat)(xx:Nat→Cm)(R:World→World→Prop)(w:World) (h:Holds w gC 85 (DV n dv (.slice (some ⟨gN,0,none⟩) n cN) clv cav lv hv)) (hN:Holds w gN 59 (ptrs n gs++rN)) (hi:i<n) (hcN:n≤cN) (hts:∀i,i<m→ts i<n) (hml:ml+m≤1000) (KO:Calls prog 54 #[.pointer (some ⟨gs i,0,none⟩)] w λe w1=>∃o obo obl,e=.returned (.tuple #[o,.slice none 0 0])∧R w w1∧Holds w1 gC 85 (DV n dv (.slice (some ⟨gN,0,none⟩) n cN) clv cav lv hv)∧AO w1 o obo 47 51 m (flat 51 m (VL ks fs ts qq xx))∧AO w1 lv obl 47 51 ml xs∧(∀k,obo=some k→obl≠some k)) :Calls prog 31 #[.pointer (some ⟨gC,0,none⟩),.int .i64 i] w λe w'=>e=.returned (.tuple #[])∧∃w1 obl,R w w1∧AO w1 lv obl 47 51 ml xs∧UD gC n ml dv (.slice (some ⟨gN,0,none⟩) n cN) clv cav hv xs (VL ks fs ts qq xx) obl w1 m w':=by
 have KO:=qh KO;have hts:=qh hts;have hV:∀j,((VL ks fs ts qq xx) j).length=51:=λ_=>rfl;have hV1:=qh (show ∀j,∀u∈(VL ks fs ts qq xx) j,u.oneCell'=true from λj=>Lm _ _ _ _ _);have hin:(i:Int)<(n:Int):=by omega
 have a2:=Ag h 2;have p:=hN.cell i;rw[Jl n gs rN i hi] at p;clear h hN;go_in;go_wp2_with fail;refine KO.mono ?_;rintro e w1 ⟨o,obo,obl,rfl,hr,hc,ho,hl,hne⟩;have hgt:∀k,obl=some k→k≠gC:=λk hk=>by
  rcases hl.cases with⟨_,h0,_⟩|⟨g1,_,_,_,h0,_,_,hh,_⟩
  ·rw[h0] at hk;cases hk
  ·rw[h0] at hk;cases hk;exact hh.ne_of hc (by decide)
 have hgo:∀k,obo=some k→k≠gC:=λk hk=>by
  rcases ho.cases with⟨_,h0,_⟩|⟨g1,_,_,_,h0,_,_,hh,_⟩
  ·rw[h0] at hk;cases hk
  ·rw[h0] at hk;cases hk;exact hh.ne_of hc (by decide)
 obtain⟨po,co,rfl⟩:∃po co,o=.slice po m co:=by
  rcases ho.cases with⟨r,_,r2,_⟩|⟨_,_,_,r,_⟩
  ·subst r2;exact⟨_,_,r⟩
  ·exact⟨_,_,r⟩
 have HR:=qh hr;have HO:=qh ho;have HL:=qh hl;have hJ0:UD gC n ml dv (.slice (some ⟨gN,0,none⟩) n cN) clv cav hv xs (VL ks fs ts qq xx) obl w1 0 w1:=⟨lv,obl,hc,by rw[MM,List.append_nil];exact hl,.inl rfl,Mv.refl _ _⟩;have HJ0:=qh hJ0;clear hr hc ho hl hJ0 KO a2 p;go_wp2_with fail;go_loopw [23] (λvi wr=>∃j:Nat,vi=.int .i64 (j:Int)∧j≤m∧UD gC n ml dv (.slice (some ⟨gN,0,none⟩) n cN) clv cav hv xs (VL ks fs ts qq xx) obl w1 j wr) (λvi _=>m - (intOf vi).toNat);case atStart=>exact⟨0,rfl,Nat.zero_le _,HJ0.o⟩
 case round=>
  obtain⟨j,rfl,hj,hJ⟩:=hrel;clear HJ0;by_cases hjm:j=m
  ·subst hjm;have HJ:=qh hJ;clear hJ;go_wp2_with fail;go_loopw [55] (λvi wr2=>vi=.int .i64 0∧wr=wr2) (λ_ _=>0);case atStart=>exact⟨rfl,rfl⟩
   case round=>obtain⟨rfl,rfl⟩:=hrel;go_wp2_with fail;exact bE ⟨rfl,w1,obl,HR.o,HL.o,HJ.o⟩
  ·have hjm2:j<m:=by omega
   have hji:(j:Int)<(m:Int):=by omega
   obtain⟨lv',ob',hc,hl,hob,hm⟩:=hJ;have ho:=HO.mv hm (λk hk hf=>hf.elim (hgo k hk) (hne k hk));obtain⟨go,co',ro,hv1,hv2,hco1,hco2,hgoh,_⟩:=ho.blk (by omega);injection hv1 with hv1 _ hv3;subst hv1 hv3;have HRG:=qh (OZ m (VL ks fs ts qq xx) hV hgoh j hjm2);have HC:=qh hc;have HLL:=qh hl;have HM:=qh hm;have hob2:=qh hob;have hV2a:((VL ks fs ts qq xx) j)[2]?=some (.int .i64 (ts j)):=rfl;have htn:(ts j:Int)<(n:Int):=by have:=hts.out j hjm2;omega
   clear hc hl hm hob ho hgoh;obtain⟨pl,cl,rfl⟩:∃pl cl,lv'=.slice pl (ml+j:Nat) cl:=by
    rcases HLL.cases with⟨r,_,r2,_⟩|⟨_,_,_,r,_⟩
    ·rw[r2];exact⟨_,_,r⟩
    ·exact⟨_,_,r⟩
   have hl4:((ml+j:Nat):Int)<4000:=by omega
   have hgt2:=qh (show ∀k,ob'=some k→k≠gC from λk hk=>by
    rcases HLL.cases with⟨_,h0,_⟩|⟨g1,_,_,_,h0,_,_,hh,_⟩
    ·rw[h0] at hk;cases hk
    ·rw[h0] at hk;cases hk;exact hh.ne_of HC.o (by decide))
   have hbld:∀j (w:World),(Instr.buildSlice 34 1 #[(0,.agg ((VL ks fs ts qq xx) j).toArray)]).run prog w=.ok (.slice (some ⟨w.heap.size,0,none⟩) 1 1) (w.alloc (.cells ((VL ks fs ts qq xx) j).toArray 47)):=λj w=>by kernel_rfl
   have HB1:=qh (Base.start wr);go_upto_region 4 with(first|(refine lM (j*51) HRG.o ?_ (hi:=Nu (hV j)))|(refine sW ((VL ks fs ts qq xx) j) (AA wr _ _) ?_ (OH (hV1.out j)) (hi:=Nu (hV j)) (hl:=by rw[hV];rfl);intro w2 hh2 ht2));have hal:Below wr.heap.size wr w2:=Below.trans ((Below.refl _ _).alloc (Nat.le_refl _) _) (ht2.below (Nat.le_refl _) (by simp));have HX:=qh hh2;obtain⟨HC,HLL,HM,HB1⟩:=Dy hal HC HLL HM HB1;clear hal hh2 ht2 HRG;generalize hgx:wr.heap.size=gx at HX HB1 ⊢;have x2:=HX.cell 2;rw[hV2a] at x2;obtain⟨a0,a5⟩:=CU HC.o 0 5;go_quiet (fail);obtain⟨HC,HLL,HM,HB1,HX⟩:=Fq (BV _ w2 nq) HC HLL HM HB1 HX;clear x2 a0 a5;generalize w2.drewN nq=w3 at HC HLL HM HB1 HX ⊢;go_upto_region 5 with(fail);have HRX:=qh (λ(w':World) (h:Below w3.drew.heap.size w3.drew w')=>((HX.bel (AQ _ w3)).bel h).AY);obtain⟨HC,HLL,HM,HB1⟩:=Dy (AQ _ w3) HC HLL HM HB1;refine EQ [7,10] 11 (λhSn=>?_);generalize w3.drew=wd at HC HLL HM HB1 HRX hSn ⊢;simp only[List.replicate];refine Jr 0 ?_;refine BG 4 [7,8,9,10] (λw hSw=>Ag (HC.bel hSw) 5) ?_;refine He 5 [6,7,8,9,10] (some 47) (.agg (VL ks fs ts qq xx j).toArray) rfl (yieldsIf_load_mid (by rfl) 47 _ rfl gx 0 rfl (VL ks fs ts qq xx j) _ (λw hSw=>HRX.o w hSw) underlying47 rfl (by as_aux_lemma=>kernel_rfl)) hSn ?rg6;simp only[Act.put,zA,zB,zC];refine BH 6 rfl (λK hK=>?_);refine JU rfl 34 47 (.agg ((VL ks fs ts qq xx) j).toArray) ((VL ks fs ts qq xx) j) rfl rfl rfl (hbld j) ?_;intro wa hna hba;have hSn:=AB hSn hba;have HNA:=qh hna;generalize wd.heap.size=gn at HNA ⊢;obtain⟨HLL,HC,HM,HB1⟩:=Dy hSn HLL HC HM HB1;clear hna hba;change K (Act.put _ (some 48) _) _;refine BN hK ?_;clear hK;refine BH 7 rfl (λK hK=>?_);refine tS (.agg Dp.toArray) 51 480 HLL.o ((VL ks fs ts qq xx) j) (HNA.reads 0 _ (λj v hv=>by rw[Nat.zero_add];exact hv)) ?_ (hV1.out j) (hl:=by rw[hV]);intro v5 ob5 w5 ho5 hob5 hm5;have HC5:=qh (HC.mv hm5 (λhf=>hgt2.out _ hf rfl));have hle5:=HM.size;have hob6:ob5=obl∨∃k,ob5=some k∧w1.heap.size≤k:=by
    rcases hob5 with h|⟨k,h,h2⟩
    ·rcases hob2.out with h3|h3
     ·exact .inl (h.trans h3)
     ·exact .inr (h▸h3)
    ·exact .inr ⟨k,h,by omega⟩
   have HM5:=qh (HM.mv hm5 (λk hk=>by
    rcases hob2.out with h3|⟨k3,h3,h4⟩
    ·exact .inl (.inr (h3▸hk))
    ·rw[h3] at hk;cases hk;exact .inr h4))
   obtain⟨p5,c5,rfl⟩:∃p5 c5,v5=.slice p5 (ml+j+1:Nat) c5:=by
    rcases ho5.cases with⟨_,_,h0,_⟩|⟨g1,cap,_,hv,_⟩
    ·omega
    ·exact⟨_,cap,hv⟩
   have HO5:=qh (show AO w5 (.slice p5 (ml+j+1:Nat) c5) ob5 47 51 (ml+(j+1)) (xs++flat 51 (j+1) (VL ks fs ts qq xx)) from SG xs (VL ks fs ts qq xx) hV j▸ho5);have hgt5:∀k,ob5=some k→k≠gC:=(λk hk=>by
    rcases HO5.cases with⟨_,h0,_⟩|⟨g1,_,_,_,h0,_,_,hh,_⟩
    ·rw[h0] at hk;cases hk
    ·rw[h0] at hk;cases hk;exact hh.ne_of HC5.o (by decide))
   clear ho5 hob5 hm5;change K (Act.put _ (some 49) _) _;refine BN hK ?_;clear hK;refine FT 8 ?_ (hS:=IJ);refine BH 10 rfl (λK hK=>?_);refine tC 5 HC5.o (.slice p5 (ml+j+1:Nat) c5) ?_;intro w6 hh6 ht6;have HJ6:=qh (show UD gC n ml dv (.slice (some ⟨gN,0,none⟩) n cN) clv cav hv xs (VL ks fs ts qq xx) obl w1 (j+1) w6 from⟨_,ob5,hh6,HO5.touch ht6 hgt5,hob6,HM5.touch ht6 (.inl (.inl rfl))⟩);clear hh6 ht6;refine BN hK ?_;clear hK;refine Dl ?_;clear hSn HC HLL HM HB1 HC5 HM5 HO5 HNA HRX HX;go_wp2_with fail;go_roundw;case rel=>exact⟨j+1,by simp,by omega,HJ6.o⟩
   case measure=>simp[intOf];omega
end
section
variable [In]
def U3(k:Nat)(c:Cm)(rep:Rep):Ev:=⟨2,(k:Int)+1,c,rep⟩
theorem SA(e:Ev){v:Value}(h:Bq v):∀u∈IW e v,u.oneCell'=true:=by obtain⟨p,n,c,rfl⟩:=h;simp[IW,Cm.cells,BF,Value.oneCell']
def dP(gC n mm:Nat)(dv nv clv cav:Value)(xs:List Value)(gcl:Nat→Nat)(ck:Nat)(c:Cm)(rep:Rep)(le:Nat)(EL:List Value)(tg tk:Int)(obl obh:Option Nat)(w1 w':World):Prop:=∃lv' ob' hv' obh',Holds w' gC 85 (DV n dv nv clv cav lv' hv') ∧
 AO w' lv' ob' 47 51 mm xs∧(ob'=obl∨∃k,ob'=some k∧w1.heap.size≤k)∧(∃v' obv',AO w' hv' obh' 55 14 (le+1) (EL++IW (U3 ck c rep) v')∧AV w' v' obv' rep.ps∧∀x,obv'=some x→w1.heap.size≤x)∧(obh'=obh∨∃k,obh'=some k∧w1.heap.size≤k)∧Ju w' (gcl ck) ((ck:Int)+1) c.s c false tg tk∧Mv (λx=>x=gC∨obl=some x∨obh=some x∨x=gcl ck) w1 w'
theorem iq(gC gN gCl cCl gCa n cN i ml m:Nat)(gcl:Nat→Nat)(rC CA:List Value)(ck:Nat)(hk:ck<8)(c:Cm)(rep:Rep)(le:Nat)(EL:List Value)(hrp:rep.ps.length≤1000)(hle:le≤1000)(hCA:∀(j:Nat) v,c.cells[j]?=some v→CA[ck*7+j]?=some v)(tg tk:Int)(gs:Nat→Nat)(rN:List Value)(dv lv hv:Value)(xs:List Value)(ks fs ts:Nat→Nat)(qq:Nat)(xx:Nat→Cm)(R:World→World→Prop)(w:World) (h:Holds w gC 85 (DV n dv (.slice (some ⟨gN,0,none⟩) n cN) (.slice (some ⟨gCl,0,none⟩) 8 cCl) (.slice (some ⟨gCa,0,none⟩) 8 8) lv hv)) (hN:Holds w gN 59 (ptrs n gs++rN)) (hi:i<n) (hcN:n≤cN) (hts:∀i,i<m→ts i<n) (hml:ml+m≤1000) (KO:Calls prog 54 #[.pointer (some ⟨gs i,0,none⟩)] w λe w1=>∃o a obo obl oba obh,e=.returned (.tuple #[o,a])∧R w w1∧Holds w1 gC 85 (DV n dv (.slice (some ⟨gN,0,none⟩) n cN) (.slice (some ⟨gCl,0,none⟩) 8 cCl) (.slice (some ⟨gCa,0,none⟩) 8 8) lv hv)∧AO w1 o obo 47 51 m (flat 51 m (VL ks fs ts qq xx))∧AO w1 lv obl 47 51 ml xs∧(∀k,obo=some k→obl≠some k)∧(∃va obv,AO w1 a oba 121 7 1 (MH ck c.s rep va)∧AV w1 va obv rep.ps)∧AO w1 hv obh 55 14 le EL∧Holds w1 gCl 92 (ptrs 8 gcl++rC)∧Holds w1 gCa 23 CA∧Ju w1 (gcl ck) ((ck:Int)+1) c.s c true tg tk) :Calls prog 31 #[.pointer (some ⟨gC,0,none⟩),.int .i64 i] w λe w'=>e=.returned (.tuple #[])∧∃w1 obl obh,R w w1∧AO w1 lv obl 47 51 ml xs∧AO w1 hv obh 55 14 le EL∧dP gC n (ml+m) dv (.slice (some ⟨gN,0,none⟩) n cN) (.slice (some ⟨gCl,0,none⟩) 8 cCl) (.slice (some ⟨gCa,0,none⟩) 8 8) (xs++flat 51 m (VL ks fs ts qq xx)) gcl ck c rep le EL tg tk obl obh w1 w':=by
 have KO:=qh KO;have hts:=qh hts;have hV:∀j,((VL ks fs ts qq xx) j).length=51:=λ_=>rfl;have hV1:=qh (show ∀j,∀u∈(VL ks fs ts qq xx) j,u.oneCell'=true from λj=>Lm _ _ _ _ _);have hin:(i:Int)<(n:Int):=by omega
 have a2:=Ag h 2;have p:=hN.cell i;rw[Jl n gs rN i hi] at p;clear h hN;go_in;go_wp2_with fail;refine KO.mono ?_;rintro e w1 ⟨o,a,obo,obl,oba,obh,rfl,hr,hc,ho,hl,hne,⟨va,obv,han,hpv⟩,hhv,hcl,hca,hcat⟩;obtain⟨pv0,nv0,cv0,rfl⟩:=hpv.Bq;have HPV0:=qh hpv;have hgt:∀k,obl=some k→k≠gC:=λk hk=>by
  rcases hl.cases with⟨_,h0,_⟩|⟨g1,_,_,_,h0,_,_,hh,_⟩
  ·rw[h0] at hk;cases hk
  ·rw[h0] at hk;cases hk;exact hh.ne_of hc (by decide)
 have hgo:∀k,obo=some k→k≠gC:=λk hk=>by
  rcases ho.cases with⟨_,h0,_⟩|⟨g1,_,_,_,h0,_,_,hh,_⟩
  ·rw[h0] at hk;cases hk
  ·rw[h0] at hk;cases hk;exact hh.ne_of hc (by decide)
 obtain⟨po,co,rfl⟩:∃po co,o=.slice po m co:=by
  rcases ho.cases with⟨r,_,r2,_⟩|⟨_,_,_,r,_⟩
  ·subst r2;exact⟨_,_,r⟩
  ·exact⟨_,_,r⟩
 obtain⟨ga,ca,ra,rfl,rfl,hca1,hca2,hga,_⟩:=han.blk (Nat.zero_lt_one);have HA0:=qh hga;have HH0:=qh hhv;have HHF:=qh hhv;have HCL0:=qh hcl;have HCA0:=qh hca;have HCAT0:=qh (show Holds w1 (gcl ck) 132 _ from hcat);have KK:=qh (UM ((ck:Int)+1) (by omega) (by omega));have KT:=qh (λW (h:Ju W (gcl ck) ((ck:Int)+1) c.s c true tg tk)=>ZK (gcl ck) ((ck:Int)+1) c.s c tg tk (.int .i64 rep.why) (.bool rep.fd) (.string rep.val) (.int .i64 rep.ver) (.slice pv0 nv0 cv0) W h);have KP:=qh (λW h=>E9 (.slice pv0 nv0 cv0) obv rep.ps W h hrp);have dfl:∀k,obl=some k→ga≠k∧gCl≠k∧gCa≠k∧gcl ck≠k∧∀g,obh=some g→g≠k:=λk hk=>by
  rcases hl.cases with⟨_,h0,_⟩|⟨g1,_,_,_,h0,_,_,hh,_⟩
  ·rw[h0] at hk;cases hk
  ·rw[h0] at hk;cases hk;refine⟨hga.ne_of hh (by decide),hcl.ne_of hh (by decide),hca.ne_of hh (by decide),hcat.ne_of hh (by decide),λg hg=>?_⟩;rcases hhv.cases with⟨_,h0,_⟩|⟨g1,_,_,_,h0,_,_,hh2,_⟩
   ·rw[h0] at hg;cases hg
   ·rw[h0] at hg;cases hg;exact hh2.ne_of hh (by decide)
 have dfc:ga≠gC∧gCl≠gC∧gCa≠gC∧gcl ck≠gC:=⟨hga.ne_of hc (by decide),hcl.ne_of hc (by decide),hca.ne_of hc (by decide),hcat.ne_of hc (by decide)⟩;have dfh:∀g,obh=some g→g≠gC∧g≠gcl ck:=λg hg=>by
  rcases hhv.cases with⟨_,h0,_⟩|⟨g1,_,_,_,h0,_,_,hh2,_⟩
  ·rw[h0] at hg;cases hg
  ·rw[h0] at hg;cases hg;exact⟨hh2.ne_of hc (by decide),hh2.ne_of hcat (by decide)⟩
 have dt:ga≠gcl ck∧gCl≠gcl ck∧gCa≠gcl ck:=⟨hga.ne_of hcat (by decide),hcl.ne_of hcat (by decide),hca.ne_of hcat (by decide)⟩;have dpv:∀x,obv=some x→x≠gC∧x≠gcl ck∧obl≠some x∧obh≠some x:=λx hx=>⟨AO.ne_of hpv hc (by decide) x hx,AO.ne_of hpv hcat (by decide) x hx,AO.Io hpv hl (by decide) x hx,AO.Io hpv hhv (by decide) x hx⟩;have HR:=qh hr;have HO:=qh ho;have HL:=qh hl;have hJ0:UD gC n ml dv (.slice (some ⟨gN,0,none⟩) n cN) (.slice (some ⟨gCl,0,none⟩) 8 cCl) (.slice (some ⟨gCa,0,none⟩) 8 8) hv xs (VL ks fs ts qq xx) obl w1 0 w1:=⟨lv,obl,hc,by rw[MM,List.append_nil];exact hl,.inl rfl,Mv.refl _ _⟩;have HJ0:=qh hJ0;clear hr hc ho hl hJ0 KO a2 p hpv han hhv hcl hca hcat hga;go_wp2_with fail;go_loopw [23] (λvi wr=>∃j:Nat,vi=.int .i64 (j:Int)∧j≤m∧UD gC n ml dv (.slice (some ⟨gN,0,none⟩) n cN) (.slice (some ⟨gCl,0,none⟩) 8 cCl) (.slice (some ⟨gCa,0,none⟩) 8 8) hv xs (VL ks fs ts qq xx) obl w1 j wr) (λvi _=>m - (intOf vi).toNat);case atStart=>exact⟨0,rfl,Nat.zero_le _,HJ0.o⟩
 case round=>
  obtain⟨j,rfl,hj,hJ⟩:=hrel;clear HJ0;by_cases hjm:j=m
  ·subst hjm;obtain⟨lv',ob',hc,hl,hob,hm⟩:=hJ;have dl:∀k,(k=gC∨obl=some k)→ga≠k∧gCl≠k∧gCa≠k∧gcl ck≠k∧∀g,obh=some g→g≠k:=λk hk=>by
    rcases hk with rfl|hk
    ·exact⟨dfc.1,dfc.2.1,dfc.2.2.1,dfc.2.2.2,λg hg=>(dfh g hg).1⟩
    ·exact dfl k hk
   have HC:=qh hc;have HL2:=qh hl;have HPV:=qh (HPV0.mv hm (λx hx hf=>hf.elim (dpv x hx).1 (dpv x hx).2.2.1));have HA:=qh (HA0.mv hm (λhf=>(dl _ hf).1 rfl));have HCL:=qh (HCL0.mv hm (λhf=>(dl _ hf).2.1 rfl));have HCA:=qh (HCA0.mv hm (λhf=>(dl _ hf).2.2.1 rfl));have HCAT:=qh (HCAT0.mv hm (λhf=>(dl _ hf).2.2.2.1 rfl));have HH:=qh (HH0.mv hm (λg hg hf=>(dl _ hf).2.2.2.2 g hg rfl));have HM:=qh (hm.more (G:=λk=>k=gC∨obl=some k∨obh=some k∨k=gcl ck) (λk hk=>hk.imp id .inl));have htl:∀k,ob'=some k→∃L,Holds wr k 47 L:=λk hk=>by
    rcases hl.cases with⟨_,h0,_⟩|⟨g1,_,_,_,h0,_,_,hh,_⟩
    ·rw[h0] at hk;cases hk
    ·rw[h0] at hk;cases hk;exact⟨_,hh⟩
   have dl2:∀k,ob'=some k→k≠gcl ck:=λk hk=>by obtain⟨L,hL⟩:=htl k hk;exact hL.ne_of HCAT.o (by decide)
   have dl4:∀k,ob'=some k→k≠gC:=λk hk=>by obtain⟨L,hL⟩:=htl k hk;exact hL.ne_of hc (by decide)
   have dl3:∀k,ob'=some k→obh≠some k:=λk hk hf=>by
    obtain⟨L,hL⟩:=htl k hk;rcases HH.cases with⟨_,h0,_⟩|⟨g1,_,_,_,h0,_,_,hh,_⟩
    ·rw[h0] at hf;cases hf
    ·rw[h0] at hf;cases hf;exact hL.ne_of hh (by decide) rfl
   have hsw:=hm.size;clear hc hl hm htl HPV0 HA0 HCL0 HCA0 HCAT0 HH0 dfl;go_wp2_with fail;go_loopw [55] (λvi wr2=>(vi=.int .i64 0∧wr=wr2)∨(vi=.int .i64 1∧dP gC n (ml+j) dv (.slice (some ⟨gN,0,none⟩) n cN) (.slice (some ⟨gCl,0,none⟩) 8 cCl) (.slice (some ⟨gCa,0,none⟩) 8 8) (xs++flat 51 j (VL ks fs ts qq xx)) gcl ck c rep le EL tg tk obl obh w1 wr2)) (λvi _=>1 - (intOf vi).toNat);case atStart=>exact .inl ⟨rfl,rfl⟩
   case round=>
    rcases hrel with⟨rfl,rfl⟩|⟨rfl,hfin⟩
    ·have e0:=HA.cell 0;have e1:=HA.cell 1;have e2:=HA.cell 2;have e3:=HA.cell 3;have e4:=HA.cell 4;have e5:=HA.cell 5;have e6:=HA.cell 6;simp only[MH,BF,List.cons_append,yA,yB] at e0 e1 e2 e3 e4 e5 e6;have HB1:=qh (Base.start wr);go_upto_region 10 with(first|(refine sW (MH ck c.s rep (.slice pv0 nv0 cv0)) (AA wr _ _) ?_ (OH (RY ck c.s rep ⟨_,_,_,rfl⟩));intro w2 hh2 ht2));have hal:Below wr.heap.size wr w2:=Below.trans ((Below.refl _ _).alloc (Nat.le_refl _) _) (ht2.below (Nat.le_refl _) (by simp));have hgcl:=HCAT.lt;have HX:=qh hh2;obtain⟨HC,HL2,HA,HH,HCL,HCA⟩:=FI hal HC HL2 HA HH HCL HCA;obtain⟨HCAT,HM,HB1,HPV⟩:=Dy hal HCAT HM HB1 HPV;clear hal hh2 ht2 e0 e1 e2 e3 e4 e5 e6;have dx:wr.heap.size≠gcl ck:=by omega
     have dxC:wr.heap.size≠gC:=HX.ne_of HC.o (by decide);have dxw:w1.heap.size≤wr.heap.size:=hsw;generalize hgx:wr.heap.size=gx at HX HB1 dx dxC dxw ⊢;have hwk:IntKind.i64.wrap ((ck:Int)+1-1)=(ck:Int):=by rw[show (ck:Int)+1-1=ck by omega];exact IntWalk.i64_in _ (by omega)
     have hwk2:IntKind.i64.wrap (ck:Int)=(ck:Int):=IntWalk.i64_in _ (by omega);have hck0:(0:Int)≤(ck:Int):=by omega
     have hck8:(ck:Int)<8:=by omega
     obtain⟨HC,HL2,HA,HH,HCL,HCA⟩:=FI (AQ _ w2) HC HL2 HA HH HCL HCA;obtain⟨HCAT,HM,HX,HB1,HPV⟩:=Fq (AQ _ w2) HCAT HM HX HB1 HPV;refine EQ [14] 16 (λhSn=>?_);generalize w2.drew=wd at HC HL2 HA HH HCL HCA HCAT HM HX HB1 HPV hSn ⊢;simp only[List.replicate];refine CS 0 ?_;refine BG 1 [2,3,4,5,6,7,8,9,10,11,12,13,14,15] (λw hSw=>Ag (HX.bel hSw) 0) ?_;refine BH 2 rfl (λK hK=>?_);go_simp;refine Ac (KK.o _) ?_;rintro wk hb;have hSn:=AB hSn hb;clear hb;refine BN hK ?_;clear hK;refine Jr 3 ?_;refine BG 7 [11,12,14,15] (λw hSw=>Ag (HC.bel hSw) 3) ?_;refine CS 8 ?_;refine BG 9 [10,11,12,14,15] (λw hSw=>Ag (HX.bel hSw) 0) ?_;refine FT 10 ?_;refine He 12 [14,15] (some 71) (?vg12) rfl (Or.inl ⟨by rfl,?hg12⟩) hSn ?rg12;case hg12=>
      intro w hSw;have bp:=(HCL.bel hSw).cell ck;rw[Jl 8 gcl rC ck hk] at bp;go_simp;try with_reducible rfl
     simp only[Act.put,zA,zB,zC];refine BG 13 [14,15] (λw hSw=>GR (HX.bel hSw) 0 1 2 3 4 5 6) ?_;refine BH 14 rfl (λK hK=>?_);go_simp;refine Ac (KT.o _ (HCAT.bel hSn)) ?_;rintro w5 ⟨hcat,ht⟩;have hmt:Mv (λk=>k=gcl ck) _ w5:=Mv.AU ht rfl;have HC:=qh ((HC.bel hSn).mv hmt (Ne.symm dfc.2.2.2));have HL2:=qh ((HL2.bel hSn).mv hmt dl2);have HH:=qh ((HH.bel hSn).mv hmt (λg hg=>(dfh g hg).2));have HCA:=qh ((HCA.bel hSn).mv hmt dt.2.2);have HX:=qh ((HX.bel hSn).mv hmt dx);have HM:=qh ((HM.bel hSn).mv hmt (λk hk=>.inl (.inr (.inr (.inr hk)))));have HPV:=qh ((HPV.bel hSn).mv hmt (λx hx hf=>(dpv x hx).2.1 hf));have HCAT:=qh hcat;have hB5:=ht.size;clear hcat ht hmt;refine BN hK ?_;clear hK;refine CS 15 ?_ (hS:=IJ);refine Dl ?_;clear hSn HB1 HA HCL;have x6:=Ag HX.o 6;go_wp2_with fail;refine(KP.o _ HPV.o).mono ?_;rintro e w6 ⟨v2,ob2,rfl,ho2,hob2,hb6⟩;have hle5:=HM.size;have hob3:∀x,ob2=some x→w1.heap.size≤x:=λx hx=>Nat.le_trans hle5 (hob2 x hx);obtain⟨p2,n2,c2,rfl⟩:=ho2.Bq;have HP2:=qh ho2;clear ho2 hob2 HPV;obtain⟨HC,HL2,HH,HCA,HCAT,HM⟩:=FI hb6 HC HL2 HH HCA HCAT HM;have HX:=ET hb6 HX;clear hb6 x6;go_upto_region 12 with(first|(refine sC 6 HX.o (.slice p2 n2 c2) ?_;intro w7 hh7 ht7));have dxs:∀t L k,Holds w6 k t L→t≠121→k≠gx:=λt L k h ht=>h.ne_of HX.o ht;have hm7:Mv (λk=>k=gx) w6 w7:=Mv.AU ht7 rfl;have hxA:=HX.o;have HX:=qh (show Holds w7 gx 121 (MH ck c.s rep (.slice p2 n2 c2)) from hh7);have HP2:=qh (show AV w7 (.slice p2 n2 c2) ob2 rep.ps from HP2.mv hm7 (λk hk e=>AO.ne_of HP2.o hxA (by decide) k hk e));have HL2:=qh (HL2.mv hm7 (λk hk=>by
      rcases HL2.cases with⟨_,h0,_⟩|⟨g1,_,_,_,h0,_,_,hh,_⟩
      ·rw[h0] at hk;cases hk
      ·rw[h0] at hk;cases hk;exact dxs _ _ _ hh (by decide)))
     have HH:=qh (HH.mv hm7 (λk hk=>by
      rcases HH.cases with⟨_,h0,_⟩|⟨g1,_,_,_,h0,_,_,hh,_⟩
      ·rw[h0] at hk;cases hk
      ·rw[h0] at hk;cases hk;exact dxs _ _ _ hh (by decide)))
     have HCA:=qh (HCA.mv hm7 (dxs _ _ _ HCA.o (by decide)));have HCAT:=qh (HCAT.mv hm7 (dxs _ _ _ HCAT.o (by decide)));have HC:=qh (HC.mv hm7 (dxs _ _ _ HC.o (by decide)));have HM:=qh (HM.mv hm7 (λk hk=>.inr (hk▸dxw)));clear hh7 ht7 hm7 dxs hxA;have HCAR:=qh (λ(w':World) (h:Below w7.drew.heap.size w7.drew w')=>((HCA.bel (AQ _ w7)).bel h).Ci (ck*7) hCA);obtain⟨HC,HL2,HH,HCA,HCAT,HM⟩:=FI (AQ _ w7) HC HL2 HH HCA HCAT HM;obtain⟨HX,HP2⟩:=DC (AQ _ w7) HX HP2;refine EQ [20,23] 24 (λhSn=>?_);generalize w7.drew=wd at HC HL2 HH HCA HCAT HM HX HP2 HCAR hSn ⊢;simp only[List.replicate];refine Jr 0 ?_;refine BG 4 [20,21,22,23] (λw hSw=>Ag (HC.bel hSw) 6) ?_;refine CS 5 ?_;refine BG 6 [18,19,20,21,22,23] (λw hSw=>Ag (HX.bel hSw) 0) ?_;refine Dz 7 ?_;refine BG 10 [14,15,18,19,20,21,22,23] (λw hSw=>Ag (HC.bel hSw) 4) ?_;refine CS 11 ?_;refine BG 12 [13,14,15,18,19,20,21,22,23] (λw hSw=>Ag (HX.bel hSw) 0) ?_;refine FT 13 ?_;refine He 15 [18,19,20,21,22,23] (some 96) (.agg ([.int .i64 c.k,.int .i64 c.c,.int .i64 c.s,.string c.a,.string c.b,.string c.o,.string c.v]).toArray) rfl (yieldsIf_load_mid (by rfl) 23 _ rfl gCa (ck*7) rfl ([.int .i64 c.k,.int .i64 c.c,.int .i64 c.s,.string c.a,.string c.b,.string c.o,.string c.v]) _ (λw hSw=>HCAR.o w hSw) underlying23 rfl (by as_aux_lemma=>kernel_rfl)) hSn ?rg30;simp only[Act.put,zA,zB,zC];refine CS 16 ?_;refine BG 17 [18,19,20,21,22,23] (λw hSw=>MG (HX.bel hSw) 2 3 4 5 6) ?_;refine CS 18 ?_;refine BH 19 rfl (λK hK=>?_);refine tU 55 (.agg (IW (U3 ck c rep) (.slice p2 n2 c2)).toArray) (IW (U3 ck c rep) (.slice p2 n2 c2)) ?_;intro wa hna hba;have hSn:=AB hSn hba;have HNA:=qh hna;generalize wd.heap.size=gn at HNA ⊢;obtain⟨HC,HL2,HH,HCAT,HM,HP2⟩:=FI hSn HC HL2 HH HCAT HM HP2;clear hna hba;change K (Act.put _ (some 100) _) _;refine BN hK ?_;clear hK;refine BH 20 rfl (λK hK=>?_);refine tS (.agg jw.toArray) 14 168 HH.o (IW (U3 ck c rep) (.slice p2 n2 c2)) (HNA.reads 0 _ (λj v hv=>by rw[Nat.zero_add];exact hv)) ?_ (SA _ ⟨p2,n2,c2,rfl⟩);intro v9 ob9 w9 ho9 hob9 hm9;have hle9:=HM.size;have HC9:=qh (HC.mv hm9 (λhf=>(dfh _ hf).1 rfl));have HL9:=qh (HL2.mv hm9 (λk hk hf=>dl3 k hk hf));have HT9:=qh (HCAT.mv hm9 (λhf=>(dfh _ hf).2 rfl));have HM9:=qh (HM.mv hm9 (λk hk=>.inl (.inr (.inr (.inl hk)))));have HP9:=qh (HP2.mv hm9 (λx hx hf=>AO.Io HP2.o HH.o (by decide) x hx hf));have HO9:=qh ho9;have hob8:ob9=obh∨∃k,ob9=some k∧w1.heap.size≤k:=hob9.imp id (λ⟨k,h,h2⟩=>⟨k,h,by omega⟩);have hgt9:∀k,ob9=some k→k≠gC:=(λk hk=>by
      rcases HO9.cases with⟨_,h0,_⟩|⟨g1,_,_,_,h0,_,_,hh,_⟩
      ·rw[h0] at hk;cases hk
      ·rw[h0] at hk;cases hk;exact hh.ne_of HC9.o (by decide))
     clear ho9 hob9 hm9;change K (Act.put _ (some 101) _) _;refine BN hK ?_;clear hK;refine FT 21 ?_ (hS:=IJ);refine BH 23 rfl (λK hK=>?_);refine tC 6 HC9.o v9 ?_ (hu:=HO9.c1) (h1:=HO9.c2);intro w10 hh10 ht10;have hm10:Mv (λk=>k=gC) w9 w10:=Mv.AU ht10 rfl;have HFIN:=qh (show dP gC n (ml+j) dv (.slice (some ⟨gN,0,none⟩) n cN) (.slice (some ⟨gCl,0,none⟩) 8 cCl) (.slice (some ⟨gCa,0,none⟩) 8 8) (xs++flat 51 j (VL ks fs ts qq xx)) gcl ck c rep le EL tg tk obl obh w1 w10 from⟨lv',ob',v9,ob9,hh10,HL9.mv hm10 dl4,hob,⟨_,ob2,HO9.mv hm10 hgt9,HP9.mv hm10 (λx hx e=>AO.ne_of HP9.o HC9.o (by decide) x hx e),hob3⟩,hob8,HT9.mv hm10 dfc.2.2.2,HM9.mv hm10 (λk hk=>.inl (.inl hk))⟩);clear hh10 ht10 hm10;refine BN hK ?_;clear hK;refine Dl ?_;clear hSn HC HL2 HH HCA HCAT HM HX HC9 HL9 HT9 HM9 HO9 HNA HP2 HP9 HCAR;go_wp2_with fail;go_roundw;case rel=>exact .inr ⟨by simp,HFIN.o⟩
     case measure=>simp[intOf]
    ·have HFIN:=qh hfin;have HLF:=qh (show AO w1 hv obh 55 14 le EL from HHF.o);clear hfin HC HL2 HA HH HCL HCA HCAT HM;go_wp2_with fail;exact bE ⟨rfl,w1,obl,obh,HR.o,HL.o,HLF.o,HFIN.o⟩
  ·have hjm2:j<m:=by omega
   have hji:(j:Int)<(m:Int):=by omega
   obtain⟨lv',ob',hc,hl,hob,hm⟩:=hJ;have ho:=HO.mv hm (λk hk hf=>hf.elim (hgo k hk) (hne k hk));obtain⟨go,co',ro,hv1,hv2,hco1,hco2,hgoh,_⟩:=ho.blk (by omega);injection hv1 with hv1 _ hv3;subst hv1 hv3;have HRG:=qh (OZ m (VL ks fs ts qq xx) hV hgoh j hjm2);have HC:=qh hc;have HLL:=qh hl;have HM:=qh hm;have hob2:=qh hob;have hV2a:((VL ks fs ts qq xx) j)[2]?=some (.int .i64 (ts j)):=rfl;have htn:(ts j:Int)<(n:Int):=by have:=hts.out j hjm2;omega
   clear hc hl hm hob ho hgoh;obtain⟨pl,cl,rfl⟩:∃pl cl,lv'=.slice pl (ml+j:Nat) cl:=by
    rcases HLL.cases with⟨r,_,r2,_⟩|⟨_,_,_,r,_⟩
    ·rw[r2];exact⟨_,_,r⟩
    ·exact⟨_,_,r⟩
   have hl4:((ml+j:Nat):Int)<4000:=by omega
   have hgt2:=qh (show ∀k,ob'=some k→k≠gC from λk hk=>by
    rcases HLL.cases with⟨_,h0,_⟩|⟨g1,_,_,_,h0,_,_,hh,_⟩
    ·rw[h0] at hk;cases hk
    ·rw[h0] at hk;cases hk;exact hh.ne_of HC.o (by decide))
   have hbld:∀j (w:World),(Instr.buildSlice 34 1 #[(0,.agg ((VL ks fs ts qq xx) j).toArray)]).run prog w=.ok (.slice (some ⟨w.heap.size,0,none⟩) 1 1) (w.alloc (.cells ((VL ks fs ts qq xx) j).toArray 47)):=λj w=>by kernel_rfl
   have HB1:=qh (Base.start wr);go_upto_region 4 with(first|(refine lM (j*51) HRG.o ?_ (hi:=Nu (hV j)))|(refine sW ((VL ks fs ts qq xx) j) (AA wr _ _) ?_ (OH (hV1.out j)) (hi:=Nu (hV j)) (hl:=by rw[hV];rfl);intro w2 hh2 ht2));have hal:Below wr.heap.size wr w2:=Below.trans ((Below.refl _ _).alloc (Nat.le_refl _) _) (ht2.below (Nat.le_refl _) (by simp));have HX:=qh hh2;obtain⟨HC,HLL,HM,HB1⟩:=Dy hal HC HLL HM HB1;clear hal hh2 ht2 HRG;generalize hgx:wr.heap.size=gx at HX HB1 ⊢;have x2:=HX.cell 2;rw[hV2a] at x2;obtain⟨a0,a5⟩:=CU HC.o 0 5;go_quiet (fail);obtain⟨HC,HLL,HM,HB1,HX⟩:=Fq (BV _ w2 nq) HC HLL HM HB1 HX;clear x2 a0 a5;generalize w2.drewN nq=w3 at HC HLL HM HB1 HX ⊢;go_upto_region 5 with(fail);have HRX:=qh (λ(w':World) (h:Below w3.drew.heap.size w3.drew w')=>((HX.bel (AQ _ w3)).bel h).AY);obtain⟨HC,HLL,HM,HB1⟩:=Dy (AQ _ w3) HC HLL HM HB1;refine EQ [7,10] 11 (λhSn=>?_);generalize w3.drew=wd at HC HLL HM HB1 HRX hSn ⊢;simp only[List.replicate];refine Jr 0 ?_;refine BG 4 [7,8,9,10] (λw hSw=>Ag (HC.bel hSw) 5) ?_;refine He 5 [6,7,8,9,10] (some 47) (.agg (VL ks fs ts qq xx j).toArray) rfl (yieldsIf_load_mid (by rfl) 47 _ rfl gx 0 rfl (VL ks fs ts qq xx j) _ (λw hSw=>HRX.o w hSw) underlying47 rfl (by as_aux_lemma=>kernel_rfl)) hSn ?rg41;simp only[Act.put,zA,zB,zC];refine BH 6 rfl (λK hK=>?_);refine JU rfl 34 47 (.agg ((VL ks fs ts qq xx) j).toArray) ((VL ks fs ts qq xx) j) rfl rfl rfl (hbld j) ?_;intro wa hna hba;have hSn:=AB hSn hba;have HNA:=qh hna;generalize wd.heap.size=gn at HNA ⊢;obtain⟨HLL,HC,HM,HB1⟩:=Dy hSn HLL HC HM HB1;clear hna hba;change K (Act.put _ (some 48) _) _;refine BN hK ?_;clear hK;refine BH 7 rfl (λK hK=>?_);refine tS (.agg Dp.toArray) 51 480 HLL.o ((VL ks fs ts qq xx) j) (HNA.reads 0 _ (λj v hv=>by rw[Nat.zero_add];exact hv)) ?_ (hV1.out j) (hl:=by rw[hV]);intro v5 ob5 w5 ho5 hob5 hm5;have HC5:=qh (HC.mv hm5 (λhf=>hgt2.out _ hf rfl));have hle5:=HM.size;have hob6:ob5=obl∨∃k,ob5=some k∧w1.heap.size≤k:=by
    rcases hob5 with h|⟨k,h,h2⟩
    ·rcases hob2.out with h3|h3
     ·exact .inl (h.trans h3)
     ·exact .inr (h▸h3)
    ·exact .inr ⟨k,h,by omega⟩
   have HM5:=qh (HM.mv hm5 (λk hk=>by
    rcases hob2.out with h3|⟨k3,h3,h4⟩
    ·exact .inl (.inr (h3▸hk))
    ·rw[h3] at hk;cases hk;exact .inr h4))
   obtain⟨p5,c5,rfl⟩:∃p5 c5,v5=.slice p5 (ml+j+1:Nat) c5:=by
    rcases ho5.cases with⟨_,_,h0,_⟩|⟨g1,cap,_,hv,_⟩
    ·omega
    ·exact⟨_,cap,hv⟩
   have HO5:=qh (show AO w5 (.slice p5 (ml+j+1:Nat) c5) ob5 47 51 (ml+(j+1)) (xs++flat 51 (j+1) (VL ks fs ts qq xx)) from SG xs (VL ks fs ts qq xx) hV j▸ho5);have hgt5:∀k,ob5=some k→k≠gC:=(λk hk=>by
    rcases HO5.cases with⟨_,h0,_⟩|⟨g1,_,_,_,h0,_,_,hh,_⟩
    ·rw[h0] at hk;cases hk
    ·rw[h0] at hk;cases hk;exact hh.ne_of HC5.o (by decide))
   clear ho5 hob5 hm5;change K (Act.put _ (some 49) _) _;refine BN hK ?_;clear hK;refine FT 8 ?_ (hS:=IJ);refine BH 10 rfl (λK hK=>?_);refine tC 5 HC5.o (.slice p5 (ml+j+1:Nat) c5) ?_;intro w6 hh6 ht6;have HJ6:=qh (show UD gC n ml dv (.slice (some ⟨gN,0,none⟩) n cN) (.slice (some ⟨gCl,0,none⟩) 8 cCl) (.slice (some ⟨gCa,0,none⟩) 8 8) hv xs (VL ks fs ts qq xx) obl w1 (j+1) w6 from⟨_,ob5,hh6,HO5.touch ht6 hgt5,hob6,HM5.touch ht6 (.inl (.inl rfl))⟩);clear hh6 ht6;refine BN hK ?_;clear hK;refine Dl ?_;clear hSn HC HLL HM HB1 HC5 HM5 HO5 HNA HRX HX;go_wp2_with fail;go_roundw;case rel=>exact⟨j+1,by simp,by omega,HJ6.o⟩
   case measure=>simp[intOf];omega
end
end Go.Proofs.YtimdpiifpibgfaaGreatDoor
