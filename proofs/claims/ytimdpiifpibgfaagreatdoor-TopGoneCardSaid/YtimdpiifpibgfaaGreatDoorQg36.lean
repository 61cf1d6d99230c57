/- A part of the proof that the law TopGone returns true for every input. -/
import Derived.Test.YtimdpiifpibgfaaGreatDoorQg35
set_option linter.all false
set_option maxRecDepth 20000
set_option maxHeartbeats 16000000
open Go.RowKit Go.Maps
namespace Go.Proofs.YtimdpiifpibgfaaGreatDoor
open Tryz
theorem A7.jU{w w':World}{F:Ap}{g b n:Nat}{l:List BR}(h:A7 w g b n l)(hm:Mv F w w')(h1:¬F g)(h2:¬F b):A7 w' g b n l:=h.keep (hm.block g h.lt.1 h1) (hm.block b h.lt.2 h2)
theorem Wq(gc n me gl gm nl gi gx ni gb gld cb q:Nat)(c:Cm)(E:List Bh)(rest:List Value)(a:Nat→Int)(R:Value)(cnt:Int)(w:World)(h:Ac w gc n me gl gm nl gi gx ni [⟨q,1,cellL 1 c true⟩] E (.slice (some ⟨gb,0,none⟩) 1 cb) (.slice none 0 0) (.slice none 0 0)) (hb:Holds w gb 158 (.pointer (some ⟨gld,0,none⟩) :: rest)) (hl:Holds w gld 167 (EY q c a R cnt 0)) (hcb:1≤cb∧cb≤maxLen) (hq:q<7) :Calls prog 52 #[.pointer (some ⟨gc,0,none⟩)] w λe w'=>e=.returned (.tuple #[])∧Holds w' gld 167 (EY q c a R cnt 1)∧Mv (λk=>k=gld) w w':=by
 have hd:gld≠gc∧gld≠gl∧gld≠gm∧gld≠gi∧gld≠gx∧gld≠gb:=⟨hl.ne_of h.hc (by decide),hl.ne_of h.lg.ix (by decide),Ai h.lg.isMap hl,hl.ne_of h.ix.ix (by decide),Ai h.ix.isMap hl,hl.ne_of hb (by decide)⟩;have KC:=qh (XX gb cb (.pointer (some ⟨gld,0,none⟩)) rest (by simp[Value.oneCell']) w hb);have KW:=qh IC;have KL:=qh (λW h=>IX gl gm nl [⟨q,1,cellL 1 c true⟩] W h (by simp));have KX:=qh (λW (h:A7 W gl gm nl [⟨q,1,cellL 1 c true⟩])=>Eg gl gm nl q (cellL 1 c true) W h hq);have KF:=qh (λW (h:Holds W gc 163 (Au n me gl gi (.slice (some ⟨gb,0,none⟩) 1 cb) (.slice none 0 0) (.slice none 0 0))) hb hl=>RN gc n me gl gi gb gld cb rest (.slice none 0 0) (.slice none 0 0) q c a R cnt 1 W h hb hl hcb.1);have HC:=qh h.hc;have HLG:=qh h.lg;have HG:=qh hb;have HL:=qh hl;have hgl:=hl.lt;have HM:=qh (Mv.refl (λk=>k=gld) w);clear h hb hl;go_in;have d4:=AZ HC.o 4;go_wp2_with fail;refine KC.mono ?_;rintro e w1 ⟨P',ob',rfl,ho,hob,_,hb⟩;obtain⟨gs,cs,rs,rfl,rfl,hcs1,hcs2,hgs,_⟩:=ho.blk (Nat.zero_lt_one);have HS:=qh hgs;obtain⟨HC,HLG,HG,HL,HM⟩:=FB hb HC HLG HG HL HM;clear hb d4 ho hob hgs KC;go_wp2_with fail;go_loopw [17] (λvi wr=>(vi=.int .i64 0∧w1=wr)∨(vi=.int .i64 1∧Holds wr gld 167 (EY q c a R cnt 1)∧Mv (λk=>k=gld) w1 wr)) (λvi _=>1 - (intOf vi).toNat);case atStart=>exact .inl ⟨rfl,rfl⟩
 case round=>
  rcases hrel with⟨rfl,rfl⟩|⟨rfl,hl,hm⟩
  ·have s0:=HS.cell 0;simp only[List.cons_append,yA,yB] at s0;have y31:=AZ HL.o 31;go_upto_region 4 with(first|(refine sC 31 HL.o (.int .i64 1) ?_;intro w7 hh7 ht7));have HL:=qh (show Holds w7 gld 167 (EY q c a R cnt 1) from hh7);have HT:=qh (show Mv (λk=>k=gld) w1 w7 from Mv.Aa ht7 rfl);clear hh7 ht7 s0 y31;have y31:=AZ HL.o 31;go_wp2_with fail;go_roundw;case rel=>exact .inr ⟨by simp,HL.o,HT.o⟩
   case measure=>simp[intOf]
  ·have HC:=qh (HC.mv hm (Ne.symm hd.1));have HLG:=qh (A7.jU HLG.o hm (Ne.symm hd.2.1) (Ne.symm hd.2.2.1));have HG:=qh (HG.mv hm (Ne.symm hd.2.2.2.2.2));have HL:=qh hl;have HM:=qh (HM.mv hm (λk hk=>.inl hk));clear hl hm HS;have d2:=AZ HC.o 2;go_wp2_with fail;refine(KL.o _ HLG.o).mono ?_;rintro e w2 ⟨v2,xs,rfl,ho,hx,hb2⟩;have hxs:=hx _ List.mem_cons_self;subst hxs;obtain⟨ob2,ho2,_⟩:=AU.of ho;obtain⟨gi2,ci,ri,rfl,_,hci1,hci2,hgi,_⟩:=ho2.blk (Nat.zero_lt_one);have HI:=qh hgi;obtain⟨HC,HLG,HG,HL,HM⟩:=FB hb2 HC HLG HG HL HM;clear ho hx hb2 ho2 hgi d2 KL;go_wp2_with fail;go_loopw [61] (λvi wr2=>(vi=.int .i64 0∧w2=wr2)∨(vi=.int .i64 1∧Below w2.heap.size w2 wr2)) (λvi _=>1 - (intOf vi).toNat);case atStart=>exact .inl ⟨rfl,rfl⟩
   case round=>
    rcases hrel with⟨rfl,rfl⟩|⟨rfl,hb⟩
    ·have s0:=HI.cell 0;have s1:=HI.cell 1;simp only[List.cons_append,yA,yB] at s0 s1;have HB1:=qh (Base.start w2);go_upto_region 10 with(first|(refine sW [.int .i64 q,.int .i64 1] (AA w2 _ _) ?_;intro w3 hh3 ht3));have hal:Below w2.heap.size w2 w3:=Below.trans ((Below.refl _ _).alloc (Nat.le_refl _) _) (ht3.below (Nat.le_refl _) (by simp));have HX:=qh hh3;obtain⟨HC,HLG,HG,HL,HB1⟩:=FB hal HC HLG HG HL HB1;clear hal hh3 ht3 s0 s1;generalize hgp:w2.heap.size=gp at HX HB1 ⊢;refine' bx1 ⟨9,10,6,72,45,zero21,cellL 1 c true⟩ _ (VT _ _ _) ?h1 ?val1 ?fin1;case h1=>
      intro W0 hW0;obtain⟨HC,HLG,HG,HL,HX,HB1⟩:=Eh hW0 HC HLG HG HL HX HB1;have c0_2:=Iz HC.o 2;obtain⟨c1_0,c1_1⟩:=Ji HX.o 0 1;simp only[List.map_cons,List.map_nil,A8];repeat go_big_quiet_step (first|(go_at_call 82;with_reducible exact AL λW2 h2=>KX.o W2 (HLG.o.bel h2)))
      refine wpQuiet_nil ?_;intro w' _;exact rfl
     case val1=>rfl
     intro β w4 hb hx6;simp only[] at hx6;simp only[Dc,List.foldl,Act.put,List.setIfInBounds_toArray,List.set_cons_zero,List.set_cons_succ];obtain⟨HC,HLG,HG,HL,HX,HB1⟩:=Eh hb HC HLG HG HL HX HB1;generalize β 6=g6 at hx6 ⊢;have H6:=qh hx6.2;have hge6:=hx6.1;clear hx6;clear hb;have y0:=AZ H6.o 0;obtain⟨x0,x1⟩:=BQ HX.o 0 1;clear HLG;go_wp2_with fail;refine AY (KF.o _ HC.o HG.o HL.o) ?_;rintro w5 hb5;have HB1:=Ci hb5 HB1;clear hb5 y0 x0 x1 HX H6 HC HG HL;go_wp2_with fail;go_roundw;case rel=>exact .inr ⟨by simp,hgp▸HB1.below⟩
     case measure=>simp[intOf]
    ·have HC:=qh (HC.bel hb);obtain⟨HL,HM⟩:=Bf hb HL HM;clear hb HI HLG HG KX KF;have d5:=AZ HC.o 5;go_wp2_with fail;refine AY (KW.o _) ?_;rintro w6 hb6;obtain⟨HL,HM⟩:=Bf hb6 HL HM;clear hb6 d5 HC;go_wp2_with fail;go_loopw [93] (λvi wr3=>vi=.int .i64 0∧w6=wr3) (λ_ _=>0);case atStart=>exact⟨rfl,rfl⟩
     case round=>obtain⟨rfl,rfl⟩:=hrel;go_wp2_with fail;exact bE ⟨rfl,HL.o,HM.o⟩
section
theorem jI(g n me gd gw gc gfr:Nat)(P:Value)(sq v:Int)(d:Nat→Int)(since tk:Int)(waits out ans:Value)(w:World)(nd:Holds w g 102 (BF n me gd gw gc gfr P sq v d since tk waits out ans)) :Calls prog 54 #[.pointer (some ⟨g,0,none⟩)] w λe w'=>e=.returned (.tuple #[out,ans])∧Holds w' g 102 (BF n me gd gw gc gfr P sq v d since tk waits (.slice none 0 0) (.slice none 0 0))∧Touch g w w':=by have HN:=qh nd;have HT:=qh (Touch.refl g w);clear nd;go_in;obtain⟨n72,n73⟩:=BQ HN.o 72 73;go_upto_region 1 with(fail);go_quiet (fail);have hb2:Below w.heap.size w (w.drewN nq):=BV _ _ _;obtain⟨HN,HT⟩:=Bf hb2 HN HT;clear hb2 n72 n73;generalize w.drewN nq=W2 at HN HT ⊢;go_wp2_with (first|(refine sC 72 HN.o (.slice none 0 0) ?_;intro w7 hh7 ht7;have HN7:=qh (show Holds w7 g 102 (BF n me gd gw gc gfr P sq v d since tk waits (.slice none 0 0) ans) from hh7);have HT7:=qh (HT.trans ht7);clear hh7 ht7)|(refine sC 73 HN7.o (.slice none 0 0) ?_;intro w8 hh8 ht8;have HN8:=qh (show Holds w8 g 102 (BF n me gd gw gc gfr P sq v d since tk waits (.slice none 0 0) (.slice none 0 0)) from hh8);have HT8:=qh (HT7.trans ht8);clear hh8 ht8));refine b2 (v:=.tuple #[out,ans]) ?_;exact⟨rfl,HN8.o,HT8.o⟩
theorem iJ(g n me gd gw gc gfr:Nat)(P:Value)(sq v:Int)(d:Nat→Int)(since:Int)(tk:Nat)(waits out ans:Value)(R1 R2 R3:World→Prop)(w:World)(nd:Holds w g 102 (BF n me gd gw gc gfr P sq v d since tk waits out ans))(hn:0<n) (htk:tk≤1000000) (h8:¬(tk+1) % 8=0) (KT:Calls prog 52 #[.pointer (some ⟨gc,0,none⟩)] w λe w'=>e=.returned (.tuple #[])∧R1 w') (h1:∀W,R1 W→Holds W g 102 (BF n me gd gw gc gfr P sq v d since tk waits out ans)) (h2:∀W W2,R1 W→Holds W2 g 102 (BF n me gd gw gc gfr P sq v d since ((tk+1:Nat):Int) waits out ans)→Touch g W W2→R2 W2) (KS:∀W,R2 W→Calls prog 53 #[.pointer (some ⟨g,0,none⟩)] W λe w'=>e=.returned (.tuple #[])∧R3 w') :Calls prog 30 #[.pointer (some ⟨g,0,none⟩)] w λe w'=>e=.returned (.tuple #[])∧R3 w':=by
 have hni:(0:Int)<(n:Int):=by omega
 have h8i:¬(((tk+1:Nat):Int) % 8=0):=by omega
 have h1p:(0:Int)≤((tk+1:Nat):Int):=by omega
 have h1q:((tk+1:Nat):Int)≤1000001:=by omega
 clear h8;have KT:=qh KT;have KS:=qh KS;have h1:=qh h1;have h2:=qh h2;have HN:=qh nd;clear nd;go_in;obtain⟨n4,n74⟩:=BQ HN.o 4 74;go_wp2_with fail;refine KT.mono ?_;rintro e w1 ⟨rfl,hr1⟩;have HR1:=qh hr1;have HN1:=qh (h1.out _ hr1);clear hr1 HN n4 n74 KT;have n70:=AZ HN1.o 70;go_wp2_with (first|(refine sC 70 HN1.o (.int .i64 ((tk+1:Nat):Int)) ?_;intro w7 hh7 ht7;have HN7:=qh (show Holds w7 g 102 (BF n me gd gw gc gfr P sq v d since ((tk+1:Nat):Int) waits out ans) from hh7);have HR2:=qh (h2.out _ _ HR1.o HN7.o ht7);clear hh7 ht7 HR1 HN1 n70));generalize ((tk+1:Nat):Int)=t1 at HN7 h8i h1p h1q;obtain⟨n0,n70⟩:=BQ HN7.o 0 70;go_loopw [2] (λvi wr=>vi=.int .i64 0∧w7=wr) (λ_ _=>0);case atStart=>exact⟨rfl,rfl⟩
 case round=>obtain⟨rfl,rfl⟩:=hrel;go_wp2_with fail;refine AY (KS.o _ HR2.o) ?_;rintro w4 h4;have H4:=qh h4;clear h4 HR2 KS;go_wp2_with fail;exact bE ⟨rfl,H4.o⟩
section
variable {P:Program} {ops:Array Oper} {Q:Exit→Act→World→Prop}
theorem Ql{o:Oper}{a:Act}{w:World}{K:Act→World→Prop}{d q r:Tmp}{E:Prop}(hgd:o.guard=none)(t e:TypeId)(u v:Value)(L:List Value)(ho:o.op=.buildSlice t 2 #[(0,.tmp q),(1,.tmp r)])(hd:o.dst=some d)(hu:a.eval (.tmp q)=u)(hv:a.eval (.tmp r)=v) (hrun:∀w,(Instr.buildSlice t 2 #[(0,u),(1,v)]).run P w=.ok (.slice (some ⟨w.heap.size,0,none⟩) 2 2) (w.alloc (.cells L.toArray e))) (hK:∀w',Holds w' w.heap.size e L→Below w.heap.size w w'→K (a.put (some d) (.slice (some ⟨w.heap.size,0,none⟩) 2 2)) w'):if Region.wanted o (yielded ops a.tmps)=true then Oper.wp P o a w K Q else E:=by
 have hw:Region.wanted o (yielded ops a.tmps)=true:=by simp[Region.wanted,hgd]
 rw[if_pos hw];unfold Oper.wp execOp;simp only[ho,List.map_toArray,List.map_cons,List.map_nil,hu,hv];rw[Sem.run_bind,hrun];have:=hK _ (AA w e L) ((Below.refl _ _).alloc (Nat.le_refl _) _);rw[←hd] at this;exact this
end
theorem Wv{g:Nat}{w7 w w5:World}{ob:Option Nat}(h:Touch g w7 w)(hm:Mv (λk=>ob=some k) w w5)(hob:∀k,ob=some k→w7.heap.size≤k):Touch g w7 w5:=
 ⟨hm.os.trans h.os,hm.tape.trans h.tape,hm.output.trans h.output,Nat.le_trans h.size hm.size,λk hk hn=>(hm.block k (Nat.lt_of_lt_of_le hk h.size) (λhc=>absurd (hob k hc) (by omega))).trans (h.block k hk hn)⟩
def FP(n me q:Nat)(dn:Bool)(i:Nat):List Value:=Aj (if i % 2=0 then 9 else 11) me ((if i / 2<me then i / 2 else i / 2+1:Nat):Int) 0 0 0 0 Cm.zero Ad 0 Cm.zero false (if i % 2=0 then dz else if dn then F8 q else dz)
theorem ZO(me r:Int)(d:Nat→Int):∀W:World,(Instr.buildSlice 34 2 #[(0,.agg (Aj 9 me r 0 0 0 0 Cm.zero Ad 0 Cm.zero false dz).toArray),(1,.agg (Aj 11 me r 0 0 0 0 Cm.zero Ad 0 Cm.zero false d).toArray)]).run prog W=.ok (.slice (some ⟨W.heap.size,0,none⟩) 2 2) (W.alloc (.cells (Aj 9 me r 0 0 0 0 Cm.zero Ad 0 Cm.zero false dz++Aj 11 me r 0 0 0 0 Cm.zero Ad 0 Cm.zero false d).toArray 47)):=λ_=>by kernel_rfl
theorem Zx(n me gd gw gc gfr:Nat)(P:Value)(sq v:Int)(d:Nat→Int)(since tk:Int)(waits out ans:Value)(j:Nat)(u:Value)(hv:(IE dz)[j]?=some u):(BF n me gd gw gc gfr P sq v d since tk waits out ans)[62+j]?=some u:=by
 rcases(show j=0∨j=1∨j=2∨j=3∨j=4∨j=5∨j=6∨7≤j by omega) with rfl|rfl|rfl|rfl|rfl|rfl|rfl|h7
 ·exact hv
 ·exact hv
 ·exact hv
 ·exact hv
 ·exact hv
 ·exact hv
 ·exact hv
 ·rw[List.getElem?_eq_none (by simp[IE];omega)] at hv;cases hv
def aV(g n me q gd gw gc gfr:Nat)(P:Value)(sq v:Int)(d:Nat→Int)(since t1:Int)(waits ans:Value)(dn:Bool)(w7:World)(r:Nat)(wr:World):Prop:=
 ∃o ob,Holds wr g 102 (BF n me gd gw gc gfr P sq v d since t1 waits o ans)∧AU wr o ob 47 51 (2*upTo me r) (flat 51 (2*upTo me r) (FP n me q dn))∧(∀k,ob=some k→w7.heap.size≤k)∧Touch g w7 wr
theorem dV(g n me q gd gw gc gfr:Nat)(P:Value)(sq v:Int)(d:Nat→Int)(since:Int)(tk:Nat)(waits ans:Value)(dn:Bool)(R1 R2 R3:World→Prop)(w:World)(nd:Holds w g 102 (BF n me gd gw gc gfr P sq v d since tk waits (.slice none 0 0) ans)) (hd:d=if dn then F8 q else λ_=>0) (htk:tk≤1000000) (h8:(tk+1) % 8=0) (hn3:3≤n) (hn:n≤7) (hme:me<n) (hq:q<7) (KT:Calls prog 52 #[.pointer (some ⟨gc,0,none⟩)] w λe w'=>e=.returned (.tuple #[])∧R1 w') (h1:∀W,R1 W→Holds W g 102 (BF n me gd gw gc gfr P sq v d since tk waits (.slice none 0 0) ans)) (h2:∀W W2 o ob,R1 W→Holds W2 g 102 (BF n me gd gw gc gfr P sq v d since ((tk+1:Nat):Int) waits o ans)→AU W2 o ob 47 51 (2*(n-1)) (flat 51 (2*(n-1)) (FP n me q dn))→(∀k,ob=some k→W.heap.size≤k)→Touch g W W2→R2 W2) (KS:∀W,R2 W→Calls prog 53 #[.pointer (some ⟨g,0,none⟩)] W λe w'=>e=.returned (.tuple #[])∧R3 w') :Calls prog 30 #[.pointer (some ⟨g,0,none⟩)] w λe w'=>e=.returned (.tuple #[])∧R3 w':=by
 have hni:(0:Int)<(n:Int):=by omega
 have h8i:((tk+1:Nat):Int) % 8=0:=by omega
 have h1p:(0:Int)≤((tk+1:Nat):Int):=by omega
 have h1q:((tk+1:Nat):Int)≤1000001:=by omega
 have hv0:∀r,r<n→r≠me→flat 51 (2*upTo me r) (FP n me q dn)++(Aj 9 me r 0 0 0 0 Cm.zero Ad 0 Cm.zero false dz++Aj 11 me r 0 0 0 0 Cm.zero Ad 0 Cm.zero false d)=flat 51 (2*upTo me (r+1)) (FP n me q dn):=by
  intro r hr hrm;have hu:2*upTo me (r+1)=2*upTo me r+1+1:=by unfold upTo;split<;>split<;>omega
  have hix:(if upTo me r<me then upTo me r else upTo me r+1)=r:=by unfold upTo;split<;>split<;>omega
  have e0:FP n me q dn (2*upTo me r)=Aj 9 me r 0 0 0 0 Cm.zero Ad 0 Cm.zero false dz:=by
   unfold FP;rw[show 2*upTo me r % 2=0 from by omega,show 2*upTo me r / 2=upTo me r from by omega,hix]
   rfl
  have e1:FP n me q dn (2*upTo me r+1)=Aj 11 me r 0 0 0 0 Cm.zero Ad 0 Cm.zero false d:=by
   unfold FP;rw[show (2*upTo me r+1) % 2=1 from by omega,show (2*upTo me r+1) / 2=upTo me r from by omega,hix,hd]
   rfl
  rw[hu,←FV (s:=51) (V:=FP n me q dn) (by decide) (λ_ _=>rfl),←FV (s:=51) (V:=FP n me q dn) (by decide) (λ_ _=>rfl),e0,e1,List.append_assoc]
 have HV0:=qh hv0;clear h8 hv0 hd;have KT:=qh KT;have KS:=qh KS;have h1:=qh h1;have h2:=qh h2;have HN:=qh nd;clear nd;go_in;obtain⟨n4,n74⟩:=BQ HN.o 4 74;go_wp2_with fail;refine KT.mono ?_;rintro e w1 ⟨rfl,hr1⟩;have HR1:=qh hr1;have HN1:=qh (h1.out _ hr1);clear hr1 HN n4 n74 KT;have n70:=AZ HN1.o 70;go_upto_region 3 with(first|(refine sC 70 HN1.o (.int .i64 ((tk+1:Nat):Int)) ?_;intro w7 hh7 ht7;have HN7:=qh (show Holds w7 g 102 (BF n me gd gw gc gfr P sq v d since ((tk+1:Nat):Int) waits (.slice none 0 0) ans) from hh7);have HT7:=qh ht7;clear hh7 ht7 HN1 n70));have h2:=qh (λW2 o ob=>h2.out w1 W2 o ob HR1.o);have hs17:=HT7.size;generalize ((tk+1:Nat):Int)=t1 at HN7 h8i h2 h1p h1q;have HJ:=qh (show aV g n me q gd gw gc gfr P sq v d since t1 waits ans dn w7 0 w7 from⟨_,none,HN7.o,by unfold upTo;exact AU.nil _ _ _,by simp,Touch.refl _ _⟩);clear HN7 HR1 h1;go_upto_region 4 with(fail);go_loopw [2] (λvi wr=>∃r:Nat,vi=.int .i64 (r:Int)∧r≤n∧aV g n me q gd gw gc gfr P sq v d since t1 waits ans dn w7 r wr) (λvi _=>n - (intOf vi).toNat);case atStart=>exact⟨0,rfl,by omega,HJ.o⟩
 case round=>
  clear HJ;obtain⟨r,rfl,hr,o,ob,hn1,ho1,hob1,ht1⟩:=hrel;have HN:=qh hn1;have HO:=qh ho1;have HT:=qh ht1;have HOB:=qh hob1;clear hn1 ho1 ht1 hob1;obtain⟨n0,n1,n70⟩:=Md HN.o 0 1 70;by_cases hrn:r<n
  ·have hrni:(r:Int)<(n:Int):=by omega
   by_cases hrm:r=me
   ·subst hrm;go_wp2_with fail;go_roundw;case rel=>exact⟨r+1,by go_num,by omega,o,ob,HN.o,by rw[show upTo r (r+1)=upTo r r from by unfold upTo;split<;>split<;>omega];exact HO.o,HOB.o,HT.o⟩
    case measure=>simp[intOf];omega
   ·have hrme:((r:Int) != (me:Int))=true:=by simp;omega
    go_upto_region 7 with(fail);clear n0 n1 n70;have hm14:2*upTo me r≤14:=by unfold upTo;split<;>omega
    have hgo:∀k,ob=some k→k≠g:=λk hk=>by
     rcases HO.cases with⟨_,h0,_⟩|⟨g1,_,_,_,h0,_,_,hh,_⟩
     ·rw[h0] at hk;cases hk
     ·rw[h0] at hk;cases hk;exact hh.ne_of HN.o (by decide)
    have HGO:=qh hgo;clear hgo;have HRK:=qh (λ(w':World) (h:Below wr.drew.heap.size wr.drew w')=>(((HN.bel (AP _ wr)).bel h).D9 62 (cs:=IE dz) (λj u hv=>Zx _ _ _ _ _ _ _ _ _ _ _ _ _ _ _ j u hv)));have HRD:=qh (λ(w':World) (h:Below wr.drew.heap.size wr.drew w')=>(((HN.bel (AP _ wr)).bel h).D9 55 (cs:=IE d) (λj u hv=>U8 _ _ _ _ _ _ _ _ _ _ _ _ _ _ _ j u hv)));have hgw7:w7.heap.size≤wr.drew.heap.size:=HT.size;obtain⟨HN,HO,HT⟩:=Ce (AP _ wr) HN HO HT;refine EC [26,29] 30 (λhSn=>?_);generalize wr.drew=wd at HN HO HT HRK HRD hgw7 hSn ⊢;simp only[List.replicate];refine Gn 0 ?_;refine BA 4 [26,27,28,29] (λw hSw=>AZ (HN.bel hSw) 72) ?_;refine Dl 5 ?_;refine BA 8 [14,25,26,27,28,29] (λw hSw=>AZ (HN.bel hSw) 1) ?_;refine Gn 9 ?_;refine IM 13 [14,25,26,27,28,29] (some 54) (.agg ([.int .i64 0,.int .i64 0,.int .i64 0,.int .i64 0,.int .i64 0,.int .i64 0,.int .i64 0]).toArray) rfl (yieldsIf_load_mid (by rfl) 41 _ rfl g 62 rfl ([.int .i64 0,.int .i64 0,.int .i64 0,.int .i64 0,.int .i64 0,.int .i64 0,.int .i64 0]) _ (λw hSw=>HRK.o w hSw) underlying41 rfl (by as_aux_lemma=>kernel_rfl)) hSn ?rg14;simp only[Act.put,zA,zB,zC];refine Gn 14 ?_;refine BA 18 [24,25,26,27,28,29] (λw hSw=>AZ (HN.bel hSw) 1) ?_;refine Gn 19 ?_;refine IM 23 [24,25,26,27,28,29] (some 64) (.agg ([.int .i64 (d 0),.int .i64 (d 1),.int .i64 (d 2),.int .i64 (d 3),.int .i64 (d 4),.int .i64 (d 5),.int .i64 (d 6)]).toArray) rfl (yieldsIf_load_mid (by rfl) 41 _ rfl g 55 rfl ([.int .i64 (d 0),.int .i64 (d 1),.int .i64 (d 2),.int .i64 (d 3),.int .i64 (d 4),.int .i64 (d 5),.int .i64 (d 6)]) _ (λw hSw=>HRD.o w hSw) underlying41 rfl (by as_aux_lemma=>kernel_rfl)) hSn ?rg24;simp only[Act.put,zA,zB,zC];refine CS 24 ?_;refine BC 25 rfl (λK hK=>?_);refine Ql rfl 34 47 (.agg (Aj 9 me r 0 0 0 0 Cm.zero Ad 0 Cm.zero false dz).toArray) (.agg (Aj 11 me r 0 0 0 0 Cm.zero Ad 0 Cm.zero false d).toArray) (Aj 9 me r 0 0 0 0 Cm.zero Ad 0 Cm.zero false dz++Aj 11 me r 0 0 0 0 Cm.zero Ad 0 Cm.zero false d) rfl rfl rfl rfl (ZO me r d) ?_;intro wb hnb hbb;have hsb:=hSn.size;have hSn:=AB hSn hbb;have HS:=qh hnb;have hsl:=hnb.lt;generalize wd.heap.size=gs at HS hsl;clear hnb hbb;change K (Act.put _ (some 66) _) _;refine BJ hK ?_;clear hK;refine BC 26 rfl (λK hK=>?_);have hs1:=hSn.size;refine tS (.agg CJ.toArray) 51 480 (HO.bel hSn) (Aj 9 me r 0 0 0 0 Cm.zero Ad 0 Cm.zero false dz++Aj 11 me r 0 0 0 0 Cm.zero Ad 0 Cm.zero false d) (HS.reads 0 _ (λj v hv=>by rw[Nat.zero_add];exact hv)) ?_ (λu hu=>by rcases List.mem_append.1 hu with h|h;exact IW 9 me r (⟨0,0,0,0,Cm.zero,Ad,0,Cm.zero,false,dz⟩:Lp) u h;exact IW 11 me r (⟨0,0,0,0,Cm.zero,Ad,0,Cm.zero,false,d⟩:Lp) u h);intro v5 ob5 w5 ho5 hob5 hm5;have hN5:=qh ((HN.bel hSn).mv hm5 (λhk=>HGO.o _ hk rfl));have hT5:=qh (show Touch g w7 w5 from Wv (HT.bel hSn) hm5 HOB.o);have HO5:=qh ho5;have HOB5:=qh (show ∀k,ob5=some k→w7.heap.size≤k from λk hk=>by rcases hob5 with h|⟨k2,h,h2⟩;exact HOB.o k (h▸hk);rw[h] at hk;cases hk;omega);clear ho5 hm5 hob5;change K (Act.put _ (some 67) _) _;refine BJ hK ?_;clear hK;refine FD 27 ?_ (hS:=GK);refine BC 29 rfl (λK hK=>?_);obtain⟨g5,c5,r5,rfl,hg5,_,_,hh5,_⟩:=HO5.blk (by omega);refine tC 72 hN5.out (.slice (some ⟨g5,0,none⟩) (2*upTo me r+2:Nat) c5) ?_;intro w6 hh6 ht6;have HN6:=qh (show Holds w6 g 102 (BF n me gd gw gc gfr P sq v d since t1 waits (.slice (some ⟨g5,0,none⟩) (2*upTo me r+2:Nat) c5) ans) from hh6);have HO6:=qh (HO5.touch ht6 (λk hk=>by rw[hg5] at hk;cases hk;exact hh5.ne_of hN5.out (by decide)));have HT6:=qh (hT5.trans ht6);clear hh6 ht6 hh5;refine BJ hK ?_;clear hK;refine DX ?_;clear hSn HN HO HT hN5 HO5 hT5 HRK HRD HS;have hu2:2*upTo me (r+1)=2*upTo me r+2:=by unfold upTo;split<;>split<;>omega
    go_wp2_with fail;go_roundw;case rel=>exact⟨r+1,by go_num,by omega,_,ob5,HN6.o,by rw[←HV0.o r hrn hrm,hu2];exact HO6.o,HOB5.o,HT6.o⟩
    case measure=>simp[intOf];omega
  ·obtain rfl:r=n:=by omega
   have hrni:¬((r:Int)<(r:Int)):=by omega
   have hup:upTo me r=r-1:=by unfold upTo;rw[if_neg (by omega)]
   rw[hup] at HO;have HR2:=qh (h2.out wr o ob HN.o HO.o (λk hk=>by have:=HOB.o k hk;omega) (HT7.trans HT.o));clear HO HT HOB h2;go_wp2_with fail;refine AY (KS.o _ HR2.o) ?_;rintro w4 h4;have H4:=qh h4;clear h4 HR2 KS HN n0 n1 n70;go_wp2_with fail;exact bE ⟨rfl,H4.o⟩
end
section
theorem Rh{ph:Ph}(h:BG ph=true):ph=.com:=by cases ph<;>simp[BG] at h ⊢
theorem Wl{n q me tk:Nat}{ph ph':Ph}{out:List Lt}(hs:Iu n q me ph tk=some (ph',out)):BG ph=BG ph'∧(Cb ph&&!BG ph')=Cb ph'∧(Cb ph&&BG ph')=false∧(tk=7→CW ph=CW ph'):=by
 unfold Iu at hs
 repeat' split at hs
 all_goals first
  | (cases hs;done)
  | (simp only[Option.some.injEq,Prod.mk.injEq] at hs
     obtain⟨rfl,_⟩:=hs;first
     | exact⟨rfl,rfl,rfl,λ_=>rfl⟩
     | exact⟨rfl,rfl,rfl,λh=>by omega⟩)
theorem Va{w:World}{F:Ap}{B:Nat}{recs cout:Value}{V:Nat→List Value}(h:F5 w B 0 recs)(h2:DN w F cout 0 V):recs=.slice none 0 0∧cout=.slice none 0 0:=by
 refine⟨?_,h2.1 rfl⟩;rcases h with⟨_,h⟩|⟨h,_⟩
 ·exact h
 ·cases h
theorem Qs{w W:World}{F:Ap}{g n me q:Nat}{c:Cm}{ph ph':Ph}{recs cout recs' cout':Value}{dn wt:Bool}{m:Nat}{V:Nat→List Value}{an:Bool}{tk:Int}{lim:Nat}{gd gfl gby mb gw gc gfr:Nat}{kept:Int}{P:Value}{sq v:Int}{d:Nat→Int}{since:Int}{waits out ans:Value} (h:EO w F g n me q c ph recs cout dn wt m V an tk lim gd gfl gby mb gw gc gfr kept P sq v d since waits out ans) (c4:Mv (Cc w F) w W) (c1:BM W (grow F w W) gc n me q c ph' recs' cout'):Holds W g 102 (BF n me gd gw gc gfr P sq v d since tk waits out ans):=
 ((h.foot (F':=grow F w W) λk hk _=>.inl hk).RD c4 (λk hk _=>hk.2) c1).nd
theorem F5.dM{w w':World}{F:Ap}{B r:Nat}{recs:Value}(h:F5 w B r recs)(hm:Mv F w w')(h1:∀k L,F k→¬Holds w k 5 L)(h2:∀k L,F k→¬Holds w k 127 L):F5 w' B r recs:=by
 rcases h with h|⟨rfl,gr,cr,m,rv,rest,rfl,a1,a2,a3,a4⟩
 ·exact .inl h
 ·exact .inr ⟨rfl,gr,cr,m,rv,rest,rfl,a1.mv hm λhf=>h2 _ _ hf a1,a2.dM hm h1,a3,a4⟩
theorem F5.bel{w w':World}{B r:Nat}{recs:Value}(h:F5 w B r recs)(hb:Below w.heap.size w w'):F5 w' B r recs:=h.dM (F:=λ_=>False) (.of_below hb) (λ_ _ h=>h.elim) (λ_ _ h=>h.elim)
instance {w w':World}{B r:Nat}{recs:Value}:Bl w w' (F5 w B r recs) (F5 w' B r recs):=⟨λhb h=>F5.bel h hb⟩
theorem DN.bel{w w':World}{F:Ap}{out:Value}{m:Nat}{V:Nat→List Value}(h:DN w F out m V)(hb:Below w.heap.size w w'):DN w' F out m V:=h.mv (G:=λ_=>False) (T:=[47]) (.of_below hb) (λ_ h=>h.elim) (by decide)
instance {w w':World}{F:Ap}{out:Value}{m:Nat}{V:Nat→List Value}:Bl w w' (DN w F out m V) (DN w' F out m V):=⟨λhb h=>DN.bel h hb⟩
theorem DN.foot{w:World}{F F':Ap}{out:Value}{m:Nat}{V:Nat→List Value}(h:DN w F out m V)(hF:∀k,F k→k<w.heap.size→F' k):DN w F' out m V:=by obtain⟨h0,ob,h1,h2⟩:=h;exact⟨h0,ob,h1,λg hg=>hF g (h2 g hg) (h1.lt g hg)⟩
theorem BZ.Jj{w:World}{F:Ap}{g gd n me q:Nat}{c:Cm}{ph:Ph}{recs cout:Value}{dn wt:Bool}{m:Nat}{V V':Nat→List Value}{an:Bool}{tk:Int}{lim:Nat}(h:BZ w F g gd n me q c ph recs cout dn wt m V an tk lim)(hV:∀i,i<m→V i=V' i):BZ w F g gd n me q c ph recs cout dn wt m V' an tk lim:=by obtain⟨gfl,gby,mb,gw,gc,gfr,kept,P,sq,v,d,since,waits,out,ans,h⟩:=h;exact⟨gfl,gby,mb,gw,gc,gfr,kept,P,sq,v,d,since,waits,out,ans,{ h with ou:=h.ou.Jj hV }⟩
theorem PH(l:List Nat)(f g:Nat→Lt):∀i,i<2*l.length→(l.flatMap λr=>[f r,g r]).getD i (0,0,0)=if i % 2=0 then f (l.getD (i / 2) 0) else g (l.getD (i / 2) 0):=by
 induction l with
 | nil=>intro i hi;simp at hi
 | cons a l ih=>
  intro i hi
  match i with
  | 0=>rfl
  | 1=>rfl
  | i+2=>
   have h:=ih i (by simp at hi;omega);rw[show (i+2) % 2=i % 2 from by omega,show (i+2) / 2=i / 2+1 from by omega];simpa using h
theorem Ro(c:Cm)(n me q:Nat)(dn:Bool)(i:Nat)(hi:i<2*(n-1)):DJ c q (fronts n me dn) i=FP n me q dn i:=by
 unfold DJ fronts;rw[PH (Dv n me) (λr=>(9,me,r)) (λr=>(if dn then 12 else 11,me,r)) i (by simpa[Dv] using hi)];have hg:(Dv n me).getD (i / 2) 0=if i / 2<me then i / 2 else i / 2+1:=by
  have:i / 2<n-1:=by omega
  simp[Dv,List.getD_eq_getElem?_getD,this]
 rw[hg];unfold FP;split
 ·rfl
 ·cases dn<;>rfl
section
variable {w:World} {F:Ap} {gc n me q:Nat} {c:Cm}
theorem IQ.of{w w':World}{F F':Ap}{wi:Af}{gb cw gw k:Nat}{rest:List Value}(h:wi=⟨some ⟨gb,0,none⟩,1,cw⟩)(h2:1≤cw∧cw≤maxLen)(h3:Holds w gb 177 (.pointer (some ⟨gw,0,none⟩) :: rest))(h4:Holds w gw 179 (Gi q k))(h5:F gb)(h6:F gw):IQ w F q wi k:=⟨gb,cw,gw,rest,h,h2,h3,h4,h5,h6⟩
theorem GH{k:Nat}(h:BM w F gc n me q c (.pre k) (.slice none 0 0) (.slice none 0 0))(hn3:3≤n)(hn:n≤7)(hq:q<n)(hme:me<n)(hc:CU c)(hk:k≤100) :(k+1<12+6*far n q me→Calls prog 52 #[.pointer (some ⟨gc,0,none⟩)] w λe w'=>e=.returned (.tuple #[])∧∀V,Ej F gc n me q c (.pre (k+1)) 0 0 V w w') ∧(12+6*far n q me≤k+1→me≠q→1≤k→Calls prog 52 #[.pointer (some ⟨gc,0,none⟩)] w λe w'=>e=.returned (.tuple #[])∧Ej F gc n me q c (.prep []) 1 (n-1) (Oh 6 me (FZ q 1 me)) w w'):=by
 obtain⟨⟨wi,gl,gm,nl,gi,gx,ni,L,E,leads,a1,a2,a3,b,⟨rfl,rfl⟩,hw⟩,hfc⟩:=h;have n0:nl≤1:=a2;have n1:ni≤1:=a3;have hf7:far n q me≤7:=by unfold far;have:=Nat.mod_lt (me+n-q) (show 0<n by omega);omega
 have hfr:((me:Int) - (q:Int)+(n:Int)) % (n:Int)=(far n q me:Nat):=by
  unfold far;rw[show (me:Int) - (q:Int)+(n:Int)=((me+n-q:Nat):Int) from by omega]
  rfl
 have hcf:Cc w F gc:=.of hfc a1.hc (by decide)

 have hwish:∃gb0 gw0,Cc w F gb0∧Cc w F gw0 ∧
   ∀W,Below w.heap.size w W→Ac W gc n me gl gm nl gi gx ni [⟨q,1,AO Ad 1 c true⟩] E (.slice none 0 0) (.slice none 0 0) (.slice none 0 0)→Calls prog 84 #[.pointer (some ⟨gc,0,none⟩),.agg #[.int .i64 q,.int .i64 1]] W λe W'=>(∃bb,e=.returned (.bool bb))∧∃(wi2:Af) (gb cw gw:Nat) (rest:List Value),@TB wi2 W' gc n me gl gm nl gi gx ni q c E gb cw gw rest k∧iq w gc gb0 gw0 gb gw W W':=by
  cases k with
  | zero=>
   have hw':wi=⟨none,0,0⟩:=hw;refine⟨gc,gc,hcf,hcf,λW hb h=>?_⟩;refine AY (ZA gc n me gl gm nl gi gx ni q Ad 1 c true E _ _ _ W hw' h (by decide) hq hn) ?_;rintro W' ⟨gb,cw,gw,rest,h1,h2,h3,h4,h5,h6,h7⟩;have hs:=hb.size;exact⟨⟨_,rfl⟩,_,gb,cw,gw,rest,@TB.mk ⟨some ⟨gb,0,none⟩,1,cw⟩ W' gc n me gl gm nl gi gx ni q c E gb cw gw rest 0 rfl h1 h2 h3 h4,.inr (by omega),.inr (by omega),Mv.Aa h7 rfl⟩
  | succ k=>
   obtain⟨gb,cw,gw,rest,h1,h2,h3,h4,h5,h6⟩:=hw;refine⟨gb,gw,.of h5 h3 (by decide),.of h6 h4 (by decide),λW hb h=>?_⟩;refine AY (aP gc n me gl gm nl gi gx ni q gb gw cw Ad 1 c true E _ _ _ rest (k+1:Nat) W h1 h (h3.bel hb) (h4.bel hb) h2.1 (by decide) hq hn) ?_;rintro W' hb';exact⟨⟨_,rfl⟩,wi,gb,cw,gw,rest,⟨h1,h.bel hb',h2,(h3.bel hb).bel hb',(h4.bel hb).bel hb'⟩,.inl rfl,.inl rfl,Mv.of_below hb'⟩
 obtain⟨gb0,gw0,f1,f2,KW⟩:=hwish;have hgF:∀(W:World) (g g0:Nat),F g0→g=g0∨w.heap.size≤g→g<W.heap.size→grow F w W g:=λW g g0 h0 h hl=>by
  rcases h with rfl|h
  ·exact .inl h0
  ·exact .inr ⟨h,hl⟩
 have hmF:∀(W:World) (gw:Nat),gw=gw0∨w.heap.size≤gw→Mv (λx=>x=gc∨x=gm∨x=gx∨x=gw) w W→Mv (Cc w F) w W:=λW gw hgw hm=>⟨hm.os,hm.tape,hm.output,hm.size,λx hx hn=>hm.block x hx (by
  have h3:=JB a1 hfc b;rintro(rfl|rfl|rfl|rfl)
  ·exact hn hcf
  ·exact hn (h3 _ (.inr (.inl rfl)))
  ·exact hn (h3 _ (.inr (.inr rfl)))
  ·rcases hgw with h|h
   ·exact hn (h▸f2)
   ·omega)⟩
 constructor
 ·intro hlt;refine SX gc n me gl gm nl gi gx ni q (far n q me) k gb0 gw0 c E (λw'=>∀V,Ej F gc n me q c (.pre (k+1)) 0 0 V w w') w a1 hq hme hn hfr hf7 (by omega) KW (.inl ⟨hlt,λwi2 gb cw gw rest W hwa hgb hgw hm V=>?_⟩);exact⟨_,_,⟨⟨wi2,gl,gm,nl,gi,gx,ni,_,E,_,hwa.co,a2,a3,⟨.inl b.1,.inl b.2.1,.inl b.2.2.1,.inl b.2.2.2⟩,⟨rfl,rfl⟩,⟨gb,cw,gw,rest,hwa.ew,hwa.cw1,hwa.hb,hwa.hw,hgF W gb gb0 f1.f hgb hwa.hb.lt,hgF W gw gw0 f2.f hgw hwa.hw.lt⟩⟩,.inl hfc⟩,.inl ⟨rfl,rfl⟩,DN.nil0 _ _ _,hmF W gw hgw (hm.more λx hx=>hx.imp id λh=>.inr (.inr h))⟩
 ·intro hge hmq hk1;refine SX gc n me gl gm nl gi gx ni q (far n q me) k gb0 gw0 c E (λw'=>Ej F gc n me q c (.prep []) 1 (n-1) (Oh 6 me (FZ q 1 me)) w w') w a1 hq hme hn hfr hf7 (by omega) KW (.inr ⟨hge,λwi2 gb cw gw rest W hwa hgb hgw hm=>?_⟩);refine AY (WW gc n me gl gm nl gi gx ni q gb gw cw c E rest (k+1:Nat) W hwa.ew hwa.co hwa.hb hwa.hw hwa.cw1.1 (by omega) (by omega) hq hn hme hc) ?_;rintro W' ⟨gb1,cb,gld,gs,gr,cr,m,rv,rest5,out,ob,c1,c2,c3,c4,c5,c6,c7,c8,c9,c10,c11,c12,c13,c14⟩;have hs1:=hm.size;have hs2:=c14.size;have hwlt:=hwa.hw.lt;have hblt:=hwa.hb.lt;have hmaps:∀t L g,Holds W g t L→t≠163→¬(g=gc∨g=gm∨g=gx):=by
   rintro t L g hg ht (rfl|rfl|rfl)
   ·exact ht (BU hg hwa.co.hc)
   ·exact Ai hwa.co.lg.isMap hg rfl
   ·exact Ai hwa.co.ix.isMap hg rfl
  have hw':Holds W' gw 179 (Gi q (k+1:Nat)):=hwa.hw.mv c14 (hmaps _ _ _ hwa.hw (by decide));have hb':Holds W' gb 177 (.pointer (some ⟨gw,0,none⟩) :: rest):=hwa.hb.mv c14 (hmaps _ _ _ hwa.hb (by decide));refine⟨rfl,hw',hs2,λg L _ hg=>hg.mv c14 (hmaps _ _ _ hg (by decide)),λW'' hw0 ht=>?_⟩;have hs3:=ht.size;have hm3:Mv (λx=>x=gw) W' W'':=Mv.Aa ht rfl;have hgn:∀t L g,Holds W' g t L→t≠179→¬g=gw:=by rintro t L g hg hne rfl;exact hne (BU hg hw')
  have hco:Ac W'' gc n me gl gm (nl+1) gi gx (ni+1) [⟨q,1,AO ⟨1,me,0,0⟩ 1 c true⟩] (Fh E ⟨q,1,c,0⟩) (.slice (some ⟨gb1,0,none⟩) 1 cb) (.slice (some ⟨gr,0,none⟩) 1 cr) out:=
   c1.mv hm3 (hgn _ _ _ c1.hc (by decide)) (hgn _ _ _ c1.lg.ix (by decide)) (λh=>Ai c1.lg.isMap hw' h.symm) (hgn _ _ _ c1.ix.ix (by decide)) (λh=>Ai c1.ix.isMap hw' h.symm)
  have hans0:(Du []:Nat→Int)=λ_=>0:=by funext r;simp[Du]
  have hsd:AU W'' (.slice (some ⟨gs,0,none⟩) 1 1) (some gs) 259 22 1 (flat 22 1 λ_=>(Ed 1 me c me).cells):=by rw[En (s:=22) (V:=λ_=>(Ed 1 me c me).cells) rfl];exact AU.mk' (rest:=[]) (by rw[List.append_nil];exact c6.mv hm3 (by omega)) rfl rfl (Nat.le_refl _) (by unfold maxLen;omega)
  refine⟨_,out,⟨⟨wi2,gl,gm,nl+1,gi,gx,ni+1,_,_,_,hco,by simp[bnd];omega,by simp[bnd];omega,⟨.inl b.1,.inl b.2.1,.inl b.2.2.1,.inl b.2.2.2⟩,⟨rfl,gb1,cb,gld,.slice none 0 0,.slice (some ⟨gs,0,none⟩) 1 1,some gs,λ_=>Ed 1 me c me,0,rfl,c2.mv hm3 (λg hg=>by cases hg;omega),?_,hsd,⟨_,_,rfl⟩,λi _=>⟨me,rfl,by omega⟩,.inr ⟨by omega,by have:=c2.lt _ rfl;omega⟩,.inr ⟨by omega,by have:=c4.lt;omega⟩,λg hg=>by cases hg;exact .inr ⟨by omega,by have:=c6.lt;omega⟩⟩,⟨0,gb,cw,gw,rest,hwa.ew,hwa.cw1,hb'.mv hm3 (hgn _ _ _ hb' (by decide)),hw0,hgF W'' gb gb0 f1.f hgb (by omega),hgF W'' gw gw0 f2.f hgw (by omega)⟩⟩,.inl hfc⟩,.inr ⟨rfl,gr,cr,m,rv,rest5,rfl,c8.mv hm3 (by omega),Aw.mono (Aw.iy c9 ht hwlt) hs1,c10,by omega⟩,⟨λh0=>by omega,ob,c12.mv hm3 (λg hg=>by have:=c13 g hg;omega),λg hg=>.inr ⟨by have:=c13 g hg;omega,by have:=c12.lt g hg;omega⟩⟩,?_⟩
  ·rw[hans0];exact c4.mv hm3 (by omega)
  ·refine hmF W'' gw hgw (((hm.more (G:=λx=>x=gc∨x=gm∨x=gx∨x=gw) λx hx=>hx.imp id λh=>.inr (.inr h)).mv c14 λx hx=>.inl ?_).mv hm3 λx hx=>.inl (.inr (.inr (.inr hx))));rcases hx with h|h|h
   ·exact .inl h
   ·exact .inr (.inl h)
   ·exact .inr (.inr (.inl h))
theorem Jq(h:BM w F gc n me q c .com (.slice none 0 0) (.slice none 0 0))(hn:n≤7)(hq:q<n) :Calls prog 52 #[.pointer (some ⟨gc,0,none⟩)] w λe w'=>e=.returned (.tuple #[])∧∀V,Ej F gc n me q c .com 0 0 V w w':=by
 obtain⟨⟨wi,gl,gm,nl,gi,gx,ni,L,E,leads,a1,a2,a3,b,⟨⟨bl,hbl,rfl⟩,hhl⟩,hw⟩,hfc⟩:=h;have hcf:Cc w F gc:=.of hfc a1.hc (by decide);obtain⟨pl,cl,rfl,hpl⟩:∃pl cl,leads=.slice pl 0 cl∧(pl=none→cl=0):=by
  rcases hhl with rfl|⟨g,cl,rfl⟩
  ·exact⟨none,0,rfl,λ_=>rfl⟩
  ·exact⟨_,cl,rfl,λh=>by cases h⟩
 obtain⟨gb0,fb,hwo⟩:∃gb0,Cc w F gb0∧eu w q wi gb0:=by
  rcases hw with(rfl|⟨g,c0,rfl⟩)|⟨k,gb,cw,gw,rest,h1,h2,h3,h4,h5,h6⟩
  ·exact⟨gc,hcf,.inl ⟨rfl,λ_=>rfl⟩⟩
  ·exact⟨gc,hcf,.inl ⟨rfl,λh=>by cases h⟩⟩
  ·exact⟨gb,.of h5 h3 (by decide),.inr ⟨cw,gw,rest,k,h1,h2,h3,h4⟩⟩
 refine AY (Y6 gc n me gl gm nl gi gx ni q gb0 cl pl bl c E w a1 hpl hwo hq hn) ?_;rintro w' ⟨wi2,h1,h2,h3⟩;refine⟨rfl,λV=>⟨_,_,⟨⟨wi2,gl,gm,nl,gi,gx,ni,_,E,_,h1,a2,a3,⟨.inl b.1,.inl b.2.1,.inl b.2.2.1,.inl b.2.2.2⟩,⟨⟨bl,hbl,rfl⟩,hhl⟩,.inl ?_⟩,.inl hfc⟩,.inl ⟨rfl,rfl⟩,DN.nil0 _ _ _,h3.more ?_⟩⟩
 ·rcases h2 with⟨rfl,h0⟩|⟨cw,rfl⟩
  ·rcases hw with h|⟨k,gb,cw,gw,rest,h,_⟩
   ·exact h
   ·rw[h] at h0;cases h0
  ·exact .inr ⟨_,_,rfl⟩
 ·rintro k (rfl|⟨_,rfl⟩)
  ·exact hcf
  ·exact fb
theorem Vd{ph ph':Ph}{tk:Nat}{out:List Lt}(h:BM w F gc n me q c ph (.slice none 0 0) (.slice none 0 0))(h7:tk≠7)(hs:Iu n q me ph tk=some (ph',out))(hn3:3≤n)(hn:n≤7)(hq:q<n)(hme:me<n)(hc:CU c) :∃r,(r=0∧out=[]∧CW ph≤CW ph'∨r=1∧out.length≤100∧CW ph+500≤CW ph')∧Calls prog 52 #[.pointer (some ⟨gc,0,none⟩)] w λe w'=>e=.returned (.tuple #[])∧Ej F gc n me q c ph' r out.length (DJ c q out) w w':=by
 unfold Iu at hs;split at hs
 ·rw[if_neg h7] at hs;simp only[Option.some.injEq,Prod.mk.injEq] at hs;obtain⟨rfl,rfl⟩:=hs;refine⟨0,.inl ⟨rfl,rfl,Nat.le_refl _⟩,?_⟩;have h0:=h;obtain⟨⟨wi,gl,gm,nl,gi,gx,ni,L,E,leads,a1,a2,a3,b,⟨rfl,rfl,rfl⟩,hw⟩,hfc⟩:=h;have hw':wi=⟨none,0,0⟩:=hw;subst hw';refine AY (Ws gc n me gl gm nl gi _ _ w a1.hc a1.lg) ?_;rintro w' hb;exact⟨rfl,Ej.none h0 hb⟩
 ·rename_i A;try rw[if_neg h7] at hs
  simp only[Option.some.injEq,Prod.mk.injEq] at hs;obtain⟨rfl,rfl⟩:=hs;refine⟨0,.inl ⟨rfl,rfl,Nat.le_refl _⟩,?_⟩;obtain⟨⟨wi,gl,gm,nl,gi,gx,ni,L,E,leads,a1,a2,a3,b,⟨hqm,rfl,gb,cb,gld,rest,R,ob,rfl,d2,d3,d4,d5,d6,d7,d8⟩,hw⟩,hfc⟩:=h;have hw':wi=⟨none,0,0⟩:=hw;subst hw';have hd:gld≠gc∧gld≠gl∧gld≠gm∧gld≠gi∧gld≠gx∧gld≠gb:=⟨d4.ne_of a1.hc (by decide),d4.ne_of a1.lg.ix (by decide),Ai a1.lg.isMap d4,d4.ne_of a1.ix.ix (by decide),Ai a1.ix.isMap d4,d4.ne_of d3 (by decide)⟩;have hob:∀k,ob=some k→k≠gld:=λk hk=>by
   rcases d5.cases with⟨_,h0,_⟩|⟨g1,_,_,_,h0,_,_,hh,_⟩
   ·rw[h0] at hk;cases hk
   ·rw[h0] at hk;cases hk;exact hh.ne_of d4 (by decide)
  refine AY (Wq gc n me gl gm nl gi gx ni gb gld cb q c E rest (Du A) R A.length w a1 d3 d4 d2 (by omega)) ?_;rintro w' ⟨hl,hm⟩;exact⟨rfl,_,_,⟨⟨⟨none,0,0⟩,gl,gm,nl,gi,gx,ni,_,E,_,a1.mv hm (Ne.symm hd.1) (Ne.symm hd.2.1) (Ne.symm hd.2.2.1) (Ne.symm hd.2.2.2.1) (Ne.symm hd.2.2.2.2.1),a2,a3,⟨.inl b.1,.inl b.2.1,.inl b.2.2.1,.inl b.2.2.2⟩,⟨hqm,rfl,gb,cb,gld,rest,R,ob,rfl,d2,d3.mv hm (Ne.symm hd.2.2.2.2.2),hl,d5.mv hm hob,.inl d6,.inl d7,λk hk=>.inl (d8 k hk)⟩,rfl⟩,.inl hfc⟩,.inl ⟨rfl,rfl⟩,DN.nil0 _ _ _,hm.more λk hk=>hk▸.of d7 d4 (by decide)⟩
 ·rw[if_neg h7] at hs;simp only[Option.some.injEq,Prod.mk.injEq] at hs;obtain⟨rfl,rfl⟩:=hs;refine⟨0,.inl ⟨rfl,rfl,Nat.le_refl _⟩,?_⟩;refine AY ((GH h hn3 hn hq hme hc (by omega)).1 (by omega)) ?_;rintro w' hg;exact⟨rfl,hg _⟩
 ·rename_i k;split at hs
  ·rename_i hlt;try rw[if_neg h7] at hs
   simp only[Option.some.injEq,Prod.mk.injEq] at hs;obtain⟨rfl,rfl⟩:=hs;refine⟨0,.inl ⟨rfl,rfl,Nat.le_refl _⟩,?_⟩;have hf7:far n q me≤7:=by unfold far;have:=Nat.mod_lt (me+n-q) (show 0<n by omega);omega
   refine AY ((GH h hn3 hn hq hme hc (by omega)).1 (by omega)) ?_;rintro w' hg;exact⟨rfl,hg _⟩
  ·rename_i hge;split at hs
   ·cases hs
   rename_i hmq;simp only[Option.some.injEq,Prod.mk.injEq] at hs;obtain⟨rfl,rfl⟩:=hs;simp only[not_or,Nat.not_lt] at hmq;refine⟨1,.inr ⟨rfl,by rw[EZ];omega,by simp[CW]⟩,?_⟩;refine AY ((GH h hn3 hn hq hme hc (by omega)).2 (by omega) hmq.2.1 (by omega)) ?_;rintro w' ⟨recs,cout,c1,c2,c3,c4⟩;rw[EZ];exact⟨rfl,recs,cout,c1,c2,c3.Jj λi hi=>by rw[MP _ _ _ _ _ _ hi];rfl,c4⟩
 ·simp only[Option.some.injEq,Prod.mk.injEq] at hs;obtain⟨rfl,rfl⟩:=hs;try rw[if_neg h7]
  refine⟨0,.inl ⟨rfl,rfl,Nat.le_refl _⟩,?_⟩;refine AY (Jq h hn hq) ?_;rintro w' hg;exact⟨rfl,hg _⟩
 ·cases hs
theorem TM{ph ph':Ph}{out:List Lt}(h:BM w F gc n me q c ph (.slice none 0 0) (.slice none 0 0))(hs:Iu n q me ph 7=some (ph',out))(hn3:3≤n)(hn:n≤7)(hq:q<n)(hme:me<n)(hc:CU c) :out=fronts n me (BG ph)∧Calls prog 52 #[.pointer (some ⟨gc,0,none⟩)] w λe w'=>e=.returned (.tuple #[])∧Ej F gc n me q c ph' 0 0 (DJ c q []) w w':=by
 have hf7:far n q me≤7:=by unfold far;have:=Nat.mod_lt (me+n-q) (show 0<n by omega);omega
 unfold Iu at hs;split at hs
 ·cases hs
 ·cases hs
 ·cases hs
 ·split at hs
  ·simp only[if_true,Option.some.injEq,Prod.mk.injEq] at hs;obtain⟨rfl,rfl⟩:=hs;refine⟨rfl,((GH h hn3 hn hq hme hc (by omega)).1 (by omega)).mono ?_⟩;rintro e w' ⟨rfl,hg⟩;exact⟨rfl,hg _⟩
  ·rw[if_pos (.inl rfl)] at hs;cases hs
 ·simp only[if_true,Option.some.injEq,Prod.mk.injEq] at hs;obtain⟨rfl,rfl⟩:=hs;refine⟨rfl,(Jq h hn hq).mono ?_⟩;rintro e w' ⟨rfl,hg⟩;exact⟨rfl,hg _⟩
 ·cases hs
end
end
end Go.Proofs.YtimdpiifpibgfaaGreatDoor
