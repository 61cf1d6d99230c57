/- A part of the proof that the law TopCopies returns true for every input. -/
import Derived.Test.YtimdpiifpibgfaaGreatDoorQc36
set_option linter.all false
set_option maxRecDepth 20000
set_option maxHeartbeats 16000000
open Go.RowKit Go.Maps
namespace Go.Proofs.YtimdpiifpibgfaaGreatDoor
open Tryz
section
def Jd(S:St)(w:World)(e:Ending)(w':World):Prop:=∃v ob pv pb,e=.returned (.agg (Es v S.ow pv).toArray)∧AV w' v ob S.ps∧OwnAt w' S.ow pv pb∧(∀g,ob=some g→w.heap.size≤g)∧(∀i,i<8→∀g,pb i=some g→w.heap.size≤g)∧Below w.heap.size w w'
theorem fU(g n me gd gw gc gfr:Nat)(S:St)(P:Value)(ob:Option Nat)(pv:Nat→Value)(pb:Nat→Option Nat)(d kp:Nat→Int)(since tk:Int)(waits out ans:Value)(w:World) (h:Holds w g 102 (A7 n me gd gw gc gfr P S.ow pv d kp since tk waits out ans)) (hp:AV w P ob S.ps) (ho:OwnAt w S.ow pv pb) (hS:S.Ok) :Calls prog 19 #[.pointer (some ⟨g,0,none⟩)] w (Jd S w):=by have KP:=qh (λW h h2=>(jf S P ob pv pb W h h2 hS).mono λe w' (h:RU S W e w')=>h);have HN:=qh h;have HP:=qh hp;have HO:=qh ho;obtain⟨p0,n0,c0,rfl⟩:=hp.Bq;generalize hQ:Jd S w=Q;have HQ:=qh (show ∀e w',Jd S w e w'→Q e w' from λe w' h=>hQ▸h);clear h hp ho hS hQ;go_in;go_upto_region 1 with(fail);go_name_world W hW;obtain⟨HZ,hbW,hsW⟩:=Ff 66 (Es (.slice none 0 0) (λ_=>Ow.zero) (λ_=>.slice none 0 0)) hW;clear hW;have HB:=qh (Base.start w);obtain⟨HB,HN,HP,HO⟩:=Dy hbW HB HN HP HO;clear hbW hsW;generalize hB0:w.heap.size=gz at HZ HB HQ ⊢;have HRG:=qh (HN.Ci 6 (cs:=Es (.slice p0 n0 c0) S.ow pv) (MV n me gd gw gc gfr (.slice p0 n0 c0) S.ow pv d kp since tk waits out ans));go_wp2_with (first|(refine lM 6 HRG.o ?_));refine(KP.o _ HP.o HO.o).mono ?_;rintro e w1 ⟨v1,ob1,pv1,pb1,rfl,hp1,ho1,hob1,hpb1,hb⟩;have hge:=HB.le;obtain⟨p1,n1,c1,rfl⟩:=hp1.Bq;have hone:=LM (o:=S.ow) hp1.Bq ho1.sl;obtain⟨HB,HZ⟩:=DC hb HB HZ;have HP1:=qh hp1;have HO1:=qh ho1;have hob2:∀k,ob1=some k→gz≤k:=λk hk=>Nat.le_trans hge (hob1 k hk);have hpb2:∀i,i<8→∀k,pb1 i=some k→gz≤k:=λi hi k hk=>Nat.le_trans hge (hpb1 i hi k hk);have hzt:∀k,ob1=some k→k≠gz:=AO.ne_of hp1 HZ.o (by decide);have hzt2:∀i,i<8→∀k,pb1 i=some k→k≠gz:=λi hi=>AO.ne_of (ho1 i hi) HZ.o (by decide);clear hb HRG HN HP HO KP hp1 ho1 hob1 hpb1;go_wp2_with (first|(refine sW (Es (.slice p1 n1 c1) S.ow pv1) (AA w1 _ (Es (.slice none 0 0) (λ_=>Ow.zero) (λ_=>.slice none 0 0))) ?_ hone;intro w2 hh2 ht2;have HY:=qh hh2.AY;have hb2:Below w1.heap.size w1 w2:=Below.trans ((Below.refl _ _).alloc (Nat.le_refl _) _) (ht2.below (Nat.le_refl _) (by simp)))|(refine lM 0 HY.o ?_)|(refine sW (Es (.slice p1 n1 c1) S.ow pv1) (HZ.bel hb2) ?_ hone;intro w3 hh3 ht3));have HB:=qh ((HB.bel hb2).touch ht3 (Nat.le_refl _));have hm3:Mv (λk=>k=gz) w2 w3:=Mv.AU ht3 rfl;have HP1:=qh ((HP1.bel hb2).mv hm3 (λk hk e=>hzt k hk e));have HO1:=qh ((HO1.bel hb2).mv hm3 (λi hi k hk e=>hzt2 i hi k hk e));have HR:=qh hh3.AY;clear hh3 ht3 HY hb2 hm3;refine bC HR.o ?_;exact HQ.o _ _ ⟨_,ob1,pv1,pb1,rfl,HP1.o,HO1.o,hB0▸hob2,hB0▸hpb2,hB0▸HB.below⟩
theorem jL(g n me gd gw gc gfr:Nat)(P:Value)(o:Nat→Ow)(pv:Nat→Value)(d kp:Nat→Int)(since tk:Int)(waits out ans:Value)(w:World) (h:Holds w g 102 (A7 n me gd gw gc gfr P o pv d kp since tk waits out ans)) :Calls prog 23 #[.pointer (some ⟨g,0,none⟩)] w λe w'=>e=.returned (.agg (DF d).toArray)∧Below w.heap.size w w':=by
 have HN:=qh h;clear h;have hone:(DF d).toArray.all (·.oneCell')=true:=by simp[DF,Value.oneCell']
 go_in;go_upto_region 1 with(fail);go_name_world W hW;obtain⟨HZ,hbW,hsW⟩:=Ff 41 (DF λ_=>0) hW;clear hW;have HB:=qh (Base.start w);obtain⟨HB,HN⟩:=DC hbW HB HN;clear hbW hsW;generalize hB0:w.heap.size=gz at HZ HB ⊢;have HRG:=qh (HN.Ci 55 (cs:=DF d) (Oy n me gd gw gc gfr P o pv d kp since tk waits out ans));go_wp2_with (first|(refine lM 55 HRG.o ?_)|(refine sW (DF d) HZ.o ?_ hone;intro w3 hh3 ht3));have HB:=qh (HB.touch ht3 (Nat.le_refl _));have HR:=qh hh3.AY;clear hh3 ht3;refine bC HR.o ?_;exact⟨rfl,hB0▸HB.below⟩
section
variable [In] [Bs]
theorem Kz(w:World)(F:Af)(g n me q:Nat)(c:Cm)(out:List Lt)(an:Bool)(tk:Nat)(h:Bh w F g n me q c .fresh out an tk)(hS:Bs.S.Ok) :Calls prog 19 #[.pointer (some ⟨g,0,none⟩)] w (Jd Bs.S w):=by obtain⟨t,ht,gd,mb,gw,gc,gfr,P,pv,waits,ou,ans,h⟩:=h;obtain⟨ob,pb,h1,h2,_⟩:=h.st;exact fU g n me gd gw gc gfr Bs.S P ob pv pb _ _ _ t waits ou ans w h.nd h1 h2 hS
theorem QQ(w:World)(F:Af)(g n me q:Nat)(c:Cm)(out:List Lt)(an:Bool)(tk:Nat)(h:Bh w F g n me q c .fresh out an tk) :Calls prog 23 #[.pointer (some ⟨g,0,none⟩)] w λe w'=>e=.returned (.agg (DF Bs.d).toArray)∧Below w.heap.size w w':=by obtain⟨t,ht,gd,mb,gw,gc,gfr,P,pv,waits,ou,ans,h⟩:=h;exact jL g n me gd gw gc gfr P _ pv _ _ _ t waits ou ans w h.nd
end
end
section
variable [In]
def dM(w:World)(e:Ending)(w':World):Prop:=∃p' c',e=.returned (.slice p' 0 c')∧Below w.heap.size w w'
theorem Rk(p:Option Addr)(c:Nat)(ob:Option Nat)(w:World)(h:AO w (.slice p 0 c) ob 158 1 0 []) :Calls prog 77 #[.slice p 0 c] w (dM w):=by
 rcases h.cases with⟨hv,_,_,_⟩|⟨g,cap,rest,hv,_,hc1,hcm,hh,hl⟩
 ·cases hv;have he:∀W:World,(binOp .eql 156 (.slice none 0 0) (.slice none 0 0)).run prog W=.ok (.bool true) W:=λ_=>by kernel_rfl
  clear h;go_in;go_wp2_with fail;go_ret;exact⟨_,_,rfl,Below.refl _ _⟩
 ·cases hv;have HO1:=qh (show AO (w.alloc (.cells #[] 158)) (.slice (some ⟨w.heap.size,0,none⟩) 0 0) (some w.heap.size) 158 1 0 [] from⟨World.ownsRow_lit (size:=1) w #[] 0 (Nat.zero_le _) (by unfold maxLen;omega) (by simp),rfl⟩);have ha:Below w.heap.size w (w.alloc (.cells #[] 158)):=by go_grown
  have HA:=qh ha;have hsz:=ha.size;have he:∀W:World,(binOp .eql 156 (.slice (some ⟨g,0,none⟩) 0 c) (.slice none 0 0)).run prog W=.ok (.bool false) W:=λ_=>by kernel_rfl
  have hown:=qh (show (w.alloc (.cells #[] 158)).ownsRow w.heap.size 158 1 (.slice (some ⟨w.heap.size,0,none⟩) 0 0) 0 [] from World.ownsRow_lit (size:=1) w #[] 0 (Nat.le_refl _) (by unfold maxLen;omega) (by simp));clear h hh ha;go_in;have hR:Reads (w.alloc (.cells #[] 158)) (some ⟨g,0,none⟩) []:=λh=>by simp at h
  go_wp2_with (first|(at_builtin;refine AZ rfl (.tmp 5) (.tmp 6) 156 rfl w.heap.size 158 (.pointer none) 1 8 rfl (by kernel_rfl) rfl (by decide) _ 0 [] rfl hown.out (some ⟨g,0,none⟩) 0 c [] rfl rfl hR (λh=>(by cases h)) (λu hu=>(by cases hu)) (by unfold maxLen;omega) (by omega) hsz ?_;intro v2 w2 ho2 hb2 hg2));obtain⟨ob2,ho3,_⟩:=AO.of ho2;obtain⟨p2,c2,rfl⟩:∃p2 c2,v2=.slice p2 0 c2:=by
   rcases ho3.cases with⟨r,_⟩|⟨_,_,_,r,_⟩
   ·exact⟨_,_,r⟩
   ·exact⟨_,_,r⟩
  have HB:=qh (HA.trans hb2);clear ho2 ho3 hb2 hg2;go_ret;exact⟨_,_,rfl,HB.o⟩
theorem J3(w:World):Calls prog 85 #[.slice none 0 0] w λe w'=>e=.returned (.slice none 0 0)∧Below w.heap.size w w':=by
 have he:∀W:World,(binOp .eql 161 (.slice none 0 0) (.slice none 0 0)).run prog W=.ok (.bool true) W:=λ_=>by kernel_rfl
 go_in;go_wp2_with fail;go_ret;exact⟨rfl,Below.refl _ _⟩
theorem W9(gl gm nl:Nat)(w:World)(h:Ap w gl gm nl []):Calls prog 81 #[.pointer (some ⟨gl,0,none⟩)] w λe w'=>∃p c,e=.returned (.slice p 0 c)∧Below w.heap.size w w':=by
 refine(QM gl gm nl [] w h (by simp)).mono ?_;rintro e w' ⟨v,xs,rfl,ho,_,hb⟩;rcases ho.2 with⟨rfl,_⟩|⟨g,cap,cur,rfl,_⟩
 ·exact⟨none,0,rfl,hb⟩
 ·exact⟨some ⟨g,0,none⟩,cap,rfl,hb⟩
theorem XZ(gc n me gl gm nl gi:Nat)(p0:Option Addr)(c0:Nat)(ob0:Option Nat)(recs out:Value)(w:World)(h:Holds w gc 163 (Az n me gl gi (.slice p0 0 c0) recs out))(ho:AO w (.slice p0 0 c0) ob0 158 1 0 [])(hl:Ap w gl gm nl []) :Calls prog 52 #[.pointer (some ⟨gc,0,none⟩)] w λe w'=>e=.returned (.tuple #[])∧Below w.heap.size w w':=by
 have KC:=qh (Rk p0 c0 ob0 w ho);have KW:=qh J3;have KL:=qh (λW h=>W9 gl gm nl W h);have HC:=qh h;have HL:=qh hl;have HB:=qh (Base.start w);clear h hl ho;go_in;generalize hB0:w.heap.size=B at HB ⊢;have d4:=Ag HC.o 4;go_wp2_with fail;refine KC.mono ?_;rintro e w1 ⟨p1,c1,rfl,hb⟩;obtain⟨HC,HL,HB⟩:=Du hb HC HL HB;clear hb d4;go_wp2_with fail;go_loopw [17] (λvi wr=>vi=.int .i64 0∧wr=w1) (λ_ _=>0);case atStart=>exact⟨rfl,rfl⟩
 case round=>
  obtain⟨rfl,rfl⟩:=hrel;have d2:=Ag HC.o 2;go_wp2_with fail;refine(KL.o _ HL.o).mono ?_;rintro e w2 ⟨p,cc,rfl,hb⟩;obtain⟨HC,HB⟩:=DC hb HC HB;clear hb d2 HL;go_wp2_with fail;go_loopw [61] (λvi wr=>vi=.int .i64 0∧wr=w2) (λ_ _=>0);case atStart=>exact⟨rfl,rfl⟩
  case round=>
   obtain⟨rfl,rfl⟩:=hrel;have d5:=Ag HC.o 5;go_wp2_with fail;refine Ac (KW.o _) ?_;rintro w3 hb;have HB:=ET hb HB;clear hb d5 HC;go_wp2_with fail;go_loopw [93] (λvi wr=>vi=.int .i64 0∧wr=w3) (λ_ _=>0);case atStart=>exact⟨rfl,rfl⟩
   case round=>obtain⟨rfl,rfl⟩:=hrel;go_wp2_with fail;exact bE ⟨rfl,HB.below⟩
theorem Ap.lC{w w':World}{F:Af}{g b n:Nat}{l:List Ad}(h:Ap w g b n l)(hm:Mv F w w')(h1:¬F g)(h2:¬F b):Ap w' g b n l:=h.keep (hm.block g h.lt.1 h1) (hm.block b h.lt.2 h2)
theorem XY(gc n me gl gm nl gi gx ni gb gld cb q:Nat)(c:Cm)(E:List Bf)(rest:List Value)(a:Nat→Int)(R:Value)(cnt:Int)(w:World)(h:BC w gc n me gl gm nl gi gx ni [⟨q,In.sl,cellL 1 c true⟩] E (.slice (some ⟨gb,0,none⟩) 1 cb) (.slice none 0 0) (.slice none 0 0)) (hb:Holds w gb 158 (.pointer (some ⟨gld,0,none⟩) :: rest)) (hl:Holds w gld 167 (Dh q c a R cnt 0)) (hcb:1≤cb∧cb≤maxLen) (hq:q<7) :Calls prog 52 #[.pointer (some ⟨gc,0,none⟩)] w λe w'=>e=.returned (.tuple #[])∧Holds w' gld 167 (Dh q c a R cnt 1)∧Mv (λk=>k=gld) w w':=by
 have hd:gld≠gc∧gld≠gl∧gld≠gm∧gld≠gi∧gld≠gx∧gld≠gb:=⟨hl.ne_of h.hc (by decide),hl.ne_of h.lg.ix (by decide),Bv h.lg.isMap hl,hl.ne_of h.ix.ix (by decide),Bv h.ix.isMap hl,hl.ne_of hb (by decide)⟩;have KC:=qh (X9 gb cb (.pointer (some ⟨gld,0,none⟩)) rest (by simp[Value.oneCell']) w hb);have KW:=qh J3;have KL:=qh (λW h=>QM gl gm nl [⟨q,In.sl,cellL 1 c true⟩] W h (by simp));have KX:=qh (λW (h:Ap W gl gm nl [⟨q,In.sl,cellL 1 c true⟩])=>Ia gl gm nl q (cellL 1 c true) [⟨q,In.sl,cellL 1 c true⟩] W h (List.mem_singleton.2 rfl) hq);have KF:=qh (λW (h:Holds W gc 163 (Az n me gl gi (.slice (some ⟨gb,0,none⟩) 1 cb) (.slice none 0 0) (.slice none 0 0))) hb hl=>OX gc n me gl gi gb gld cb rest (.slice none 0 0) (.slice none 0 0) q c a R cnt 1 W h hb hl hcb.1);have HC:=qh h.hc;have HLG:=qh h.lg;have HG:=qh hb;have HL:=qh hl;have hgl:=hl.lt;have HM:=qh (Mv.refl (λk=>k=gld) w);clear h hb hl;go_in;have d4:=Ag HC.o 4;go_wp2_with fail;refine KC.mono ?_;rintro e w1 ⟨P',ob',rfl,ho,hob,_,hb⟩;obtain⟨gs,cs,rs,rfl,rfl,hcs1,hcs2,hgs,_⟩:=ho.blk (Nat.zero_lt_one);have HS:=qh hgs;obtain⟨HC,HLG,HG,HL,HM⟩:=Fq hb HC HLG HG HL HM;clear hb d4 ho hob hgs KC;go_wp2_with fail;go_loopw [17] (λvi wr=>(vi=.int .i64 0∧w1=wr)∨(vi=.int .i64 1∧Holds wr gld 167 (Dh q c a R cnt 1)∧Mv (λk=>k=gld) w1 wr)) (λvi _=>1 - (intOf vi).toNat);case atStart=>exact .inl ⟨rfl,rfl⟩
 case round=>
  rcases hrel with⟨rfl,rfl⟩|⟨rfl,hl,hm⟩
  ·have s0:=HS.cell 0;simp only[List.cons_append,yA,yB] at s0;have y31:=Ag HL.o 31;go_upto_region 4 with(first|(refine sC 31 HL.o (.int .i64 1) ?_;intro w7 hh7 ht7));have HL:=qh (show Holds w7 gld 167 (Dh q c a R cnt 1) from hh7);have HT:=qh (show Mv (λk=>k=gld) w1 w7 from Mv.AU ht7 rfl);clear hh7 ht7 s0 y31;have y31:=Ag HL.o 31;go_wp2_with fail;go_roundw;case rel=>exact .inr ⟨by simp,HL.o,HT.o⟩
   case measure=>simp[intOf]
  ·have HC:=qh (HC.mv hm (Ne.symm hd.1));have HLG:=qh (Ap.lC HLG.o hm (Ne.symm hd.2.1) (Ne.symm hd.2.2.1));have HG:=qh (HG.mv hm (Ne.symm hd.2.2.2.2.2));have HL:=qh hl;have HM:=qh (HM.mv hm (λk hk=>.inl hk));clear hl hm HS;have d2:=Ag HC.o 2;go_wp2_with fail;refine(KL.o _ HLG.o).mono ?_;rintro e w2 ⟨v2,xs,rfl,ho,hx,hb2⟩;have hxs:=hx _ List.mem_cons_self;subst hxs;obtain⟨ob2,ho2,_⟩:=AO.of ho;obtain⟨gi2,ci,ri,rfl,_,hci1,hci2,hgi,_⟩:=ho2.blk (Nat.zero_lt_one);have HI:=qh hgi;obtain⟨HC,HLG,HG,HL,HM⟩:=Fq hb2 HC HLG HG HL HM;clear ho hx hb2 ho2 hgi d2 KL;go_wp2_with fail;go_loopw [61] (λvi wr2=>(vi=.int .i64 0∧w2=wr2)∨(vi=.int .i64 1∧Below w2.heap.size w2 wr2)) (λvi _=>1 - (intOf vi).toNat);case atStart=>exact .inl ⟨rfl,rfl⟩
   case round=>
    rcases hrel with⟨rfl,rfl⟩|⟨rfl,hb⟩
    ·have s0:=HI.cell 0;have s1:=HI.cell 1;simp only[List.cons_append,yA,yB] at s0 s1;have HB1:=qh (Base.start w2);go_upto_region 10 with(first|(refine sW [.int .i64 q,.int .i64 In.sl] (AA w2 _ _) ?_;intro w3 hh3 ht3));have hal:Below w2.heap.size w2 w3:=Below.trans ((Below.refl _ _).alloc (Nat.le_refl _) _) (ht3.below (Nat.le_refl _) (by simp));have HX:=qh hh3;obtain⟨HC,HLG,HG,HL,HB1⟩:=Fq hal HC HLG HG HL HB1;clear hal hh3 ht3 s0 s1;generalize hgp:w2.heap.size=gp at HX HB1 ⊢;refine' bx1 ⟨9,10,6,72,45,zero21,cellL 1 c true⟩ _ (IU _ _ _) ?h1 ?val1 ?fin1;case h1=>
      intro W0 hW0;obtain⟨HC,HLG,HG,HL,HX,HB1⟩:=FI hW0 HC HLG HG HL HX HB1;have c0_2:=Jt HC.o 2;obtain⟨c1_0,c1_1⟩:=Jo HX.o 0 1;simp only[List.map_cons,List.map_nil,A8];repeat go_big_quiet_step (first|(go_at_call 82;with_reducible exact AL λW2 h2=>KX.o W2 (HLG.o.bel h2)))
      refine wpQuiet_nil ?_;intro w' _;exact rfl
     case val1=>rfl
     intro β w4 hb hx6;simp only[] at hx6;simp only[Dk,List.foldl,Act.put,List.setIfInBounds_toArray,List.set_cons_zero,List.set_cons_succ];obtain⟨HC,HLG,HG,HL,HX,HB1⟩:=FI hb HC HLG HG HL HX HB1;generalize β 6=g6 at hx6 ⊢;have H6:=qh hx6.2;have hge6:=hx6.1;clear hx6;clear hb;have y0:=Ag H6.o 0;obtain⟨x0,x1⟩:=CU HX.o 0 1;clear HLG;go_wp2_with fail;refine Ac (KF.o _ HC.o HG.o HL.o) ?_;rintro w5 hb5;have HB1:=ET hb5 HB1;clear hb5 y0 x0 x1 HX H6 HC HG HL;go_wp2_with fail;go_roundw;case rel=>exact .inr ⟨by simp,hgp▸HB1.below⟩
     case measure=>simp[intOf]
    ·have HC:=qh (HC.bel hb);obtain⟨HL,HM⟩:=DC hb HL HM;clear hb HI HLG HG KX KF;have d5:=Ag HC.o 5;go_wp2_with fail;refine Ac (KW.o _) ?_;rintro w6 hb6;obtain⟨HL,HM⟩:=DC hb6 HL HM;clear hb6 d5 HC;go_wp2_with fail;go_loopw [93] (λvi wr3=>vi=.int .i64 0∧w6=wr3) (λ_ _=>0);case atStart=>exact⟨rfl,rfl⟩
     case round=>obtain⟨rfl,rfl⟩:=hrel;go_wp2_with fail;exact bE ⟨rfl,HL.o,HM.o⟩
end
section
variable [In] [Bs]
def JW:Ph→Option Ph
 | .fresh=>some .fresh
 | .lead A 0=>some (.lead A 1)
 | _=>none
theorem XG(w:World)(F:Af)(g n me q:Nat)(c:Cm)(ph ph':Ph)(tk:Nat)(hB:EN n q c)(hB0:Bs.L=[])(h:Bh w F g n me q c ph [] false tk)(hs:JW ph=some ph')(htk:tk<5)(hme:me<n) :Calls prog 30 #[.pointer (some ⟨g,0,none⟩)] w λe w'=>e=.returned (.tuple #[])∧Bh w' (grow F w w') g n me q c ph' [] false (tk+1)∧Mv F w w':=by
 obtain⟨tt,htt,gd,mb,gw,gc,gfr,P,pv,waits,out0,ans,h⟩:=h;have hn:=hB.n7;have hq:=hB.hq;have hnb:=hB.nb;have nd:=h.nd;have co:=h.co;have hout:out0=.slice none 0 0:=h.ou.1 rfl;subst hout;have hans:ans=.slice none 0 0:=h.an;subst hans;have key:∀(R1:World→Prop),(Calls prog 52 #[.pointer (some ⟨gc,0,none⟩)] w λe w'=>e=.returned (.tuple #[])∧R1 w') →
   (∀W,R1 W→DR W (grow F w W) g n me q c ph' (.slice none 0 0) (.slice none 0 0) (FM ph) (EX ph') 0 (Dt c q []) false tt (DK ph') gd mb gw gc gfr P pv waits (.slice none 0 0) (.slice none 0 0)∧Mv F w W)→FM ph=.no→FM ph'=.no→Hr ph'=false →
   Calls prog 30 #[.pointer (some ⟨g,0,none⟩)] w λe w'=>e=.returned (.tuple #[])∧Bh w' (grow F w w') g n me q c ph' [] false (tk+1)∧Mv F w w':=by
  intro R1 K1 K2 hd0 hd1 hcm;have hlim:DK ph'≤27000:=by unfold DK;have:=UK ph';omega
  refine(jO g n me gd gw gc gfr P _ pv _ _ _ tt waits (.slice none 0 0) (.slice none 0 0) R1 (λW2=>DJ W2 (grow F w W2) g n me q c ph' (.slice none 0 0) (.slice none 0 0) (FM ph) (EX ph') 0 (Dt c q []) false (tt+1) (DK ph')∧Mv F w W2) (λw'=>DJ w' (grow F w w') g n me q c ph' (.slice none 0 0) (.slice none 0 0) (FM ph') (EX ph'&&!Hr ph') 0 (Dt c q []) (EX ph'&&Hr ph') (tt+1) (DK ph'+500*0)∧Mv F w w') w nd (by omega) (by omega) K1 (λW hW=>(K2 W hW).1.nd) (λW W2 hW hn2 ht=>?_) (λW hW=>?_)).mono ?_
  ·obtain⟨hI,hmv⟩:=K2 W hW;have hm:Mv (λk=>k=g) W W2:=Mv.AU ht rfl;have hsz:=hm.size;exact⟨⟨gd,mb,gw,gc,gfr,P,pv,waits,_,_,(hI.CQ hm hn2 rfl (hI.st.CQ hI.nd hm) (hI.wa.CQ hI.nd hm) (Dv.nil0 _ _ _) (show IM _ _ c (.slice none 0 0) false from rfl)).foot λk hk _=>hk.imp id λ⟨a,b⟩=>⟨a,Nat.lt_of_lt_of_le b hsz⟩⟩,hmv.mv hm λk hk=>.inl (hk▸h.f.1)⟩
  ·obtain⟨hN,hM⟩:=hW;have hs:=hM.size;refine Ac (Jm W (grow F w W) W.heap.size g n me q c ph' (.slice none 0 0) (.slice none 0 0) (FM ph) (EX ph') (tt+1) (DK ph') 0 0 (Dt c q []) (Dt c q []) hB hN (.inl ⟨rfl,rfl⟩) (Dv.nil0 _ _ _) (by omega) (G9 c q _ 0) (λk hk hk2=>by omega) (by omega) (by omega) (.inl hd0) hme) ?_;rintro w' ⟨hn',hm'⟩;exact⟨rfl,hn'.foot λk hk hkl=>grow_step hs hm'.size hk,hM.mv hm' λk hk=>hk.imp id λh=>h.1⟩
  ·rintro e w' ⟨rfl,hn',hm'⟩;exact⟨rfl,⟨tt+1,by omega,by simpa[hcm] using hn'⟩,hm'⟩
 cases ph with
 | fresh=>
  simp only[JW,Option.some.injEq] at hs;subst hs;obtain⟨⟨gl,gm,nl,gi,gx,ni,L,E,leads,a1,a2,a3,a4,rfl,rfl,p0,c0,ob0,rfl,d1,d2⟩,hfc⟩:=co;refine key (λW=>Below w.heap.size w W) (XZ gc n me gl gm nl gi p0 c0 ob0 _ _ w a1.hc d1 (hB0▸a1.lg)) (λW hb=>⟨(h.bel hb).foot λk hk _=>.inl hk,Mv.of_below hb⟩) rfl rfl rfl
 | lead A t=>
  cases t with
  | succ t=>simp[JW] at hs
  | zero=>
   simp only[JW,Option.some.injEq] at hs;subst hs;obtain⟨⟨gl,gm,nl,gi,gx,ni,L,E,leads,a1,a2,a3,⟨b1,b2,b3,b4⟩,hqm,⟨hL0,hE0⟩,gb,cb,gld,rest,R,ob,rfl,⟨d21,d22,d23⟩,d3,d4,d5,d6,d7,d8⟩,hfc⟩:=co;have hL1:L=[⟨q,In.sl,cellL 1 c true⟩]:=by rw[hL0,hB0];rfl
   have hd:gld≠gc∧gld≠gl∧gld≠gm∧gld≠gi∧gld≠gx∧gld≠gb:=⟨d4.ne_of a1.hc (by decide),d4.ne_of a1.lg.ix (by decide),Bv a1.lg.isMap d4,d4.ne_of a1.ix.ix (by decide),Bv a1.ix.isMap d4,d4.ne_of d3 (by decide)⟩;have hob:∀k,ob=some k→k≠gld:=d5.ne_of d4 (by decide);refine key (λW=>Holds W gld 167 (Dh q c (GG A) R A.length 1)∧Mv (λk=>k=gld) w W) (XY gc n me gl gm nl gi gx ni gb gld cb q c E rest (GG A) R A.length w (hL1▸a1) d3 d4 ⟨d21,d22⟩ (by omega)) (λW hW=>?_) rfl rfl rfl;obtain⟨hl,hm⟩:=hW;have hF:∀k,F k→k<w.heap.size→grow F w W k:=λk hk _=>.inl hk;refine⟨(h.foot hF).YE hm (λk hk _=>.inl ⟨_,_,hk▸d4,by decide⟩) ⟨⟨gl,gm,nl,gi,gx,ni,_,E,_,a1.mv hm (Ne.symm hd.1) (Ne.symm hd.2.1) (Ne.symm hd.2.2.1) (Ne.symm hd.2.2.2.1) (Ne.symm hd.2.2.2.2.1),a2,a3,⟨.inl b1,.inl b2,.inl b3,.inl b4⟩,hqm,⟨hL0,hE0⟩,gb,cb,gld,rest,R,ob,rfl,⟨d21,d22,d23⟩,d3.mv hm (Ne.symm hd.2.2.2.2.2),hl,d5.mv hm hob,.inl d6,.inl d7,λk hk=>.inl (d8 k hk)⟩,.inl hfc⟩,hm.more λk hk=>hk▸d7⟩
 | pre=>simp[JW] at hs
 | com=>simp[JW] at hs
end
def ptrs(n:Nat)(gs:Nat→Nat):List Value:=(List.range n).map λi=>.pointer (some ⟨gs i,0,none⟩)
theorem Y9(n:Nat)(gs:Nat→Nat):(ptrs n gs).length=n:=by simp[ptrs]
theorem Jl(n:Nat)(gs:Nat→Nat)(rest:List Value)(i:Nat)(hi:i<n):(ptrs n gs++rest)[i]?=some (.pointer (some ⟨gs i,0,none⟩)):=by rw[List.getElem?_append_left (by rw[Y9];exact hi)];simp[ptrs,hi]
def DV(n:Nat)(dv nv clv cav lv hv:Value):List Value:=[.int .i64 n,dv,nv,clv,cav,lv,hv]
theorem UM(id:Int)(h1:1≤id)(h2:id≤8)(w:World):Calls prog 37 #[.int .i64 id] w λe w'=>e=.returned (.bool true)∧Below w.heap.size w w':=by go_in;go_wp2_with fail;go_ret;exact⟨rfl,Below.refl _ _⟩
theorem dw(gC n:Nat)(dv nv clv cav lv hv:Value)(w:World)(h:Holds w gC 85 (DV n dv nv clv cav lv hv)) :Calls prog 9 #[.pointer (some ⟨gC,0,none⟩)] w λe w'=>e=.returned (.int .i64 n)∧Below w.heap.size w w':=by have a0:=Ag h 0;clear h;go_in;go_wp2_with fail;go_ret;exact⟨rfl,Below.refl _ _⟩
theorem Rn(gC n gN cN i:Nat)(gs:Nat→Nat)(rest:List Value)(dv clv cav lv hv:Value)(w:World)(h:Holds w gC 85 (DV n dv (.slice (some ⟨gN,0,none⟩) n cN) clv cav lv hv))(hN:Holds w gN 59 (ptrs n gs++rest))(hi:i<n) :Calls prog 17 #[.pointer (some ⟨gC,0,none⟩),.int .i64 i] w λe w'=>e=.returned (.pointer (some ⟨gs i,0,none⟩))∧Below w.heap.size w w':=by
 obtain⟨a0,a2⟩:=CU h 0 2;have p:=hN.cell i;rw[Jl n gs rest i hi] at p;have hin:(i:Int)<(n:Int):=by omega
 have hi0:¬((i:Int)<0):=by omega
 clear h hN;go_in;go_wp2_with fail;go_ret;exact⟨rfl,Below.refl _ _⟩
def dL(w:World)(e:Ending)(w':World):Prop:=∃p' c',e=.returned (.slice p' 0 c')∧Below w.heap.size w w'
theorem WF(p:Option Addr)(c:Nat)(ob:Option Nat)(w:World)(h:AO w (.slice p 0 c) ob 47 51 0 []) :Calls prog 34 #[.slice p 0 c] w (dL w):=by
 rcases h.cases with⟨hv,_,_,_⟩|⟨g,cap,rest,hv,_,hc1,hcm,hh,hl⟩
 ·cases hv;have he:∀W:World,(binOp .eql 34 (.slice none 0 0) (.slice none 0 0)).run prog W=.ok (.bool true) W:=λ_=>by kernel_rfl
  clear h;go_in;go_wp2_with fail;go_ret;exact⟨_,_,rfl,Below.refl _ _⟩
 ·cases hv;have HO1:=qh (show AO (w.alloc (.cells #[] 47)) (.slice (some ⟨w.heap.size,0,none⟩) 0 0) (some w.heap.size) 47 51 0 [] from⟨World.ownsRow_lit (size:=51) w #[] 0 (Nat.zero_le _) (by unfold maxLen;omega) (by simp),rfl⟩);have ha:Below w.heap.size w (w.alloc (.cells #[] 47)):=by go_grown
  have HA:=qh ha;have hsz:=ha.size;have he:∀W:World,(binOp .eql 34 (.slice (some ⟨g,0,none⟩) 0 c) (.slice none 0 0)).run prog W=.ok (.bool false) W:=λ_=>by kernel_rfl
  have hown:=qh (show (w.alloc (.cells #[] 47)).ownsRow w.heap.size 47 51 (.slice (some ⟨w.heap.size,0,none⟩) 0 0) 0 [] from World.ownsRow_lit (size:=51) w #[] 0 (Nat.le_refl _) (by unfold maxLen;omega) (by simp));clear h hh ha;go_in;have hR:Reads (w.alloc (.cells #[] 47)) (some ⟨g,0,none⟩) []:=λh=>by simp at h
  go_wp2_with (first|(at_builtin;refine AZ rfl (.tmp 5) (.tmp 6) 34 rfl w.heap.size 47 (.agg Dp.toArray) 51 480 rfl (by kernel_rfl) rfl (by decide) _ 0 [] rfl hown.out (some ⟨g,0,none⟩) 0 c [] rfl rfl hR (λh=>(by cases h)) (λu hu=>(by cases hu)) (by unfold maxLen;omega) (by omega) hsz ?_;intro v2 w2 ho2 hb2 hg2));obtain⟨ob2,ho3,_⟩:=AO.of ho2;obtain⟨p2,c2,rfl⟩:∃p2 c2,v2=.slice p2 0 c2:=by
   rcases ho3.cases with⟨r,_⟩|⟨_,_,_,r,_⟩
   ·exact⟨_,_,r⟩
   ·exact⟨_,_,r⟩
  have HB:=qh (HA.trans hb2);clear ho2 ho3 hb2 hg2;go_ret;exact⟨_,_,rfl,HB.o⟩
def Tz(m:Nat)(w:World)(e:Ending)(w':World):Prop:=∃p c,e=.returned (.slice p m c)∧Below w.heap.size w w'
theorem X8(gC n m:Nat)(dv nv clv cav lv hv:Value)(ob:Option Nat)(L:List Value)(w:World)(h:Holds w gC 85 (DV n dv nv clv cav lv hv))(hl:AO w lv ob 47 51 m L)(h1:∀u∈L,u.oneCell'=true)(hm2:m≤1000) :Calls prog 13 #[.pointer (some ⟨gC,0,none⟩)] w (Tz m w):=by
 have K:Calls prog 34 #[lv] w (Tz m w):=by
  rcases Nat.eq_zero_or_pos m with rfl|hm
  ·have hL:L=[]:=List.eq_nil_of_length_eq_zero (by have:=hl.len;omega);subst hL;obtain⟨p,c,rfl⟩:∃p c,lv=.slice p 0 c:=by
    rcases hl.cases with⟨r,_⟩|⟨_,_,_,r,_⟩
    ·exact⟨_,_,r⟩
    ·exact⟨_,_,r⟩
   exact WF p c ob w hl
  ·refine(YA lv ob m L h1 hm2 w hl (λh=>by omega)).mono ?_;rintro e w' ⟨P',ob',rfl,ho,_,_,hb⟩;obtain⟨g,cap,rest,rfl,_⟩:=ho.blk hm;exact⟨_,_,rfl,hb⟩
 have K:=qh K;have a5:=Ag h 5;clear h hl h1;go_in;go_wp2_with fail;refine K.out.mono ?_;rintro e w1 ⟨p,c,rfl,hb⟩;have HO:=qh (show Tz m w (.returned (.slice p m c)) w1 from⟨p,c,rfl,hb⟩);clear hb a5 K;go_wp2_with fail;go_ret;exact HO.o
theorem jC(e:Ev)(v v':Value)(c:Nat)(hc:c<13):(IW e v)[c]?=(IW e v')[c]?:=by rcases(show c=0∨c=1∨c=2∨c=3∨c=4∨c=5∨c=6∨c=7∨c=8∨c=9∨c=10∨c=11∨c=12 by omega) with rfl|rfl|rfl|rfl|rfl|rfl|rfl|rfl|rfl|rfl|rfl|rfl|rfl<;>rfl
theorem Zx(l:List Ev)(pv:Nat→Value)(i:Nat)(hi:i<l.length)(v:Value)(rest:List Value):(flat 14 l.length (GH l pv)++rest).set (i*14+13) v=flat 14 l.length (GH l (Ee pv i v))++rest:=by
 apply List.ext_getElem?;intro t;rw[List.getElem?_set];by_cases ht:t<l.length*14
 ·have e:t / 14*14+t % 14=t:=by omega
  have h1:=EP 14 l.length (GH l pv) (t / 14) (t % 14) (by omega) (by omega) rfl;have h2:=EP 14 l.length (GH l (Ee pv i v)) (t / 14) (t % 14) (by omega) (by omega) rfl;rw[e] at h1 h2;rw[List.getElem?_append_left (by rw[BJ];omega),List.getElem?_append_left (by rw[BJ];omega),h1,h2];by_cases hti:i*14+13=t
  ·have e1:t / 14=i:=by omega
   have e2:t % 14=13:=by omega
   rw[if_pos hti,if_pos (by rw[List.length_append,BJ];omega),e1,e2];unfold GH;rw[CX]
   rfl
  ·rw[if_neg hti];by_cases hj:t / 14=i
   ·rw[hj];exact jC _ _ _ _ (by omega)
   ·unfold GH;rw[CY _ _ _ _ hj]
 ·rw[if_neg (by omega),List.getElem?_append_right (by rw[BJ];omega),List.getElem?_append_right (by rw[BJ];omega),BJ,BJ]
theorem Zw(l:List Ev)(pv:Nat→Value)(n:Nat)(h:∀i,i<n→Bq (pv i)):∀u∈flat 14 n (GH l pv),u.oneCell'=true:=
 JI 14 n (GH l pv) (λ_ _=>rfl) λi hi u hu=>by obtain⟨p,m,c,e⟩:=h i hi;unfold GH at hu;rw[e] at hu;simp only[IW,Cm.cells,BF,List.cons_append,List.nil_append,List.mem_cons,List.not_mem_nil,or_false] at hu;rcases hu with rfl|rfl|rfl|rfl|rfl|rfl|rfl|rfl|rfl|rfl|rfl|rfl|rfl|rfl<;>rfl
def JC(l:List Ev)(w:World)(e:Ending)(w':World):Prop:=∃v ob pv pb,e=.returned v∧F9 w' v ob l pv pb∧Below w.heap.size w w'
def Xk(l:List Ev)(pv:Nat→Value)(g B:Nat)(rest:List Value)(i:Nat)(wr:World):Prop:=
 ∃(pv':Nat→Value) (pb':Nat→Option Nat),Holds wr g 55 (flat 14 l.length (GH l pv')++rest)∧(∀j,j<i→AV wr (pv' j) (pb' j) (l.getD j .zero).r.ps)∧∀j,i≤j→pv' j=pv j
theorem X7(gC n:Nat)(dv nv clv cav lv hv:Value)(ob:Option Nat)(l:List Ev)(pv:Nat→Value)(pb:Nat→Option Nat)(w:World)(h:Holds w gC 85 (DV n dv nv clv cav lv hv))(hh:F9 w hv ob l pv pb)(hz:Jv l.length hv)(hl:l.length≤1000)(hps:∀e∈l,e.r.ps.length≤1000) :Calls prog 14 #[.pointer (some ⟨gC,0,none⟩)] w (JC l w):=by
 have K:=qh (Zh hv ob l.length _ (Zw l pv l.length λi hi=>(hh.2 i hi).Bq) hl w hh.1 hz);have KP:=qh (λk (hk:k<l.length) W h=>E9 (pv k) (pb k) (l.getD k .zero).r.ps W h (by rw[List.getD_eq_getElem?_getD,List.getElem?_eq_getElem hk];exact hps _ (List.getElem_mem hk)));have a6:=Ag h 6;have HH:=qh hh.2;generalize hQ:JC l w=Q;have HQ:=qh (show ∀e w',JC l w e w'→Q e w' from λe w' h=>hQ▸h);clear h hh hps hQ hz;go_in;go_wp2_with fail;refine K.out.mono ?_;rintro e w1 ⟨P',ob',rfl,ho,hob,hz',hb⟩;have HB:=qh hb;clear hb K a6;rcases Nat.eq_zero_or_pos l.length with h0|hp
 ·obtain rfl:=hz' h0;have hl0:l=[]:=List.eq_nil_of_length_eq_zero h0;subst hl0;clear ho hob hz';go_wp2_with fail;go_loopw [12] (λvi wr=>vi=.int .i64 0∧w1=wr) (λ_ _=>0);case atStart=>exact⟨rfl,rfl⟩
  case round=>obtain⟨rfl,rfl⟩:=hrel;go_wp2_with fail;exact HQ.o _ _ ⟨_,none,λ_=>.slice none 0 0,λ_=>none,rfl,⟨AO.nil _ _ _,λi hi=>by simp at hi⟩,HB.o⟩
 ·obtain⟨g,c2,rest,rfl,rfl,hc1,hc2,hg,hgl⟩:=ho.blk hp;have hgw:=hob g rfl;have HG:=qh (show Xk l pv g w.heap.size rest 0 w1 from⟨pv,pb,hg,λj hj=>by omega,λj _=>rfl⟩);have HGL:=qh hgl;clear ho hob hz' hg hgl;go_wp2_with fail;go_loopw [12] (λvi wr=>∃i:Nat,vi=.int .i64 (i:Int)∧i≤l.length∧Xk l pv g w.heap.size rest i wr∧Below w.heap.size w wr) (λvi _=>l.length - (intOf vi).toNat);case atStart=>exact⟨0,rfl,by omega,HG.o,HB.o⟩
  case round=>
   obtain⟨i,rfl,hi,⟨pv',pb',hg,hpp,hpr⟩,hb⟩:=hrel;have HG:=qh hg;have HB:=qh hb;have HPP:=qh hpp;have HPR:=qh hpr;have hglt:=hg.lt;clear hg hb hpp hpr;by_cases h1:i<l.length
   ·have hsl:=HPR.o i (Nat.le_refl _);have hpi:=HH.o i h1;obtain⟨p,m,c,hpv⟩:=hpi.Bq;have hcell:wr.cell? ⟨g,i*14+9+4,none⟩=some (.slice p m c):=by rw[show i*14+9+4=i*14+13 by omega,HG.cell (i*14+13),List.getElem?_append_left (by rw[BJ];omega),EP 14 l.length (GH l pv') i 13 h1 (by omega) rfl];show some (pv' i)=_;rw[hsl,hpv]
    have KQ:=qh (KP.o i h1);have HPI:=qh (hpi.bel HB.o);rw[hpv] at KQ HPI;clear hpi hsl;go_wp2_with fail;refine(KQ.o _ HPI.o).mono ?_;rintro e w2 ⟨v2,ob2,rfl,ho2,hob2,hb2⟩;obtain⟨p2,n2,c2',rfl⟩:=ho2.Bq;have HB:=qh (HB.trans (hb2.mono HB.size));have HG:=ET hb2 HG;have hbx:∀j,j<i→AV w2 (pv' j) (pb' j) (l.getD j .zero).r.ps:=λj hj=>(HPP.o j hj).bel hb2;have HPX:=qh hbx;have HO2:=qh ho2;clear hb2 hcell HPI ho2 HPP hbx;go_wp2_with (first|(refine Cb rfl 51 (.tmp 26) (.tmp 23) rfl rfl g (i*14+13) 55 _ HG.o (by rw[List.length_append,BJ];omega) rfl (.slice p2 n2 c2') rfl rfl (by kernel_rfl) rfl ?_;intro w7 hh7 ht7));rw[Zx l pv' i h1] at hh7;have HG7:=qh hh7;have HB7:=qh (HB.trans (ht7.below hgw HB.size));have hpn:∀j,j<i+1→AV w7 (Ee pv' i (.slice p2 n2 c2') j) (Ee pb' i ob2 j) (l.getD j .zero).r.ps:=λj hj=>by
     by_cases e:j=i
     ·subst e;rw[CX,CX];exact AO.touch HO2.o ht7 (AO.ne_of HO2.o HG.o (by decide))
     ·rw[CY _ _ _ _ e,CY _ _ _ _ e];have:=HPX.o j (by omega);exact AO.touch this ht7 (AO.ne_of this HG.o (by decide))
    have HPN:=qh hpn;clear hh7 ht7 hpn;go_roundw;case rel=>exact⟨i+1,by go_num,by omega,⟨_,_,HG7.o,HPN.o,λj hj=>by rw[CY _ _ _ _ (by omega)];exact HPR.o j (by omega)⟩,HB7.o⟩
    case measure=>simp[intOf];omega
   ·obtain rfl:i=l.length:=by omega
    go_wp2_with fail;exact HQ.o _ _ ⟨_,some g,pv',pb',rfl,⟨AO.mk' HG.o (by rw[BJ]) (by have:=HGL.o;rw[List.length_append,BJ] at this ⊢;exact this) hc1 hc2,HPP.o⟩,HB.o⟩
end Go.Proofs.YtimdpiifpibgfaaGreatDoor
