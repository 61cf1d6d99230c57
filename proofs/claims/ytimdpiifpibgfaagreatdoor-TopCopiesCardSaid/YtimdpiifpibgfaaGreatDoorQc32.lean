/- A part of the proof that the law TopCopies returns true for every input. -/
import Derived.Test.YtimdpiifpibgfaaGreatDoorQc31
set_option linter.all false
set_option maxRecDepth 20000
set_option maxHeartbeats 16000000
open Go.RowKit Go.Maps
namespace Go.Proofs.YtimdpiifpibgfaaGreatDoor
open Tryz
section
variable [In]
theorem Rh(g n me gd gw gc gfr:Nat)(P:Value)(o:Nat→Ow)(pv:Nat→Value)(d kp:Nat→Int)(since tk:Int)(out ans:Value)(w:World) (nd:Holds w g 102 (A7 n me gd gw gc gfr P o pv d kp since tk (.slice none 0 0) out ans)) :Calls prog 92 #[.pointer (some ⟨g,0,none⟩)] w λe w'=>e=.returned (.tuple #[])∧Holds w' g 102 (A7 n me gd gw gc gfr P o pv d kp since tk (.slice none 0 0) out ans)∧Touch g w w':=by
 have HN:=qh nd;clear nd;go_in;have n71:=Ag HN.o 71;go_wp2_with fail;go_loopw [12,2] (λvi v2 wr=>vi=.int .i64 0∧v2=.slice none 0 0∧w=wr) (λ_ _ _=>0);case atStart=>exact⟨rfl,rfl,rfl⟩
 case round=>obtain⟨rfl,rfl,rfl⟩:=hrel;go_wp2_with (first|(refine sC 71 HN.o (.slice none 0 0) ?_;intro w7 hh7 ht7));exact bE ⟨rfl,hh7,ht7⟩
theorem YO(gc n me gl gm nl gi:Nat)(L:List Ad)(leads recs cout:Value)(w:World)(h:Holds w gc 163 (Az n me gl gi leads recs cout))(hl:Ap w gl gm nl L) :Calls prog 173 #[.pointer (some ⟨gc,0,none⟩)] w λe w'=>e=.returned (.agg Bj.toArray)∧Below w.heap.size w w':=by have KC:=qh (λW (h:Ap W gl gm nl L)=>Yq gl gm nl L W h);have HN:=qh h;have HL:=qh hl;clear h hl;go_in;go_upto_region 1 with(fail);go_name_world W hW;obtain⟨HZ,hbW,hsW⟩:=Ff 41 (Bj) hW;clear hW;have HB:=qh hbW;obtain⟨HN,HL⟩:=DC hbW HN HL;clear hbW;have n2:=Ag HN.o 2;go_upto_region 1 with(fail);go_wp2_with fail;refine Ac (KC.o _ HL.o) ?_;rintro w1 hb;have HZ:=ET hb HZ;have HB:=qh (HB.trans (hb.mono HB.size));clear hb n2 HN HL;go_wp2_with (first|(refine sW Bj HZ.o ?_ Ih;intro wc hh ht));exact bC hh.AY ⟨rfl,HB.trans (ht.below (Nat.le_refl _) HB.size)⟩
def Oe(me:Nat)(kp:Nat→Int):FrontP.Fr:=λr j=>if r=me∧j<7 then kp j else 0
theorem YZ(me:Nat):Oe me (λ_=>0)=λ_ _=>0:=by funext r j;unfold Oe;split<;>rfl
theorem Vd(x:Int)(h:0≤x):FrontP.mn x 0=0∧FrontP.mn 0 x=0:=by unfold FrontP.mn;constructor<;>split<;>omega
theorem NM(F:FrontP.Fr)(a:Nat→Int)(i:Nat)(hF:∀r,0≤F r i)(ha:0≤a i):∀m,0≤FrontP.CV F a m i
 | 0=>ha
 | m+1=>by have h1:=NM F a i hF ha m;have h2:=hF m;show 0≤FrontP.mn _ _;unfold FrontP.mn;split<;>assumption
theorem Ll(F:FrontP.Fr)(a:Nat→Int)(i:Nat)(hF:∀r,0≤F r i)(ha:0≤a i):∀m,(∃r,r<m∧F r i=0)→FrontP.CV F a m i=0
 | 0,h=>by obtain⟨r,h,_⟩:=h;omega
 | m+1,h=>by
  obtain⟨r,hr,h0⟩:=h;show FrontP.mn (FrontP.CV F a m i) (F m i)=0;by_cases hm:r=m
  ·rw[←hm,h0];exact(Vd _ (NM F a i hF ha _)).1
  ·rw[Ll F a i hF ha m ⟨r,by omega,h0⟩];exact(Vd _ (hF m)).2
theorem bI(me n:Nat)(kp:Nat→Int)(hn:2≤n)(hme:me<n)(hk:∀j,0≤kp j)(i:Nat):FrontP.stable (Oe me kp) n me i=0:=by
 have hp:∀r,0≤Oe me kp r i:=λr=>by
  unfold Oe;split
  ·exact hk i
  ·exact Int.le_refl _
 refine Ll _ _ i hp (hp me) n ?_;by_cases h0:me=0
 ·exact⟨1,by omega,by unfold Oe;rw[if_neg (by omega)]⟩
 ·exact⟨0,by omega,by unfold Oe;rw[if_neg (by omega)]⟩
theorem bH(g n me:Nat)(kp:Nat→Int)(w:World)(h:Au w g 197 n me (Oe me kp))(hn:2≤n)(hme:me<n)(hk:∀j,0≤kp j) :Calls prog 172 #[.pointer (some ⟨g,0,none⟩)] w λe w'=>e=.returned (.agg Bj.toArray)∧Below w.heap.size w w':=by have:=U7 g n me (Oe me kp) w h hme;rw[show FrontP.stable (Oe me kp) n me=(λ_=>0) from funext λi=>bI me n kp hn hme hk i] at this;exact this
theorem jH(g n me:Nat)(kp k2:Nat→Int)(w:World)(h:Au w g 197 n me (Oe me kp))(hme:me<n)(hle:∀j,kp j≤k2 j)(hk:∀j,0≤k2 j∧k2 j≤1000) :Calls prog 69 #[.pointer (some ⟨g,0,none⟩),.int .i64 me,.agg (DF k2).toArray] w λe w'=>e=.returned (.bool true)∧Au w' g 197 n me (Oe me k2)∧Touch g w w':=by
 have hr:FrontP.right k2=true:=by unfold FrontP.right;rw[List.all_eq_true];intro i _;have:=hk i;simp;omega
 have ht:FrontP.takes n (me:Int) k2=true:=by unfold FrontP.takes;simp[hr];omega
 refine Ac (SN g n me (me:Int) (Oe me kp) k2 w h) ?_;rintro w' ⟨hf,hto⟩;rw[ht];refine⟨rfl,?_,hto⟩;have:FrontP.heard (Oe me kp) n (me:Int) k2=Oe me k2:=by
  unfold FrontP.heard;rw[ht,if_pos rfl,Int.toNat_natCast]
  funext q i
  unfold FrontP.hear FrontP.G5 Oe;have h1:=hle i;by_cases hc:q=me∧i<7
  ·rw[if_pos hc,if_pos hc,if_pos hc];unfold FrontP.mx;split<;>omega
  ·rw[if_neg hc,if_neg hc,if_neg hc]
 rw[this] at hf;exact hf
theorem Xa(g n me gd gw gc gl gm nl gi gfr:Nat)(L:List Ad)(leads recs cout:Value)(P:Value)(o:Nat→Ow)(pv:Nat→Value)(d kp:Nat→Int)(since tk:Int)(waits out ans:Value)(w:World) (nd:Holds w g 102 (A7 n me gd gw gc gfr P o pv d kp since tk waits out ans)) (h:Holds w gc 163 (Az n me gl gi leads recs cout)) (hl:Ap w gl gm nl L) (hf:Au w gfr 197 n me (Oe me kp)) (hn2:2≤n) (hme:me<n) (hk:∀j,0≤kp j) :Calls prog 95 #[.pointer (some ⟨g,0,none⟩)] w λe w'=>e=.returned (.tuple #[])∧Below w.heap.size w w':=by
 have KS:=qh (λW (h:Au W gfr 197 n me (Oe me kp))=>bH gfr n me kp W h hn2 hme hk);have KC:=qh (λW (h:Holds W gc 163 (Az n me gl gi leads recs cout)) hl=>YO gc n me gl gm nl gi L leads recs cout W h hl);have HN:=qh nd;have HC:=qh h;have HL:=qh hl;have HF:=qh hf.h;have HB:=qh (Base.start w);have hn7:=hf.n7;clear nd h hl hf hk;go_in;go_upto_region 0 with(fail);refine' DN [⟨10,12,2,15,41,Bj,Bj⟩,⟨11,13,3,20,41,Bj,Bj⟩] (by kernel_rfl) (by kernel_rfl) (by kernel_rfl) ?z11 ?z21 ?bd1 _ ?h1 ?val1 ?fin1;case z11=>
  intro x hx;simp only[List.mem_cons,List.not_mem_nil,or_false] at hx;rcases hx with rfl|rfl
  ·exact⟨.agg (Bj:List Value).toArray,by kernel_rfl,rfl⟩
  ·exact⟨.agg (Bj:List Value).toArray,by kernel_rfl,rfl⟩
 case z21=>
  intro x hx;simp only[List.mem_cons,List.not_mem_nil,or_false] at hx;rcases hx with rfl|rfl
  ·exact⟨by kernel_rfl,rfl,Ih⟩
  ·exact⟨by kernel_rfl,rfl,Ih⟩
 case bd1=>
  intro x hx;simp only[List.mem_cons,List.not_mem_nil,or_false] at hx;rcases hx with rfl|rfl
  ·simp
  ·simp
 case h1=>
  intro W0 hW0;obtain⟨HN,HC,HL,HF,HB⟩:=Fq hW0 HN HC HL HF HB;obtain⟨c0_4,c0_5⟩:=Jo HN.o 4 5;simp only[List.map_cons,List.map_nil,A8];repeat go_big_quiet_step (first|(go_at_call 172;with_reducible exact AL λW2 h2=>KS.o W2 (Au.mk (HF.o.bel h2) hn7))|(go_at_call 173;with_reducible exact AL λW2 h2=>KC.o W2 (HC.o.bel h2) (HL.o.bel h2)))
  refine wpQuiet_nil ?_;intro w' _;exact rfl
 case val1=>
  intro x hx;simp only[List.mem_cons,List.not_mem_nil,or_false] at hx;rcases hx with rfl|rfl
  ·rfl
  ·rfl
 intro β w4 hb hx hne;have hx2:=hx _ List.mem_cons_self;have hx3:=hx _ (List.mem_cons_of_mem _ List.mem_cons_self);clear hx hne;simp only[] at hx2 hx3;simp only[Dk,List.foldl,Act.put,List.setIfInBounds_toArray,List.set_cons_zero,List.set_cons_succ];obtain⟨HN,HC,HL,HF,HB⟩:=Fq hb HN HC HL HF HB;generalize β 2=g2 at hx2 ⊢;have H2:=qh hx2.2;have hge2:=hx2.1;clear hx2;generalize β 3=g3 at hx3 ⊢;have H3:=qh hx3.2;have hge3:=hx3.1;clear hx3;clear hb;clear HN HC HL HF;go_wp2_with fail;go_loopw [21,4] (λvi v4 wr=>∃i:Nat,vi=.int .i64 (i:Int)∧i≤7∧v4=.int .i64 0∧Below w4.heap.size w4 wr) (λvi _ _=>7 - (intOf vi).toNat);case atStart=>exact⟨0,rfl,by omega,rfl,Below.refl _ _⟩
 case round=>
  obtain⟨i,rfl,hi,rfl,hb⟩:=hrel;have HX2:=qh (H2.bel hb);have HX3:=qh (H3.bel hb);have HB2:=qh (HB.bel hb);have HBB:=qh hb;clear hb;by_cases h7:i=7
  ·subst h7;go_wp2_with fail;exact bQ ⟨rfl,HB2.below⟩
  ·have hi7:(i:Int)<7:=by omega
   go_upto_region 5 with(fail);have a2:=HX2.cell i;have a3:=HX3.cell i;rw[Tt i (by omega)] at a2 a3;go_quiet (fail);have HB2:=ET (BV _ wr nq) HB2;have hb4:Below w4.heap.size w4 (wr.drewN nq):=HBB.trans ((BV _ _ nq).mono HBB.size);go_wp2_with fail;go_roundw;case rel=>exact⟨i+1,by simp,by omega,rfl,hb4⟩
   case measure=>simp[intOf];omega
theorem SV(k:Nat)(s:Int):∀u∈([.int .i64 ((k:Int)+1),.int .i64 s]:List Value),u.oneCell'=true:=by simp[Value.oneCell']
theorem Rf(g n me gd gw gc gfr:Nat)(P:Value)(o:Nat→Ow)(pv:Nat→Value)(d kp:Nat→Int)(since tk:Int)(W0 out ans:Value)(ob0 pb:Option Nat)(k:Nat)(hk:k<8)(s:Int)(w:World) (nd:Holds w g 102 (A7 n me gd gw gc gfr P o pv d kp since tk W0 out ans)) (hw:AO w W0 ob0 37 2 1 [.int .i64 ((k:Int)+1),.int .i64 s]) (hP:AV w (pv k) pb (o k).rep.ps) (hsq:(o k).seq<s) :Calls prog 92 #[.pointer (some ⟨g,0,none⟩)] w λe w'=>e=.returned (.tuple #[])∧∃W1 ob1,Holds w' g 102 (A7 n me gd gw gc gfr P o pv d kp since tk W1 out ans)∧AO w' W1 ob1 37 2 1 [.int .i64 ((k:Int)+1),.int .i64 s]∧(∀k,ob1=some k→w.heap.size≤k)∧Touch g w w':=by
 obtain⟨gs,cs,rs,rfl,rfl,hcs1,hcs2,hgs,_⟩:=hw.blk (Nat.zero_lt_one);have HN:=qh nd;have HS:=qh hgs;have hgl:=nd.lt;have hwk:IntKind.i64.wrap ((k:Int)+1-1)=(k:Int):=by rw[show (k:Int)+1-1=k by omega];exact IntWalk.i64_in _ (by omega)
 have hk0:(0:Int)≤(k:Int):=by omega
 have hk8:(k:Int)<8:=by omega
 obtain⟨X,hX⟩:∃X,o k=X:=⟨_,rfl⟩;rw[hX] at hsq hP;obtain⟨sq,⟨ry,rf,rv,rn,rl⟩⟩:=X;obtain⟨pp,pn,pc,hpv⟩:=hP.Bq;have HPB:=qh (hpv▸hP);have HOK:=qh hX;have HPV:=qh hpv;simp only at hsq;clear hX hpv hP nd hw hgs;go_in;have n71:=Ag HN.o 71;go_wp2_with fail;have hs1:(sq==s)=false:=by simp;omega
 have hs2:¬sq=s:=by omega
 go_loopw [12,2] (λvi v2 wr=>(vi=.int .i64 0∧v2=.slice none 0 0∧w=wr)∨(vi=.int .i64 1∧∃ob1,AO wr v2 ob1 37 2 1 [.int .i64 ((k:Int)+1),.int .i64 s]∧(∀k,ob1=some k→w.heap.size≤k)∧Below w.heap.size w wr)) (λvi _ _=>1 - (intOf vi).toNat);case atStart=>exact .inl ⟨rfl,rfl,rfl⟩
 case round=>
  rcases hrel with⟨rfl,rfl,rfl⟩|⟨rfl,ob1,ho,hob,hb⟩
  ·have s0:=HS.cell 0;have s1:=HS.cell 1;simp only[List.cons_append,yA,yB] at s0 s1;have HB1:=qh (Base.start w);go_upto_region 4 with(first|(refine sW [.int .i64 ((k:Int)+1),.int .i64 s] (AA w _ _) ?_;intro w2 hh2 ht2));have hal:Below w.heap.size w w2:=Below.trans ((Below.refl _ _).alloc (Nat.le_refl _) _) (ht2.below (Nat.le_refl _) (by simp));have HI:=qh hh2;obtain⟨HN,HB1,HPB⟩:=Du hal HN HB1 HPB;clear hal hh2 ht2 s0 s1 HS n71;generalize hgp:w.heap.size=gp at HI HB1 ⊢;have hone:(Gl ⟨sq,⟨ry,rf,rv,rn,rl⟩⟩ (.slice pp pn pc)).toArray.all (·.oneCell')=true:=by simp[Gl,BF,Value.oneCell']
   refine' DN [⟨9,10,5,24,63,Gl Ow.zero (.slice none 0 0),Gl ⟨sq,⟨ry,rf,rv,rn,rl⟩⟩ (.slice pp pn pc)⟩] (by kernel_rfl) (by kernel_rfl) (by kernel_rfl) ?z12 ?z22 ?bd2 _ ?h2 ?val2 ?fin2;case z12=>
    intro x hx;simp only[List.mem_cons,List.not_mem_nil,or_false] at hx;subst hx
    ·exact⟨.agg (Gl Ow.zero (.slice none 0 0):List Value).toArray,by kernel_rfl,rfl⟩
   case z22=>
    intro x hx;simp only[List.mem_cons,List.not_mem_nil,or_false] at hx;subst hx
    ·exact⟨by kernel_rfl,rfl,hone⟩
   case bd2=>
    intro x hx;simp only[List.mem_cons,List.not_mem_nil,or_false] at hx;subst hx
    ·simp
   case h2=>
    intro W0 hW0;obtain⟨HN,HI,HB1,HPB⟩:=Dy hW0 HN HI HB1 HPB;obtain⟨c0_0,c0_1⟩:=Jo HI.o 0 1;have HR5:=qh (BB (cs:=Gl ⟨sq,⟨ry,rf,rv,rn,rl⟩⟩ (.slice pp pn pc)) HN.o (7+k*6) (by have:=Oz n me gd gw gc gfr P o pv d kp since tk (.slice (some ⟨gs,0,none⟩) 1 cs) out ans k hk;rw[HOK.o,HPV.o] at this;exact this));simp only[List.map_cons,List.map_nil,A8];repeat(first
  | (with_reducible refine qR (7+k*6) HR5.o ?_;simp only[Act.put,List.setIfInBounds_toArray,List.set_cons_succ,List.set_cons_zero])
  | go_big_quiet_step (first
     | fail))
    refine wpQuiet_nil ?_;intro w' _;exact rfl
   case val2=>
    intro x hx;simp only[List.mem_cons,List.not_mem_nil,or_false] at hx;subst hx
    ·rfl
   intro β w4 hb hx hne;have hx5:=hx _ List.mem_cons_self;clear hx hne;simp only[] at hx5;simp only[Dk,List.foldl,Act.put,List.setIfInBounds_toArray,List.set_cons_zero,List.set_cons_succ];obtain⟨HN,HI,HB1,HPB⟩:=Dy hb HN HI HB1 HPB;generalize β 5=g5 at hx5 ⊢;have H5:=qh hx5.2;have hge5:=hx5.1;clear hx5;clear hb;clear hwk hk0 hk8;clear HN;obtain⟨i0,i1⟩:=CU HI.o 0 1;have y0:=Ag H5.o 0;go_wp2_with (first|(refine F8 rfl 99 37 (.agg #[.int .i64 ((k:Int)+1),.int .i64 s]) [.int .i64 ((k:Int)+1),.int .i64 s] rfl rfl rfl (λw=>by kernel_rfl) ?_;intro wa hna hba;have HNA:=qh hna;have HBA:=qh (HB1.bel hba);clear hna hba)|(at_builtin;refine aS (.agg #[.int .i64 0,.int .i64 0]) 2 16 (AO.nil _ _ _) [.int .i64 ((k:Int)+1),.int .i64 s] (HNA.reads 0 _ (λj v hv=>by rw[Nat.zero_add];exact hv)) ?_ (SV _ _);intro v5 ob5 w5 ho5 hob5 hm5;have HO5:=qh (show AO w5 v5 ob5 37 2 1 [.int .i64 ((k:Int)+1),.int .i64 s] from ho5);have HB5:=qh (HBA.mv hm5 (λk hk=>by cases hk));have hs5:=HBA.le;have hob6:∀k,ob5=some k→gp≤k:=(λk hk=>by rcases hob5 with h|⟨k2,h,h2⟩<;>rw[h] at hk<;>cases hk;omega);clear ho5 hob5 hm5));go_roundw;case rel=>exact .inr ⟨by simp,ob5,HO5.o,λk hk=>hgp▸hob6 k hk,hgp▸HB5.below⟩
   case measure=>simp[intOf]
  ·have HO:=qh ho;have HB:=qh hb;have HN2:=qh (HN.bel hb);clear ho hb HN n71 HS hwk hk0 hk8 hs1 hs2;go_wp2_with (first|(refine sC 71 HN2.o _ ?_ (hu:=HO.c1) (h1:=HO.c2);intro w7 hh7 ht7));exact bE ⟨rfl,_,ob1,hh7,HO.touch ht7 (λk hk=>by have:=hob k hk;omega),hob,(Touch.bel (Touch.refl g w) HB.o).trans ht7⟩
def jv:List Value:=[.int .i64 0,.int .i64 0,.int .i64 0,.bool false,.string ⟨#[]⟩,.int .i64 0,.slice none 0 0]
theorem Pn{B g:Nat}{w W:World}(h:Base B w W)(hb:w.heap.size=B):Touch g w W:=by subst hb;exact Touch.bel (Touch.refl g w) h.below
def MH(k:Nat)(s:Int)(r:Rep)(v:Value):List Value:=.int .i64 ((k:Int)+1) :: .int .i64 s :: BF r v
theorem RY(k:Nat)(s:Int)(r:Rep){v:Value}(h:Bq v):∀u∈MH k s r v,u.oneCell'=true:=by obtain⟨p,n,c,rfl⟩:=h;simp[MH,BF,Value.oneCell']
theorem RZ(g n me gd gw gc gfr:Nat)(P:Value)(o:Nat→Ow)(pv:Nat→Value)(d kp:Nat→Int)(since tk:Int)(W0 out:Value)(ob0 pb:Option Nat)(k:Nat)(hk:k<8)(s:Int)(w:World) (nd:Holds w g 102 (A7 n me gd gw gc gfr P o pv d kp since tk W0 out (.slice none 0 0))) (hw:AO w W0 ob0 37 2 1 [.int .i64 ((k:Int)+1),.int .i64 s]) (hP:AV w (pv k) pb (o k).rep.ps) (hsq:(o k).seq=s) (hln:(o k).rep.ps.length≤1000) :Calls prog 92 #[.pointer (some ⟨g,0,none⟩)] w λe w'=>e=.returned (.tuple #[])∧∃ans ob1 v obv,Holds w' g 102 (A7 n me gd gw gc gfr P o pv d kp since tk (.slice none 0 0) out ans)∧AO w' ans ob1 121 7 1 (MH k s (o k).rep v)∧AV w' v obv (o k).rep.ps∧(∀k,ob1=some k→w.heap.size≤k)∧(∀k,obv=some k→w.heap.size≤k)∧Touch g w w':=by
 obtain⟨gs,cs,rs,rfl,rfl,hcs1,hcs2,hgs,_⟩:=hw.blk (Nat.zero_lt_one);have HN:=qh nd;have HS:=qh hgs;have hgl:=nd.lt;have hwk:IntKind.i64.wrap ((k:Int)+1-1)=(k:Int):=by rw[show (k:Int)+1-1=k by omega];exact IntWalk.i64_in _ (by omega)
 have hk0:(0:Int)≤(k:Int):=by omega
 have hk8:(k:Int)<8:=by omega
 obtain⟨X,hX⟩:∃X,o k=X:=⟨_,rfl⟩;rw[hX] at hsq hP hln ⊢;obtain⟨sq,⟨ry,rf,rv,rn,rl⟩⟩:=X;obtain⟨pp,pn,pc,hpv⟩:=hP.Bq;have HPB:=qh (hpv▸hP);have HOK:=qh hX;have HPV:=qh hpv;simp only at hsq hln ⊢;subst hsq;have KP:=qh (λW (h:AV W (.slice pp pn pc) pb rl)=>E9 (.slice pp pn pc) pb rl W h hln);clear hln;clear hX hpv hP nd hw hgs;go_in;have n71:=Ag HN.o 71;go_wp2_with fail;have hs1:(sq==sq)=true:=by simp
 go_loopw [12,2] (λvi v2 wr=>(vi=.int .i64 0∧v2=.slice none 0 0∧w=wr)∨(vi=.int .i64 1∧v2=.slice none 0 0∧∃ans ob1 v obv,Holds wr g 102 (A7 n me gd gw gc gfr P o pv d kp since tk (.slice (some ⟨gs,0,none⟩) 1 cs) out ans)∧AO wr ans ob1 121 7 1 (MH k sq ⟨ry,rf,rv,rn,rl⟩ v)∧AV wr v obv rl∧(∀k,ob1=some k→w.heap.size≤k)∧(∀k,obv=some k→w.heap.size≤k)∧Touch g w wr)) (λvi _ _=>1 - (intOf vi).toNat);case atStart=>exact .inl ⟨rfl,rfl,rfl⟩
 case round=>
  rcases hrel with⟨rfl,rfl,rfl⟩|⟨rfl,rfl,ans,ob1,v,obv,hn,ho,hpv,hob,hobv,ht⟩
  ·have s0:=HS.cell 0;have s1:=HS.cell 1;simp only[List.cons_append,yA,yB] at s0 s1;have HB1:=qh (Base.start w);go_upto_region 4 with(first|(refine sW [.int .i64 ((k:Int)+1),.int .i64 sq] (AA w _ _) ?_;intro w2 hh2 ht2));have hal:Below w.heap.size w w2:=Below.trans ((Below.refl _ _).alloc (Nat.le_refl _) _) (ht2.below (Nat.le_refl _) (by simp));have HI:=qh hh2;obtain⟨HN,HB1,HPB⟩:=Du hal HN HB1 HPB;clear hal hh2 ht2 s0 s1 HS n71;generalize hgp:w.heap.size=gp at HI HB1 ⊢;have hone:(Gl ⟨sq,⟨ry,rf,rv,rn,rl⟩⟩ (.slice pp pn pc)).toArray.all (·.oneCell')=true:=by simp[Gl,BF,Value.oneCell']
   refine' DN [⟨9,10,5,24,63,Gl Ow.zero (.slice none 0 0),Gl ⟨sq,⟨ry,rf,rv,rn,rl⟩⟩ (.slice pp pn pc)⟩] (by kernel_rfl) (by kernel_rfl) (by kernel_rfl) ?z13 ?z23 ?bd3 _ ?h3 ?val3 ?fin3;case z13=>
    intro x hx;simp only[List.mem_cons,List.not_mem_nil,or_false] at hx;subst hx
    ·exact⟨.agg (Gl Ow.zero (.slice none 0 0):List Value).toArray,by kernel_rfl,rfl⟩
   case z23=>
    intro x hx;simp only[List.mem_cons,List.not_mem_nil,or_false] at hx;subst hx
    ·exact⟨by kernel_rfl,rfl,hone⟩
   case bd3=>
    intro x hx;simp only[List.mem_cons,List.not_mem_nil,or_false] at hx;subst hx
    ·simp
   case h3=>
    intro W0 hW0;obtain⟨HN,HI,HB1,HPB⟩:=Dy hW0 HN HI HB1 HPB;obtain⟨c0_0,c0_1⟩:=Jo HI.o 0 1;have HR5:=qh (BB (cs:=Gl ⟨sq,⟨ry,rf,rv,rn,rl⟩⟩ (.slice pp pn pc)) HN.o (7+k*6) (by have:=Oz n me gd gw gc gfr P o pv d kp since tk (.slice (some ⟨gs,0,none⟩) 1 cs) out (.slice none 0 0) k hk;rw[HOK.o,HPV.o] at this;exact this));simp only[List.map_cons,List.map_nil,A8];repeat(first
  | (with_reducible refine qR (7+k*6) HR5.o ?_;simp only[Act.put,List.setIfInBounds_toArray,List.set_cons_succ,List.set_cons_zero])
  | go_big_quiet_step (first
     | fail))
    refine wpQuiet_nil ?_;intro w' _;exact rfl
   case val3=>
    intro x hx;simp only[List.mem_cons,List.not_mem_nil,or_false] at hx;subst hx
    ·rfl
   intro β w4 hb hx hne;have hx5:=hx _ List.mem_cons_self;clear hx hne;simp only[] at hx5;simp only[Dk,List.foldl,Act.put,List.setIfInBounds_toArray,List.set_cons_zero,List.set_cons_succ];obtain⟨HN,HI,HB1,HPB⟩:=Dy hb HN HI HB1 HPB;generalize β 5=g5 at hx5 ⊢;have H5:=qh hx5.2;have hge5:=hx5.1;clear hx5;clear hb;clear hwk hk0 hk8;obtain⟨i0,i1⟩:=CU HI.o 0 1;obtain⟨y0,y1,y2,y3,y4,y5⟩:=kU H5.o 0 1 2 3 4 5;have hRone:(BF ⟨ry,rf,rv,rn,rl⟩ (.slice pp pn pc)).toArray.all (·.oneCell')=true:=by simp[BF,Value.oneCell']
   go_upto_region 7 with(first|(refine sW (BF ⟨ry,rf,rv,rn,rl⟩ (.slice pp pn pc)) (AA w4 _ _) ?_ hRone;intro w5 hh5 ht5));have hal5:Below w4.heap.size w4 w5:=Below.trans ((Below.refl _ _).alloc (Nat.le_refl _) _) (ht5.below (Nat.le_refl _) (by simp));have HR:=qh hh5;have hgr:gp≤w4.heap.size:=HB1.le;obtain⟨HN,HI,HB1,HPB⟩:=Dy hal5 HN HI HB1 HPB;clear hal5 hh5 ht5 i0 i1 y0 y1 y2 y3 y4 y5 H5 hRone;generalize hgr0:w4.heap.size=gr at HR hgr ⊢;have r4:=Ag HR.o 4;go_wp2_with fail;refine(KP.o _ HPB.o).mono ?_;rintro e w6 ⟨v2,ob2,rfl,ho2,hob2,hb6⟩;have hge6:=HB1.le;have hobv:∀k,ob2=some k→gp≤k:=λk hk=>Nat.le_trans hge6 (hob2 k hk);have hob6:∀k,ob2=some k→k≠gr:=AO.ne_of ho2 (HR.bel hb6) (by decide);obtain⟨p2,n2,c2,rfl⟩:=ho2.Bq;have HPC:=qh ho2;obtain⟨HN,HI,HB1,HR⟩:=Dy hb6 HN HI HB1 HR;clear hb6 r4 HPB ho2 hob2;have hgne:gr≠g∧gr≠gp:=⟨by omega,HR.ne_of HI.o (by decide)⟩;go_upto_region 8 with(first|(refine sC 4 HR.o (.slice p2 n2 c2) ?_;intro w7 hh7 ht7));have HR:=qh (show Holds w7 gr 53 (BF ⟨ry,rf,rv,rn,rl⟩ (.slice p2 n2 c2)) from hh7);have HN:=qh (HN.touch ht7 hgne.1.symm);have HI:=qh (HI.touch ht7 hgne.2.symm);have HPC:=qh (AO.touch HPC.o ht7 hob6);have HPC:=qh (show AV w7 (.slice p2 n2 c2) ob2 rl from HPC.o);have HB1:=qh (HB1.touch ht7 hgr);clear hh7 ht7;obtain⟨HN,HI,HB1,HR,HPC⟩:=Fq (AQ _ w7) HN HI HB1 HR HPC;refine EQ [12,15] 16 (λhSn=>?_);generalize w7.drew=wd at HN HI HB1 HR HPC hSn ⊢;simp only[List.replicate];refine Jr 0 ?_;refine BG 4 [12,13,14,15] (λw hSw=>Ag (HN.bel hSw) 73) ?_;refine CS 5 ?_;refine BG 6 [10,11,12,13,14,15] (λw hSw=>Ag (HI.bel hSw) 0) ?_;refine CS 7 ?_;refine BG 8 [10,11,12,13,14,15] (λw hSw=>Ag (HI.bel hSw) 1) ?_;refine BG 9 [10,11,12,13,14,15] (λw hSw=>MG (HR.bel hSw) 0 1 2 3 4) ?_;refine CS 10 ?_;refine BH 11 rfl (λK hK=>?_);refine tU 121 (.agg (MH k sq ⟨ry,rf,rv,rn,rl⟩ (.slice p2 n2 c2)).toArray) (MH k sq ⟨ry,rf,rv,rn,rl⟩ (.slice p2 n2 c2)) ?_;intro wa hna hba;have hSn:=AB hSn hba;have HNA:=qh hna;generalize wd.heap.size=gn at HNA ⊢;obtain⟨HN,HB1,HPC⟩:=Du hSn HN HB1 HPC;clear hna hba;change K (Act.put _ (some 48) _) _;refine BN hK ?_;clear hK;refine BH 12 rfl (λK hK=>?_);refine tS (.agg (jv).toArray) 7 80 (AO.nil _ _ _) (MH k sq ⟨ry,rf,rv,rn,rl⟩ (.slice p2 n2 c2)) (HNA.reads 0 _ (λj v hv=>by rw[Nat.zero_add];exact hv)) ?_ (RY k sq _ ⟨p2,n2,c2,rfl⟩);intro v9 ob9 w9 ho9 hob9 hm9;have hgla:gp≤_:=HB1.le;have HO9:=qh (show AO w9 v9 ob9 121 7 1 (MH k sq ⟨ry,rf,rv,rn,rl⟩ (.slice p2 n2 c2)) from ho9);have HN9:=qh (HN.mv hm9 (λh=>(by cases h)));have HB9:=qh (HB1.mv hm9 (λk hk=>by cases hk));have HPC9:=qh (HPC.mv hm9 (λk hk h=>(by cases h)));have hob8:∀k,ob9=some k→gp≤k:=(λk hk=>by rcases hob9 with h|⟨k2,h,h2⟩<;>rw[h] at hk<;>cases hk;omega);clear ho9 hob9 hm9;change K (Act.put _ (some 49) _) _;refine BN hK ?_;clear hK;refine FT 13 ?_ (hS:=IJ);refine BH 15 rfl (λK hK=>?_);refine tC 73 HN9.o v9 ?_ (hu:=HO9.c1) (h1:=HO9.c2);intro w10 hh10 ht10;have HNN:=qh (show Holds w10 g 102 (A7 n me gd gw gc gfr P o pv d kp since tk (.slice (some ⟨gs,0,none⟩) 1 cs) out v9) from hh10);have HOO:=qh (HO9.touch ht10 (λk hk=>by have:=hob8 k hk;omega));have HPD:=qh (show AV w10 (.slice p2 n2 c2) ob2 rl from AO.touch HPC9.o ht10 (λk hk=>by have:=hobv k hk;omega));have HTT:=qh ((Pn HB9.o hgp).trans ht10);clear hh10 ht10;refine BN hK ?_;clear hK;refine Dl ?_;clear hSn HI HB1 HR HN HN9 HO9 HB9 HNA HPC HPC9;go_wp2_with fail;go_roundw;case rel=>exact .inr ⟨by simp,rfl,v9,ob9,_,ob2,HNN.o,HOO.o,HPD.o,λk hk=>hgp▸hob8 k hk,λk hk=>hgp▸hobv k hk,HTT.o⟩
   case measure=>simp[intOf]
  ·have HO:=qh ho;have HN2:=qh hn;have HT:=qh ht;have HPD:=qh hpv;clear ho hn ht HN n71 HS hpv hwk hk0 hk8 hs1;go_wp2_with (first|(refine sC 71 HN2.o (.slice none 0 0) ?_;intro w7 hh7 ht7));exact bE ⟨rfl,ans,ob1,v,obv,hh7,HO.touch ht7 (λk hk=>by have:=hob k hk;omega),AO.touch HPD.o ht7 (λk hk=>by have:=hobv k hk;omega),hob,hobv,HT.trans ht7⟩
end
section
variable [In]
def LX(F:Af)(g n me gd mb gw gc gfr:Nat)(P:Value)(o:Nat→Ow)(pv:Nat→Value)(d:Nat→Int)(tk:Int)(waits out ans:Value)(w w':World):Prop:=
 Holds w' g 102 (A7 n me gd gw gc gfr P o pv d d 0 tk waits out ans)∧D5 w' (grow F w w') gd gw mb∧Au w' gfr 197 n me (Oe me d)∧Mv (λk=>k=g∨k=gfr∨IB w F D7 k) w w'
theorem O0{x:Fl}{p:Option Addr}{B:Nat}(e:x.p=p)(h:∀a,p=some a→B≤a.block):∀g,x.ob=some g→B≤g:=Fl.O0 λa ha=>h a (e▸ha)
theorem keep_any(F:Af)(g n me gd mb gw gc gfr len:Nat)(P:Value)(o:Nat→Ow)(pv:Nat→Value)(d kp:Nat→Int)(since tk:Int)(waits out ans:Value)(v:Value)(W0 w:World) (nd:Holds w g 102 (A7 n me gd gw gc gfr P o pv d kp since tk waits out ans)) (dk:D5 W0 F gd gw mb) (hb0:Below W0.heap.size W0 w) (hv:Aj w W0.heap.size v len) (hlen:len≤16000) (h1:1≤len∨v=.slice none 0 0∧len=0) (hmb:mb≤28000) (hf:Au w gfr 197 n me (Oe me kp)) (hme:me<n) (hle:∀j,kp j≤d j) (hk:∀j,0≤d j∧d j≤1000) :Calls prog 93 #[.pointer (some ⟨g,0,none⟩),v] w λe w'=>e=.returned (.bool true)∧LX F g n me gd mb gw gc gfr P o pv d tk waits out ans w w':=by
 obtain⟨fs,of,im,sg,k,a1,a2,a3,a4,a5,a6,a7,a8⟩:=dk;have hk8:=a2.few (by omega);have hisz:=a2.kG;have hsz:sizes (im++sg)+len≤400000:=by rw[Iu,a2.sum];omega
 have hll:(im++sg).length≤900:=by rw[List.length_append,a2.len];omega
 have hKP:∀p c,_:=λp c=>a2.keep hk8 p len c (by omega);have hn0:=(hKP none 0).choose_spec.choose_spec.2.2.2.2.2;have KA:=qh (λW (h:BD W gd fs of (im++sg)) (hv:Aj W W0.heap.size v len)=>VP gd W0.heap.size fs of (im++sg) Hg v len W h hv ⟨a1.d.lt,λg hg=>AO.lt a1.f g hg⟩ aX hll hsz (by omega) (by rw[hn0];omega) (h1.imp id λ⟨e,_⟩=>⟨e,hn0⟩));have KS:=qh (λi fs of l W (h:BD W gd fs of l) (hi:Am l Hg=(i,true))=>dD gd i fs of l Hg W h hi);have KR:=qh (λi fs of l W (h:BD W gd fs of l) (hi:Am l Hg=(i,true)) (hl:l.length≤900)=>Zt gd i fs of l Hg Nw W h hi aV hl);have KH:=qh (λW (h:Au W gfr 197 n me (Oe me kp))=>jH gfr n me kp d W h hme hle hk);have HKP:=qh hKP;have HD:=qh (a1.bel hb0);have HWL:=qh (a4.bel hb0);have HN:=qh nd;have HV:=qh hv;have HFr:=qh hf.h;have hn7:=hf.n7;have hg1:gd≠g∧gd≠gfr∧gw≠gd∧gfr≠g∧gw≠g∧gw≠gfr:=⟨HD.d.ne_of nd (by decide),HD.d.ne_of hf.h (by decide),HWL.ne_of HD.d (by decide),hf.h.ne_of nd (by decide),HWL.ne_of nd (by decide),HWL.ne_of hf.h (by decide)⟩;have hgo:∀k,of=some k→k≠g∧k≠gfr∧k≠gw:=λk hk=>⟨AO.ne_of HD.f nd (by decide) k hk,AO.ne_of HD.f hf.h (by decide) k hk,AO.ne_of HD.f HWL.o (by decide) k hk⟩;have HM:=qh (Mv.refl (λk=>k=g∨k=gfr∨IB w F D7 k) w);have hFt:∀k,(k=gd∨of=some k)→IB w F D7 k:=λk hk=>by
  rcases hk with rfl|hk
  ·exact⟨a5,_,_,HD.d,by decide⟩
  ·refine⟨a7 k hk,?_⟩;rcases AO.cases HD.f with⟨_,h0,_⟩|⟨g1,_,_,_,h0,_,_,hh,_⟩
   ·rw[h0] at hk;cases hk
   ·rw[h0] at hk;cases hk;exact⟨_,_,hh,by decide⟩
 have hfl:∀x∈im++sg,∀g,x.ob=some g→F g:=a8;obtain⟨pv0,cv0,rfl⟩:=hv.shape;generalize hQ:LX F g n me gd mb gw gc gfr P o pv d tk waits out ans w=Q;have HQ:=qh (show ∀w',LX F g n me gd mb gw gc gfr P o pv d tk waits out ans w w'→Q w' from λw' h=>by rw[←hQ];exact h);clear nd hv hf hQ hKP hn0 hsz hll hisz h1 a1 a4 hle;go_in;have n2:=Ag HN.o 2;go_wp2_with fail;refine Ac (KA.o _ HD.o HV.o) ?_;rintro w1 ⟨fs1,of1,p1,c1,hd1,hof1,hp1,hm1⟩;obtain⟨i1,im1,e1,e2,e3,hL1,hO1,_⟩:=HKP.o p1 c1;have hn1:∀a,p1=some a→w.heap.size≤a.block:=hp1;have hof1':of1=of∨∃g,of1=some g∧w.heap.size≤g:=hof1;have hF1:∀k,of1=some k→IB w F D7 k∨w.heap.size≤k:=λk hk=>by
  rcases hof1' with e|⟨g',e,h⟩
  ·exact .inl (hFt k (.inr (e▸hk)))
  ·rw[e] at hk;cases hk;exact .inr h
 have hng:∀k,(k=gd∨of=some k)→k≠g∧k≠gfr∧k≠gw:=λk hk=>by
  rcases hk with rfl|hk
  ·exact⟨hg1.1,hg1.2.1,hg1.2.2.1.symm⟩
  ·exact hgo k hk
 have HN:=qh (HN.mv hm1 (λh=>(hng _ h).1 rfl));have HFr:=qh (HFr.mv hm1 (λh=>(hng _ h).2.1 rfl));have HWL:=qh (HWL.mv hm1 (λh=>(hng _ h).2.2 rfl));have HM:=qh (HM.mv hm1 (λk hk=>.inl (.inr (.inr (hFt k hk)))));have hgo1:∀k,of1=some k→k≠g∧k≠gfr∧k≠gw:=λk hk=>⟨AO.ne_of hd1.f HN.o (by decide) k hk,AO.ne_of hd1.f HFr.o (by decide) k hk,AO.ne_of hd1.f HWL.o (by decide) k hk⟩;have hl1:(IX (Ew (im++sg) Hg p1 len c1) i1).length≤900:=by
  have h1:=congrArg List.length e3;have h2:=hL1.kG.2;have h3:=hL1.len;rw[List.length_append] at h1;unfold WS Fh at h1;have h4:=(FO (IX (Ew (im++sg) Hg p1 len c1) i1) Hg).2;rw[e2] at h4;have h4:=h4 rfl;simp only at h4;have h5:=(FO ((IX (Ew (im++sg) Hg p1 len c1) i1).take i1++(IX (Ew (im++sg) Hg p1 len c1) i1).drop (i1+1)) Nw).1;split at h1
  ·rw[List.length_set,List.length_append,List.length_take,List.length_drop] at h1;omega
  ·rw[List.length_append,List.length_cons,List.length_take,List.length_drop,List.length_append,List.length_take,List.length_drop] at h1;rw[List.length_append,List.length_take,List.length_drop] at h5;omega
 have HE1:=qh e1;have HE2:=qh e2;have HE3:=qh e3;have HL1:=qh hL1;have HO1:=qh hO1;have HD:=qh hd1;clear e1 e2 e3 hL1 hO1 hd1 hm1 n2 HV hof1 hp1 HKP;generalize Ew (im++sg) Hg p1 len c1=l1 at HE1 HE2 HE3 HD hl1;have n2:=Ag HN.o 2;go_wp2_with fail;refine Ac (KS.o i1 fs1 of1 l1 _ HD.o HE1.o) ?_;rintro w2 ⟨hd2,hm2⟩;have HN:=qh (HN.mv hm2 (λh=>(hgo1 _ h).1 rfl));have HFr:=qh (HFr.mv hm2 (λh=>(hgo1 _ h).2.1 rfl));have HWL:=qh (HWL.mv hm2 (λh=>(hgo1 _ h).2.2 rfl));have HM:=qh (HM.mv hm2 (λk hk=>(hF1 k hk).imp (λh=>.inr (.inr h)) id));have HD:=qh hd2;clear hd2 hm2 n2 HE1;generalize IX l1 i1=l2 at HE2 HE3 HD hl1;have n2:=Ag HN.o 2;go_wp2_with fail;refine Ac (KR.o i1 fs1 of1 l2 _ HD.o HE2.o hl1) ?_;rintro w3 ⟨fs3,of3,hd3,hof3,hm3⟩;rw[HE3.o] at hd3;have hs2:=HM.size;have hng1:∀k,(k=gd∨of1=some k)→(k≠g∧k≠gfr∧k≠gw)∧(IB w F D7 k∨w.heap.size≤k):=λk hk=>by
  rcases hk with rfl|hk
  ·exact⟨⟨hg1.1,hg1.2.1,hg1.2.2.1.symm⟩,.inl (hFt _ (.inl rfl))⟩
  ·exact⟨hgo1 k hk,hF1 k hk⟩
 have HN:=qh (HN.mv hm3 (λh=>(hng1 _ h).1.1 rfl));have HFr:=qh (HFr.mv hm3 (λh=>(hng1 _ h).1.2.1 rfl));have HWL:=qh (HWL.mv hm3 (λh=>(hng1 _ h).1.2.2 rfl));have HM:=qh (HM.mv hm3 (λk hk=>(hng1 k hk).2.imp (λh=>.inr (.inr h)) id));have HD:=qh (show D5 w3 (grow F w w3) gd gw mb from⟨fs3,of3,im1,sg,k,hd3,HL1.o,a3,HWL.o,.inl a5,.inl a6,λg hg=>by
  have hlt:=AO.lt hd3.f g hg;rcases hof3 with e|⟨g',e,h⟩
  ·rw[e] at hg;rcases hof1' with e2|⟨g',e2,h⟩
   ·exact .inl (a7 g (e2▸hg))
   ·rw[e2] at hg;cases hg;exact .inr ⟨h,hlt⟩
  ·rw[e] at hg;cases hg;exact .inr ⟨Nat.le_trans hs2 h,hlt⟩,λx hx g hg=>by
  have hlt:=(hd3.b x hx).lt g hg;rcases HO1.o x hx with⟨y,hy,e⟩|e
  ·exact .inl (a8 y hy g (e▸hg))
  ·exact .inr ⟨O0 e hn1 g hg,hlt⟩⟩)
 clear hd3 hof3 hm3 n2 HE2 HE3 HL1 HO1 hng hng1 HWL KA KS KR;have HDR:=qh (show w3.rangeAt g 55 (DF d) from HN.Ci 55 (Oy n me gd gw gc gfr P o pv d kp since tk waits out ans));have hAw:∀k,k=g→Dx w3 (grow F w w3) GX k:=λk hk=>hk▸.inl (.inr ⟨_,_,HN.o,by decide⟩);go_upto_region 5 with(first|(refine lM 55 HDR.o ?_)|(refine sS 62 HN.o (DF d) ?_ (by simp[DF,Value.oneCell']);intro w4 hh4 ht4;have HN4:=qh (show Holds w4 g 102 (A7 n me gd gw gc gfr P o pv d d since tk waits out ans) from(Uu n me gd gw gc gfr P o pv d kp since tk waits out ans d)▸hh4);have HT4:=qh ht4;clear hh4 ht4)|(refine sC 69 HN4.o (.int .i64 0) ?_;intro w5 hh5 ht5;have HN5:=qh (show Holds w5 g 102 (A7 n me gd gw gc gfr P o pv d d 0 tk waits out ans) from hh5);have HT5:=qh ht5;clear hh5 ht5));have HT:=qh (HT4.trans HT5.o);have hm5:Mv (λk=>k=g) w3 w5:=Mv.AU HT.o rfl;have HFr:=qh (HFr.mv hm5 hg1.2.2.2.1);have HD:=qh (HD.away hm5 (λk hk _=>hAw k hk) (λ_ h=>h));have HM:=qh (HM.mv hm5 (λk hk=>.inl (.inl hk)));have hs35:=hm5.size;have HN:=HN5;clear hm5 HT HT4 HT5 HN4 HN5 HDR hAw;have HSZ:=qh (show w3.heap.size≤w5.drew.heap.size from hs35);have HKR:=qh (λ(w':World) (h:Below w5.drew.heap.size w5.drew w')=>(((HN.bel (AQ _ w5)).bel h).Ci 62 (Y0 n me gd gw gc gfr P o pv d d 0 tk waits out ans)));obtain⟨HN,HFr,HD,HM⟩:=Dy (AQ _ w5) HN HFr HD HM;refine EQ [12] 13 (λhSn=>?_);generalize w5.drew=wd at HN HFr HD HM HKR HSZ hSn ⊢;simp only[List.replicate];refine Dz 0 ?_;refine BG 3 [12] (λw hSw=>Ag (HN.bel hSw) 5) ?_;refine Dz 4 ?_;refine BG 7 [12] (λw hSw=>Ag (HN.bel hSw) 1) ?_;refine Dz 8 ?_;refine He 11 [12] (some 51) (.agg (DF d).toArray) rfl (yieldsIf_load_mid (by rfl) 41 _ rfl g 62 rfl (DF d) _ (λw hSw=>HKR.o w hSw) underlying41 rfl (by as_aux_lemma=>kernel_rfl)) hSn ?rg12;simp only[Act.put,zA,zB,zC];refine BH 12 rfl (λK hK=>?_);go_simp;refine Ac (KH.o _ (Au.mk (HFr.bel hSn) hn7)) ?_;rintro w7 ⟨hfr7,ht7⟩;have hm7:Mv (λk=>k=gfr) _ w7:=Mv.AU ht7 rfl;have HSZ:=qh (show w3.heap.size≤w7.heap.size by have:=HSZ.o;have:=hSn.size;have:=hm7.size;omega);have HFR:=qh hfr7;have HNN:=qh ((HN.bel hSn).mv hm7 hg1.2.2.2.1.symm);have HDD:=qh ((HD.bel hSn).away hm7 (λk hk _=>by subst hk;exact .inl (.inr ⟨_,_,HFr.bel hSn,by decide⟩)) (λ_ h=>h));have HMM:=qh ((HM.bel hSn).mv hm7 (λk hk=>.inl (.inr (.inl hk))));clear hfr7 ht7 hm7;refine BN hK ?_;clear hK;refine Dl ?_;clear hSn HN HFr HD HM;go_wp2_with fail;go_ret;exact⟨rfl,HQ.o _ ⟨HNN.o,HDD.foot (λk hk _=>hk.imp id λ⟨a,b⟩=>⟨a,by have:=HSZ.o;omega⟩),HFR.o,HMM.o⟩⟩
end
end Go.Proofs.YtimdpiifpibgfaaGreatDoor
