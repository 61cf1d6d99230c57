/- A part of the proof that the law TopCopies returns true for every input. -/
import Derived.Test.YtimdpiifpibgfaaGreatDoorQc18
import Derived.Test.YtimdpiifpibgfaaGreatDoorQc15
import Derived.Test.YtimdpiifpibgfaaGreatDoorQc10
set_option linter.all false
set_option maxRecDepth 20000
set_option maxHeartbeats 16000000
open Go.RowKit Go.Maps
namespace Go.Proofs.YtimdpiifpibgfaaGreatDoor
open Tryz
theorem Wv(n:Nat)(w:World)(hn:n≤1):Calls prog 185 #[.int .u64 n] w λe w'=>(∃k:Int,e=.returned (.int .i64 k))∧Below w.heap.size w w':=by
 have:n=0∨n=1:=by omega
 rcases this with rfl|rfl;all_goals
  go_in;go_wp2_with fail;go_ret;exact⟨⟨_,rfl⟩,by go_grown⟩
theorem aN(n:Nat)(w:World)(hn:n≤1):Calls prog 218 #[.int .u64 n] w λe w'=>(∃k:Int,e=.returned (.int .i64 k))∧Below w.heap.size w w':=by have K:=qh (λW=>Wv n W hn);go_in;go_wp2_with fail;refine(K.out _).mono ?_;rintro e w1 ⟨⟨k,rfl⟩,hb⟩;go_wp2_with fail;go_ret;exact⟨⟨_,rfl⟩,hb⟩
theorem Uh(p:Option Addr)(n c:Nat)(fv:Value)(w:World)(hn:n≤1):Calls prog 262 #[.slice p n c,.int .i64 0,.int .i64 n,fv] w λe w'=>e=.returned (.tuple #[])∧Below w.heap.size w w':=by
 have hn2:¬(1:Int)<n:=by omega
 go_in;go_wp2_with fail;go_loopw [8] (λvi wr=>vi=.int .i64 1∧Below w.heap.size w wr) (λ_ _=>0);case atStart=>exact⟨rfl,Below.refl _ _⟩
 case round=>obtain⟨rfl,hb⟩:=hrel;have HB:=qh hb;clear hb;go_wp2_with fail;refine bE ⟨rfl,HB.o⟩
theorem ai(p:Option Addr)(n c:Nat)(lim:Int)(fv:Value)(w:World)(hn:n≤1):Calls prog 217 #[.slice p n c,.int .i64 0,.int .i64 n,.int .i64 lim,fv] w λe w'=>e=.returned (.tuple #[])∧Below w.heap.size w w':=by
 have K:=qh (λW=>Uh p n c fv W hn);have hn2:(n:Int)≤12:=by omega
 have hw:IntKind.i64.wrap ((n:Int) - 0)=n:=by rw[Int.sub_zero];exact IntWalk.i64_in _ (by omega)
 go_in;go_wp2_with fail;go_loopw [1,2,3,10,11] (λva vb vl v1 v2 wr=>va=.int .i64 0∧vb=.int .i64 n∧vl=.int .i64 lim∧v1=.bool true∧v2=.bool true∧Below w.heap.size w wr) (λ_ _ _ _ _ _=>0);case atStart=>exact⟨rfl,rfl,rfl,rfl,rfl,Below.refl _ _⟩
 case round=>obtain⟨rfl,rfl,rfl,rfl,rfl,hb⟩:=hrel;have HB:=qh hb;clear hb;go_wp2_with fail;refine Ac (K.out _) ?_;rintro w1 hb;have HB:=qh (AB HB.o hb);clear hb;go_wp2_with fail;exact bQ ⟨rfl,HB.o⟩
theorem MB(p:Option Addr)(n c:Nat)(fv:Value)(w:World)(hn:n≤1):Calls prog 149 #[.slice p n c,fv] w λe w'=>e=.returned (.tuple #[])∧Below w.heap.size w w':=by
 have K:=qh (λlim W=>ai p n c lim fv W hn);have KL:=qh (λW=>aN n W hn);have hw:(n:Int) % 18446744073709551616=n:=by omega
 go_in;go_wp2_with fail;refine(KL.o _).mono ?_;rintro e w1 ⟨⟨k,rfl⟩,hb⟩;have HB:=qh hb;clear hb;go_wp2_with fail;refine Ac (K.out _ _) ?_;rintro w2 hb;have HB:=qh (AB HB.o hb);clear hb;go_wp2_with fail;exact bE ⟨rfl,HB.o⟩
theorem Ns{D:DataW Value}{l:List Ad}(hl:Fv D l)(hw:UB l){kl:Lit}{v:Value}(hat:∀z,D.atKey kl z=.held v):∃e∈l,e.key=kl:=by have hh:=Maps.has_true_of_atKey hat;rw[hl.has,List.any_eq_true] at hh;obtain⟨e,he,hk⟩:=hh;exact⟨e,he,WideAt.sameKey_eq hk⟩
theorem QM(g b n:Nat)(l:List Ad)(w:World)(h:Ap w g b n l)(hl1:l.length≤1) :Calls prog 81 #[.pointer (some ⟨g,0,none⟩)] w λe w'=>∃v xs,e=.returned v∧w'.ownsRow w.heap.size 37 2 v l.length xs∧(∀x∈l,xs=[.int .i64 x.r,.int .i64 x.s])∧Below w.heap.size w w':=by
 have HI:=qh h;obtain⟨D,hown,hl⟩:=h.map;have m0:=h.ix.cell 0;simp only[List.getElem?_cons_zero] at m0;have HL:=qh hl;have KS:=qh (λp m c fv W (hm:m≤1)=>MB p m c fv W hm);clear h hl;go_in;go_wp2_with (first|(at_range;refine wpList_range_own _ rfl _ 246 rfl 37 45 CG underlying246 BO b n D rfl hown ?_;intro w0 hrg0 hg0 hs0)|fail)
 go_frame
 have HB0:=qh (show Below w.heap.size w w0 from⟨hg0.os,hg0.tape,hg0.output,hg0.size,λk hk=>hg0.block k hk (by simp)⟩);have HRG:=qh hrg0;have HSZ:=qh (show w.heap.size+1≤w0.heap.size by omega);clear hrg0 hg0 hs0 hown m0;have HBL:=qh HI.lt.2;go_loopw [3] (λvo wr=>∃(left:Lit→Bool) (cnt m:Nat) (xs:List Value) (p:Option Addr) (c:Nat),vo=.slice p m c∧wr.ranges prog 37 BO b w.heap.size n D left cnt∧Below w.heap.size w wr∧wr.ownsRow (w.heap.size+1) 37 2 (.slice p m c) m xs∧((m=0∧xs=[]∧∀e∈l,left e.key=true)∨(m=1∧∃e∈l,xs=[.int .i64 e.r,.int .i64 e.s]∧left e.key=false))∧w.heap.size+1≤wr.heap.size) (λ_ wr=>wr.rangeLeft b w.heap.size);case atStart=>exact⟨_,_,0,[],none,0,rfl,HRG.o,HB0.o,World.ownsRow_nil _ _ _ _,.inl ⟨rfl,rfl,λe he=>Maps.has_true_of_atKey (HL.at_ e he)⟩,HSZ.o⟩
 case round=>
  clear HRG HB0 HSZ;obtain⟨left,cnt,m,xs,p,c,rfl,hrg,hbel,ho,hcase,hsz⟩:=hrel;have HB:=qh hbel;have HO:=qh ho;have HC:=qh hcase;have HSZ:=qh hsz;clear hbel ho hcase hsz;go_wp2_with (first|(at_next;refine wpList_next_ranges _ rfl _ rfl 37 CG BO (λp:Int × Int=>DZ p.1 p.2) (λv:Value=>v) (λkey kl hk=>by obtain⟨r,s,rfl,_⟩:=Hu hk;exact⟨(r,s),rfl⟩) (λv y _=>⟨v,rfl⟩) b w.heap.size n D _ _ rfl hrg ?_ ?_)|fail)
  ·intro hc0 hl0;have hm:m=l.length∧∀x∈l,xs=[.int .i64 x.r,.int .i64 x.s]:=by
    rcases HC.o with⟨rfl,rfl,hall⟩|⟨rfl,e,he,hxs,_⟩
    ·have hnil:l=[]:=by
      cases l with
      | nil=>rfl
      | cons x l=>have:=hall x (by simp);rw[hl0] at this;cases this
     subst hnil;exact⟨rfl,λx hx=>by cases hx⟩
    ·have hl2:l.length=1:=by have:=List.length_pos_of_mem he;omega
     obtain⟨y,rfl⟩:=List.length_eq_one_iff.1 hl2;refine⟨rfl,λx hx=>?_⟩;rw[List.mem_singleton.1 hx,←List.mem_singleton.1 he];exact hxs
   have HM:=qh hm;have hm1:m≤1:=by rw[hm.1];exact hl1
   clear hrg hl0 hc0 hm HC;go_wp2_with fail;refine Ac (KS.o p m c _ _ hm1) ?_;rintro w5 hb5;have HO:=qh (CW HO.o hb5);have HB:=qh (AB HB.o hb5);clear hb5;go_wp2_with fail;go_ret;refine⟨_,xs,rfl,?_,HM.2,HB.o⟩;rw[←HM.1];obtain⟨q1,q2⟩:=HO.o;exact⟨q1,q2.imp id λ⟨g,cap,cur,e1,e2,e3⟩=>⟨g,cap,cur,e1,Nat.le_trans (Nat.le_succ _) e2,e3⟩⟩
  ·intro pr ps cv kl yd yp w1 cnt1 hkey hlk hR hat hrg1 hlt hg1 hs1 hen;have hy:yd=.held cv:=by unfold BO at hR;injection hR with hR;injection hR with hR _;exact hR.symm
   rw[hy] at hat;obtain⟨e,he,hek⟩:=Ns HL.o HI.wf hat;have hpe:pr=e.r∧ps=e.s:=by have hw:=HI.wf e he;rw[←hek] at hkey;have:=CG.inj hkey (Dc e.r e.s hw.1 hw.2);simp only[DZ,Value.agg.injEq,Array.mk.injEq,List.cons.injEq,Value.int.injEq,true_and,and_true] at this;exact this
   obtain⟨h1,h2⟩:=hpe;subst h1;subst h2;subst hek;have hm0:m=0∧xs=[]:=by
    rcases HC.o with⟨h1,h2,_⟩|⟨_,e',he',_,hlf⟩
    ·exact⟨h1,h2⟩
    ·have hl2:l.length=1:=by have:=List.length_pos_of_mem he;omega
     obtain⟨y,rfl⟩:=List.length_eq_one_iff.1 hl2;rw[List.mem_singleton.1 he',←List.mem_singleton.1 he,hlk] at hlf;cases hlf
   obtain⟨rfl,rfl⟩:=hm0;have hkept:=hg1;have HB1:=qh (show Below w.heap.size w w1 from HB.trans ⟨hg1.os,hg1.tape,hg1.output,hg1.size,λk hk=>hg1.block k (by have:=HB.size;omega) (by intro hc;injection hc with hc;omega)⟩);have HO1:=qh (show w1.ownsRow (w.heap.size+1) 37 2 (.slice p 0 c) 0 [] from HO.kept hg1 (by
    obtain⟨_,h2⟩:=HO.o;rcases h2 with⟨hv,_⟩|⟨g',cap,cur,hv,hg',_⟩
    ·rw[hv];exact .inl rfl
    ·rw[hv];right;intro hc;simp[Value.ownBlock] at hc;omega))
   have HRG:=qh hrg1;have HSZ1:=qh (show w.heap.size+1≤w1.heap.size from Nat.le_trans HSZ.o hg1.size);have HHE:=qh he;have HLT:=qh hlt;have HL0:=qh hrg.left_eq;have hks:e.key.sameKey e.key=true:=WideAt.sameKey_self (Ik e.r e.s);have HKS:=qh hks;clear hrg1 hrg hlt hg1 hs1 hR hy hat hkey hlk hkept he hks HB HO HC HSZ;simp only[DZ] at hen ⊢;have hsrc:Reads ((w1.alloc (.cells #[.int .i64 e.r,.int .i64 e.s] 37)).alloc (.cells #[.int .i64 e.r,.int .i64 e.s] 37)) (some ⟨w1.heap.size+1,0,none⟩) [.int .i64 e.r,.int .i64 e.s]:=by have:=(AA (w1.alloc (.cells #[.int .i64 e.r,.int .i64 e.s] 37)) 37 [.int .i64 e.r,.int .i64 e.s]).reads 0 [.int .i64 e.r,.int .i64 e.s] (λj v hv=>by simpa using hv);rw[World.size_alloc] at this;exact this
   have HSRC:=qh hsrc;clear hsrc;go_wp2_with (first|(at_builtin;refine AZ rfl (.tmp 14) (.tmp 16) 99 rfl (w.heap.size+1) 37 (.agg #[.int .i64 0,.int .i64 0]) 2 16 rfl (by kernel_rfl) rfl (by decide) _ 0 [] rfl (CW HO1.o (by go_grown)) (some ⟨w1.heap.size+1,0,none⟩) 1 1 [.int .i64 e.r,.int .i64 e.s] rfl rfl HSRC.o (by intro h;cases h) (by simp[Value.oneCell']) (by unfold maxLen;omega) (by omega) (by have:=HSZ1.o;simp;omega) ?_;intro v3 w3 ho3 hb3 hg3;have HO3:=qh ho3;clear ho3)|fail);have hal:Below w1.heap.size w1 ((w1.alloc (.cells #[.int .i64 e.r,.int .i64 e.s] 37)).alloc (.cells #[.int .i64 e.r,.int .i64 e.s] 37)):=by go_grown
   have hgr:w1.grownBy w3 (Value.slice p 0 c).ownBlock:=⟨hg3.os.trans hal.os,hg3.tape.trans hal.tape,hg3.output.trans hal.output,Nat.le_trans hal.size hg3.size,λk hk hne=>(hg3.block k (Nat.lt_of_lt_of_le hk hal.size) hne).trans (hal.block k hk)⟩;have hne:∀k,k≤w.heap.size→some k≠(Value.slice p 0 c).ownBlock:=λk hk hc=>by have:=(HO1.lt k hc.symm).1;omega
   have hrg3:=HRG.kept hgr (by first|exact hne _ (Nat.le_of_lt HBL.o)|exact hne _ (Nat.le_refl _)) (by first|exact hne _ (Nat.le_of_lt HBL.o)|exact hne _ (Nat.le_refl _));have HRG3:=qh hrg3;have HB3:=qh (show Below w.heap.size w w3 from HB1.trans ((hal.mono HB1.size).trans (hb3.mono (Nat.le_succ _))));have HSZ3:=qh (show w.heap.size+1≤w3.heap.size from Nat.le_trans HSZ1.o (Nat.le_trans hal.size hb3.size));clear hrg3 hne hgr hal hb3 hg3 hen;obtain⟨p3,c3,rfl⟩:∃p3 c3,v3=.slice p3 1 c3:=by
    obtain⟨_,h2⟩:=HO3.o;rcases h2 with⟨hv,hn⟩|⟨g,cap,cur,hv,_⟩
    ·cases hn
    ·exact⟨_,cap,hv⟩
   go_roundw;case rel=>exact⟨_,_,1,_,p3,c3,rfl,HRG3.o,HB3.o,HO3.o,.inr ⟨rfl,e,HHE.o,rfl,by rw[HKS.o];simp⟩,HSZ3.o⟩
   case measure=>rw[HRG3.left_eq,HL0.o];exact HLT.o
def Bj:List Value:=[.int .i64 0,.int .i64 0,.int .i64 0,.int .i64 0,.int .i64 0,.int .i64 0,.int .i64 0]
theorem Ih:Bj.toArray.all (·.oneCell')=true:=by simp[Bj,Value.oneCell']
theorem Ap.iw{w:World}{g b n:Nat}{l:List Ad}(h:Ap w g b n l):w.rangeAt g 1 Bj:=h.ix.Ci 1 λj v hv=>by rw[Nat.add_comm,List.getElem?_cons_succ];exact hv
theorem Yq(g b n:Nat)(l:List Ad)(w:World)(h:Ap w g b n l) :Calls prog 234 #[.pointer (some ⟨g,0,none⟩)] w λe w'=>e=.returned (.agg Bj.toArray)∧Below w.heap.size w w':=by have HI:=qh h;clear h;go_in;go_upto_region 1 with(fail);have HZ:=qh (AA w 41 Bj);have HB:=qh (show Below w.heap.size w (w.alloc (.cells Bj.toArray 41)) by go_grown);unfold Bj at HZ HB;go_name_world W hW;rw[hW] at HZ HB;clear hW;have HZ:=qh (show Holds W w.heap.size 41 Bj from HZ.o);have HC:=qh (HI.below HB.o).iw;go_wp2_with (first|(refine lM 1 HC.o ?_)|(refine sW Bj HZ.o ?_ Ih;intro wc hh ht));exact bC hh.AY ⟨rfl,HB.trans (ht.below (Nat.le_refl _) HB.size)⟩
theorem Ap.gQ{w w':World}{g b n:Nat}{l:List Ad}(h:Ap w g b n l)(ht:Touch g w w')(hc:Holds w' g 248 (.map (some b) :: Cf λ_=>0)):Ap w' g b n l:=by have hlt:=h.lt.2;have hne:=h.ne;obtain⟨D,⟨es,clock,hm,r⟩,hl⟩:=h.map;exact⟨hc,⟨D,⟨es,clock,(ht.block b hlt (λe=>hne e.symm)).trans hm,r⟩,hl⟩,h.good,h.rows⟩
theorem XC(g b n:Nat)(w:World)(h:Ap w g b n []) :Calls prog 203 #[.pointer (some ⟨g,0,none⟩),.agg Bj.toArray] w λe w'=>e=.returned (.tuple #[])∧Ap w' g b n []∧Touch g w w':=by
 have HI:=qh h;clear h;have HIX:=qh (λk hk W=>FP (λ_=>0) k hk W);unfold Bj;go_in;have hb1:Below w.heap.size w (w.alloc (.cells Bj.toArray 41)):=by go_grown
 have HI1:=qh (HI.below hb1);have HT1:=qh (show Touch g w _ from .of_below hb1);unfold Bj at HI1 HT1;clear hb1;go_wp2_with fail;go_loopw [8] (λvi wr=>∃j:Nat,j≤7∧vi=.int .i64 j∧Ap wr g b n []∧Touch g w wr) (λvi _=>7 - (intOf vi).toNat);case atStart=>exact⟨0,by omega,rfl,HI1.o,HT1.o⟩
 case round=>
  clear HI1 HT1;obtain⟨j,hj,rfl,hi,ht⟩:=hrel;have HI:=qh hi;have HT:=qh ht;clear hi ht;by_cases hj7:j<7
  ·have cj:=HI.ix.cell (1+j);rw[Gi _ _ _ hj7] at cj;have cf:=HI.ix.free (1+j);have hix:=HIX.o j hj7;have hS:=HI.ix.set (1+j) (.int .i64 0);rw[VO _ _ _ hj7] at hS;have hfn:(λt:Nat=>if t=j then (0:Int) else 0)=λ_=>0:=by funext t;simp
   rw[hfn] at hS;have HS:=qh hS;clear hS hfn;go_upto_region 4 with(fail);clear hix;go_region;go_wp2_with fail;go_roundw;case rel=>
    have ht2:=((Touch.refl g wr).setCell (1+j) (.int .i64 0)).drew;exact⟨j+1,by omega,by go_num,HI.gQ ht2 HS.o,HT.trans ht2⟩
   case measure=>simp[intOf];omega
  ·have m0:=HI.ix.cell 0;simp only[List.getElem?_cons_zero] at m0;obtain⟨D,hown,hl⟩:=HI.map;have HL:=qh hl;clear hl;go_wp2_with (first|(at_range;refine wpList_range_own _ rfl _ 246 rfl 37 45 CG underlying246 BO b n D rfl hown ?_;intro w0 hrg0 hg0 hs0)|fail)
   go_frame
   have hb0:Below wr.heap.size wr w0:=⟨hg0.os,hg0.tape,hg0.output,hg0.size,λk hk=>hg0.block k hk (by simp)⟩;have HI:=qh (HI.below hb0);have HT:=qh (HT.trans (.of_below hb0));have HRG:=qh hrg0;clear hrg0 hg0 hs0 hown m0 hb0;generalize wr.heap.size=R at HRG ⊢;go_loopw [6] (λ_ wx=>∃(left:Lit→Bool) (cnt:Nat),wx.ranges prog 37 BO b R n D left cnt∧Ap wx g b n []∧Touch g w wx) (λ_ wx=>wx.rangeLeft b R);case atStart=>exact⟨_,_,HRG.o,HI.o,HT.o⟩
   case round=>
    clear HRG HI HT;obtain⟨left,cnt,hrg,hi,ht⟩:=hrel;have HI:=qh hi;have HT:=qh ht;clear hi ht;go_wp2_with (first|(at_next;refine wpList_next_ranges _ rfl _ rfl 37 CG BO (λp:Int × Int=>DZ p.1 p.2) (λv:Value=>v) (λkey kl hk=>by obtain⟨r,s,rfl,_⟩:=Hu hk;exact⟨(r,s),rfl⟩) (λv y _=>⟨v,rfl⟩) b R n D _ _ rfl hrg ?_ ?_)|fail)
    ·intro hc0 hl0;clear hrg hl0 hc0;go_wp2_with fail;exact bE ⟨rfl,HI.o,HT.o⟩
    ·intro pr ps cv kl yd yp w1 cnt1 hkey hlk hR hat hrg1 hlt hg1 hs1 hen;exfalso;have hy:yd=.held cv:=by unfold BO at hR;injection hR with hR;injection hR with hR _;exact hR.symm
     rw[hy] at hat;have hh:=Maps.has_true_of_atKey hat;rw[HL.has] at hh;cases hh
theorem Yt(w:World) :Calls prog 116 #[.agg Bj.toArray] w λe w'=>∃g b,e=.returned (.pointer (some ⟨g,0,none⟩))∧Ap w' g b 0 []∧w.heap.size≤g∧w.heap.size≤b∧Below w.heap.size w w':=by
 have hmm:=@run_makeMap prog;have KT:=qh (λg b W (h:Ap W g b 0 [])=>XC g b 0 W h);unfold Bj;go_in;go_upto_region 2 with(fail);have hd:Holds (w.alloc (.cells Bj.toArray 41)) w.heap.size 41 Bj:=AA w _ _;unfold Bj at hd;have hB0:Below w.heap.size w (w.alloc (.cells #[.int .i64 0,.int .i64 0,.int .i64 0,.int .i64 0,.int .i64 0,.int .i64 0,.int .i64 0] 41)):=by go_grown
 have hs0:(w.alloc (.cells #[.int .i64 0,.int .i64 0,.int .i64 0,.int .i64 0,.int .i64 0,.int .i64 0,.int .i64 0] 41)).heap.size=w.heap.size+1:=World.size_alloc _ _;generalize w.alloc (.cells #[.int .i64 0,.int .i64 0,.int .i64 0,.int .i64 0,.int .i64 0,.int .i64 0,.int .i64 0] 41)=w1 at hd hB0 hs0 ⊢;have hB1:Below w1.heap.size w1 ((w1.alloc (.map #[] 0)).alloc (.cells #[.map (some w1.heap.size),.int .i64 0,.int .i64 0,.int .i64 0,.int .i64 0,.int .i64 0,.int .i64 0,.int .i64 0] 248)):=by have h1:Below w1.heap.size w1 (w1.alloc (.map #[] 0)):=(Below.refl _ _).alloc (Nat.le_refl _) _;exact h1.alloc h1.size _
 have hla:Ap ((w1.alloc (.map #[] 0)).alloc (.cells #[.map (some w1.heap.size),.int .i64 0,.int .i64 0,.int .i64 0,.int .i64 0,.int .i64 0,.int .i64 0,.int .i64 0] 248)) (w1.heap.size+1) w1.heap.size 0 []:=by
  refine⟨?_,⟨.map [],?_,Fv.empty⟩,(λe he=>by cases he),(λe he=>by cases he)⟩
  ·have:=AA (w1.alloc (.map #[] 0)) 248 (.map (some w1.heap.size) :: Cf λ_=>0);rw[World.size_alloc] at this;exact this
  ·exact(World.ownsMap_made w1 prog 37 BO).alloc _
 rw[hs0] at hB1 hla;go_name_world W hW;rw[hW] at hB1 hla;clear hW;have HLA:=qh hla;have HD:=qh (AC hd (by rw[hs0];exact hB1)).AY;have HB:=qh (hB0.trans (hB1.mono (Nat.le_succ _)));clear hB1 hla hd hB0 hs0;go_wp2_with (refine lM 0 HD.o ?_);refine Ac (KT.o _ _ _ HLA.o) ?_;rintro w4 ⟨hl,ht⟩;have HLA:=qh hl;have HB:=qh (HB.trans (ht.below (by omega) HB.size));clear hl ht;go_wp2_with fail;go_ret;exact⟨_,_,rfl,HLA.o,by omega,by omega,HB.o⟩
section
variable [In]
def Dp:List Value:=[.int .i64 0,.int .i64 0,.int .i64 0,.int .i64 0,.int .i64 0,.int .i64 0,.int .i64 0,.int .i64 0,.int .i64 0,.int .i64 0,.string ⟨#[]⟩,.string ⟨#[]⟩,.string ⟨#[]⟩,.string ⟨#[]⟩,.int .i64 0,.int .i64 0,.int .i64 0,.int .i64 0,.int .i64 0,.int .i64 0,.int .i64 0,.int .i64 0,.int .i64 0,.int .i64 0,.int .i64 0,.int .i64 0,.int .i64 0,.int .i64 0,.int .i64 0,.int .i64 0,.string ⟨#[]⟩,.string ⟨#[]⟩,.string ⟨#[]⟩,.string ⟨#[]⟩,.int .i64 0,.int .i64 0,.int .i64 0,.int .i64 0,.int .i64 0,.int .i64 0,.int .i64 0,.int .i64 0,.bool false,.int .i64 0,.int .i64 0,.int .i64 0,.int .i64 0,.int .i64 0,.int .i64 0,.int .i64 0,.string ⟨#[]⟩]
theorem PG(gc n me gl gi nO:Nat)(leads recs out:Value)(ob:Option Nat)(xs:List Value)(k f t q:Int)(x:Cm)(tt:Nat)(w:World)(h:Holds w gc 163 (Az n me gl gi leads recs out))(ho:AO w out ob 47 51 nO xs)(hne:∀g,ob=some g→g≠gc)(hn:nO≤1000) :Calls prog 148 #[.pointer (some ⟨gc,0,none⟩),.int .i64 tt,.agg (Ah k f t q x).toArray] w λe w'=>e=.returned (.tuple #[])∧∃p c ob',Holds w' gc 163 (Az n me gl gi leads recs (.slice p (nO+1:Nat) c))∧AO w' (.slice p (nO+1:Nat) c) ob' 47 51 (nO+1) (xs++Ah k me tt q x)∧(ob'=ob∨∃g,ob'=some g∧w.heap.size≤g)∧Mv (λg=>g=gc∨ob=some g) w w':=by
 have HC:=qh h;have HO:=qh ho;have HM:=qh (Mv.refl (λg=>g=gc∨ob=some g) w);have hgl:=h.lt;have hxo:∀g,ob=some g→g≠w.heap.size:=λg hg=>by have:=ho.lt g hg;omega
 clear h ho;go_in;go_upto_region 1 with(fail);go_name_world W hW;obtain⟨HX,hbW,hsW⟩:=Ff 47 (Ah k f t q x) hW;clear hW;obtain⟨HC,HO,HM⟩:=Du hbW HC HO HM;clear hbW hsW;have hxg:w.heap.size≠gc:=by omega
 generalize hx0:w.heap.size=gx at HX hxg hxo ⊢;have d1:=Ag HC.o 1;go_wp2_with (first|(refine sC 1 HX.o (.int .i64 me) ?_;intro w1 hh1 ht1)|(refine sC 2 hh1 (.int .i64 tt) ?_;intro w2 hh2 ht2));have HX:=qh (show Holds w2 gx 47 (Ah k me tt q x) from hh2);have ht12:=ht1.trans ht2;have HC:=qh (HC.touch ht12 (Ne.symm hxg));have HO:=qh (HO.touch ht12 hxo);have HM:=qh (HM.touch ht12 (.inr (by omega)));have hs2:=HM.size;clear hh1 hh2 ht1 ht2 ht12 d1;go_upto_region 2 with(fail);have HRX:=qh (λ(w':World) (h:Below w2.drew.heap.size w2.drew w')=>(((HX.bel (AQ _ w2)).bel h).AY));obtain⟨HC,HO,HM⟩:=Du (AQ _ w2) HC HO HM;refine EQ [7,10] 11 (λhSn=>?_);generalize w2.drew=wd at HC HO HM HRX hSn ⊢;simp only[List.replicate];refine Jr 0 ?_;refine BG 4 [7,8,9,10] (λw hSw=>Ag (HC.bel hSw) 7) ?_;refine He 5 [6,7,8,9,10] (some 18) (.agg (Ah k me tt q x).toArray) rfl (yieldsIf_load_mid (by rfl) 47 _ rfl gx 0 rfl (Ah k me tt q x) _ (λw hSw=>HRX.o w hSw) underlying47 rfl (by as_aux_lemma=>kernel_rfl)) hSn ?rg6;simp only[Act.put,zA,zB,zC];refine BH 6 rfl (λK hK=>?_);refine tU 47 (.agg (Ah k me tt q x).toArray) (Ah k me tt q x) ?_;intro wa hna hba;have hSn:=AB hSn hba;have HN:=qh hna;generalize wd.heap.size=gn at HN ⊢;obtain⟨HO,HC,HM⟩:=Du hSn HO HC HM;clear hna hba;change K (Act.put _ (some 19) _) _;refine BN hK ?_;clear hK;refine BH 7 rfl (λK hK=>?_);refine tS (.agg Dp.toArray) 51 480 HO.o (Ah k me tt q x) (HN.reads 0 _ (λj v hv=>by rw[Nat.zero_add];exact hv)) ?_ (Lm _ _ _ _ _);intro v5 ob5 w5 ho5 hob5 hm5;have hC5:Holds w5 gc 163 _:=HC.mv hm5 (λhc=>hne _ hc rfl);have HC5:=qh hC5;have HM5:=qh (HM.mv hm5 (λk hk=>.inl (.inr hk)));have hwa:=HM.size;have HO5:=qh (And.intro ho5 (show ob5=ob∨∃g,ob5=some g∧w.heap.size≤g from hob5.imp id λ⟨g,h1,h2⟩=>⟨g,h1,by omega⟩));obtain⟨p5,c5,rfl⟩:∃p5 c5,v5=.slice p5 (nO+1:Nat) c5:=by
  rcases ho5.cases with⟨_,_,h0,_⟩|⟨g1,cap,_,hv,_⟩
  ·omega
  ·exact⟨_,cap,hv⟩
 clear ho5 hob5 hm5 hC5;change K (Act.put _ (some 20) _) _;refine BN hK ?_;clear hK;refine FT 8 ?_ (hS:=IJ);refine BH 10 rfl (λK hK=>?_);refine tC 7 HC5.o (.slice p5 (nO+1:Nat) c5) ?_;intro w6 hh6 ht6;have HC6:=qh (show Holds w6 gc 163 (Az n me gl gi leads recs (.slice p5 (nO+1:Nat) c5)) from hh6);have HM6:=qh (HM5.touch ht6 (.inl (.inl rfl)));have HO6:=qh (And.intro (HO5.1.touch ht6 (λg hg=>by rcases HO5.2 with h|⟨g2,h,h2⟩<;>rw[h] at hg;exact hne g hg;cases hg;omega)) HO5.2);clear hh6 ht6;refine BN hK ?_;clear hK;refine Dl ?_;clear hSn HC HO HM HC5 HM5 HO5 HN HRX HX;go_wp2_with fail;exact bE ⟨rfl,p5,c5,ob5,HC6.o,HO6.1,HO6.2,HM6.o⟩
end
section
variable [In]
def O1(k me q:Nat)(x:Cm)(i:Nat):List Value:=Ah k me ((if i<me then i else i+1:Nat):Int) q x
def upTo(me r:Nat):Nat:=if r≤me then r else r-1
theorem Tt(r:Nat)(hr:r<7):Bj[r]?=some (.int .i64 0):=by rcases(show r=0∨r=1∨r=2∨r=3∨r=4∨r=5∨r=6 by omega) with rfl|rfl|rfl|rfl|rfl|rfl|rfl<;>rfl
def Jc(B gc n me gl gi:Nat)(leads recs:Value)(k q:Nat)(x:Cm)(w:World)(m:Nat)(wr:World):Prop:=
 ∃(out:Value) (ob:Option Nat),Holds wr gc 163 (Az n me gl gi leads recs out)∧AO wr out ob 47 51 m (flat 51 m (O1 k me q x))∧(∀g,ob=some g→B≤g)∧Mv (λg=>g=gc) w wr
theorem VK(gc n me gl gi:Nat)(leads recs:Value)(k f t q:Nat)(x:Cm)(w:World)(h:Holds w gc 163 (Az n me gl gi leads recs (.slice none 0 0)))(hn:n≤7)(hme:me<n) :Calls prog 79 #[.pointer (some ⟨gc,0,none⟩),.agg (Ah k f t q x).toArray,.agg Bj.toArray] w λe w'=>e=.returned (.tuple #[])∧Jc w.heap.size gc n me gl gi leads recs k q x w (n-1) w':=by
 have KS:=qh (λnO out ob xs tt W h ho hne hn=>PG gc n me gl gi nO leads recs out ob xs k f t q x tt W h ho hne hn);have HC:=qh h;have hgl:=h.lt;have HM:=qh (Mv.refl (λg=>g=gc) w);clear h;go_in;go_upto_region 1 with(fail);go_name_world W hW;obtain⟨HX,HZ,hbW,hsW⟩:=Xf 47 (Ah k f t q x) 40 (Bj) hW;clear hW;obtain⟨HC,HM⟩:=DC hbW HC HM;clear hbW;have hs2:w.heap.size+2≤W.heap.size:=by omega
 clear hsW;generalize hz0:w.heap.size+1=gz at HZ ⊢;generalize hx0:w.heap.size=gx at HX ⊢;have hx:gx≠gc∧gz≠gc:=by omega
 have d0:=Ag HC.o 0;go_wp2_with fail;clear d0;go_loopw [11] (λvi wr=>∃r:Nat,vi=.int .i64 (r:Int)∧r≤n∧Jc (w.heap.size+2) gc n me gl gi leads recs k q x w (upTo me r) wr∧Holds wr gx 47 (Ah k f t q x)∧Holds wr gz 40 Bj) (λvi _=>n - (intOf vi).toNat);case atStart=>
  refine⟨0,rfl,by omega,⟨.slice none 0 0,none,HC.o,?_,λg hg=>(by cases hg),HM.o⟩,HX.o,HZ.o⟩;unfold upTo;rw[if_pos (Nat.zero_le _),MM];exact AO.nil _ _ _
 case round=>
  clear HC HM HX HZ;obtain⟨r,rfl,hr,⟨out,ob,hc,ho,hob,hm⟩,hx2,hz2⟩:=hrel;have HC:=qh hc;have HO:=qh ho;have HOB:=qh hob;have HM:=qh hm;have HX:=qh hx2;have HZ:=qh hz2;clear hc ho hob hm hx2 hz2;by_cases hrn:r=n
  ·subst hrn;have hup:upTo me r=r-1:=by unfold upTo;rw[if_neg (by omega)]
   have HUP:=qh hup;clear hup;go_wp2_with fail;exact bE ⟨rfl,out,ob,HC.o,by rw[←HUP.o];exact HO.o,λg hg=>by have:=HOB.o g hg;omega,HM.o⟩
  ·have hrlt:(r:Int)<n:=by omega
   have d1:=Ag HC.o 1;by_cases hrm:r=me
   ·subst hrm;have HUP:=qh (show upTo r (r+1)=upTo r r by unfold upTo;rw[if_neg (by omega),if_pos (Nat.le_refl _)];omega);go_wp2_with fail;clear d1;go_roundw;case rel=>exact⟨r+1,by simp,by omega,⟨out,ob,HC.o,by rw[HUP.o];exact HO.o,HOB.o,HM.o⟩,HX.o,HZ.o⟩
    case measure=>simp[intOf];omega
   ·have zr:wr.cell? ⟨gz,r,none⟩=some (.int .i64 0):=(HZ.cell r).trans (Tt r (by omega));have hne2:((r:Int)==(me:Int))=false:=by simp;omega
    have hne3:((r:Int) != (me:Int))=true:=by simp;omega
    have hr7:(r:Int)<7:=by omega
    have HUP:=qh (show upTo me (r+1)=upTo me r+1 by unfold upTo;by_cases h:r≤me;rw[if_pos (by omega),if_pos h];rw[if_neg (by omega),if_neg h];omega);have HOV:=qh (show O1 k me q x (upTo me r)=Ah k me r q x by unfold O1 upTo;by_cases h:r≤me;rw[if_pos h,if_pos (by omega)];rw[if_neg h,if_neg (by omega),show r-1+1=r by omega]);have hupl:upTo me r≤1000:=by unfold upTo;split<;>omega
    have HRX:=qh HX.AY;clear hrm;go_wp2_with (first|(refine lM 0 HRX.o ?_));refine Ac (KS.o (upTo me r) out ob _ r _ HC.o HO.o (λg hg=>by have:=HOB.o g hg;omega) hupl) ?_;rintro w5 ⟨p,c,ob5,hc5,ho5,hob5,hm5⟩;have hs5:=HM.size;have hs6:w.heap.size+2≤wr.heap.size:=by have:=HZ.lt;omega
    have hobl:=HOB.o;have HC:=qh hc5;have HX:=qh (HX.mv hm5 (by rintro(h|h);exact hx.1 h;have:=hobl _ h;omega));have HZ:=qh (HZ.mv hm5 (by rintro(h|h);exact hx.2 h;have:=hobl _ h;omega));have HM:=qh (HM.mv hm5 (λg hg=>hg.imp id (λh=>by have:=hobl g h;omega)));have HO:=qh (show AO w5 (.slice p (upTo me r+1:Nat) c) ob5 47 51 (upTo me (r+1)) (flat 51 (upTo me (r+1)) (O1 k me q x)) by
     rw[HUP.o,←Jh (V:=O1 k me q x) (by decide) (λi _=>Yr _ _ _ _ _),HOV.o];exact ho5)
    have HOB:=qh (show ∀g,ob5=some g→w.heap.size+2≤g from λg hg=>by
     rcases hob5 with h|⟨g2,h,h2⟩
     ·exact hobl g (h▸hg)
     ·rw[h] at hg;cases hg;omega)
    clear hc5 ho5 hob5 hm5 hobl zr d1 hne2 hne3 HRX;go_wp2_with fail;go_roundw;case rel=>exact⟨r+1,by simp,by omega,⟨_,ob5,HC.o,HO.o,HOB.o,HM.o⟩,HX.o,HZ.o⟩
    case measure=>simp[intOf];omega
end
section
variable [In]
theorem Aj.kN{w w':World}{B g:Nat}{v:Value}{n:Nat}(h:Aj w B v n)(ht:Touch g w w')(hg:g<B):Aj w' B v n:=by obtain⟨bs,h1,h2,h3,h4⟩:=h;exact⟨bs,h1,h2,h3,h4.imp id λ⟨b,cap,cur,e1,e2,hh,r⟩=>⟨b,cap,cur,e1,e2,(ht.block b (Array.getElem?_eq_some_iff.1 hh).1 (by omega)).trans hh,r⟩⟩
structure BC(w:World)(gc n me gl gm nl gi gx ni:Nat)(L:List Ad)(E:List Bf)(leads recs out:Value):Prop where
 hc:Holds w gc 163 (Az n me gl gi leads recs out)
 lg:Ap w gl gm nl L
 ix:DL w gi gx ni (λ_=>0) E
 ne:gc≠gl∧gc≠gm∧gc≠gi∧gc≠gx∧gl≠gi∧gl≠gx∧gm≠gi∧gm≠gx
section
variable {w w':World} {gc n me gl gm nl gi gx ni:Nat} {L:List Ad} {E:List Bf} {leads recs out:Value}
theorem BC.lt(h:BC w gc n me gl gm nl gi gx ni L E leads recs out):gc<w.heap.size∧gl<w.heap.size∧gm<w.heap.size∧gi<w.heap.size∧gx<w.heap.size:=⟨h.hc.lt,h.lg.lt.1,h.lg.lt.2,h.ix.lt.1,h.ix.lt.2⟩
theorem BC.bel(h:BC w gc n me gl gm nl gi gx ni L E leads recs out)(hb:Below w.heap.size w w'):BC w' gc n me gl gm nl gi gx ni L E leads recs out:=⟨h.hc.bel hb,h.lg.below hb,h.ix.below hb,h.ne⟩
instance:Bl w w' (BC w gc n me gl gm nl gi gx ni L E leads recs out) (BC w' gc n me gl gm nl gi gx ni L E leads recs out):=⟨λhb h=>BC.bel h hb⟩
theorem BC.mv{F:Af}(h:BC w gc n me gl gm nl gi gx ni L E leads recs out)(hm:Mv F w w')(h1:¬F gc)(h2:¬F gl)(h3:¬F gm)(h4:¬F gi)(h5:¬F gx):BC w' gc n me gl gm nl gi gx ni L E leads recs out:=
 ⟨h.hc.mv hm h1,h.lg.keep (hm.block _ h.lg.lt.1 h2) (hm.block _ h.lg.lt.2 h3),h.ix.keep (hm.block _ h.ix.lt.1 h4) (hm.block _ h.ix.lt.2 h5),h.ne⟩
theorem BC.LJ{F:Af}{leads' recs' out':Value}(h:BC w gc n me gl gm nl gi gx ni L E leads recs out)(hm:Mv F w w')(hc:Holds w' gc 163 (Az n me gl gi leads' recs' out'))(h2:¬F gl)(h3:¬F gm)(h4:¬F gi)(h5:¬F gx):BC w' gc n me gl gm nl gi gx ni L E leads' recs' out':=
 ⟨hc,h.lg.keep (hm.block _ h.lg.lt.1 h2) (hm.block _ h.lg.lt.2 h3),h.ix.keep (hm.block _ h.ix.lt.1 h4) (hm.block _ h.ix.lt.2 h5),h.ne⟩
end
theorem DL.bel{w w':World}{g b n:Nat}{d:Nat→Int}{l:List Bf}(h:DL w g b n d l)(hb:Below w.heap.size w w'):DL w' g b n d l:=h.below hb
instance {w w':World}{g b n:Nat}{d:Nat→Int}{l:List Bf}:Bl w w' (DL w g b n d l) (DL w' g b n d l):=⟨λhb h=>DL.bel h hb⟩
theorem Ap.bel{w w':World}{g b n:Nat}{l:List Ad}(h:Ap w g b n l)(hb:Below w.heap.size w w'):Ap w' g b n l:=h.below hb
instance {w w':World}{g b n:Nat}{l:List Ad}:Bl w w' (Ap w g b n l) (Ap w' g b n l):=⟨λhb h=>Ap.bel h hb⟩
theorem XH(gc n me gl gi gx ni:Nat)(E:List Bf)(leads recs out:Value)(q:Nat)(st:Int)(c:Cm)(sm:Bool)(w:World)(h:Holds w gc 163 (Az n me gl gi leads recs out))(hi:DL w gi gx ni (λ_=>0) E)(hn:ni≤1000)(hq:q<7)(hc:Gu c)(hst:(st=1∧sm=true)∨(st=3∧sm=false)) :Calls prog 121 #[.pointer (some ⟨gc,0,none⟩),.agg #[.int .i64 q,.int .i64 In.sl],.agg (cellL st c sm).toArray] w λe w'=>e=.returned (.tuple #[])∧DL w' gi gx (ni+1) (λ_=>0) (Gf E ⟨q,In.sl,c,In.aq⟩)∧Touch gx w w':=by
 have hnb:QR (λ_=>0) q In.sl c In.aq=true:=by unfold QR;rw[hc.right,show Cj (q:Int) In.sl=true from ER q hq];have h1:=In.hsl;have h2:=In.haq;simp;omega
 have KN:=qh (λW (h:DL W gi gx ni (λ_=>0) E)=>by have:=note_any gi gx ni (λ_=>0) E q In.sl c In.aq W h hn;rw[hnb,if_pos rfl] at this;exact this);have HC:=qh h;have HI:=qh hi;have HT:=qh (Touch.refl gx w);have hs0:((st:Int) != 0)=true:=by rcases hst with⟨rfl,_⟩|⟨rfl,_⟩<;>rfl
 clear h hi hnb hst;go_in;go_upto_region 1 with(fail);go_name_world W hW;obtain⟨HX,HY,hbW,hsW⟩:=Xf 37 ([.int .i64 q,.int .i64 In.sl]) 45 (cellL st c sm) hW;clear hW;obtain⟨HC,HI,HT⟩:=Du hbW HC HI HT;clear hbW hsW;generalize w.heap.size+1=gy at HY ⊢;generalize w.heap.size=gz at HX ⊢;have y0:=Ag HY.o 0;go_wp2_with fail;clear y0;go_upto_region 2 with(fail);obtain⟨HC,HI,HT,HX,HY⟩:=Fq (AQ _ W) HC HI HT HX HY;refine EQ [10] 11 (λhSn=>?_);generalize W.drew=wd at HC HI HT HX HY hSn ⊢;simp only[List.replicate];refine Dz 0 ?_;refine BG 3 [10] (λw hSw=>Ag (HC.bel hSw) 3) ?_;refine BG 4 [10] (λw hSw=>CU (HX.bel hSw) 0 1) ?_;refine CS 5 ?_;refine BG 6 [10] (λw hSw=>GR (HY.bel hSw) 5 6 7 8 9 10 11) ?_;refine FT 7 ?_;refine BG 9 [10] (λw hSw=>Ag (HY.bel hSw) 12) ?_;refine BH 10 rfl (λK hK=>?_);go_simp;refine Ac (KN.o _ (HI.bel hSn)) ?_;rintro w4 ⟨hi4,ht4⟩;have HI4:=qh hi4;have HT4:=qh ((HT.bel hSn).trans ht4);clear hi4 ht4;refine BN hK ?_;clear hK;refine Dl ?_;clear hSn HC HI HT HX HY;go_wp2_with fail;exact bE ⟨rfl,HI4.o,HT4.o⟩
def Nk(gc n me gl gm nl gi gx ni:Nat)(L:List Ad)(E:List Bf)(leads out:Value)(q:Nat)(st:Int)(c:Cm)(sm:Bool)(w w':World):Prop:=
 ∃(gr cr m:Nat) (rv:Value) (rest:List Value),BC w' gc n me gl gm (nl+1) gi gx (ni+1) (CO L ⟨q,In.sl,cellL st c sm⟩) (Gf E ⟨q,In.sl,c,In.aq⟩) leads (.slice (some ⟨gr,0,none⟩) 1 cr) out∧Holds w' gr 127 (rv :: rest)∧Aj w' w.heap.size rv m∧(1≤m∧m≤480)∧w.heap.size≤gr∧Mv (λk=>k=gc∨k=gm∨k=gx) w w'
theorem L9(gc n me gl gm nl gi gx ni:Nat)(L:List Ad)(E:List Bf)(leads out:Value)(q:Nat)(st:Int)(c:Cm)(sm:Bool)(w:World)(h:BC w gc n me gl gm nl gi gx ni L E leads (.slice none 0 0) out)(hnl:nl≤1000)(hn:ni≤1000)(hq:q<7)(hc:Gu c)(hst:(st=1∧sm=true)∨(st=3∧sm=false)) (hwas:Fj L q In.sl=false∨(Fj L q In.sl=true∧st=3∧sm=false∧∃e∈L,e.r=q∧e.s=In.sl∧e.L=cellL 1 c true)) :Calls prog 157 #[.pointer (some ⟨gc,0,none⟩),.agg #[.int .i64 q,.int .i64 In.sl],.agg (cellL st c sm).toArray] w λe w'=>e=.returned (.bool true)∧Nk gc n me gl gm nl gi gx ni L E leads out q st c sm w w':=by
 have KS:=qh (λW (h:Ap W gl gm nl L)=>Yu gl gm nl L q In.sl st c sm W h hnl (ER q hq) hc hst hwas);have KR:=qh (λW=>U0 q In.sl st c sm W (by omega) (by have h1:=In.hsl;omega) hc hst);have KN:=qh (λrc W (h:Holds W gc 163 (Az n me gl gi leads rc out)) (hi:DL W gi gx ni (λ_=>0) E)=>XH gc n me gl gi gx ni E leads rc out q st c sm W h hi hn hq hc hst);have HC:=qh h.hc;have HL:=qh h.lg;have HI:=qh h.ix;have hne:=h.ne;have hlt:=h.lt;have HM:=qh (Mv.refl (λk=>k=gc∨k=gm∨k=gx) w);clear h hwas;obtain⟨n1,n2,n3,n4,n5,n6,n7,n8⟩:=hne;obtain⟨l1,l2,l3,l4,l5⟩:=hlt;go_in;go_upto_region 1 with(fail);go_name_world W hW;obtain⟨HX,HY,hbW,hsW⟩:=Xf 37 ([.int .i64 q,.int .i64 In.sl]) 45 (cellL st c sm) hW;clear hW;obtain⟨HC,HL,HI,HM⟩:=Dy hbW HC HL HI HM;have hb1:w.heap.size≤W.heap.size:=hbW.size;clear hbW hsW;generalize hy0:w.heap.size+1=gy at HY ⊢;generalize hx0:w.heap.size=gz at HX ⊢;have HRY:=qh (λ(w':World) (h:Below W.drew.heap.size W.drew w')=>(((HY.bel (AQ _ W)).bel h).AY));obtain⟨HC,HL,HI,HM,HX,HY⟩:=FI (AQ _ W) HC HL HI HM HX HY;refine EQ [6] 8 (λhSn=>?_);generalize W.drew=wd at HC HL HI HM HX HY HRY hSn ⊢;simp only[List.replicate];refine Dz 0 ?_;refine BG 3 [6,7] (λw hSw=>Ag (HC.bel hSw) 2) ?_;refine BG 4 [6,7] (λw hSw=>CU (HX.bel hSw) 0 1) ?_;refine He 5 [6,7] (some 12) (.agg (cellL st c sm).toArray) rfl (yieldsIf_load_mid (by rfl) 45 _ rfl gy 0 rfl (cellL st c sm) _ (λw hSw=>HRY.o w hSw) underlying45 rfl (by as_aux_lemma=>kernel_rfl)) hSn ?rg16;simp only[Act.put,zA,zB,zC];refine BH 6 rfl (λK hK=>?_);go_simp;refine Ac (KS.o _ (HL.bel hSn)) ?_;rintro w1 ⟨hl1,ht1⟩;have HL1:=qh hl1;have HT1:=qh ht1;clear hl1 ht1;refine BN hK ?_;clear hK;refine CS 7 ?_ (hS:=IJ);refine Dl ?_;have HC:=qh ((HC.bel hSn).touch HT1.o n2);have HI:=qh ((HI.bel hSn).touch HT1.o (Ne.symm n7) (Ne.symm n8));have HX:=qh ((HX.bel hSn).touch HT1.o (by omega));have HY:=qh ((HY.bel hSn).touch HT1.o (by omega));have HM:=qh ((HM.bel hSn).touch HT1.o (.inl (.inr (.inl rfl))));clear hSn HT1 HL HRY;have hb2:=HM.size;go_wp2_with fail;go_upto_region 3 with(fail);have HRY:=qh (λ(w':World) (h:Below w1.drew.heap.size w1.drew w')=>(((HY.bel (AQ _ w1)).bel h).AY));obtain⟨HC,HL1,HI,HM,HX,HY⟩:=FI (AQ _ w1) HC HL1 HI HM HX HY;refine EQ [12] 13 (λhSn=>?_);generalize w1.drew=wd at HC HL1 HI HM HX HY HRY hSn ⊢;simp only[List.replicate];refine Jr 0 ?_;refine BG 4 [9,10,11,12] (λw hSw=>Ag (HC.bel hSw) 6) ?_;refine BG 5 [7,8,9,10,11,12] (λw hSw=>CU (HX.bel hSw) 0 1) ?_;refine He 6 [7,8,9,10,11,12] (some 21) (.agg (cellL st c sm).toArray) rfl (yieldsIf_load_mid (by rfl) 45 _ rfl gy 0 rfl (cellL st c sm) _ (λw hSw=>HRY.o w hSw) underlying45 rfl (by as_aux_lemma=>kernel_rfl)) hSn ?rg24;simp only[Act.put,zA,zB,zC];refine BH 7 rfl (λK hK=>?_);go_simp;refine(KR.o _).mono ?_;rintro e w2 ⟨rv,m,rfl,hm1,hm2,ho,hb⟩;have hSn:=AB hSn hb;have HO:=qh (Aj.mono (B':=w.heap.size) ho (by have h1:=HM.size;have h2:=hSn.size;omega));have hb3:=hSn.size;obtain⟨rp,rc,rfl⟩:=ho.shape;clear ho;clear hb;refine BN hK ?_;clear hK;refine BH 8 rfl (λK hK=>?_);refine tU 127 (.slice rp m rc) [.slice rp m rc] ?_;intro wa hna hba;have hSn:=AB hSn hba;have HN:=qh hna;have HO:=qh (HO.below hba);clear hna hba;change K (Act.put _ (some 23) _) _;refine BN hK ?_;clear hK;refine BH 9 rfl (λK hK=>?_);refine tS (.slice none 0 0) 1 24 (AO.nil _ _ _) [.slice rp m rc] (HN.reads 0 _ (λj v hv=>by rw[Nat.zero_add];exact hv)) ?_;intro v5 ob5 w5 ho5 hob5 hm5;have hs8:=hSn.size;have hSn:=hSn.trans (hm5.below (Nat.le_trans (Nat.le_refl _) hSn.size) (λk hk=>by cases hk));rw[List.nil_append,Nat.zero_add] at ho5;obtain⟨gr,cr,rest,rfl,hgr,hc1,hcm,hh5,hl5⟩:=ho5.blk (by decide);have hgrb:w.heap.size≤gr:=by
  rcases hob5 with hc|⟨k,hk,hk2⟩
  ·rw[hgr] at hc;cases hc
  ·rw[hgr] at hk;cases hk;have h1:=HM.size;have h2:=hs8;omega
 have HR:=qh (show Holds w5 gr 127 (.slice rp m rc :: rest) from hh5);have HO:=qh (HO.below (hm5.below (Nat.le_refl _) (λk hk=>by cases hk)));clear ho5 hob5 hm5 hh5;change K (Act.put _ (some 24) _) _;refine BN hK ?_;clear hK;refine FT 10 ?_;refine BH 12 rfl (λK hK=>?_);refine tC 6 (HC.bel hSn) (.slice (some ⟨gr,0,none⟩) 1 cr) ?_;intro w6 hh6 ht6;have HC6:=qh (show Holds w6 gc 163 (Az n me gl gi leads (.slice (some ⟨gr,0,none⟩) 1 cr) out) from hh6);have HT6:=qh ht6;clear hh6 ht6;refine BN hK ?_;clear hK;refine Dl ?_;have HL:=qh ((HL1.bel hSn).touch HT6.o (Ne.symm n1) (Ne.symm n2));have HI:=qh ((HI.bel hSn).touch HT6.o (Ne.symm n3) (Ne.symm n4));have HX:=qh ((HX.bel hSn).touch HT6.o (by omega));have HY:=qh ((HY.bel hSn).touch HT6.o (by omega));have HR:=qh (HR.touch HT6.o (by omega));have HO:=qh (HO.kN HT6.o l1);have HM:=qh ((HM.bel hSn).touch HT6.o (.inl (.inl rfl)));clear hSn HT6 HL1 HRY HC HN;have HRY:=qh HY.AY;obtain⟨x0,x1⟩:=CU HX.o 0 1;go_wp2_with (first|(refine lM 0 HRY.o ?_));refine Ac (KN.o _ _ HC6.o HI.o) ?_;rintro w7 ⟨hi7,ht7⟩;have HC:=qh (HC6.touch ht7 n4);have HL:=qh (HL.touch ht7 n6 n8);have HI:=qh hi7;have HR:=qh (HR.touch ht7 (by omega));have HO:=qh (HO.kN ht7 l5);have HM:=qh (HM.touch ht7 (.inl (.inr (.inr rfl))));clear hi7 ht7 x0 x1 HRY HC6 HX HY;go_wp2_with fail;go_ret;exact⟨rfl,gr,cr,m,_,rest,⟨HC.o,HL.o,HI.o,n1,n2,n3,n4,n5,n6,n7,n8⟩,HR.o,HO.o,⟨hm1,hm2⟩,hgrb,HM.o⟩
end
end Go.Proofs.YtimdpiifpibgfaaGreatDoor
