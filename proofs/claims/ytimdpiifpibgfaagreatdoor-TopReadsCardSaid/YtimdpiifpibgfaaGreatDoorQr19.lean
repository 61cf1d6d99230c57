/- A part of the proof of TopReads. -/
import Derived.Test.YtimdpiifpibgfaaGreatDoorQr9
import Derived.Test.YtimdpiifpibgfaaGreatDoorQr18
set_option linter.all false
set_option maxRecDepth 20000
set_option maxHeartbeats 16000000
open Go.RowKit Go.Maps
namespace Go.Proofs.YtimdpiifpibgfaaGreatDoor
open Tryz
theorem Zj(n:Nat)(w:World)(hn:n<=1):Calls prog 185 #[.int .u64 n] w λe w'=>(∃k:Int,e=.returned (AA k))/\Below w.heap.size w w':=by
 have:n=0\/n=1:=BJ
 rcases this with rfl|rfl;all_goals
  go_in;go_wp2_with fail;go_ret;exact⟨⟨_,rfl⟩,by go_grown⟩
theorem mW(n:Nat)(w:World)(hn:n<=1):Calls prog 218 #[.int .u64 n] w λe w'=>(∃k:Int,e=.returned (AA k))/\Below w.heap.size w w':=by have K:=qh (λW=>Zj n W hn);go_in;go_wp2_with fail;refine(K.out _).mono ?_;rintro e b ⟨⟨k,rfl⟩,a⟩;go_wp2_with fail;go_ret;exact⟨⟨_,rfl⟩,a⟩
theorem XT(p:Option Addr)(n c:Nat)(fv:Value)(w:World)(hn:n<=1):Calls prog 262 #[.slice p n c,AA 0,AA n,fv] w λe w'=>e=.returned (.tuple #[])/\Below w.heap.size w w':=by
 have f:¬(1:Int)<n:=BJ
 go_in;go_wp2_with fail;go_loopw [8] (λd wr=>d=AA 1/\Below w.heap.size w wr) (λ_ _=>0);case atStart=>exact⟨rfl,Below.refl _ _⟩
 case round=>obtain⟨rfl,a⟩:=hrel;have b:=qh a;clear a;go_wp2_with fail;refine bE ⟨rfl,b.o⟩
theorem nZ(p:Option Addr)(n c:Nat)(lim:Int)(fv:Value)(w:World)(hn:n<=1):Calls prog 217 #[.slice p n c,AA 0,AA n,AA lim,fv] w λe w'=>e=.returned (.tuple #[])/\Below w.heap.size w w':=by
 have K:=qh (λW=>XT p n c fv W hn);have j:(n:Int)<=12:=BJ
 have k:IntKind.i64.wrap ((n:Int) - 0)=n:=by rw[Int.sub_zero];exact IntWalk.i64_in _ BJ
 go_in;go_wp2_with fail;go_loopw [1,2,3,10,11] (λg h i d f wr=>g=AA 0/\h=AA n/\i=AA lim/\d=.bool true/\f=.bool true/\Below w.heap.size w wr) (λ_ _ _ _ _ _=>0);case atStart=>exact⟨rfl,rfl,rfl,rfl,rfl,Below.refl _ _⟩
 case round=>obtain⟨rfl,rfl,rfl,rfl,rfl,a⟩:=hrel;have b:=qh a;clear a;go_wp2_with fail;refine Ah (K.out _) ?_;rintro l a;have b:=qh (AO b.o a);clear a;go_wp2_with fail;exact bQ ⟨rfl,b.o⟩
theorem Qy(p:Option Addr)(n c:Nat)(fv:Value)(w:World)(hn:n<=1):Calls prog 149 #[.slice p n c,fv] w λe w'=>e=.returned (.tuple #[])/\Below w.heap.size w w':=by
 obtain⟨K,d⟩:=WZ (λf W=>nZ p n c f fv W hn) (λW=>mW n W hn);have g:(n:Int) % 18446744073709551616=n:=BJ
 go_in;go_wp2_with fail;refine(d.o _).mono ?_;rintro e h ⟨⟨k,rfl⟩,a⟩;have b:=qh a;clear a;go_wp2_with fail;refine Ah (K.out _ _) ?_;rintro i a;have b:=qh (AO b.o a);clear a;go_wp2_with fail;exact bE ⟨rfl,b.o⟩
theorem Ph{D:DataW Value}{l:List A7}(hl:GL D l)(hw:RX l){kl:Lit}{v:Value}(hat:∀z,D.atKey kl z=.held v):∃e∈l,e.key=kl:=by have a:=Maps.has_true_of_atKey hat;rw[hl.has,List.any_eq_true] at a;obtain⟨e,b,c⟩:=a;exact⟨e,b,WideAt.sameKey_eq c⟩
def CJ:List Value:=[AA 0,AA 0,AA 0,AA 0,AA 0,AA 0,AA 0]
theorem Jd:CJ.toArray.all (·.oneCell')=true:=by simp[CJ,Value.oneCell']
theorem BF.vO{w:World}{g b n:Nat}{l:List A7}(h:BF w g b n l):w.rangeAt g 1 CJ:=h.ix.CB 1 λj v a=>by rw[Nat.add_comm,List.getElem?_cons_succ];exact a
theorem iE(g b n:Nat)(l:List A7)(w:World)(h:BF w g b n l) :Calls prog 234 #[AP g] w λe w'=>e=.returned (.agg CJ.toArray)/\Below w.heap.size w w':=by have i:=qh h;clear h;go_in;go_upto_region 1 with(fail);obtain⟨c,a⟩:=WZ (AC w 41 CJ) (show Below w.heap.size w (w.alloc (.cells CJ.toArray 41)) by go_grown);unfold CJ at c a;go_name_world W d;rw[d] at c a;clear d;obtain⟨c,f⟩:=WZ (show Holds W w.heap.size 41 CJ from c.o) (i.below a.o).vO;go_wp2_with (first|(refine lM 1 f.o ?_)|(refine sW CJ c.o ?_ Jd;intro wc j k));exact bC j.Af ⟨rfl,a.trans (k.below Ve a.size)⟩
theorem BF.uN{w w':World}{g b n:Nat}{l:List A7}(h:BF w g b n l)(ht:Touch g w w')(hc:Holds w' g 248 (.map (some b) :: DT λ_=>0)):BF w' g b n l:=by have f:=h.lt.2;have j:=h.ne;obtain⟨D,⟨c,a,i,r⟩,d⟩:=h.map;exact⟨hc,⟨D,⟨c,a,(ht.block b f (λe=>j e.symm)).trans i,r⟩,d⟩,h.good,h.rows⟩
theorem Zo(g b n:Nat)(w:World)(h:BF w g b n []) :Calls prog 203 #[AP g,.agg CJ.toArray] w λe w'=>e=.returned (.tuple #[])/\BF w' g b n []/\Touch g w w':=by
 obtain⟨a,O⟩:=WZ h (λk l W=>Ew (λ_=>0) k l W);clear h;unfold CJ;go_in;have C:Below w.heap.size w (w.alloc (.cells CJ.toArray 41)):=by go_grown
 obtain⟨x,A⟩:=WZ (a.below C) (show Touch g w _ from .of_below C);unfold CJ at x A;clear C;go_wp2_with fail;go_loopw [8] (λF wr=>∃j:Nat,j<=7/\F=AA j/\BF wr g b n []/\Touch g w wr) (λF _=>7 - (intOf F).toNat);case atStart=>exact⟨0,BJ,rfl,x.o,A.o⟩
 case round=>
  clear x A;obtain⟨j,Y,rfl,i,m⟩:=hrel;obtain⟨a,c⟩:=WZ i m;clear i m;by_cases E:j<7
  .have cj:=a.ix.cell (1+j);rw[Hy _ _ _ E] at cj;have X:=a.ix.free (1+j);have S:=O.o j E;have u:=a.ix.set (1+j) (AA 0);rw[YM _ _ _ E] at u;have H:(λt:Nat=>if t=j then (0:Int) else 0)=λ_=>0:=by funext t;simp
   rw[H] at u;have Q:=qh u;clear u H;go_upto_region 4 with(fail);clear S;go_region;go_wp2_with fail;go_roundw;case rel=>
    have N:=((Touch.refl g wr).setCell (1+j) (AA 0)).drew;exact⟨j+1,BJ,by go_num,a.uN N Q.o,c.trans N⟩
   case measure=>simp[intOf];omega
  .have m0:=a.ix.cell 0;simp only[List.getElem?_cons_zero] at m0;obtain⟨D,K,J⟩:=a.map;have P:=qh J;clear J;go_wp2_with (first|(at_range;refine wpList_range_own _ rfl _ 246 rfl 37 45 CV underlying246 BZ b n D rfl K ?_;intro w0 M f T)|fail)
   go_frame
   have B:Below wr.heap.size wr w0:=⟨f.os,f.tape,f.output,f.size,λk l=>f.block k l Vj⟩;obtain⟨a,c,z⟩:=bP (a.below B) (c.trans (.of_below B)) M;clear M f T K m0 B;generalize wr.heap.size=R at z |-;go_loopw [6] (λ_ q=>∃(left:Lit->Bool) (G:Nat),q.ranges prog 37 BZ b R n D left G/\BF q g b n []/\Touch g w q) (λ_ q=>q.rangeLeft b R);case atStart=>exact⟨_,_,z.o,a.o,c.o⟩
   case round=>
    clear z a c;obtain⟨left,G,L,i,m⟩:=hrel;obtain⟨a,c⟩:=WZ i m;clear i m;go_wp2_with (first|(at_next;refine wpList_next_ranges _ rfl _ rfl 37 CV BZ (λp:Int × Int=>Dz p.1 p.2) (λv:Value=>v) (λZ V l=>by obtain⟨r,s,rfl,_⟩:=Jo l;exact⟨(r,s),rfl⟩) (λv y _=>⟨v,rfl⟩) b R n D _ _ rfl L ?_ ?_)|fail)
    .intro hc0 hl0;clear L hl0 hc0;go_wp2_with fail;exact bE ⟨rfl,a.o,c.o⟩
    .intro pr ps cv V yd yp w1 cnt1 hkey hlk d hat hrg1 hlt hg1 hs1 hen;exfalso;have U:yd=.held cv:=by unfold BZ at d;injection d with d;injection d with d _;exact d.symm
     rw[U] at hat;have I:=Maps.has_true_of_atKey hat;rw[P.has] at I;cases I
theorem iO(w:World) :Calls prog 116 #[.agg CJ.toArray] w λe w'=>∃g b,e=.returned (AP g)/\BF w' g b 0 []/\w.heap.size<=g/\w.heap.size<=b/\Below w.heap.size w w':=by
 have u:=@run_makeMap prog;have t:=qh (λg b W (h:BF W g b 0 [])=>Zo g b 0 W h);unfold CJ;go_in;go_upto_region 2 with(fail);have f:Holds (w.alloc (.cells CJ.toArray 41)) w.heap.size 41 CJ:=AC w _ _;unfold CJ at f;have l:Below w.heap.size w (w.alloc (.cells #[AA 0,AA 0,AA 0,AA 0,AA 0,AA 0,AA 0] 41)):=by go_grown
 have j:(w.alloc (.cells #[AA 0,AA 0,AA 0,AA 0,AA 0,AA 0,AA 0] 41)).heap.size=w.heap.size+1:=World.size_alloc _ _;generalize w.alloc (.cells #[AA 0,AA 0,AA 0,AA 0,AA 0,AA 0,AA 0] 41)=a at f l j |-;have c:Below a.heap.size a ((a.alloc (.map #[] 0)).alloc (.cells #[.map (some a.heap.size),AA 0,AA 0,AA 0,AA 0,AA 0,AA 0,AA 0] 248)):=by have n:Below a.heap.size a (a.alloc (.map #[] 0)):=(Below.refl _ _).alloc Ve _;exact n.alloc n.size _
 have i:BF ((a.alloc (.map #[] 0)).alloc (.cells #[.map (some a.heap.size),AA 0,AA 0,AA 0,AA 0,AA 0,AA 0,AA 0] 248)) (a.heap.size+1) a.heap.size 0 []:=by
  refine⟨?_,⟨.map [],?_,GL.empty⟩,(λe m=>by cases m),(λe m=>by cases m)⟩
  .have:=AC (a.alloc (.map #[] 0)) 248 (.map (some a.heap.size) :: DT λ_=>0);rw[World.size_alloc] at this;exact this
  .exact(World.ownsMap_made a prog 37 BZ).alloc _
 rw[j] at c i;go_name_world W p;rw[p] at c i;clear p;obtain⟨k,s,d⟩:=bP i (AX f (by rw[j];exact c)).Af (l.trans (c.mono (Nat.le_succ _)));clear c i f l j;go_wp2_with (refine lM 0 s.o ?_);refine Ah (t.o _ _ _ k.o) ?_;rintro v ⟨q,r⟩;obtain⟨k,d⟩:=WZ q (d.trans (r.below BJ d.size));clear q r;go_wp2_with fail;go_ret;exact⟨_,_,rfl,k.o,BJ,BJ,d.o⟩
section
variable [In] [CO]
def EX:List Value:=[AA 0,AA 0,AA 0,AA 0,AA 0,AA 0,AA 0,AA 0,AA 0,AA 0,AU,AU,AU,AU,AA 0,AA 0,AA 0,AA 0,AA 0,AA 0,AA 0,AA 0,AA 0,AA 0,AA 0,AA 0,AA 0,AA 0,AA 0,AA 0,AU,AU,AU,AU,AA 0,AA 0,AA 0,AA 0,AA 0,AA 0,AA 0,AA 0,.bool false,AA 0,AA 0,AA 0,AA 0,AA 0,AA 0,AA 0,AU]
theorem Qr(gc n me gl gi nO:Nat)(leads recs out:Value)(ob:Option Nat)(xs:List Value)(k f t q:Int)(x:Cm)(tt:Nat)(w:World)(h:Holds w gc 163 (BG n me gl gi leads recs out))(ho:AV w out ob 47 51 nO xs)(hne:∀g,ob=some g->g≠gc)(hn:nO<=1000) :Calls prog 148 #[AP gc,AA tt,.agg (BC k f t q x).toArray] w λe w'=>e=.returned (.tuple #[])/\∃p c ob',Holds w' gc 163 (BG n me gl gi leads recs (.slice p (nO+1:Nat) c))/\AV w' (.slice p (nO+1:Nat) c) ob' 47 51 (nO+1) (xs++BC k me tt q x)/\(ob'=ob\/∃g,ob'=some g/\w.heap.size<=g)/\Mv (λg=>g=gc\/ob=some g) w w':=by
 obtain⟨a,d,b⟩:=bP h ho (Mv.refl (λg=>g=gc\/ob=some g) w);have ae:=h.lt;have Z:∀g,ob=some g->g≠w.heap.size:=λg r=>by have:=ho.lt g r;omega
 clear h ho;go_in;go_upto_region 1 with(fail);go_name_world W N;obtain⟨m,O,ad⟩:=GI 47 (BC k f t q x) N;clear N;obtain⟨a,d,b⟩:=D5 O a d b;clear O ad;have Y:w.heap.size≠gc:=BJ
 generalize ah:w.heap.size=L at m Y Z |-;have d1:=Am a.o 1;go_wp2_with (first|(refine sC 1 m.o (AA me) ?_;intro w1 Q V)|(refine sC 2 Q (AA tt) ?_;intro l R X));have m:=qh (show Holds l L 47 (BC k me tt q x) from R);have y:=V.trans X;obtain⟨a,d,b⟩:=bP (a.touch y (Ne.symm Y)) (d.touch y Z) (b.touch y (.inr BJ));have af:=b.size;clear Q R V X y d1;go_upto_region 2 with(fail);have A:=qh (λ(w':World) (h:Below l.drew.heap.size l.drew w')=>(((m.bel (AY _ l)).bel h).Af));obtain⟨a,d,b⟩:=D5 (AY _ l) a d b;refine Ed [7,10] 11 (λhSn=>?_);generalize l.drew=wd at a d b A hSn |-;simp only[List.replicate];refine J9 0 ?_;refine BO 4 [7,8,9,10] (λw B=>Am (a.bel B) 7) ?_;refine JL 5 [6,7,8,9,10] (some 18) (.agg (BC k me tt q x).toArray) rfl (yieldsIf_load_mid (by rfl) 47 _ rfl L 0 rfl (BC k me tt q x) _ (λw B=>A.o w B) underlying47 rfl (by as_aux_lemma=>kernel_rfl)) hSn ?rg6;simp only[Act.put,zA,zB,zC];refine BN 6 rfl (λK i=>?_);refine tU 47 (.agg (BC k me tt q x).toArray) (BC k me tt q x) ?_;intro wa T P;have hSn:=AO hSn P;have z:=qh T;generalize wd.heap.size=gn at z |-;obtain⟨d,a,b⟩:=D5 hSn d a b;clear T P;change K (Act.put _ (some 19) _) _;refine BR i ?_;clear i;refine BN 7 rfl (λK i=>?_);refine tS (.agg EX.toArray) 51 480 d.o (BC k me tt q x) (z.reads 0 _ (λj v F=>by rw[Nat.zero_add];exact F)) ?_ (Vm _ _ _ _ _);intro v5 G w5 D U C;have M:Holds w5 gc 163 _:=a.mv C (λhc=>hne _ hc rfl);obtain⟨H,I⟩:=WZ M (b.mv C (λk hk=>.inl (.inr hk)));have ag:=b.size;have u:=qh (And.intro D (show G=ob\/∃g,G=some g/\w.heap.size<=g from U.imp id λ⟨g,h1,h2⟩=>⟨g,h1,BJ⟩));obtain⟨s,c5,rfl⟩:∃s c5,v5=.slice s (nO+1:Nat) c5:=by
  rcases D.cases with⟨_,_,h0,_⟩|⟨g1,ac,_,F,_⟩
  .omega
  .exact⟨_,ac,F⟩
 clear D U C M;change K (Act.put _ (some 20) _) _;refine BR i ?_;clear i;refine F9 8 ?_ (hS:=JI);refine BN 10 rfl (λK i=>?_);refine tC 7 H.o (.slice s (nO+1:Nat) c5) ?_;intro w6 S E;obtain⟨aa,ab,J⟩:=bP (show Holds w6 gc 163 (BG n me gl gi leads recs (.slice s (nO+1:Nat) c5)) from S) (I.touch E (.inl (.inl rfl))) (And.intro (u.1.touch E (λg r=>by rcases u.2 with h|⟨g2,h,h2⟩<;>rw[h] at r;exact hne g r;cases r;omega)) u.2);clear S E;refine BR i ?_;clear i;refine BA ?_;clear hSn a d b H I u z A m;go_wp2_with fail;exact bE ⟨rfl,s,c5,G,aa.o,J.1,J.2,ab.o⟩
end
section
variable [In] [CO]
def Rl(k me q:Nat)(x:Cm)(i:Nat):List Value:=BC k me ((if i<me then i else i+1:Nat):Int) q x
def upTo(me r:Nat):Nat:=if r<=me then r else r-1
theorem WW(r:Nat)(hr:r<7):CJ[r]?=some (AA 0):=by rcases(show r=0\/r=1\/r=2\/r=3\/r=4\/r=5\/r=6 by omega) with rfl|rfl|rfl|rfl|rfl|rfl|rfl<;>rfl
def LZ(B gc n me gl gi:Nat)(leads recs:Value)(k q:Nat)(x:Cm)(w:World)(m:Nat)(wr:World):Prop:=
 ∃(out:Value) (ob:Option Nat),Holds wr gc 163 (BG n me gl gi leads recs out)/\AV wr out ob 47 51 m (flat 51 m (Rl k me q x))/\(∀g,ob=some g->B<=g)/\Mv (λg=>g=gc) w wr
theorem YE(gc n me gl gi:Nat)(leads recs:Value)(k f t q:Nat)(x:Cm)(w:World)(h:Holds w gc 163 (BG n me gl gi leads recs AL))(hn:n<=7)(hme:me<n) :Calls prog 79 #[AP gc,.agg (BC k f t q x).toArray,.agg CJ.toArray] w λe w'=>e=.returned (.tuple #[])/\LZ w.heap.size gc n me gl gi leads recs k q x w (n-1) w':=by
 obtain⟨Y,a⟩:=WZ (λnO z y xs tt W h B aa hn=>Qr gc n me gl gi nO leads recs z y xs k f t q x tt W h B aa hn) h;have ag:=h.lt;have b:=qh (Mv.refl (λg=>g=gc) w);clear h;go_in;go_upto_region 1 with(fail);go_name_world W I;obtain⟨l,j,J,ae⟩:=bF 47 (BC k f t q x) 40 (CJ) I;clear I;obtain⟨a,b⟩:=Ce J a b;clear J;have ai:w.heap.size+2<=W.heap.size:=BJ
 clear ae;generalize am:w.heap.size+1=C at j |-;generalize al:w.heap.size=H at l |-;have S:H≠gc/\C≠gc:=BJ
 have Z:=Am a.o 0;go_wp2_with fail;clear Z;go_loopw [11] (λE wr=>∃r:Nat,E=AA (r:Int)/\r<=n/\LZ (w.heap.size+2) gc n me gl gi leads recs k q x w (upTo me r) wr/\Holds wr H 47 (BC k f t q x)/\Holds wr C 40 CJ) (λE _=>n - (intOf E).toNat);case atStart=>
  refine⟨0,rfl,BJ,⟨AL,none,a.o,?_,λg d=>(by cases d),b.o⟩,l.o,j.o⟩;unfold upTo;rw[if_pos (Nat.zero_le _),SY];exact AV.nil _ _ _
 case round=>
  clear a b l j;obtain⟨r,rfl,hr,⟨z,y,K,B,O,M⟩,T,U⟩:=hrel;obtain⟨a,s,m,b,l,j⟩:=mG K B O M T U;clear K B O M T U;by_cases ad:r=n
  .subst ad;have R:upTo me r=r-1:=by unfold upTo;rw[if_neg BJ]
   have u:=qh R;clear R;go_wp2_with fail;exact bE ⟨rfl,z,y,a.o,by rw[<-u.o];exact s.o,λg d=>by have:=m.o g d;omega,b.o⟩
  .have hrlt:(r:Int)<n:=BJ
   have G:=Am a.o 1;by_cases Q:r=me
   .subst Q;have u:=qh (show upTo r (r+1)=upTo r r by unfold upTo;rw[if_neg BJ,if_pos Ve];omega);go_wp2_with fail;clear G;go_roundw;case rel=>exact⟨r+1,Vj,BJ,⟨z,y,a.o,by rw[u.o];exact s.o,m.o,b.o⟩,l.o,j.o⟩
    case measure=>simp[intOf];omega
   .have zr:wr.cell? ⟨C,r,none⟩=some (AA 0):=(j.cell r).trans (WW r BJ);have ab:((r:Int)==(me:Int))=false:=by simp;omega
    have ac:((r:Int) != (me:Int))=true:=by simp;omega
    have ah:(r:Int)<7:=BJ
    obtain⟨u,X⟩:=WZ (show upTo me (r+1)=upTo me r+1 by unfold upTo;by_cases h:r<=me;rw[if_pos BJ,if_pos h];rw[if_neg BJ,if_neg h];omega) (show Rl k me q x (upTo me r)=BC k me r q x by unfold Rl upTo;by_cases h:r<=me;rw[if_pos h,if_pos BJ];rw[if_neg h,if_neg BJ,show r-1+1=r by omega]);have af:upTo me r<=1000:=by unfold upTo;split<;>omega
    have F:=qh l.Af;clear Q;go_wp2_with (first|(refine lM 0 F.o ?_));refine Ah (Y.o (upTo me r) z y _ r _ a.o s.o (λg d=>by have:=m.o g d;omega) af) ?_;rintro w5 ⟨p,c,D,L,N,P,A⟩;have aj:=b.size;have ak:w.heap.size+2<=wr.heap.size:=by have:=j.lt;omega
    have v:=m.o;obtain⟨a,l,j,b⟩:=bY L (l.mv A (by rintro(h|h);exact S.1 h;have:=v _ h;omega)) (j.mv A (by rintro(h|h);exact S.2 h;have:=v _ h;omega)) (b.mv A (λg d=>d.imp id (λh=>by have:=v g h;omega)));have s:=qh (show AV w5 (.slice p (upTo me r+1:Nat) c) D 47 51 (upTo me (r+1)) (flat 51 (upTo me (r+1)) (Rl k me q x)) by
     rw[u.o,<-II (V:=Rl k me q x) Iz (λi _=>iI _ _ _ _ _),X.o];exact N)
    have m:=qh (show ∀g,D=some g->w.heap.size+2<=g from λg d=>by
     rcases P with h|⟨g2,h,h2⟩
     .exact v g (h▸d)
     .rw[h] at d;cases d;omega)
    clear L N P A v zr G ab ac F;go_wp2_with fail;go_roundw;case rel=>exact⟨r+1,Vj,BJ,⟨_,D,a.o,s.o,m.o,b.o⟩,l.o,j.o⟩
    case measure=>simp[intOf];omega
end
section
variable [In] [CO]
theorem Au.yH{w w':World}{B g:Nat}{v:Value}{n:Nat}(h:Au w B v n)(ht:Touch g w w')(hg:g<B):Au w' B v n:=by obtain⟨c,k,l,m,o⟩:=h;exact⟨c,k,l,m,o.imp id λ⟨b,d,f,i,j,a,r⟩=>⟨b,d,f,i,j,(ht.block b (Array.getElem?_eq_some_iff.1 a).1 BJ).trans a,r⟩⟩
structure BB(w:World)(gc n me gl gm nl gi gx ni:Nat)(L:List A7)(E:List CY)(leads recs out:Value):Prop where
 hc:Holds w gc 163 (BG n me gl gi leads recs out)
 lg:BF w gl gm nl L
 ix:DV w gi gx ni (λ_=>0) E
 ne:gc≠gl/\gc≠gm/\gc≠gi/\gc≠gx/\gl≠gi/\gl≠gx/\gm≠gi/\gm≠gx
section
variable {w w':World} {gc n me gl gm nl gi gx ni:Nat} {L:List A7} {E:List CY} {leads recs out:Value}
theorem BB.lt(h:BB w gc n me gl gm nl gi gx ni L E leads recs out):gc<w.heap.size/\gl<w.heap.size/\gm<w.heap.size/\gi<w.heap.size/\gx<w.heap.size:=⟨h.hc.lt,h.lg.lt.1,h.lg.lt.2,h.ix.lt.1,h.ix.lt.2⟩
theorem BB.bel(h:BB w gc n me gl gm nl gi gx ni L E leads recs out)(hb:Below w.heap.size w w'):BB w' gc n me gl gm nl gi gx ni L E leads recs out:=⟨h.hc.bel hb,h.lg.below hb,h.ix.below hb,h.ne⟩
instance:Bl w w' (BB w gc n me gl gm nl gi gx ni L E leads recs out) (BB w' gc n me gl gm nl gi gx ni L E leads recs out):=⟨λhb h=>BB.bel h hb⟩
theorem BB.mv{F:Ap}(h:BB w gc n me gl gm nl gi gx ni L E leads recs out)(hm:Mv F w w')(h1:¬F gc)(h2:¬F gl)(h3:¬F gm)(h4:¬F gi)(h5:¬F gx):BB w' gc n me gl gm nl gi gx ni L E leads recs out:=
 ⟨h.hc.mv hm h1,h.lg.keep (hm.block _ h.lg.lt.1 h2) (hm.block _ h.lg.lt.2 h3),h.ix.keep (hm.block _ h.ix.lt.1 h4) (hm.block _ h.ix.lt.2 h5),h.ne⟩
theorem BB.NL{F:Ap}{leads' recs' out':Value}(h:BB w gc n me gl gm nl gi gx ni L E leads recs out)(hm:Mv F w w')(hc:Holds w' gc 163 (BG n me gl gi leads' recs' out'))(h2:¬F gl)(h3:¬F gm)(h4:¬F gi)(h5:¬F gx):BB w' gc n me gl gm nl gi gx ni L E leads' recs' out':=
 ⟨hc,h.lg.keep (hm.block _ h.lg.lt.1 h2) (hm.block _ h.lg.lt.2 h3),h.ix.keep (hm.block _ h.ix.lt.1 h4) (hm.block _ h.ix.lt.2 h5),h.ne⟩
end
theorem DV.bel{w w':World}{g b n:Nat}{d:Nat->Int}{l:List CY}(h:DV w g b n d l)(hb:Below w.heap.size w w'):DV w' g b n d l:=h.below hb
instance {w w':World}{g b n:Nat}{d:Nat->Int}{l:List CY}:Bl w w' (DV w g b n d l) (DV w' g b n d l):=⟨λhb h=>DV.bel h hb⟩
theorem BF.bel{w w':World}{g b n:Nat}{l:List A7}(h:BF w g b n l)(hb:Below w.heap.size w w'):BF w' g b n l:=h.below hb
instance {w w':World}{g b n:Nat}{l:List A7}:Bl w w' (BF w g b n l) (BF w' g b n l):=⟨λhb h=>BF.bel h hb⟩
theorem Zw(gc n me gl gi gx ni:Nat)(E:List CY)(leads recs out:Value)(q:Nat)(st:Int)(c:Cm)(sm:Bool)(w:World)(h:Holds w gc 163 (BG n me gl gi leads recs out))(hi:DV w gi gx ni (λ_=>0) E)(hn:ni<=1000)(hq:q<7)(hc:JB c)(hst:(st=1/\sm=true)\/(st=3/\sm=false)) :Calls prog 121 #[AP gc,.agg #[AA q,AA In.sl],.agg (cellL st c sm).toArray] w λe w'=>e=.returned (.tuple #[])/\DV w' gi gx (ni+1) (λ_=>0) (IA E ⟨q,In.sl,c,In.aq⟩)/\Touch gx w w':=by
 have p:TJ (λ_=>0) q In.sl c In.aq=true:=by unfold TJ;rw[hc.right,show Cc (q:Int) In.sl=true from E8 q hq];have A:=In.hsl;have B:=In.haq;simp;omega
 obtain⟨u,b,d,f⟩:=bY (λW (h:DV W gi gx ni (λ_=>0) E)=>by have:=note_any gi gx ni (λ_=>0) E q In.sl c In.aq W h hn;rw[p,if_pos rfl] at this;exact this) h hi (Touch.refl gx w);have C:((st:Int) != 0)=true:=by rcases hst with⟨rfl,_⟩|⟨rfl,_⟩<;>rfl
 clear h hi p hst;go_in;go_upto_region 1 with(fail);go_name_world W k;obtain⟨i,a,l,v⟩:=bF 37 ([AA q,AA In.sl]) 45 (cellL st c sm) k;clear k;obtain⟨b,d,f⟩:=D5 l b d f;clear l v;generalize w.heap.size+1=y at a |-;generalize w.heap.size=z at i |-;have x:=Am a.o 0;go_wp2_with fail;clear x;go_upto_region 2 with(fail);obtain⟨b,d,f,i,a⟩:=Gj (AY _ W) b d f i a;refine Ed [10] 11 (λhSn=>?_);generalize W.drew=F at b d f i a hSn |-;simp only[List.replicate];refine ES 0 ?_;refine BO 3 [10] (λw g=>Am (b.bel g) 3) ?_;refine BO 4 [10] (λw g=>Cf (i.bel g) 0 1) ?_;refine CW 5 ?_;refine BO 6 [10] (λw g=>Gl (a.bel g) 5 6 7 8 9 10 11) ?_;refine F9 7 ?_;refine BO 9 [10] (λw g=>Am (a.bel g) 12) ?_;refine BN 10 rfl (λK j=>?_);go_simp;refine Ah (u.o _ (d.bel hSn)) ?_;rintro D ⟨m,r⟩;obtain⟨s,t⟩:=WZ m ((f.bel hSn).trans r);clear m r;refine BR j ?_;clear j;refine BA ?_;clear hSn b d f i a;go_wp2_with fail;exact bE ⟨rfl,s.o,t.o⟩
def kN(gc n me gl gm nl gi gx ni:Nat)(L:List A7)(E:List CY)(leads out:Value)(q:Nat)(st:Int)(c:Cm)(sm:Bool)(w w':World):Prop:=
 ∃(gr cr m:Nat) (rv:Value) (rest:List Value),BB w' gc n me gl gm (nl+1) gi gx (ni+1) (Ci L ⟨q,In.sl,cellL st c sm⟩) (IA E ⟨q,In.sl,c,In.aq⟩) leads (.slice (Ac gr) 1 cr) out/\Holds w' gr 127 (rv :: rest)/\Au w' w.heap.size rv m/\(1<=m/\m<=480)/\w.heap.size<=gr/\Mv (λk=>k=gc\/k=gm\/k=gx) w w'
theorem OQ(gc n me gl gm nl gi gx ni:Nat)(L:List A7)(E:List CY)(leads out:Value)(q:Nat)(st:Int)(c:Cm)(sm:Bool)(w:World)(h:BB w gc n me gl gm nl gi gx ni L E leads AL out)(hnl:nl<=1000)(hn:ni<=1000)(hq:q<7)(hc:JB c)(hst:(st=1/\sm=true)\/(st=3/\sm=false)) (hwas:Et L q In.sl=false\/(Et L q In.sl=true/\st=3/\sm=false/\∃e∈L,e.r=q/\e.s=In.sl/\e.L=cellL 1 c true)) :Calls prog 157 #[AP gc,.agg #[AA q,AA In.sl],.agg (cellL st c sm).toArray] w λe w'=>e=.returned (.bool true)/\kN gc n me gl gm nl gi gx ni L E leads out q st c sm w w':=by
 obtain⟨KS,KR,KN,b,l,d⟩:=mG (λW (h:BF W gl gm nl L)=>iR gl gm nl L q In.sl st c sm W h hnl (E8 q hq) hc hst hwas) (λW=>Xo q In.sl st c sm W BJ (by have V:=In.hsl;omega) hc hst) (λy W (h:Holds W gc 163 (BG n me gl gi leads y out)) (hi:DV W gi gx ni (λ_=>0) E)=>Zw gc n me gl gi gx ni E leads y out q st c sm W h hi hn hq hc hst) h.hc h.lg h.ix;have an:=h.ne;have ak:=h.lt;have a:=qh (Mv.refl (λk=>k=gc\/k=gm\/k=gx) w);clear h hwas;obtain⟨n1,Q,n3,R,n5,n6,n7,S⟩:=an;obtain⟨l1,l2,l3,l4,l5⟩:=ak;go_in;go_upto_region 1 with(fail);go_name_world W X;obtain⟨f,g,J,ap⟩:=bF 37 ([AA q,AA In.sl]) 45 (cellL st c sm) X;clear X;obtain⟨b,l,d,a⟩:=En J b l d a;have aq:w.heap.size<=W.heap.size:=J.size;clear J ap;generalize a0:w.heap.size+1=U at g |-;generalize az:w.heap.size=gz at f |-;have t:=qh (λ(w':World) (h:Below W.drew.heap.size W.drew w')=>(((g.bel (AY _ W)).bel h).Af));obtain⟨b,l,d,a,f,g⟩:=Ef (AY _ W) b l d a f g;refine Ed [6] 8 (λhSn=>?_);generalize W.drew=wd at b l d a f g t hSn |-;simp only[List.replicate];refine ES 0 ?_;refine BO 3 [6,7] (λw p=>Am (b.bel p) 2) ?_;refine BO 4 [6,7] (λw p=>Cf (f.bel p) 0 1) ?_;refine JL 5 [6,7] (some 12) (.agg (cellL st c sm).toArray) rfl (yieldsIf_load_mid (by rfl) 45 _ rfl U 0 rfl (cellL st c sm) _ (λw p=>t.o w p) underlying45 rfl (by as_aux_lemma=>kernel_rfl)) hSn ?rg16;simp only[Act.put,zA,zB,zC];refine BN 6 rfl (λK i=>?_);go_simp;refine Ah (KS.o _ (l.bel hSn)) ?_;rintro F ⟨ad,ag⟩;obtain⟨C,z⟩:=WZ ad ag;clear ad ag;refine BR i ?_;clear i;refine CW 7 ?_ (hS:=JI);refine BA ?_;obtain⟨b,d,f,g,a⟩:=dD ((b.bel hSn).touch z.o Q) ((d.bel hSn).touch z.o (Ne.symm n7) (Ne.symm S)) ((f.bel hSn).touch z.o BJ) ((g.bel hSn).touch z.o BJ) ((a.bel hSn).touch z.o (.inl (.inr (.inl rfl))));clear hSn z l t;have ar:=a.size;go_wp2_with fail;go_upto_region 3 with(fail);have t:=qh (λ(w':World) (h:Below F.drew.heap.size F.drew w')=>(((g.bel (AY _ F)).bel h).Af));obtain⟨b,C,d,a,f,g⟩:=Ef (AY _ F) b C d a f g;refine Ed [12] 13 (λhSn=>?_);generalize F.drew=wd at b C d a f g t hSn |-;simp only[List.replicate];refine J9 0 ?_;refine BO 4 [9,10,11,12] (λw p=>Am (b.bel p) 6) ?_;refine BO 5 [7,8,9,10,11,12] (λw p=>Cf (f.bel p) 0 1) ?_;refine JL 6 [7,8,9,10,11,12] (some 21) (.agg (cellL st c sm).toArray) rfl (yieldsIf_load_mid (by rfl) 45 _ rfl U 0 rfl (cellL st c sm) _ (λw p=>t.o w p) underlying45 rfl (by as_aux_lemma=>kernel_rfl)) hSn ?rg24;simp only[Act.put,zA,zB,zC];refine BN 7 rfl (λK i=>?_);go_simp;refine(KR.o _).mono ?_;rintro e w2 ⟨rv,m,rfl,al,am,O,Y⟩;have hSn:=AO hSn Y;have u:=qh (Au.mono (B':=w.heap.size) O (by have V:=a.size;have h2:=hSn.size;omega));have au:=hSn.size;obtain⟨G,y,rfl⟩:=O.shape;clear O;clear Y;refine BR i ?_;clear i;refine BN 8 rfl (λK i=>?_);refine tU 127 (.slice G m y) [.slice G m y] ?_;intro wa ae M;have hSn:=AO hSn M;obtain⟨T,u⟩:=WZ ae (u.below M);clear ae M;change K (Act.put _ (some 23) _) _;refine BR i ?_;clear i;refine BN 9 rfl (λK i=>?_);refine tS AL 1 24 (AV.nil _ _ _) [.slice G m y] (T.reads 0 _ (λj v hv=>by rw[Nat.zero_add];exact hv)) ?_;intro v5 a1 w5 P af N;have ao:=hSn.size;have hSn:=hSn.trans (N.below (Nat.le_trans Ve hSn.size) (λk A=>by cases A));rw[List.nil_append,Nat.zero_add] at P;obtain⟨gr,I,ai,rfl,Z,av,aw,aa,ay⟩:=P.blk Iz;have aj:w.heap.size<=gr:=by
  rcases af with hc|⟨k,A,ax⟩
  .rw[Z] at hc;cases hc
  .rw[Z] at A;cases A;have V:=a.size;have h2:=ao;omega
 obtain⟨D,u⟩:=WZ (show Holds w5 gr 127 (.slice G m y :: ai) from aa) (u.below (N.below Ve (λk A=>by cases A)));clear P af N aa;change K (Act.put _ (some 24) _) _;refine BR i ?_;clear i;refine F9 10 ?_;refine BN 12 rfl (λK i=>?_);refine tC 6 (b.bel hSn) (.slice (Ac gr) 1 I) ?_;intro w6 ab ah;obtain⟨H,x⟩:=WZ (show Holds w6 gc 163 (BG n me gl gi leads (.slice (Ac gr) 1 I) out) from ab) ah;clear ab ah;refine BR i ?_;clear i;refine BA ?_;obtain⟨l,d,f,g,D,u,a⟩:=oC ((C.bel hSn).touch x.o (Ne.symm n1) (Ne.symm Q)) ((d.bel hSn).touch x.o (Ne.symm n3) (Ne.symm R)) ((f.bel hSn).touch x.o BJ) ((g.bel hSn).touch x.o BJ) (D.touch x.o BJ) (u.yH x.o l1) ((a.bel hSn).touch x.o (.inl (.inl rfl)));clear hSn x C t b T;have t:=qh g.Af;obtain⟨x0,x1⟩:=Cf f.o 0 1;go_wp2_with (first|(refine lM 0 t.o ?_));refine Ah (KN.o _ _ H.o d.o) ?_;rintro w7 ⟨ac,B⟩;obtain⟨b,l,d,D,u,a⟩:=mG (H.touch B R) (l.touch B n6 S) ac (D.touch B BJ) (u.yH B l5) (a.touch B (.inl (.inr (.inr rfl))));clear ac B x0 x1 t H f g;go_wp2_with fail;go_ret;exact⟨rfl,gr,I,m,_,ai,⟨b.o,l.o,d.o,n1,Q,n3,R,n5,n6,n7,S⟩,D.o,u.o,⟨al,am⟩,aj,a.o⟩
end
section
variable [In] [CO]
theorem bz(gld:Nat)(q:Int)(x:Cm)(a:Nat->Int)(R:Value)(cnt tk:Int)(w:World)(h:Holds w gld 167 (FP q x a R cnt tk)) :Calls prog 80 #[AP gld] w λe w'=>e=.returned (.agg (BC 1 0 0 q x).toArray)/\Below w.heap.size w w':=by
 have d:=qh h;clear h;go_in;go_upto_region 1 with(fail);go_name_world W r;obtain⟨j,t,N⟩:=GI 47 (EX) r;clear r;have f:=qh (Base.start w);obtain⟨d,f⟩:=Ce t d f;have X:=d.lt;clear t N;generalize L:w.heap.size=B at j f |-;obtain⟨d,j,f⟩:=D5 (AY _ W) d j f;refine Ed [] 11 (λhSn=>?_);generalize W.drew=wd at d j f hSn |-;simp only[List.replicate];refine ES 0 ?_;refine BO 3 [] (λw l=>Cf (d.bel l) 0 1) ?_;refine ES 4 ?_;refine BO 7 [] (λw l=>Cf (d.bel l) 3 4) ?_;refine CW 8 ?_;refine BN 9 rfl (λK i=>?_);go_simp;have m:=λo=>Below.alloc hSn hSn.size o;refine i.out _ _ (λ_=>m _) ?_;have hSn:=m (.cells EX.toArray 47);have g:=qh (show Holds (wd.alloc (.cells EX.toArray 47)) wd.heap.size 47 EX from AC wd _ _);clear m;change wpAnyL _ _ _ _ _ _ _ _ _ (wd.alloc (.cells EX.toArray 47));generalize wd.alloc (.cells EX.toArray 47)=wa at hSn g |-;clear i;try simp only[Act.put,zA,zB,zC]
 refine BN 10 rfl (λK i=>?_);refine tB (J8 0 0 0 q In.sl Cm.zero) g.o ?_ (LH _ _ _ _ _ _);intro n y E;have g:=qh y;have hSn:=hSn.trans (E.below Ve hSn.size);clear y E;refine BR i ?_;clear i;refine BA ?_;have O:=f.le;have M:gld<wd.heap.size:=d.lt;have P:B<wd.heap.size:=j.lt;obtain⟨d,j,f⟩:=D5 hSn d j f;clear hSn;generalize wd.heap.size=gm at g O M P |-;have Q:=Am d.o 2;go_upto_region 5 with(fail);clear Q;have Y:gld≠gm:=BJ
 obtain⟨d,j,f,g⟩:=En (AY _ n) d j f g;refine wp_region_noPanic ?_;refine Bv (S:=λJ=>Touch gm n.drew J) (X0:=[]) (by as_aux_lemma=>kernel_rfl) ?_;generalize n.drew=wd at d j f g |-;have hSn:Touch gm wd wd:=Touch.refl _ _;change wpAnyL _ _ _ _ _ _ 14 #[false,false,false,false,false,false,false,false,false,false,false,false,false,false] _ _;refine ES 0 ?_;refine BO 3 [] (λw l=>Gl (d.touch l BJ) 6 7 8 9 10 11 12) ?_;refine ES 4 ?_;refine BO 7 [] (λw l=>EE (d.touch l BJ) 13 14 15 16 17 18 19 20) ?_;refine CW 8 ?_;refine BN 9 rfl (λK i=>?_);refine tC 0 g.o (AA 1) ?_;intro T z F;have g:=qh (show Holds T gm 47 (J8 1 0 0 q In.sl Cm.zero) from z);have hSn:=hSn.trans F;clear z F;refine BR i ?_;clear i;refine CW 10 ?_;refine BN 11 rfl (λK i=>?_);refine FB rfl 23 (.tmp 29) (.tmp 23) rfl rfl gm 7 _ 47 g.o rfl [AA x.k,AA x.c,AA x.s,.string x.a,.string x.b,.string x.o,.string x.v] rfl ND (by simp[BC,J8]) (by simp[Value.oneCell']) ?_;intro U A G;have g:=qh (show Holds U gm 47 (J8 1 0 0 q In.sl x) from A);have hSn:=hSn.trans G;clear A G;refine BR i ?_;clear i;refine CW 12 ?_;refine BN 13 rfl (λK i=>?_);refine FB rfl 43 (.tmp 30) (.tmp 27) rfl rfl gm 14 _ 47 g.o rfl [AA In.aq,AA (In.ad 0),AA (In.ad 1),AA (In.ad 2),AA (In.ad 3),AA (In.ad 4),AA (In.ad 5),AA (In.ad 6)] rfl ND (by simp[BC,J8]) (by simp[Value.oneCell']) ?_;intro V C H;have g:=qh (show Holds V gm 47 (BC 1 0 0 q x) from C);have hSn:=hSn.trans H;clear C H;refine BR i ?_;clear i;refine BA ?_;obtain⟨j,f,p⟩:=bP (j.touch hSn BJ) (f.touch hSn BJ) g.Af;clear hSn d;go_wp2_with (first|(refine lM 0 p.o ?_)|(refine sW (BC 1 0 0 q x) j.o ?_ (Lu _ _ _ _ _);intro Z u D));obtain⟨f,I⟩:=WZ (f.touch D Ve) u.Af;clear u D p;refine bC I.o ?_;exact⟨rfl,L▸f.below⟩
theorem LZ.base{B B' gc n me gl gi:Nat}{leads recs:Value}{k q:Nat}{x:Cm}{w0 w:World}{m:Nat}{wr:World}(h:LZ B gc n me gl gi leads recs k q x w m wr)(hB:B'<=B)(hm:Mv (λg=>g=gc) w0 w):LZ B' gc n me gl gi leads recs k q x w0 m wr:=by obtain⟨l,j,a,b,c,d⟩:=h;exact⟨l,j,a,b,λg f=>Nat.le_trans hB (c g f),hm.mv d λk i=>.inl i⟩
theorem Holds.TI{w:World}{a b:Nat}{t:TypeId}{L:List Value}{es:Array MapEntry}{c:Nat}(h:Holds w a t L)(hb:w.heap[b]?=some (.map es c)):a≠b:=λe=>by unfold Holds at h;rw[e,hb] at h;cases h
theorem AV.TI{w:World}{v:Value}{ob:Option Nat}{e:TypeId}{s n b:Nat}{xs:List Value}{es:Array MapEntry}{c:Nat}(h:AV w v ob e s n xs)(hb:w.heap[b]?=some (.map es c)):∀k,ob=some k->k≠b:=λk a=>by
 rcases h.cases with⟨_,d,_⟩|⟨g,_,_,_,d,_,_,f,_⟩
 .rw[d] at a;cases a
 .rw[d] at a;cases a;exact f.TI hb
theorem Bc.off{w:World}{V:Value}{ob:Option Nat}{ls:List Ld}{gc n me gl gm nl gi gx ni:Nat}{L:List A7}{E:List CY}{leads recs out:Value}(hl:Bc w V ob ls)(h:BB w gc n me gl gm nl gi gx ni L E leads recs out) :(∀k,ob=some k->k≠gc/\k≠gl/\k≠gm/\k≠gi/\k≠gx)/\∀l∈ls,l.g≠gc/\l.g≠gl/\l.g≠gm/\l.g≠gi/\l.g≠gx:=by obtain⟨D,⟨m,c,d,_⟩,_⟩:=h.lg.map;obtain⟨i,⟨o,j,f,_⟩,_⟩:=h.ix.map;exact⟨λk a=>⟨hl.ne h.hc Iz k a,hl.ne h.lg.ix Iz k a,hl.own.TI d k a,hl.ne h.ix.ix Iz k a,hl.own.TI f k a⟩,λl b=>⟨hl.qV h.hc Iz l b,hl.qV h.lg.ix Iz l b,(hl.blk l b).TI d,hl.qV h.ix.ix Iz l b,(hl.blk l b).TI f⟩⟩
def NE(g:Nat)(q:Int)(x:Cm)(a:Nat->Int)(R:Value)(cnt tk:Int):Ld:=⟨g,q,In.sl,(FP q x a R cnt tk).drop 2⟩
theorem XY(g:Nat)(q:Int)(x:Cm)(a:Nat->Int)(R:Value)(cnt tk:Int):(NE g q x a R cnt tk).cells=FP q x a R cnt tk:=rfl
def uq(ob:Option Nat)(ls:List Ld)(gc n me gl gi:Nat)(nl:Ld)(recs:Value)(q:Nat)(x:Cm)(w w':World):Prop:=∃(V':Value) (ob':Option Nat) (w1:World),Bc w' V' ob' (ls++[nl])/\(ob'=ob\/∃k,ob'=some k/\w.heap.size<=k)/\Mv (λk=>k=gc\/ob=some k) w w1/\LZ w.heap.size gc n me gl gi V' recs 1 q x w1 (n-1) w'
theorem Y8(gc n me gl gi gld:Nat)(V:Value)(ob:Option Nat)(ls:List Ld)(recs:Value)(q:Nat)(x:Cm)(R:Value)(cnt tk:Int)(w:World)(h:Holds w gc 163 (BG n me gl gi V recs AL))(hls:Bc w V ob ls)(hl:Holds w gld 167 (FP q x (λ_=>0) R cnt tk))(hlt:∀l∈ls,Ec (l.r,l.s) ((q:Int),In.sl)=true)(hno:∀l∈ls,l.is q In.sl=false)(hfr:∀l∈ls,l.g≠gld)(hlen:ls.length<=900)(hn:n<=7)(hme:me<n) :Calls prog 158 #[AP gc,AP gld] w λe w'=>e=.returned (.tuple #[])/\uq ob ls gc n me gl gi (NE gld q x (λ_=>0) R cnt tk) recs q x w w':=by
 obtain⟨u,I,J,a,b,t⟩:=mG (λW h hls hl=>jZ gc n me gl gi V recs AL ob ls (NE gld q x (λ_=>0) R cnt tk) W h hls hl hlt hno hfr hlen) (λW h=>bz gld q x (λ_=>0) R cnt tk W h) (λO W h=>YE gc n me gl gi O recs 1 0 0 q x W h hn hme) h hl hls;have N:=hls.ne hl Iz;have M:gld≠gc:=hl.ne_of h Iz;have S:=h.lt;have T:=hl.lt;clear h hl hls hlt hno hfr;go_in;go_wp2_with fail;refine Ah (u.o _ a.o t.o b.o) ?_;rintro k ⟨P,Y,A,B,D,p⟩;obtain⟨a,d,G,b,f⟩:=dD A B D (b.mv p (λh=>h.elim (λh=>M h) (λh=>N _ h rfl))) p;clear t u;clear A B p D;go_upto_region 1 with(fail);have m:=qh (λ(w':World) (h:Below k.drew.heap.size k.drew w')=>(((b.bel (AY _ k)).bel h).CB 21 (cs:=CJ) (λj v c=>by
  rcases(show j=0\/j=1\/j=2\/j=3\/j=4\/j=5\/j=6\/7<=j by omega) with rfl|rfl|rfl|rfl|rfl|rfl|rfl|Q
  .exact c
  .exact c
  .exact c
  .exact c
  .exact c
  .exact c
  .exact c
  .rw[List.getElem?_eq_none (by simp[CJ];omega)] at c;cases c)))
 obtain⟨a,d,b,f⟩:=En (AY _ k) a d b f;refine Ed [7] 8 (λhSn=>?_);generalize k.drew=wd at a d b f m hSn |-;simp only[List.replicate];refine F9 0 ?_;refine ES 3 ?_;refine JL 6 [7] (some 13) (.agg (CJ).toArray) rfl (yieldsIf_load_mid (by rfl) 40 _ rfl gld 21 rfl (CJ) _ (λw L=>m.o w L) underlying40 rfl (by as_aux_lemma=>kernel_rfl)) hSn ?rg26;simp only[Act.put,zA,zB,zC];refine BN 2 rfl (λK i=>?_);go_simp;refine Ah (I.o _ (b.bel hSn)) ?_;rintro Z z;have hSn:=AO hSn z;clear z;refine BR i ?_;clear i;refine BN 7 rfl (λK i=>?_);go_simp;have U:=f.size;have X:=hSn.size;refine Ah (J.o _ _ (a.bel hSn)) ?_;rintro w3 y;obtain⟨H,E⟩:=WZ (f.bel hSn) (y.base (B':=w.heap.size) BJ (Mv.refl _ _));obtain⟨_,_,_,_,_,C⟩:=y;have F:=qh ((d.bel hSn).mv C ((d.bel hSn).ne (a.bel hSn) Iz) ((d.bel hSn).qV (a.bel hSn) Iz));clear C;refine BR i ?_;clear i;refine BA ?_;clear hSn a d b f m;go_wp2_with fail;exact bE ⟨rfl,_,_,_,F.o,G.o,H.o,E.o⟩
end
theorem Og[CO](gc n me gl gi:Nat)(leads recs out:Value)(w:World)(h:Holds w gc 163 (BG n me gl gi leads recs out)) :Calls prog 159 #[AP gc] w λe w'=>e=.returned (.tuple #[recs,out])/\Holds w' gc 163 (BG n me gl gi leads AL AL)/\Touch gc w w':=by obtain⟨a,b⟩:=WZ h (Touch.refl gc w);clear h;go_in;obtain⟨p,q⟩:=Cf a.o 6 7;go_upto_region 1 with(fail);go_quiet (fail);have c:Below w.heap.size w (w.drewN nq):=Bg _ _ _;obtain⟨a,b⟩:=Ce c a b;clear c p q;generalize w.drewN nq=t at a b |-;go_wp2_with (first|(refine Bh rfl 140 (.tmp 17) (.const AL) rfl rfl gc 6 163 (BG n me gl gi leads recs out) a.o (by simp[BG]) rfl AL rfl rfl ND rfl ?_;intro r d g;obtain⟨j,l⟩:=WZ (show Holds r gc 163 (BG n me gl gi leads AL out) from d) (b.trans g);clear d g)|(refine Bh rfl 34 (.tmp 19) (.const AL) rfl rfl gc 7 163 (BG n me gl gi leads AL out) j.o (by simp[BG]) rfl AL rfl rfl ND rfl ?_;intro s f i;obtain⟨k,m⟩:=WZ (show Holds s gc 163 (BG n me gl gi leads AL AL) from f) (l.trans i);clear f i));refine b2 (v:=.tuple #[recs,out]) ?_;exact⟨rfl,k.o,m.o⟩
theorem one_any[CO](gc n me gl gi f:Nat)(leads recs out:Value)(w:World)(h:Holds w gc 163 (BG n me gl gi leads recs out))(hf:f<n) :Calls prog 139 #[AP gc,AA f] w λe w'=>e=.returned (.bool true)/\Below w.heap.size w w':=by
 have a:=qh h;have c:(f:Int)<n:=BJ
 clear h;go_in;have b:=Am a.o 0;go_wp2_with fail;go_ret;exact⟨rfl,Below.refl _ _⟩
section
variable [In]
def JA:List Value:=[AA 0,AA 0,AA 0,AA 0,AA 0,AA 0,AA 0,AA 0,AU,AU,AU,AU,AA 0,AA 0,AA 0,AA 0,AA 0,AA 0,AA 0,AA 0,.bool false]
theorem Ud(w:World):(binOp .neq 45 (.agg JA.toArray) (.agg JA.toArray)).run prog w=.ok (.bool false) w:=by rw[run_neq_struct,show (10000:Nat)=9996+4 from rfl,show JA.toArray=#[AA 0,AA 0,AA 0,AA 0,AA 0,AA 0,AA 0,AA 0,AU,AU,AU,AU,AA 0,AA 0,AA 0,AA 0,AA 0,AA 0,AA 0,AA 0,.bool false] from rfl];have:=Ku 9996 ⟨0,0,0,0,0,0,Cm.zero,At.of 0,false⟩ w;exact(congrArg (λr=>r.andThen λb w=>Result.ok (Value.bool !b) w) this)
theorem JJ(w:World):Calls prog 70 #[.agg #[AA 0,AA 0,AA 0,AU,AU,AU,AU]] w λe w'=>e=.returned (.bool true)/\Below w.heap.size w w':=by have:=Eg 0 0 0 ⟨#[]⟩ ⟨#[]⟩ ⟨#[]⟩ ⟨#[]⟩ w;rw[show EY 0 0 0 ⟨#[]⟩ ⟨#[]⟩ ⟨#[]⟩ ⟨#[]⟩=true from ND] at this;exact this
theorem He(f:Nat)(w:World)(hf:f<7):Calls prog 132 #[AA f] w λe w'=>e=.returned (.bool true)/\Below w.heap.size w w':=by
 have a:(f:Int)<7:=BJ
 go_in;go_wp2_with fail;go_ret;exact⟨rfl,Below.refl _ _⟩
theorem tZ(w:World):Calls prog 131 #[AA 1] w λe w'=>e=.returned (.tuple #[.agg ([.bool true,.bool true,.bool true,.bool true,.bool false,.bool false,.bool false]:List Value).toArray,.bool true])/\Below w.heap.size w w':=by go_in;go_upto_region 1 with(fail);go_name_world W c;obtain⟨b,d,j⟩:=GI 233 ([.bool false,.bool false,.bool false,.bool false,.bool false,.bool false,.bool false]) c;clear c;have a:=qh (Base.start w);have a:=D9 d a;clear d j;generalize i:w.heap.size=B at b a |-;go_wp2_with (first|(refine sW [.bool true,.bool true,.bool true,.bool true,.bool false,.bool false,.bool false] b.o ?_;intro k f g));obtain⟨a,h⟩:=WZ (a.touch g Ve) f.Af;clear f g;refine bT h.o ?_;exact⟨rfl,i▸a.below⟩
end
end Go.Proofs.YtimdpiifpibgfaaGreatDoor
