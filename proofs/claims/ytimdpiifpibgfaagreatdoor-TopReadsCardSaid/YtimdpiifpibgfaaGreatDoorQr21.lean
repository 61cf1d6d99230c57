/- A part of the proof of TopReads. -/
import Derived.Test.YtimdpiifpibgfaaGreatDoorQr20
set_option linter.all false
set_option maxRecDepth 20000
set_option maxHeartbeats 16000000
open Go.RowKit
namespace Go.Proofs.YtimdpiifpibgfaaGreatDoor
open Tryz
def G9(l:List Fl)(i:Nat):List Fl:=l.take i++l.drop (i+1)
def ZU(l:List Fl)(i:Nat)(tt:ByteArray):List Fl:=
 if (Az (G9 l i) tt).2 then (G9 l i).set (Az (G9 l i) tt).1 ⟨tt,(l.getD i .zero).p,(l.getD i .zero).n,(l.getD i .zero).c,(l.getD i .zero).kept⟩
 else (G9 l i).take (Az (G9 l i) tt).1++⟨tt,(l.getD i .zero).p,(l.getD i .zero).n,(l.getD i .zero).c,(l.getD i .zero).kept⟩ :: (G9 l i).drop (Az (G9 l i) tt).1
theorem YT:∀(l:List Fl) (rest:List Value) (k:Nat) (x:Fl),k<l.length->splice (Jk l++rest) (k*3) x.cells=Jk (l.set k x)++rest
 | [],_,_,_,h=>by simp at h
 | y :: l,rest,0,x,_=>rfl
 | y :: l,rest,k+1,x,h=>by
  have ih:=YT l rest k x (by simpa using h);rw[G8,List.append_assoc,List.set_cons_succ,G8,List.append_assoc,<-ih];show splice (_ :: _ :: _ :: (Jk l++rest)) _ _=_;rw[show (k+1)*3=k*3+1+1+1 by omega]
  rfl
def kL(gd:Nat)(of:Option Nat)(l:List Fl)(i:Nat)(tt:ByteArray)(w w':World):Prop:=
 ∃fs' of',BP w' gd fs' of' (ZU l i tt)/\(of'=of\/∃g,of'=some g/\w.heap.size<=g)/\Mv (λk=>k=gd\/of=some k) w w'
theorem lK(gd i:Nat)(fs:Value)(of:Option Nat)(l:List Fl)(nm tt:ByteArray)(w:World)(h:BP w gd fs of l)(hi:Az l nm=(i,true))(htt:SA tt)(hl:l.length<=900) :Calls prog 166 #[AP gd,.string nm,.string tt] w λe w'=>e=.returned (AA 0)/\kL gd of l i tt w w':=by
 have aq:i<l.length:=by have:=(GR l nm).2;rw[hi] at this;exact this rfl
 obtain⟨KM,KK,KP⟩:=bP (λW=>VN tt W htt) (λW (h:BP W gd fs of l)=>QE gd fs of l nm i W h.d h.f hi) (λW (h:BP W gd fs of l)=>Qk gd _ W h.d);have t:=h.f.blk BJ;obtain⟨g1,O,az,rfl,rfl,b3,bo,aa,bb⟩:=t;have ad:g1≠gd:=aa.ne_of h.d Iz;have b4:=h.d.lt;have bq:=aa.lt;have bc:∀y:Fl,y∈l->∀g,y.ob=some g->g≠g1:=λy u g t=>by obtain⟨_,ho,_⟩:=h.b y u;exact AV.ne_of ho aa Iz g t
 have bd:∀y:Fl,y∈l->∀g,y.ob=some g->g≠gd:=λy u g t=>by obtain⟨_,ho,_⟩:=h.b y u;exact AV.ne_of ho h.d Iz g t
 obtain⟨x,U⟩:∃x,x=l.getD i .zero:=⟨_,rfl⟩;have bz:(Jk l++az).length=O*3:=bb;have a7:∀(j:Nat) (v:Value),x.cells[j]?=some v->(Jk l++az)[i*3+j]?=some v:=λj v hv=>by have hj:j<3:=(List.getElem?_eq_some_iff.1 hv).1;rw[UO l az i j aq hj,<-U];exact hv
 have au:x∈l:=U▸getD_mem l i aq;have a5:(Jk l).take (i*3)++(Jk l).drop ((i+1)*3)=Jk (G9 l i):=by rw[QL,QK];exact(QJ _ _).symm
 have av:(G9 l i).length=l.length-1:=by unfold G9;rw[List.length_append,List.length_take,List.length_drop];omega
 have ax:∀y,y∈G9 l i->y∈l:=λy u=>by
  rcases List.mem_append.1 u with u|u
  .exact List.mem_of_mem_take u
  .exact List.mem_of_mem_drop u
 have hren:∀k V,Az (G9 l i) tt=(k,V)->ZU l i tt=if V then (G9 l i).set k ⟨tt,x.p,x.n,x.c,x.kept⟩ else (G9 l i).take k++⟨tt,x.p,x.n,x.c,x.kept⟩ :: (G9 l i).drop k:=λk V A=>by unfold ZU;rw[A,<-U]
 obtain⟨KF,KD,KI⟩:=bP (λW v ob (hd:Holds W gd 125 (JR v)) (h:Ba W v ob (G9 l i))=>Lp gd v ob (G9 l i) tt W hd h) (λW (h:Ba W (.slice (Ac g1) l.length O) (some g1) l)=>eY g1 l.length O i (Jk l) W h (YS l) aq BJ) (λk v bs y W h U bx hi=>Nv v (some g1) (G9 l i) k bs y W h U bx hi BJ);have ae:=GR (G9 l i) tt;generalize hF:Az (G9 l i) tt=F at KF ae hren;obtain⟨k,V⟩:=F;simp only[] at ae;replace hren:=hren k V rfl;obtain⟨S,bi,bj,B,a,G,q,a0⟩:=ed hren a7 a5 h h.d aa h.f (λy u=>h.b y u);obtain⟨m,I⟩:=WZ (Mv.refl (λk=>k=gd\/some g1=some k) w) (Base.start w);have b5:(i:Int)<l.length:=BJ
 have b6:IntKind.i64.wrap ((i:Int)+1)=(i:Int)+1:=IntWalk.i64_in _ BJ;clear h aa U hi hF hren a7 a5 htt;go_in;have d2:=Am a.o 2;go_wp2_with fail;refine Ah (KM.o _) ?_;rintro w1 D;obtain⟨B,a,G,m,q,I⟩:=Ef D B a G m q I;clear D d2;go_wp2_with fail;refine Ah (KK.o _ B.o) ?_;rintro w2 D;obtain⟨B,a,G,m,q,I⟩:=Ef D B a G m q I;clear D;go_wp2_with fail;refine Ah (KP.o _ B.o) ?_;rintro J D;obtain⟨B,a,G,m,q,I⟩:=Ef D B a G m q I;clear D;have d1:=Am a.o 1;have HR:=qh (G.CB (i*3) bi.o);go_upto_region 9 with(first|(refine lM (i*3) HR.o ?_)|(refine Ai rfl 129 _ _ rfl rfl _ _ x.cells.toArray rfl rfl ND ND (Fl.one' _) ?_));go_name_world W hW;have a6:Holds W J.heap.size 129 x.cells:=by rw[<-hW];exact AC J _ _
 have T:Below J.heap.size J W:=by rw[<-hW];exact(Below.refl _ _).alloc Ve _
 have r:=qh a6;have b0:=m.size;obtain⟨B,a,G,m,q,I⟩:=Ef T B a G m q I;have bl:J.heap.size<W.heap.size:=r.lt;have Z:gd≠J.heap.size/\g1≠J.heap.size:=BJ
 clear hW a6 T HR d1;have br:w.heap.size<=J.heap.size:=b0;generalize J.heap.size=gb at r Z br bl |-;go_upto_region 10 with(first|(refine sC 0 r.o (.string tt) ?_;intro w5 a9 bf));obtain⟨y,u⟩:∃y:Fl,y=⟨tt,x.p,x.n,x.c,x.kept⟩:=⟨_,rfl⟩;have r:=qh (show Holds w5 gb 129 y.cells by rw[u];exact a9);have af:Mv (λk=>k=gb) W w5:=Mv.AZ bf rfl;obtain⟨a,q,m,HY⟩:=bY (a.mv af Z.1) (q.mv af (λg t=>by cases t;exact Z.2)) (m.mv af (λk A=>.inr BJ)) u;clear a9 bf af u B G I;have d1:=Am a.o 1;go_wp2_with fail;refine Ah (KD.o _ q.o) ?_;rintro w6 ⟨aw,bg⟩;have ag:Mv (λk=>k=g1) w5 w6:=Mv.AZ bg rfl;obtain⟨a,r,m⟩:=bP (a.mv ag (Ne.symm ad)) (r.mv ag (Ne.symm Z.2)) (m.mv ag (λk A=>.inl (.inr (by rw[A]))));rw[bj.o] at aw;have a3:=qh aw;clear aw bg ag d1 q;go_upto_region 11 with(first|(refine sC 1 a.o (.slice (Ac g1) (l.length-1:Nat) O) ?_;intro w7 ba bh));have ah:Mv (λk=>k=gd) w6 w7:=Mv.AZ bh rfl;obtain⟨a,q,r,m⟩:=bY (show Holds w7 gd 125 (JR (.slice (Ac g1) (l.length-1:Nat) O)) from ba) (show Ba w7 (.slice (Ac g1) (l.length-1:Nat) O) (some g1) (G9 l i) by unfold Ba;rw[av];exact a3.mv ah (λg t=>by cases t;exact ad)) (r.mv ah (Ne.symm Z.1)) (m.mv ah (λk A=>.inl (.inl A)));clear ba bh ah a3;go_wp2_with fail;refine Ah (KF.o _ _ _ a.o q.o) ?_;rintro H D;obtain⟨a,q,r,m⟩:=En D a q r m;clear D;have am:=qh (show ∀z,z∈G9 l i->∀N,Mv (λk=>k=gd\/some g1=some k) w N->Gf N z from λz s N hm=>(a0.o z (ax z s)).mv hm (λg t E=>E.elim (bd z (ax z s) g t) (λE=>bc z (ax z s) g t (by injection E with E;exact E.symm))));have a4:=qh (show ∀N,Mv (λk=>k=gd\/some g1=some k) w N->Gf N y from λN hm=>by
  rw[HY.o];exact Gf.kept ((a0.o x au).mv hm (λg t E=>E.elim (bd x au g t) (λE=>bc x au g t (by injection E with E;exact E.symm)))) tt x.kept)
 have hren:=S.o;rw[<-HY.o] at hren;have S:=qh hren;clear hren;have b7:(k:Int)<l.length:=BJ
 have cb:=m.size;have cc:=bq;cases V
 .go_upto_region 15 with(fail);have M:=qh (λ(w':World) (h:Below H.drew.heap.size H.drew w')=>(((r.bel (AY _ H)).bel h).Af));obtain⟨a,q,r,m⟩:=En (AY _ H) a q r m;refine Ed [8,11] 12 (λhSn=>?_);generalize H.drew=R at a q r m M hSn |-;simp only[List.replicate];refine J9 0 ?_;refine BO 4 [8,9,10,11] (λw P=>Am (a.bel P) 1) ?_;refine CW 5 ?_;refine JL 6 [7,8,9,10,11] (some 75) (.agg (y.cells).toArray) rfl (yieldsIf_load_mid (by rfl) 129 _ rfl gb 0 rfl (y.cells) _ (λw P=>M.o w P) underlying129 rfl (by as_aux_lemma=>kernel_rfl)) hSn ?rg7;simp only[Act.put,zA,zB,zC];refine BN 7 rfl (λK C=>?_);go_simp;have T:=λo=>Below.alloc hSn hSn.size o;refine C.out _ _ (λ_=>T _) ?_;have hSn:=T (.cells y.cells.toArray 129);have HG:=qh (show Holds (R.alloc (.cells y.cells.toArray 129)) R.heap.size 129 y.cells from AC R _ _);clear T;change wpAnyL _ _ _ _ _ _ _ _ _ (R.alloc (.cells y.cells.toArray 129));generalize R.alloc (.cells y.cells.toArray 129)=wa at hSn HG |-;clear C;try simp only[Act.put,zA,zB,zC]
  refine BN 8 rfl (λK C=>?_);go_simp;have ca:=m.size;have bt:g1≠R.heap.size:=by have:=m.size;omega
  refine(KI.o k _ _ y _ (q.bel hSn) HG.o (λh=>bt (by injection h)) ae.1).mono ?_;rintro e w9 ⟨v9,ay,rfl,ao,be,ar⟩;have b9:=hSn.size;obtain⟨p6,n6,c6,rfl⟩:∃p n c,v9=.slice p n c:=by obtain⟨p,c,hv,_⟩:=ao.rows;exact⟨p,_,c,hv⟩
  obtain⟨al,bk,aj,a2⟩:=bY ao (show ay=some g1\/∃g,ay=some g/\w.heap.size<=g from be.imp id λ⟨g,h1,h2⟩=>⟨g,h1,BJ⟩) ((a.bel hSn).mv ar (λh=>ad (by injection h))) ((m.bel hSn).mv ar (λk A=>.inl (.inr A)));clear ao be ar;refine BR C ?_;clear C;refine F9 9 ?_ (hS:=JI);refine BN 11 rfl (λK C=>?_);refine tC 1 aj.o (.slice p6 n6 c6) ?_;intro w10 ab ac;obtain⟨ai,Y⟩:=WZ (show Holds w10 gd 125 (JR (.slice p6 n6 c6)) from ab) ac;clear ab ac;refine BR C ?_;clear C;refine BA ?_;have Q:Mv (λk=>k=gd) _ w10:=Mv.AZ Y.o rfl;obtain⟨L,ak⟩:=WZ (a2.mv Q (λk A=>.inl (.inl A))) (al.mv Q (AV.ne_of al.o aj.o Iz));clear hSn a q r m M HG Y al aj a2 Q;go_wp2_with fail;go_ret;refine⟨rfl,_,ay,⟨ai.o,?_,λz s=>?_⟩,bk.o,L.o⟩
  .rw[S.o];exact ak.o
  .rw[S.o] at s;rcases List.mem_append.1 s with s|s
   .exact am.o z (List.mem_of_mem_take s) _ L.o
   .rcases List.mem_cons.1 s with rfl|s
    .exact a4.o _ L.o
    .exact am.o z (List.mem_of_mem_drop s) _ L.o
 .go_upto_region 13 with(fail);have M:=qh (λ(w':World) (h:Below H.drew.heap.size H.drew w')=>(((r.bel (AY _ H)).bel h).Af));have bu:k<(G9 l i).length:=ae.2 trivial;have bm:=AV.blk q.o BJ;obtain⟨g0,b2,cd,b1,bp,_,_,a8,bv⟩:=bm;cases bp;injection b1 with _ bw bn;subst bn;have X:=qh a8;clear a8;have b8:(k:Int)<(l.length-1:Nat):=BJ
  clear bb bz bw;obtain⟨a,q,r,m,X⟩:=Gj (AY _ H) a q r m X;refine Ed [7] 8 (λhSn=>?_);generalize H.drew=R at a q r m X M hSn |-;simp only[List.replicate];refine ES 0 ?_;refine BO 3 [6,7] (λw P=>Am (a.bel P) 1) ?_;refine CW 4 ?_;refine JL 5 [6,7] (some 67) (.agg (y.cells).toArray) rfl (yieldsIf_load_mid (by rfl) 129 _ rfl gb 0 rfl (y.cells) _ (λw P=>M.o w P) underlying129 rfl (by as_aux_lemma=>kernel_rfl)) hSn ?rg15;simp only[Act.put,zA,zB,zC];refine CW 6 ?_;refine BN 7 rfl (λK C=>?_);refine FB rfl 129 (.tmp 68) (.tmp 67) rfl rfl g1 (k*3) _ 129 (X.bel hSn) rfl y.cells rfl ND (by rw[List.length_append,FZ,Fl.len];omega) (Fl.one _) ?_;intro w10 ab ac;obtain⟨a1,Y⟩:=WZ ab ac;clear ab ac;refine BR C ?_;clear C;refine BA ?_;have Q:Mv (λk=>k=g1) _ w10:=Mv.AZ Y.o rfl;obtain⟨L,ai⟩:=WZ ((m.bel hSn).mv Q (λk A=>.inl (.inr (by rw[A])))) ((a.bel hSn).mv Q (Ne.symm ad));have ap:=a1.o;rw[YT _ _ _ _ bu] at ap;have an:Ba w10 (.slice (Ac g1) ((G9 l i).set k y).length O) (some g1) ((G9 l i).set k y):=AV.mk' ap (by rw[FZ]) (by rw[List.length_append,FZ,List.length_set] at *;exact bv) (by rw[List.length_set,av];omega) bo;rw[List.length_set,av] at an;have ak:=qh an;clear hSn a q r m M Y Q X a1 ap an;go_wp2_with fail;go_ret;refine⟨rfl,_,some g1,⟨ai.o,?_,λz s=>?_⟩,.inl rfl,L.o⟩
  .rw[S.o];exact ak.o
  .rw[S.o] at s;rcases List.mem_or_eq_of_mem_set s with s|rfl
   .exact am.o z s _ L.o
   .exact a4.o _ L.o
def EZ(k:Nat):ByteArray:=⟨#[108,111,103,46,49,46,UInt8.ofNat (48+k)]⟩
def Qc:ByteArray:=⟨#[105,109,97,103,101]⟩
def JM:ByteArray:=⟨#[105,109,97,103,101,46,110,101,119]⟩
theorem nK:∀k,k<10->SA (EZ k):=by
 have h:∀k:Fin 10,(EZ k).toList.isEmpty=false/\(EZ k).size<=24/\∀i:Fin 7,33<=((EZ k).data[i.val]!).toNat/\((EZ k).data[i.val]!).toNat<=126:=by decide +kernel
 intro k g;obtain⟨b,c,d⟩:=h ⟨k,g⟩;refine⟨b,c,λi a=>?_⟩;have f:=d ⟨i,a⟩;have e:((EZ k).data[i]!)=(EZ k)[i]:=getElem!_pos (EZ k).data i a;simpa only[e] using f
theorem nJ:SA Qc:=by
 refine⟨by decide +kernel,Iz,λi a=>?_⟩;have h:∀i:Fin 5,33<=((Qc).data[i.val]!).toNat/\((Qc).data[i.val]!).toNat<=126:=by decide +kernel
 have b:=h ⟨i,a⟩;have e:(Qc.data[i]!)=Qc[i]:=getElem!_pos Qc.data i a;simpa only[e] using b
theorem nM:SA JM:=by
 refine⟨by decide +kernel,Iz,λi a=>?_⟩;have h:∀i:Fin 9,33<=((JM).data[i.val]!).toNat/\((JM).data[i.val]!).toNat<=126:=by decide +kernel
 have b:=h ⟨i,a⟩;have e:(JM.data[i]!)=JM[i]:=getElem!_pos JM.data i a;simpa only[e] using b
theorem iT:∀i j,i<10->j<10->SpanP.lt (EZ i) (EZ j)=decide (i<j)/\SpanP.same (EZ i) (EZ j)=decide (i=j):=by
 have h:∀i j:Fin 10,SpanP.lt (EZ i) (EZ j)=decide (i.val<j.val)/\SpanP.same (EZ i) (EZ j)=decide (i.val=j.val):=by decide +kernel
 intro i j a b;exact h ⟨i,a⟩ ⟨j,b⟩
theorem tX:∀j,j<10->SpanP.lt Qc (EZ j)=true/\SpanP.lt JM (EZ j)=true/\SpanP.lt (EZ j) Qc=false/\SpanP.same (EZ j) Qc=false/\SpanP.lt (EZ j) JM=false/\SpanP.same (EZ j) JM=false:=by
 have h:∀j:Fin 10,SpanP.lt Qc (EZ j)=true/\SpanP.lt JM (EZ j)=true/\SpanP.lt (EZ j) Qc=false/\SpanP.same (EZ j) Qc=false/\SpanP.lt (EZ j) JM=false/\SpanP.same (EZ j) JM=false:=by decide +kernel
 intro j a;exact h ⟨j,a⟩
theorem Ya:SpanP.lt Qc JM=true/\SpanP.lt Qc Qc=false/\SpanP.same Qc Qc=true:=by decide +kernel
theorem Lr:∀(a b:List Fl) (nm:ByteArray),(∀x∈a,SpanP.lt x.nm nm=true)->Az (a++b) nm=(a.length+(Az b nm).1,(Az b nm).2)
 | [],b,nm,_=>Vj
 | x :: a,b,nm,h=>by have ih:=Lr a b nm λy c=>h y (List.mem_cons_of_mem _ c);rw[List.cons_append];rw[show Az (x :: (a++b)) nm=((Az (a++b) nm).1+1,(Az (a++b) nm).2) from if_pos (h x List.mem_cons_self),ih,List.length_cons];simp only[Prod.mk.injEq,and_true];omega
theorem IX(x:Fl)(b:List Fl)(nm:ByteArray)(h:SpanP.lt x.nm nm=false):Az (x :: b) nm=(0,SpanP.same x.nm nm):=by unfold Az;rw[if_neg (by rw[h];decide)]
structure BV(im sg:List Fl)(k m:Nat):Prop where
 im:im=[]\/∃x,im=[x]/\x.nm=Qc/\x.n<=20000
 len:sg.length=k
 nm:∀j,j<k->(sg.getD j .zero).nm=EZ (j+1)
 pos:∀j,j<k->1<=(sg.getD j .zero).n
 big:∀j,j+1<k->4096<(sg.getD j .zero).n
 sum:sizes sg=m
theorem Jw(a b:List Fl):sizes (a++b)=sizes a+sizes b:=by unfold sizes;rw[List.map_append,List.sum_append]
theorem Fz(x:Fl)(b:List Fl):sizes (x :: b)=x.n+sizes b:=by unfold sizes;rw[List.map_cons,List.sum_cons]
theorem Qw:∀(l:List Fl) (c:Nat),(∀j,j<l.length->c<=(l.getD j .zero).n)->l.length*c<=sizes l
 | [],c,_=>Vj
 | x :: l,c,h=>by
  have ih:=Qw l c λj b=>by simpa using h (j+1) (by simpa using b)
  have a:=h 0 Vj;rw[List.getD_cons_zero] at a;rw[Fz,List.length_cons,Nat.add_mul,Nat.one_mul];omega
theorem BV.few{im sg:List Fl}{k m:Nat}(h:BV im sg k m)(hm:m<=32000):k<=8:=by
 rcases Nat.eq_zero_or_pos k with a|a
 .omega
 .have h1:=Qw (sg.take (k-1)) 4097 λj c=>by rw[List.length_take,h.len] at c;have:=h.big j BJ;rw[List.getD_eq_getElem?_getD,List.getElem?_take_of_lt BJ,<-List.getD_eq_getElem?_getD];exact this
  have b:=LP sg (k-1);rw[h.sum] at b;rw[List.length_take,h.len,Nat.min_eq_left BJ] at h1;omega
theorem BV.xx{im sg:List Fl}{k m:Nat}(h:BV im sg k m):sizes im<=20000/\im.length<=1:=by
 rcases h.im with rfl|⟨x,rfl,_,a⟩
 .exact⟨Iz,Iz⟩
 .rw[Fz];exact⟨a,Ve⟩
theorem BV.yT{im sg:List Fl}{k m:Nat}(h:BV im sg k m)(j:Nat)(hj:j<10):∀x∈im,SpanP.lt x.nm (EZ j)=true:=λx a=>by
 rcases h.im with rfl|⟨y,rfl,b,_⟩
 .cases a
 .rw[List.mem_singleton.1 a,b];exact(tX j hj).1
theorem WI:∀(sg:List Fl) (o j:Nat),(∀i,i<sg.length->(sg.getD i .zero).nm=EZ (o+i))->o<=j->j<10->o+sg.length<11->Az sg (EZ j)=if j-o<sg.length then (j-o,true) else (sg.length,false)
 | [],o,j,_,_,_,_=>by simp[Az]
 | x :: sg,o,j,h,ho,hj,hk=>by
  have h0:=h 0 Vj;rw[List.getD_cons_zero,Nat.add_zero] at h0;rw[List.length_cons] at hk;by_cases c:o=j
  .subst c;rw[IX x sg _ (by rw[h0,(iT _ _ BJ hj).1];simp),h0,(iT _ _ BJ hj).2];simp
  .have ih:=WI sg (o+1) j (λi b=>by have:=h (i+1) (by simpa using b);rw[List.getD_cons_succ] at this;rw[this];congr 1;omega) BJ hj BJ;rw[show Az (x :: sg) (EZ j)=((Az sg (EZ j)).1+1,(Az sg (EZ j)).2) from if_pos (by rw[h0,(iT _ _ BJ hj).1];simp;omega),ih,List.length_cons];by_cases a:j - (o+1)<sg.length
   .rw[if_pos a,if_pos BJ];simp only[Prod.mk.injEq,and_true];omega
   .rw[if_neg a,if_neg BJ]
theorem BV.find{im sg:List Fl}{k m:Nat}(h:BV im sg k m)(hk:k<=8)(j:Nat)(h1:1<=j)(h2:j<=k+1):Az (im++sg) (EZ j)=if j<=k then (im.length+(j-1),true) else (im.length+k,false):=by
 rw[Lr im sg _ (h.yT j BJ),WI sg 1 j (λi b=>by rw[Nat.add_comm];exact h.nm i (by rw[<-h.len];exact b)) h1 BJ (by rw[h.len];omega),h.len];by_cases a:j<=k
 .rw[if_pos a,if_pos BJ]
 .rw[if_neg a,if_neg BJ]
theorem BV.vX{im sg:List Fl}{k m:Nat}(h:BV im sg k m)(hk:k<=8):Az (im++sg) JM=(im.length,false):=by
 have d:∀x∈im,SpanP.lt x.nm JM=true:=λx c=>by
  rcases h.im with rfl|⟨y,rfl,f,_⟩
  .cases c
  .rw[List.mem_singleton.1 c,f];exact Ya.1
 rw[Lr im sg _ d];cases sg with
 | nil=>rfl
 | cons x sg=>
  have a:=h.nm 0 (by rw[<-h.len];simp);rw[List.getD_cons_zero] at a;have b:=tX 1 BJ;rw[IX x sg _ (by rw[a];exact b.2.2.2.2.1),a,b.2.2.2.2.2]
  rfl
def YC(l' l:List Fl)(p:Option Addr):Prop:=∀y∈l',(∃x∈l,x.ob=y.ob)\/y.p=p
theorem EK(a b:List Fl)(i:Nat):(a++b).getD (a.length+i) .zero=b.getD i .zero:=by rw[List.getD_eq_getElem?_getD,List.getElem?_append_right BJ,Nat.add_sub_cancel_left,<-List.getD_eq_getElem?_getD]
theorem FW(a b:List Fl)(i:Nat)(x:Fl):(a++b).set (a.length+i) x=a++b.set i x:=by rw[List.set_append_right _ _ BJ,Nat.add_sub_cancel_left]
theorem TZ:∀(l:List Fl) (i:Nat) (x:Fl),i<l.length->sizes (l.set i x)+(l.getD i .zero).n=sizes l+x.n
 | [],i,x,h=>by simp at h
 | y :: l,0,x,_=>by rw[List.set_cons_zero,Fz,Fz,List.getD_cons_zero];omega
 | y :: l,i+1,x,h=>by have ih:=TZ l i x (by simpa using h);rw[List.set_cons_succ,Fz,Fz,List.getD_cons_succ];omega
theorem Ns(l:List Fl)(i j:Nat)(x:Fl)(hi:i<l.length):(l.set i x).getD j .zero=if j=i then x else l.getD j .zero:=by
 rw[List.getD_eq_getElem?_getD,List.getElem?_set];by_cases h:i=j
 .subst h;rw[if_pos rfl,if_pos hi,if_pos rfl];rfl
 .rw[if_neg h,if_neg (Ne.symm h),<-List.getD_eq_getElem?_getD]
theorem Ls(l:List Fl)(x:Fl)(j:Nat):(l++[x]).getD j .zero=if j<l.length then l.getD j .zero else if j=l.length then x else .zero:=by
 rw[List.getD_eq_getElem?_getD];by_cases h:j<l.length
 .rw[if_pos h,List.getElem?_append_left h,<-List.getD_eq_getElem?_getD]
 .rw[if_neg h,List.getElem?_append_right BJ];by_cases a:j=l.length
  .subst a;simp
  .rw[if_neg a,List.getElem?_eq_none (by simp;omega)];rfl
theorem BV.set{im sg:List Fl}{k m:Nat}(h:BV im sg k m)(h1:1<=k)(y:Fl)(len:Nat)(hy:y.nm=EZ k)(hn:y.n=(sg.getD (k-1) .zero).n+len):BV im (sg.set (k-1) y) k (m+len):=by
 have c:=h.len;have b:k-1<sg.length:=BJ
 have d:=h.pos (k-1) BJ;refine⟨h.im,by rw[List.length_set,c],λj a=>?_,λj a=>?_,λj a=>?_,?_⟩
 .rw[Ns _ _ _ _ b];split
  .rename_i e;subst e;rw[hy,Nat.sub_add_cancel h1]
  .exact h.nm j a
 .rw[Ns _ _ _ _ b];split
  .omega
  .exact h.pos j a
 .rw[Ns _ _ _ _ b,if_neg BJ];exact h.big j a
 .have:=TZ sg (k-1) y b;rw[h.sum,hn] at this;omega
theorem BV.app1{im sg:List Fl}{k m:Nat}(h:BV im sg k m)(h1:1<=k)(hk:k<=8)(p:Option Addr)(len c:Nat) :∃sg',(∃i,Az (Fp (im++sg) (EZ k) p len c) (EZ k)=(i,true)/\JS (Fp (im++sg) (EZ k) p len c) i=im++sg')/\BV im sg' k (m+len)/\YC (im++sg') (im++sg) p:=by
 have q:=h.len;have j:k-1<sg.length:=BJ
 have b:=h.find hk k h1 BJ;rw[if_pos (Nat.le_refl k)] at b;have l:Pg (im++sg) (EZ k)=im++sg:=if_pos (by rw[b]);have o:(sg.getD (k-1) .zero).nm=EZ k:=by rw[h.nm (k-1) BJ,Nat.sub_add_cancel h1]
 have d:Fp (im++sg) (EZ k) p len c=im++sg.set (k-1) ⟨EZ k,p,(sg.getD (k-1) .zero).n+len,c,(sg.getD (k-1) .zero).kept⟩:=by unfold Fp;rw[l,b,EK,FW,o]
 have g:=h.set h1 ⟨EZ k,p,(sg.getD (k-1) .zero).n+len,c,(sg.getD (k-1) .zero).kept⟩ len rfl rfl;have f:=g.find hk k h1 BJ;rw[if_pos (Nat.le_refl k)] at f;refine⟨sg.set (k-1) ⟨EZ k,p,(sg.getD (k-1) .zero).n+len,c,((sg.getD (k-1) .zero).n+len:Nat)⟩,⟨im.length+(k-1),by rw[d];exact f,?_⟩,h.set h1 _ len rfl rfl,λy a=>?_⟩
 .rw[d];unfold JS;rw[EK,FW,Ns _ _ _ _ j,if_pos rfl,List.set_set]
 .rcases List.mem_append.1 a with a|a
  .exact .inl ⟨y,List.mem_append.2 (.inl a),rfl⟩
  .rcases List.mem_or_eq_of_mem_set a with a|rfl
   .exact .inl ⟨y,List.mem_append.2 (.inr a),rfl⟩
   .exact .inr rfl
theorem BV.snoc{im sg:List Fl}{k m:Nat}(h:BV im sg k m)(hb:k=0\/4096<(sg.getD (k-1) .zero).n)(y:Fl)(len:Nat)(hy:y.nm=EZ (k+1))(hn:y.n=len)(hlen:1<=len):BV im (sg++[y]) (k+1) (m+len):=by
 have a:=h.len;refine⟨h.im,by rw[List.length_append,a];rfl,λj b=>?_,λj b=>?_,λj b=>?_,?_⟩
 .rw[Ls,a];split
  .exact h.nm j (by assumption)
  .rw[if_pos BJ,hy,show j=k by omega]
 .rw[Ls,a];split
  .exact h.pos j (by assumption)
  .rw[if_pos BJ];omega
 .rw[Ls,a,if_pos BJ];by_cases c:j+1<k
  .exact h.big j c
  .rcases hb with hb|hb
   .omega
   .rw[show j=k-1 by omega];exact hb
 .rw[Jw,h.sum,Fz,hn]
  rfl
theorem BV.uy{im sg:List Fl}{k m:Nat}(h:BV im sg k m)(hk:k<=7)(hb:k=0\/4096<(sg.getD (k-1) .zero).n)(p:Option Addr)(len c:Nat)(hlen:1<=len) :∃sg',(∃i,Az (Fp (im++sg) (EZ (k+1)) p len c) (EZ (k+1))=(i,true)/\JS (Fp (im++sg) (EZ (k+1)) p len c) i=im++sg')/\BV im sg' (k+1) (m+len)/\YC (im++sg') (im++sg) p:=by
 have d:=h.len;have b:=h.find BJ (k+1) BJ BJ;rw[if_neg BJ] at b;have q:Pg (im++sg) (EZ (k+1))=im++(sg++[⟨EZ (k+1),none,0,0,0⟩]):=by unfold Pg;rw[b,if_neg Vj];show (im++sg).take (im.length+k)++_ :: (im++sg).drop (im.length+k)=_;rw[show im.length+k=(im++sg).length by rw[List.length_append,d],List.take_length,List.drop_length,List.append_assoc]
 have j:∀y:Fl,(sg++[y]).getD k .zero=y:=λy=>by rw[Ls,d,if_neg BJ,if_pos rfl]
 have l:∀y z:Fl,(sg++[y]).set k z=sg++[z]:=λy z=>by rw[<-d,List.set_append_right _ _ Ve,Nat.sub_self];rfl
 have f:Fp (im++sg) (EZ (k+1)) p len c=im++(sg++[⟨EZ (k+1),p,0+len,c,0⟩]):=by unfold Fp;rw[q,b,EK,FW,j,l]
 have o:=h.snoc hb ⟨EZ (k+1),p,0+len,c,0⟩ len rfl (Nat.zero_add _) hlen;have g:=o.find BJ (k+1) BJ BJ;rw[if_pos Ve,Nat.add_sub_cancel] at g;refine⟨sg++[⟨EZ (k+1),p,0+len,c,(0+len:Nat)⟩],⟨im.length+k,by rw[f];exact g,?_⟩,h.snoc hb _ len rfl (Nat.zero_add _) hlen,λy a=>?_⟩
 .rw[f];unfold JS;rw[EK,FW,j,l]
 .rcases List.mem_append.1 a with a|a
  .exact .inl ⟨y,List.mem_append.2 (.inl a),rfl⟩
  .rcases List.mem_append.1 a with a|a
   .exact .inl ⟨y,List.mem_append.2 (.inr a),rfl⟩
   .rw[List.mem_singleton.1 a];exact .inr rfl
theorem BV.keep{im sg:List Fl}{k m:Nat}(h:BV im sg k m)(hk:k<=8)(p:Option Addr)(len c:Nat)(hlen:len<=20000) :∃i im',Az (Fp (im++sg) JM p len c) JM=(i,true)/\Az (JS (Fp (im++sg) JM p len c) i) JM=(i,true)/\ZU (JS (Fp (im++sg) JM p len c) i) i Qc=im'++sg/\BV im' sg k m/\YC (im'++sg) (im++sg) p/\((Pg (im++sg) JM).getD (Az (im++sg) JM).1 .zero).n=0:=by
 have g:=h.vX hk;have w:∀x∈im,SpanP.lt x.nm JM=true:=λx t=>by
  rcases h.im with rfl|⟨y,rfl,b,_⟩
  .cases t
  .rw[List.mem_singleton.1 t,b];exact Ya.1
 have q:Pg (im++sg) JM=im++⟨JM,none,0,0,0⟩ :: sg:=by
  unfold Pg;rw[g,if_neg Vj];show (im++sg).take im.length++_ :: (im++sg).drop im.length=_;rw[List.take_left',List.drop_left']
  .rfl
  .rfl
 have d:∀(y:Fl),(im++y :: sg).getD im.length .zero=y:=λy=>by have:=EK im (y :: sg) 0;rw[Nat.add_zero] at this;exact this
 have r:∀(y z:Fl),(im++y :: sg).set im.length z=im++z :: sg:=λy z=>by have:=FW im (y :: sg) 0 z;rw[Nat.add_zero] at this;exact this
 have j:Fp (im++sg) JM p len c=im++⟨JM,p,0+len,c,0⟩ :: sg:=by unfold Fp;rw[q,g,d,r]
 have l:∀y:Fl,y.nm=JM->Az (im++y :: sg) JM=(im.length,true):=λy a=>by rw[Lr im _ _ w,IX y sg _ (by rw[a];decide +kernel),a];simp only[Prod.mk.injEq];exact⟨rfl,by decide +kernel⟩
 have s:JS (Fp (im++sg) JM p len c) im.length=im++⟨JM,p,0+len,c,(0+len:Nat)⟩ :: sg:=by rw[j];unfold JS;rw[d,r]
 have v:G9 (im++(⟨JM,p,0+len,c,(0+len:Nat)⟩:Fl) :: sg) im.length=im++sg:=by unfold G9;rw[List.take_left' rfl,show im++(⟨JM,p,0+len,c,(0+len:Nat)⟩:Fl) :: sg=(im++[⟨JM,p,0+len,c,(0+len:Nat)⟩])++sg by simp,List.drop_left' Vj]
 have u:Az (im++sg) Qc=(0,!im.isEmpty):=by
  rcases h.im with rfl|⟨x,rfl,b,_⟩
  .cases sg with
   | nil=>rfl
   | cons x sg=>
    have f:=h.nm 0 (by rw[<-h.len];simp);rw[List.getD_cons_zero] at f;have o:=tX 1 BJ;rw[List.nil_append,IX x sg _ (by rw[f];exact o.2.2.1),f,o.2.2.2.1]
    rfl
  .show Az (x :: sg) Qc=_;rw[IX x sg _ (by rw[b];exact Ya.2.1),b,Ya.2.2]
   rfl
 refine⟨im.length,[⟨Qc,p,0+len,c,(0+len:Nat)⟩],by rw[j];exact l _ rfl,by rw[s];exact l _ rfl,?_,⟨.inr ⟨_,rfl,rfl,by show 0+len<=_;omega⟩,h.len,h.nm,h.pos,h.big,h.sum⟩,λy a=>?_,by rw[q,g];show ((im++_ :: sg).getD im.length .zero).n=0;rw[d]⟩
 .rw[s];unfold ZU;rw[v,u,d];rcases h.im with rfl|⟨x,rfl,b,_⟩
  .rfl
  .rfl
 .rcases List.mem_append.1 a with a|a
  .rw[List.mem_singleton.1 a];exact .inr rfl
  .exact .inl ⟨y,List.mem_append.2 (.inr a),rfl⟩
theorem Au.touch{w w':World}{B g:Nat}{v:Value}{n:Nat}(h:Au w B v n)(ht:Touch g w w')(hg:g<B):Au w' B v n:=by obtain⟨c,k,l,m,o⟩:=h;exact⟨c,k,l,m,o.imp id λ⟨b,d,f,i,j,a,r⟩=>⟨b,d,f,i,j,(ht.block b (Array.getElem?_eq_some_iff.1 a).1 BJ).trans a,r⟩⟩
theorem wP(gd:Nat)(s:ByteArray)(w:World)(h:F7 w gd) :Calls prog 103 #[AP gd,.string s] w λe w'=>e=.returned (.tuple #[AL,.bool false])/\Below w.heap.size w w':=by
 have c:=qh (vW gd s w h);clear h;go_in;go_wp2_with fail;refine c.mono ?_;rintro e d ⟨rfl,a⟩;have b:=qh a;clear a;go_wp2_with fail
 go_ret2
 exact⟨rfl,b.o⟩
def digit(k:Nat):ByteArray:=⟨#[UInt8.ofNat (48+k)]⟩
theorem uU(k:Nat)(h:1<=k/\k<=8)(w:World):Calls prog 99 #[AA (k:Int)] w λe w'=>e=.returned (.string (digit k))/\Below w.heap.size w w':=by
 rcases(show k=1\/k=2\/k=3\/k=4\/k=5\/k=6\/k=7\/k=8 by omega) with rfl|rfl|rfl|rfl|rfl|rfl|rfl|rfl;all_goals
  clear h;go_in;go_wp2_with fail;go_ret;exact⟨rfl,Below.refl _ _⟩
theorem xq(k:Nat)(h:1<=k/\k<=8)(w:World):Calls prog 59 #[AA (k:Int),AA 10] w λe w'=>e=.returned (.string (digit k))/\Below w.heap.size w w':=by
 have K:=qh (uU k h);generalize digit k=s at K |-;rcases(show k=1\/k=2\/k=3\/k=4\/k=5\/k=6\/k=7\/k=8 by omega) with rfl|rfl|rfl|rfl|rfl|rfl|rfl|rfl;all_goals
  clear h;go_in;go_wp2_with fail;refine Ah (K.out _) ?_;rintro c a;have b:=qh a;clear a;go_wp2_with fail;go_ret;exact⟨rfl,b.o⟩
theorem tJ(k:Nat)(h:1<=k/\k<=8)(w:World):Calls prog 40 #[AA (k:Int)] w λe w'=>e=.returned (.string (digit k))/\Below w.heap.size w w':=by have K:=qh (xq k h);generalize digit k=s at K |-;have c:IntKind.i64.wrap (k:Int)=(k:Int):=IntWalk.i64_in _ BJ;clear h;go_in;go_wp2_with fail;refine Ah (K.out _) ?_;rintro d a;have b:=qh a;clear a;go_wp2_with fail;go_ret;exact⟨rfl,b.o⟩
theorem qN(k:Nat)(h:1<=k/\k<=8)(w:World):Calls prog 20 #[AA (k:Int)] w λe w'=>e=.returned (.string (digit k))/\Below w.heap.size w w':=by have K:=qh (tJ k h);generalize digit k=s at K |-;clear h;go_in;go_wp2_with fail;refine Ah (K.out _) ?_;rintro c a;have b:=qh a;clear a;go_wp2_with fail;go_ret;exact⟨rfl,b.o⟩
theorem qU(k:Nat)(h:1<=k/\k<=8)(w:World):Calls prog 109 #[.agg #[AA 1,AA (k:Int)]] w λe w'=>e=.returned (.string (EZ k))/\Below w.heap.size w w':=by
 have K:=qh (show ∀w,Calls prog 20 #[AA 1] w λe w'=>e=.returned (.string ⟨#[49]⟩)/\Below w.heap.size w w' from λW=>qN 1 BJ W);have KK:=qN k h;rcases(show k=1\/k=2\/k=3\/k=4\/k=5\/k=6\/k=7\/k=8 by omega) with rfl|rfl|rfl|rfl|rfl|rfl|rfl|rfl
 .replace KK:=qh (show ∀w,Calls prog 20 #[AA 1] w λe w'=>e=.returned (.string ⟨#[49]⟩)/\Below w.heap.size w w' from KK);clear h;go_in;go_upto_region 1 with(fail);go_name_world W c;obtain⟨b,d,g⟩:=GI 206 ([AA 1,AA 1]) c;clear c;obtain⟨i,j⟩:=JO b.o 0 1;have a:=qh d;clear d g b;refine wp_region_quiet_below ND ND ?_;repeat go_big_quiet_step (first|(go_at_call 20;with_reducible first|exact AQ λW _=>K.out W|exact AQ λW _=>KK.o W))
  refine wpQuiet_nil ?_;intro l f;have a:=qh (AO a.o (Aa f));clear f i j;go_wp2_with fail;go_ret;exact⟨rfl,a.o⟩
 .replace KK:=qh (show ∀w,Calls prog 20 #[AA 2] w λe w'=>e=.returned (.string ⟨#[50]⟩)/\Below w.heap.size w w' from KK);clear h;go_in;go_upto_region 1 with(fail);go_name_world W c;obtain⟨b,d,g⟩:=GI 206 ([AA 1,AA 2]) c;clear c;obtain⟨i,j⟩:=JO b.o 0 1;have a:=qh d;clear d g b;refine wp_region_quiet_below ND ND ?_;repeat go_big_quiet_step (first|(go_at_call 20;with_reducible first|exact AQ λW _=>K.out W|exact AQ λW _=>KK.o W))
  refine wpQuiet_nil ?_;intro l f;have a:=qh (AO a.o (Aa f));clear f i j;go_wp2_with fail;go_ret;exact⟨rfl,a.o⟩
 .replace KK:=qh (show ∀w,Calls prog 20 #[AA 3] w λe w'=>e=.returned (.string ⟨#[51]⟩)/\Below w.heap.size w w' from KK);clear h;go_in;go_upto_region 1 with(fail);go_name_world W c;obtain⟨b,d,g⟩:=GI 206 ([AA 1,AA 3]) c;clear c;obtain⟨i,j⟩:=JO b.o 0 1;have a:=qh d;clear d g b;refine wp_region_quiet_below ND ND ?_;repeat go_big_quiet_step (first|(go_at_call 20;with_reducible first|exact AQ λW _=>K.out W|exact AQ λW _=>KK.o W))
  refine wpQuiet_nil ?_;intro l f;have a:=qh (AO a.o (Aa f));clear f i j;go_wp2_with fail;go_ret;exact⟨rfl,a.o⟩
 .replace KK:=qh (show ∀w,Calls prog 20 #[AA 4] w λe w'=>e=.returned (.string ⟨#[52]⟩)/\Below w.heap.size w w' from KK);clear h;go_in;go_upto_region 1 with(fail);go_name_world W c;obtain⟨b,d,g⟩:=GI 206 ([AA 1,AA 4]) c;clear c;obtain⟨i,j⟩:=JO b.o 0 1;have a:=qh d;clear d g b;refine wp_region_quiet_below ND ND ?_;repeat go_big_quiet_step (first|(go_at_call 20;with_reducible first|exact AQ λW _=>K.out W|exact AQ λW _=>KK.o W))
  refine wpQuiet_nil ?_;intro l f;have a:=qh (AO a.o (Aa f));clear f i j;go_wp2_with fail;go_ret;exact⟨rfl,a.o⟩
 .replace KK:=qh (show ∀w,Calls prog 20 #[AA 5] w λe w'=>e=.returned (.string ⟨#[53]⟩)/\Below w.heap.size w w' from KK);clear h;go_in;go_upto_region 1 with(fail);go_name_world W c;obtain⟨b,d,g⟩:=GI 206 ([AA 1,AA 5]) c;clear c;obtain⟨i,j⟩:=JO b.o 0 1;have a:=qh d;clear d g b;refine wp_region_quiet_below ND ND ?_;repeat go_big_quiet_step (first|(go_at_call 20;with_reducible first|exact AQ λW _=>K.out W|exact AQ λW _=>KK.o W))
  refine wpQuiet_nil ?_;intro l f;have a:=qh (AO a.o (Aa f));clear f i j;go_wp2_with fail;go_ret;exact⟨rfl,a.o⟩
 .replace KK:=qh (show ∀w,Calls prog 20 #[AA 6] w λe w'=>e=.returned (.string ⟨#[54]⟩)/\Below w.heap.size w w' from KK);clear h;go_in;go_upto_region 1 with(fail);go_name_world W c;obtain⟨b,d,g⟩:=GI 206 ([AA 1,AA 6]) c;clear c;obtain⟨i,j⟩:=JO b.o 0 1;have a:=qh d;clear d g b;refine wp_region_quiet_below ND ND ?_;repeat go_big_quiet_step (first|(go_at_call 20;with_reducible first|exact AQ λW _=>K.out W|exact AQ λW _=>KK.o W))
  refine wpQuiet_nil ?_;intro l f;have a:=qh (AO a.o (Aa f));clear f i j;go_wp2_with fail;go_ret;exact⟨rfl,a.o⟩
 .replace KK:=qh (show ∀w,Calls prog 20 #[AA 7] w λe w'=>e=.returned (.string ⟨#[55]⟩)/\Below w.heap.size w w' from KK);clear h;go_in;go_upto_region 1 with(fail);go_name_world W c;obtain⟨b,d,g⟩:=GI 206 ([AA 1,AA 7]) c;clear c;obtain⟨i,j⟩:=JO b.o 0 1;have a:=qh d;clear d g b;refine wp_region_quiet_below ND ND ?_;repeat go_big_quiet_step (first|(go_at_call 20;with_reducible first|exact AQ λW _=>K.out W|exact AQ λW _=>KK.o W))
  refine wpQuiet_nil ?_;intro l f;have a:=qh (AO a.o (Aa f));clear f i j;go_wp2_with fail;go_ret;exact⟨rfl,a.o⟩
 .replace KK:=qh (show ∀w,Calls prog 20 #[AA 8] w λe w'=>e=.returned (.string ⟨#[56]⟩)/\Below w.heap.size w w' from KK);clear h;go_in;go_upto_region 1 with(fail);go_name_world W c;obtain⟨b,d,g⟩:=GI 206 ([AA 1,AA 8]) c;clear c;obtain⟨i,j⟩:=JO b.o 0 1;have a:=qh d;clear d g b;refine wp_region_quiet_below ND ND ?_;repeat go_big_quiet_step (first|(go_at_call 20;with_reducible first|exact AQ λW _=>K.out W|exact AQ λW _=>KK.o W))
  refine wpQuiet_nil ?_;intro l f;have a:=qh (AO a.o (Aa f));clear f i j;go_wp2_with fail;go_ret;exact⟨rfl,a.o⟩
theorem fE(v r:Value)(len m:Nat)(w:World)(h:Be w v len)(hr:Be w r m)(hl:len<=200000)(h1:1<=m)(h2:m<=16384) :Calls prog 123 #[v,r] w λe w'=>∃v',e=.returned v'/\Au w' w.heap.size v' (len+(m+6))/\Below w.heap.size w w':=by obtain⟨p,c,b,rfl,k,_,_,g⟩:=h;obtain⟨o,f,d,rfl,l,_,_,i⟩:=hr;refine Ah (ZT p o len c m f b d w g k BJ i l BJ h1 h2) ?_;rintro w' ⟨a,j,n⟩;exact⟨_,rfl,⟨_,a.len,⟨a.2.2.1,a.2.1⟩,n⟩,j⟩
theorem lZ(v:Value)(w:World) :Calls prog 122 #[v,AL] w λe w'=>e=.returned (.tuple #[v,.bool true])/\Below w.heap.size w w':=by
 go_in;go_wp2_with fail
 go_loop [10,0] (λb a=>b=AA 0/\a=v) (λ_ _=>0)
 case atStart=>exact⟨rfl,rfl⟩
 case round=>
  obtain⟨rfl,rfl⟩:=hrel;go_wp2_with fail
  go_ret2
  exact⟨rfl,Below.refl _ _⟩
theorem YV(v r:Value)(len m gl c:Nat)(rest:List Value)(w:World)(h:Be w v len)(hr:Be w r m)(hg:Holds w gl 127 (r :: rest))(hl:len<=200000)(h1:1<=m)(h2:m<=16384) :Calls prog 122 #[v,.slice (Ac gl) 1 c] w λe w'=>∃v',e=.returned (.tuple #[v',.bool true])/\Au w' w.heap.size v' (len+(m+6))/\Below w.heap.size w w':=by
 have p:=qh (λW (h:Be W v len) (hr:Be W r m)=>fE v r len m W h hr hl h1 h2);obtain⟨u,s,rfl⟩:=hr.shape;obtain⟨n,l,k⟩:=bP h hr hg;have t:¬(m:Int)=0:=BJ
 have q:((m:Int)==0)=false:=by simp;omega
 clear h hr hg;go_in;go_wp2_with fail;go_loopw [10,0] (λg j wr=>∃i:Nat,g=AA (i:Int)/\((i=0/\j=v/\wr=w)\/(i=1/\Au wr w.heap.size j (len+(m+6))/\Below w.heap.size w wr))) (λg _ _=>1 - (intOf g).toNat);case atStart=>exact⟨0,rfl,.inl ⟨rfl,rfl,rfl⟩⟩
 case round=>
  obtain⟨i,rfl,⟨rfl,rfl,rfl⟩|⟨rfl,b,a⟩⟩:=hrel
  .have g0:=k.cell 0;simp only[yA,yB] at g0;go_wp2_with fail;refine(p.o _ n.o l.o).mono ?_;rintro e x ⟨v',rfl,b,a⟩;obtain⟨f,d⟩:=WZ b a;clear b a g0 q;go_wp2_with fail;go_roundw;case rel=>exact⟨1,rfl,.inr ⟨rfl,f.o,d.o⟩⟩
   case measure=>simp[intOf]
  .obtain⟨f,d⟩:=WZ b a;clear b a;go_wp2_with fail
   go_ret2
   exact⟨_,rfl,f.o,d.o⟩
def IC(gd:Nat)(g k:Int):List Value:=[AP gd,AA g,AA k,.bool false]
theorem uj(gw gd:Nat)(g k:Int)(w:World)(h:Holds w gw 208 (IC gd g k)) :Calls prog 66 #[AP gw] w λe w'=>e=.returned (.tuple #[AA g,AA k])/\Below w.heap.size w w':=by
 obtain⟨a,b⟩:=Cf h 1 2;clear h;go_in;go_wp2_with fail;go_quiet (fail);go_wp2_with fail
 go_ret2
 exact⟨rfl,Bg _ _ _⟩
theorem iZ(gd:Nat)(w:World)(h:F7 w gd) :Calls prog 197 #[AP gd] w λe w'=>e=.returned AL/\Below w.heap.size w w':=by
 have c:=Am h 1;clear h;go_in;go_wp2_with fail;go_loopw [11,3] (λa b wr=>a=AA 0/\b=AL/\wr=w) (λ_ _ _=>0);case atStart=>exact⟨rfl,rfl,rfl⟩
 case round=>obtain⟨rfl,rfl,rfl⟩:=hrel;go_wp2_with fail;go_ret;exact⟨rfl,Below.refl _ _⟩
theorem ZX(gd:Nat)(w:World)(h:F7 w gd) :Calls prog 106 #[AP gd] w λe w'=>e=.returned (AA 0)/\Below w.heap.size w w':=by
 have K:=qh (iZ gd w h);clear h;go_in;go_wp2_with fail;refine K.out.mono ?_;rintro e f ⟨rfl,a⟩;have b:=qh a;clear a;go_wp2_with fail
 go_loop [15,3] (λc d=>c=AA 0/\d=AA 0) (λ_ _=>0)
 case atStart=>exact⟨rfl,rfl⟩
 case round=>obtain⟨rfl,rfl⟩:=hrel;go_wp2_with fail;go_ret;exact⟨rfl,b.o⟩
theorem rH(gd:Nat)(w:World)(h:F7 w gd) :Calls prog 107 #[AP gd,.agg #[AA 0,AA 0]] w λe w'=>e=.returned (AA 0)/\Below w.heap.size w w':=by
 obtain⟨K,a⟩:=WZ (λW (h:F7 W gd)=>iZ gd W h) h;clear h;go_in;go_wp2_with fail;have c:Below w.heap.size w (w.alloc (.cells #[AA 0,AA 0] 206)):=by go_grown
 have b:=qh c;have a:=D9 c a;clear c;refine Ah (K.out _ a.o) ?_;rintro g d;have b:=qh (AO b.o d);clear d a;go_wp2_with fail
 go_loop [13] (λf=>f=AA 0) (λ_=>0)
 case atStart=>exact rfl
 case round=>obtain rfl:=hrel;go_wp2_with fail;go_ret;exact⟨rfl,b.o⟩
theorem wM(gd:Nat)(w:World)(h:F7 w gd) :Calls prog 63 #[AP gd] w λe w'=>∃gw,e=.returned (.tuple #[AP gw,AL,AA 0])/\Holds w' gw 208 (IC gd 0 0)/\w.heap.size<=gw/\Below w.heap.size w w':=by
 obtain⟨j,i,b,a⟩:=bY (λW (h:F7 W gd)=>ZX gd W h) (λW (h:F7 W gd)=>rH gd W h) h (Base.start w);clear h;go_in;go_wp2_with fail;refine Ah (j.o _ b.o) ?_;rintro l c;obtain⟨b,a⟩:=Ce c b a;clear c;go_wp2_with fail;refine Ah (i.o _ b.o) ?_;rintro d c;obtain⟨b,a⟩:=Ce c b a;have k:=a.le;clear c;go_wp2_with fail;have g:=qh (AC d 208 (IC gd 0 0));have f:Below d.heap.size d (d.alloc (.cells (IC gd 0 0).toArray 208)):=by go_grown
 have a:=D9 f a;clear f
 go_ret3
 exact⟨_,rfl,g.o,k,a.below⟩
end Go.Proofs.YtimdpiifpibgfaaGreatDoor
