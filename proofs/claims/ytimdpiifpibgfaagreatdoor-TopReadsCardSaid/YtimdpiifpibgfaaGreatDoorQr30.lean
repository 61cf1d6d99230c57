/- A part of the proof of TopReads. -/
import Derived.Test.YtimdpiifpibgfaaGreatDoorQr29
set_option linter.all false
set_option maxRecDepth 20000
set_option maxHeartbeats 16000000
open Go.RowKit Go.Maps
namespace Go.Proofs.YtimdpiifpibgfaaGreatDoor
open Tryz
structure Hm(kl:List Kn)(d d':Nat->Int)(ks:List Kn):Prop where
 sub:∀k∈ks,k∈kl/\d k.m<k.I.sl/\k.I.sl<=d' k.m
 nd:ks.Nodup
 le:∀r,d r<=d' r
 all:∀(r:Nat) (s:Int),d r<s->s<=d' r->∃k∈ks,k.m=r/\k.I.sl=s
theorem Hm.refl(kl:List Kn)(d:Nat->Int):Hm kl d d []:=⟨λk b=>(by cases b),List.nodup_nil,λr=>Int.le_refl _,λr s a c=>absurd a BJ⟩
theorem Hm.trans{kl:List Kn}{d d1 d2:Nat->Int}{ks ks2:List Kn}(h:Hm kl d d1 ks)(h2:Hm kl d1 d2 ks2):Hm kl d d2 (ks++ks2):=by
 refine⟨λk f=>?_,List.nodup_append.2 ⟨h.nd,h2.nd,λa i b j e=>?_⟩,λr=>Int.le_trans (h.le r) (h2.le r),λr s l n=>?_⟩
 .rcases List.mem_append.1 f with f|f
  .obtain⟨a,b,c⟩:=h.sub k f;have:=h2.le k.m;exact⟨a,b,BJ⟩
  .obtain⟨a,b,c⟩:=h2.sub k f;have:=h.le k.m;exact⟨a,BJ,c⟩
 .subst e;have g:=h.sub a i;have o:=h2.sub a j;omega
 .by_cases hs:s<=d1 r
  .obtain⟨k,f,g⟩:=h.all r s l hs;exact⟨k,List.mem_append_left _ f,g⟩
  .obtain⟨k,f,g⟩:=h2.all r s BJ n;exact⟨k,List.mem_append_right _ f,g⟩
theorem Hm.one{kl:List Kn}{d:Nat->Int}{j:Nat}{k:Kn}(h:I7 kl d j=some k):Hm kl d (stepD d j) [k]:=by
 obtain⟨c,a,g⟩:=Ju h;refine⟨λx f=>?_,Vj,λr=>?_,λr s i b=>?_⟩
 .obtain rfl:=List.mem_singleton.1 f;refine⟨c,by rw[a];omega,?_⟩;unfold stepD;rw[if_pos a];omega
 .unfold stepD;split
  .rename_i e;subst e;omega
  .omega
 .unfold stepD at b;split at b
  .rename_i e;subst e;exact⟨k,List.mem_singleton.2 rfl,a,BJ⟩
  .omega
theorem TS(kl:List Kn)(d:Nat->Int):∀j,Hm kl d (Aj kl d j).d (Aj kl d j).ks
 | 0=>Hm.refl kl d
 | j+1=>by
  have ih:=TS kl d j;show Hm kl d (Il kl (Aj kl d j) j).d (Il kl (Aj kl d j) j).ks;unfold Il;split
  .rename_i k hk;exact ih.trans (Hm.one hk)
  .split
   .exact ih
   .exact ih
theorem TT(kl:List Kn)(d:Nat->Int):∀j,∀x∈(Aj kl d j).ms,x.2=d x.1+1/\PU kl d x.1=true
 | 0,x,hx=>by cases hx
 | j+1,x,hx=>by
  have ih:=TT kl d j;have hx:x∈(Il kl (Aj kl d j) j).ms:=hx;unfold Il at hx;split at hx
  .exact ih x hx
  .split at hx
   .rename_i hb;rcases List.mem_append.1 hx with hx|hx
    .exact ih x hx
    .rw[List.mem_singleton.1 hx];have e:=(Uk (kl:=kl) (d:=d) j j).1 Ve;unfold PU at hb |-;rw[e] at hb;exact⟨by show (Aj kl d j).d j+1=d j+1;rw[e],hb⟩
   .exact ih x hx
theorem TU(kl:List Kn)(d:Nat->Int):∀j,(Aj kl d j).ks=[]->(Aj kl d j).d=d/\∀i,i<j->I7 kl d i=none
 | 0,_=>⟨rfl,λi hi=>absurd hi BJ⟩
 | j+1,h=>by
  have ih:=TU kl d j;have h:(Il kl (Aj kl d j) j).ks=[]:=h;show (Il kl (Aj kl d j) j).d=d/\_;unfold Il at h |-;split at h
  .simp at h
  .rename_i hr;have c:(Aj kl d j).ks=[]:=by split at h<;>exact h
   obtain⟨a,b⟩:=ih c;rw[a] at hr;rw[a];refine⟨by split<;>first|rfl|exact a,λi hi=>?_⟩;by_cases e:i=j
   .rw[e];exact hr
   .exact b i BJ
def DW(kl:List Kn)(d:Nat->Int):Nat->(Nat->Int) × List Kn
 | 0=>(d,[])
 | t+1=>((Aj kl (DW kl d t).1 7).d,(DW kl d t).2++(Aj kl (DW kl d t).1 7).ks)
theorem Ie(kl:List Kn)(d:Nat->Int):∀t,Hm kl d (DW kl d t).1 (DW kl d t).2
 | 0=>Hm.refl kl d
 | t+1=>(Ie kl d t).trans (TS kl _ 7)
theorem Xd{α:Type}:∀(l m:List α),l.Nodup->(∀x∈l,x∈m)->l.length<=m.length
 | [],m,_,_=>Nat.zero_le _
 | x :: l,m,h,hs=>by
  obtain⟨a,b,rfl⟩:=List.append_of_mem (hs x (List.mem_cons_self ..));obtain⟨f,g⟩:=List.nodup_cons.1 h;have:=Xd l (a++b) g λy d=>by
   rcases List.mem_append.1 (hs y (List.mem_cons_of_mem _ d)) with c|c
   .exact List.mem_append_left _ c
   .rcases List.mem_cons.1 c with rfl|c
    .exact absurd d f
    .exact List.mem_append_right _ c
  simp only[List.length_append,List.length_cons] at this |-;omega
theorem Hm.len{kl:List Kn}{d d':Nat->Int}{ks:List Kn}(h:Hm kl d d' ks):ks.length<=kl.length:=Xd _ _ h.nd λk a=>(h.sub k a).1
theorem Hm.hi{kl:List Kn}{d d':Nat->Int}{ks:List Kn}(h:Hm kl d d' ks)(hd:∀r,r<7->0<=d r/\d r<=1000):∀r,r<7->0<=d' r/\d' r<=1000:=λr b=>by
 have c:=h.le r;have f:=hd r b;refine⟨BJ,?_⟩;by_cases a:d r<d' r
 .obtain⟨k,_,_,h4⟩:=h.all r (d' r) a (Int.le_refl _);have:=k.I.hsl;omega
 .omega
theorem Tt.later{kl:List Kn}{d d':Nat->Int}(h:Tt kl d)(hd:∀r,d r<=d' r):Tt kl d':=λk f=>by obtain⟨a,b,c⟩:=h k f;exact⟨a,λr i g=>Int.le_trans (b r i g) (hd r),c⟩
def U7(kl:List Kn):Prop:=kl.Pairwise λa b=>¬(a.m=b.m/\a.I.sl=b.I.sl)
theorem U7.has{kl:List Kn}(h:U7 kl)(i:Nat)(hi:i<kl.length):Et ((kl.take i).map Kn.IW) (kl[i].m:Int) kl[i].I.sl=false:=List.any_eq_false.2 λe b a=>by obtain⟨k,c,rfl⟩:=List.mem_map.1 b;obtain⟨j,d,rfl⟩:=List.mem_take_iff_getElem.1 c;simp only[Kn.IW,Bool.and_eq_true,beq_iff_eq] at a;exact List.pairwise_iff_getElem.1 h j i BJ hi BJ ⟨BJ,a.2⟩
theorem U7.put{kl:List Kn}(h:U7 kl)(i:Nat)(hi:i<kl.length):Ci ((kl.take i).map Kn.IW) kl[i].IW=(kl.take (i+1)).map Kn.IW:=by
 have a:=h.has i hi;unfold Et at a;unfold Ci;rw[if_neg (by show ¬(List.any ((kl.take i).map Kn.IW) λe=>e.r==(kl[i].m:Int)&&e.s==kl[i].I.sl)=true;rw[a];decide),<-List.take_append_getElem hi,List.map_append]
 rfl
theorem mP(kl:List Kn)(i:Nat)(hi:i<kl.length)(t:Nat)(v:Value)(ht:kl[i].cells[t]?=some v):(Ht kl)[i*23+t]?=some v:=by
 induction kl generalizing i with
 | nil=>exact absurd hi Vj
 | cons k kl ih=>
  show (k.cells++Ht kl)[i*23+t]?=some v;cases i with
  | zero=>
   have ht:k.cells[t]?=some v:=ht;rw[Nat.zero_mul,Nat.zero_add,List.getElem?_append_left (List.getElem?_eq_some_iff.1 ht).1];exact ht
  | succ i=>
   rw[List.getElem?_append_right (by rw[k.SG];omega),k.SG,show (i+1)*23+t-23=i*23+t by omega];exact ih i (by simpa using hi) (by simpa using ht)
theorem QT{w:World}{g:Nat}{rest:List Value}{kl:List Kn}(h:Holds w g 267 (Ht kl++rest))(i:Nat)(hi:i<kl.length):w.rangeAt g (i*23) kl[i].cells:=h.CB (i*23) λt v a=>by have:=mP kl i hi t v a;rw[List.getElem?_append_left (List.getElem?_eq_some_iff.1 this).1];exact this
section
section
variable {P:Program} {ops:Array Oper} {Q:Exit->Act->World->Prop}
theorem Gy{rest:List Oper}{o:Oper}{a:Act}{w:World}(hw:Region.wanted o (yielded ops a.tmps)=true)(t:TypeId)(i j:Nat)(q r:Tmp)(ho:o.op=.build t #[(i,.tmp q),(j,.tmp r)])(u v:Value)(hu:a.eval (.tmp q)=u)(hv:a.eval (.tmp r)=v) (z:Value) (hr:∀w,(Instr.build t #[(i,u),(j,v)]).run P w=.ok z w) (h:wpList P ops Q rest (a.put o.dst z) w):wpList P ops Q (o :: rest) a w:=
 wpList_step λK b=>by rw[if_pos hw];unfold Oper.wp execOp;simp only[ho,List.map_toArray,List.map_cons,List.map_nil,hu,hv];rw[Sem.run_bind,hr];exact b _ _ h
end
theorem Q7{α:Type}:∀(P:List α) (i:Nat) (hi:i<P.length),P.Nodup->P[i]∉P.take i
 | [],_,h,_=>by cases h
 | x :: P,0,_,_=>Vj
 | x :: P,i+1,h,hn=>by
  obtain⟨h1,h2⟩:=List.nodup_cons.1 hn;rw[List.getElem_cons_succ,List.take_succ_cons];intro a;rcases List.mem_cons.1 a with a|a
  .exact h1 (a▸List.getElem_mem _)
  .exact Q7 P i _ h2 a
theorem Nu(P:List (Int × Int))(rest:List Value)(i:Nat)(hi:i<P.length)(r s:Int)(hx:P[i]=(r,s)):∀j v,([AA r,AA s]:List Value)[j]?=some v->(insL P++rest)[i*2+j]?=some v:=by
 intro j v a;have b:j<2:=(List.getElem?_eq_some_iff.1 a).1;rw[List.getElem?_append_left (by rw[D6];omega),QQ P i j hi b];have:(P.toArray[i]!)=(r,s):=by rw[getElem!_pos _ _ (by simpa using hi)];simpa using hx
 rw[this,<-a];rcases(show j=0\/j=1 by omega) with rfl|rfl<;>rfl
def qA(S:Kn->Prop)(d:Nat->Int)(e:A7):Prop:=(∃k:Kn,S k/\e.r=(k.m:Int)/\e.s=k.I.sl/\k.I.sl<=d k.m)\/(∃(k:Kn),e=k.UM/\d k.m<k.I.sl)\/∃k:Kn,S k/\e=k.IW/\d k.m<k.I.sl
structure PT(S:Kn->Prop)(L:List A7)(d:Nat->Int)(PP:List (Int × Int))(kl:List Kn):Prop where
 sub:∀k∈kl,S k/\k.IW∈L/\((k.m:Int),k.I.sl)∈PP/\d k.m<k.I.sl
 nd:U7 kl
 all:∀k:Kn,k.IW∈L->((k.m:Int),k.I.sl)∈PP->d k.m<k.I.sl->∃k2∈kl,k2.IW=k.IW
theorem PT.nil(S:Kn->Prop)(L:List A7)(d:Nat->Int):PT S L d [] []:=⟨λk a=>(by cases a),List.Pairwise.nil,λk _ h=>(by cases h)⟩
theorem PT.skip{S:Kn->Prop}{L:List A7}{d:Nat->Int}{PP:List (Int × Int)}{kl:List Kn}{i:Nat}(h:PT S L d (PP.take i) kl)(hi:i<PP.length)(hx:∀k:Kn,k.IW∈L->((k.m:Int),k.I.sl)=PP[i]->¬d k.m<k.I.sl):PT S L d (PP.take (i+1)) kl:=by
 rw[<-List.take_append_getElem hi];refine⟨λk l=>?_,h.nd,λk g f j=>?_⟩
 .obtain⟨s,a,b,c⟩:=h.sub k l;exact⟨s,a,List.mem_append_left _ b,c⟩
 .rcases List.mem_append.1 f with f|f
  .exact h.all k g f j
  .exact absurd j (hx k g (List.mem_singleton.1 f))
theorem PT.snoc{S:Kn->Prop}{L:List A7}{d:Nat->Int}{PP:List (Int × Int)}{kl:List Kn}{i:Nat}(h:PT S L d (PP.take i) kl)(hi:i<PP.length)(hnd:PP.Nodup)(k:Kn)(hs:S k)(hk:k.IW∈L)(hx:PP[i]=((k.m:Int),k.I.sl))(hd:d k.m<k.I.sl)(hone:∀e∈L,e.r=(k.m:Int)->e.s=k.I.sl->e=k.IW):PT S L d (PP.take (i+1)) (kl++[k]):=by
 rw[<-List.take_append_getElem hi];refine⟨λx j=>?_,List.pairwise_append.2 ⟨h.nd,Vj,λa o b p l=>?_⟩,λx f g n=>?_⟩
 .rcases List.mem_append.1 j with j|j
  .obtain⟨s,a,b,c⟩:=h.sub x j;exact⟨s,a,List.mem_append_left _ b,c⟩
  .rw[List.mem_singleton.1 j];exact⟨hs,hk,List.mem_append_right _ (by rw[hx];simp),hd⟩
 .rw[List.mem_singleton.1 p] at l;have f:=(h.sub a o).2.2.1;rw[l.1,l.2,<-hx] at f;exact Q7 PP i hi hnd f
 .rcases List.mem_append.1 g with g|g
  .obtain⟨k2,h4,h5⟩:=h.all x f g n;exact⟨k2,List.mem_append_left _ h4,h5⟩
  .have h6:=List.mem_singleton.1 g;rw[hx,Prod.mk.injEq] at h6;exact⟨k,List.mem_append_right _ (List.mem_singleton.2 rfl),(hone _ f h6.1 h6.2).symm⟩
theorem XX(k:Kn):∀u∈k.cells,u.oneCell'=true:=by simp[Kn.cells,QU,cellL,Value.oneCell']
theorem mF(k:Kn):∀W:World,(Instr.build 267 #[(0,.agg #[AA k.m,AA k.I.sl]),(1,.agg (@cellL k.I 3 k.c false).toArray)]).run prog W=.ok (.agg k.cells.toArray) W:=λ_=>ND
def tN:List Value:=[AA 0,AA 0,AA 0,AA 0,AA 0,AA 0,AA 0,AA 0,AA 0,AA 0,AU,AU,AU,AU,AA 0,AA 0,AA 0,AA 0,AA 0,AA 0,AA 0,AA 0,.bool false]
def qi(S:Kn->Prop)(L:List A7)(d:Nat->Int)(w:World)(e:Ending)(w':World):Prop:=∃R ob kl PP,e=.returned R/\PT S L d PP kl/\(∀e∈L,(e.r,e.s)∈PP)/\AV w' R ob 267 23 kl.length (Ht kl)/\(∀k,ob=some k->w.heap.size<=k)/\kl.length<=L.length/\Below w.heap.size w w'
variable [In] [CO]
theorem Rh(S:Kn->Prop)(g n me gd gw gc gl gm nl gi gx ni gfr:Nat)(L:List A7)(E:List CY)(leads recs cout:Value)(P:Value)(o:Nat->Ow)(pv:Nat->Value)(d kp:Nat->Int)(since tk:Int)(waits out ans:Value)(w:World) (nd:Holds w g 102 (Ar n me gd gw gc gfr P o pv d kp since tk waits out ans)) (hc:BB w gc n me gl gm nl gi gx ni L E leads recs cout) (hl:L.length<=800) (hd:∀r,0<=d r/\d r<=100000) (hall:∀e∈L,qA S d e) (hone:∀e∈L,∀e2∈L,e.r=e2.r->e.s=e2.s->e=e2) :Calls prog 164 #[AP g] w (qi S L d w):=by
 obtain⟨KC,X,q,t,y,HA,a0,ai⟩:=ed (SE gc n me gl gm nl gi gx ni L E leads recs cout w hc BJ) (λe (p:e∈L) W (h:Holds W gc 163 (BG n me gl gi leads recs cout)) hl=>SI gc n me gl gm nl gi e.r e.s e.L L leads recs cout W h hl p) nd hc.hc hc.lg hall hc.lg.good hc.lg.rows;obtain⟨a6,be⟩:=WZ hone hd;clear nd hc hall hone hd;go_in;have n4:=Am q.o 4;go_wp2_with fail;refine KC.mono ?_;rintro e w1 ⟨v1,rfl,⟨p1,c1,B,bp,rfl,aq,bd,ac⟩,aa⟩;obtain⟨HS,HK,HB⟩:=bP aq ac aa;have bi:B.length<=L.length:=ac.len;obtain⟨q,t,y⟩:=D5 aa q t y;clear aq bd ac aa KC n4;go_wp2_with fail;go_loopw [14,3] (λvi v3 wr=>∃i:Nat,i<=B.length/\vi=AA i/\(∃z ob,PT S L d (B.take i) z/\AV wr v3 ob 267 23 z.length (Ht z)/\(∀k,ob=some k->w1.heap.size<=k)/\z.length<=i)/\Base w1.heap.size w1 wr) (λvi _ _=>B.length - (intOf vi).toNat);case atStart=>exact⟨0,BJ,rfl,⟨[],none,by simpa using PT.nil S L d,AV.nil _ _ _,λk F=>(by cases F),Ve⟩,Base.start _⟩
 case round=>
  obtain⟨i,hi,rfl,⟨z,ae,an,hR,au,bl⟩,K⟩:=hrel;obtain⟨b,u,Q,f,q,t,y,HS⟩:=ed hR an au K (q.bel K.below) (t.bel K.below) (y.bel K.below) (HS.bel K.below);clear hR K an au;by_cases h1:i<B.length
  .obtain⟨gs,cs,rs,hv1,rfl,hcs1,hcs2,hgs,_⟩:=HS.blk BJ;cases hv1;obtain⟨r,s,l⟩:∃r s,B[i]=(r,s):=⟨_,_,rfl⟩;obtain⟨⟨er,es,V⟩,p,am⟩:=(HK.o.mem (r,s)).1 (l▸List.getElem_mem h1);have ba:=a0.o _ p;simp only[Prod.mk.injEq] at am ba;obtain⟨rfl,rfl⟩:=am;obtain⟨k,rfl⟩:∃k:Nat,er=k:=⟨er.toNat,BJ⟩;have ag:=qh (a6.o _ p);have bb:k<7:=BJ
   obtain⟨ah,X⟩:=WZ (show wr.rangeAt gs (i*2) [AA k,AA es] from hgs.CB (i*2) (Nu B rs i h1 k es l)) (show ∀W,Holds W gc 163 (BG n me gl gi leads recs cout)->BF W gl gm nl L->_ from X.o _ p);have C:=HA.o _ p;have ak:V.length=21:=(ai.o _ p).1;have a9:V.toArray.all (·.oneCell')=true:=(ai.o _ p).2;obtain⟨HX,HE⟩:=WZ l p;simp only at X;clear hgs l p;go_upto_region 5 with(first|(refine lM (i*2) ah.o ?_)|(refine Ai rfl 37 _ _ rfl rfl _ _ ([AA k,AA es]:List Value).toArray rfl rfl ND ND (by simp[Value.oneCell']) ?_));go_name_world W0 T;have A:=qh (show Holds W0 wr.heap.size 37 [AA k,AA es] by rw[<-T];exact AC wr _ _);have al:Below wr.heap.size wr W0:=by rw[<-T];exact(Below.refl _ _).alloc Ve _
   obtain⟨q,t,y,f,b⟩:=Gj al q t y f b;clear T ah al;refine' CU [⟨9,10,6,25,45,zero21,V⟩] ND ND ND ?z11 ?z21 ?bd1 _ ?h1 ?val1 ?fin1;case z11=>
    intro x l;simp only[List.mem_cons,List.not_mem_nil,or_false] at l;subst l
    .exact⟨.agg (zero21:List Value).toArray,ND,rfl⟩
   case z21=>
    intro x l;simp only[List.mem_cons,List.not_mem_nil,or_false] at l;subst l
    .exact⟨by show _=some V.length;rw[ak];kernel_rfl,ak.symm,a9⟩
   case bd1=>
    intro x l;simp only[List.mem_cons,List.not_mem_nil,or_false] at l;subst l
    .simp
   case h1=>
    intro W0 T;obtain⟨q,t,y,A,f,b⟩:=Ef T q t y A f b;have bf:=MK q.o 4;obtain⟨bg,bh⟩:=JO A.o 0 1;simp only[List.map_cons,List.map_nil,BI];repeat go_big_quiet_step (first|(go_at_call 176;with_reducible exact AQ λY h2=>X.o Y (t.o.bel h2) (y.o.bel h2)))
    refine wpQuiet_nil ?_;intro w' _;exact rfl
   case val1=>
    intro x l;simp only[List.mem_cons,List.not_mem_nil,or_false] at l;subst l
    .rfl
   intro β O hb l bc;have U:=l _ List.mem_cons_self;clear l bc;simp only[] at U;simp only[D7,List.foldl,Act.put,List.setIfInBounds_toArray,List.set_cons_zero,List.set_cons_succ];obtain⟨q,t,y,A,f,b⟩:=Ef hb q t y A f b;generalize β 6=g6 at U |-;have J:=qh U.2;have bj:=U.1;clear U;clear hb;have bo:=f.le;go_upto_region 6 with(fail);have H:=q.cell (55+k);rw[FT _ _ _ _ _ _ _ _ _ _ _ _ _ _ _ _ k bb] at H;obtain⟨i0,i1⟩:=Cf A.o 0 1;have bk:(k:Int)<7:=BJ
   have M:=HX.o;rcases C with⟨a,Z,aj,D,C⟩|⟨a,C,D⟩|⟨a,Z,C,D⟩
   .change (k:Int)=a.m at aj;change es=a.I.sl at D;obtain rfl:k=a.m:=BJ
    have G:¬d a.m<es:=BJ
    have u:=qh (u.skip h1 λx aw N=>by
     rw[M,Prod.mk.injEq] at N;obtain⟨h3,h4⟩:=N;have R:x.m=a.m:=BJ
     rw[R];omega)
    clear C aj D Z M;generalize d a.m=dk at G H;go_quiet (fail);obtain⟨b,f⟩:=Ce (Bg _ O nq) b f;clear H i0 i1 G;generalize O.drewN nq=Y at b f |-;go_wp2_with fail;go_roundw;case rel=>exact⟨i+1,BJ,by go_num,⟨z,ae,u.o,b.o,Q.o,BJ⟩,f.o⟩
    case measure=>simp[intOf];omega
   .simp only[Kn.UM,A7.mk.injEq] at C;obtain⟨ad,rfl,rfl⟩:=C;obtain rfl:k=a.m:=BJ
    have G:d a.m<a.I.sl:=D;have u:=qh (u.skip h1 λx aw N=>by
     rw[M,Prod.mk.injEq] at N;have R:=ag.o _ aw N.1.symm N.2.symm;injection R with _ _ R;simp[cellL] at R)
    have y0:=Am J.o 0;clear D ad;generalize d a.m=dk at G H;clear M;go_quiet (fail);obtain⟨b,f⟩:=Ce (Bg _ O nq) b f;clear H i0 i1 G y0;generalize O.drewN nq=Y at b f |-;go_wp2_with fail;go_roundw;case rel=>exact⟨i+1,BJ,by go_num,⟨z,ae,u.o,b.o,Q.o,BJ⟩,f.o⟩
    case measure=>simp[intOf];omega
   .simp only[Kn.IW,A7.mk.injEq] at C;obtain⟨ad,rfl,rfl⟩:=C;obtain rfl:k=a.m:=BJ
    have G:d a.m<a.I.sl:=D;obtain⟨u,a1⟩:=WZ (u.snoc h1 HK.o.nd a Z HE.o M D λe p h3 h4=>(ag.o e p h3.symm h4.symm).symm) (Sr z a);have y0:=Am J.o 0;clear D ad Z;generalize d a.m=dk at G H;clear M;obtain⟨p3,c3,rfl⟩:∃p3 c3,u3=.slice p3 (z.length:Nat) c3:=by
     rcases b.cases with⟨r,_,r2,_⟩|⟨_,_,_,r,_⟩
     .rw[r,r2];exact⟨_,_,rfl⟩
     .exact⟨_,_,r⟩
    go_quiet (fail);obtain⟨A,J,f,b⟩:=En (Bg _ O nq) A J f b;clear i0 i1 y0 H G;generalize O.drewN nq=Y at A J f b |-;obtain⟨i0,i1⟩:=Cf A.o 0 1;have a7:=qh J.Af;go_wp2_with (first|(refine lM 0 a7.o ?_)|(with_reducible show wpList _ _ _ (_ :: _) _ _;refine Gy ND 267 0 1 _ _ rfl (.agg #[AA a.m,AA a.I.sl]) (.agg (@cellL a.I 3 a.c false).toArray) rfl rfl (.agg a.cells.toArray) (mF a) ?_)|(refine FX rfl 262 267 (.agg a.cells.toArray) a.cells rfl rfl rfl (λw=>ND) ?_;intro wa ap ab;obtain⟨a3,af,a8⟩:=bP ap (f.bel ab) (b.bel ab);clear ap ab)|(at_builtin;refine aS (.agg tN.toArray) 23 216 a8.o a.cells (a3.reads 0 _ (λj v hv=>by rw[Nat.zero_add];exact hv)) ?_ (XX a);intro v5 ax w5 ar av ao;obtain⟨a4,az⟩:=WZ ar (af.mv ao (λk F=>Q.o k F));have bn:=af.le;have a5:=qh (show ∀k,ax=some k->w1.heap.size<=k from λk F=>by rcases av with h|⟨k2,h,h2⟩;exact Q.o k (h▸F);rw[h] at F;cases F;omega);clear ar av ao));go_roundw;case rel=>exact⟨i+1,BJ,by go_num,⟨z++[a],ax,u.o,by rw[a1.o,List.length_append];exact a4.o,a5.o,by rw[List.length_append];simp;omega⟩,az.o⟩
    case measure=>simp[intOf];omega
  .obtain rfl:i=B.length:=BJ
   have bm:=HB.size;have ay:=qh (HB.trans (f.below.mono HB.size));rw[List.take_length] at u;have a2:=qh (show ∀e∈L,(e.r,e.s)∈B from λe p=>(HK.o.mem _).2 ⟨e,p,rfl⟩);go_wp2_with fail;go_ret;exact⟨_,ae,z,B,rfl,u.o,a2.o,b.o,λk F=>by have:=Q.o k F;omega,BJ,ay.o⟩
end
section
def Ld.tick(l:Ld):Ld:=⟨l.g,l.r,l.s,l.L.set 29 (AA 1)⟩
theorem Bc.put{w w':World}{V:Value}{ob:Option Nat}{A B:List Ld}{l l':Ld}(h:Bc w V ob (A++l :: B))(hg:l'.g=l.g)(hl:Holds w' l.g 167 l'.cells)(ht:Touch l.g w w'):Bc w' V ob (A++l' :: B):=by
 have b:Mv (λk=>k=l.g) w w':=Mv.AZ ht rfl;have j:=h.blk l Vj;have c:=h.nd;rw[List.map_append,List.map_cons,List.nodup_append] at c;obtain⟨_,d,f⟩:=c;obtain⟨i,_⟩:=List.nodup_cons.1 d;have m:l'.ptr=l.ptr:=by unfold Ld.ptr;rw[hg]
 have e:(A++l' :: B).map Ld.ptr=(A++l :: B).map Ld.ptr:=by simp[m]
 refine⟨?_,λx a=>?_,by simpa[hg] using h.nd⟩
 .rw[e];have:=h.own.mv b (AV.Hw h.own j Iz);simpa using this
 .rcases List.mem_append.1 a with a|a
  .exact(h.blk x (by simp[a])).mv b λe=>f x.g (List.mem_map.2 ⟨x,a,rfl⟩) l.g Vj e
  .rcases List.mem_cons.1 a with rfl|a
   .rw[hg];exact hl
   .exact(h.blk x (by simp[a])).mv b λe=>i (List.mem_map.2 ⟨x,a,e⟩)
theorem jK(ls:List Ld):∀u∈ls.map Ld.ptr,u.oneCell'=true:=λu a=>by
 obtain⟨l,_,rfl⟩:=List.mem_map.1 a
 rfl
def qm(w:World)(e:Ending)(w':World):Prop:=∃p' c',e=.returned (.slice p' 0 c')/\Below w.heap.size w w'
theorem VH(p:Option Addr)(c:Nat)(ob:Option Nat)(w:World)(h:AV w (.slice p 0 c) ob 158 1 0 []) :Calls prog 77 #[.slice p 0 c] w (qm w):=by
 rcases h.cases with⟨b,_,_,_⟩|⟨g,A,F,b,_,B,C,s,D⟩
 .cases b;have n:∀W:World,(binOp .eql 156 AL AL).run prog W=.ok (.bool true) W:=λ_=>ND
  clear h;go_in;go_wp2_with fail;go_ret;exact⟨_,_,rfl,Below.refl _ _⟩
 .cases b;have z:=qh (show AV (w.alloc (.cells #[] 158)) (.slice (Ac w.heap.size) 0 0) (some w.heap.size) 158 1 0 [] from⟨World.ownsRow_lit (size:=1) w #[] 0 (Nat.zero_le _) (by unfold maxLen;omega) Vj,rfl⟩);have a:Below w.heap.size w (w.alloc (.cells #[] 158)):=by go_grown
  have k:=qh a;have v:=a.size;have n:∀W:World,(binOp .eql 156 (.slice (Ac g) 0 c) AL).run prog W=.ok (.bool false) W:=λ_=>ND
  have t:=qh (show (w.alloc (.cells #[] 158)).ownsRow w.heap.size 158 1 (.slice (Ac w.heap.size) 0 0) 0 [] from World.ownsRow_lit (size:=1) w #[] 0 Ve (by unfold maxLen;omega) Vj);clear h s a;go_in;have m:Reads (w.alloc (.cells #[] 158)) (Ac g) []:=λh=>by simp at h
  go_wp2_with (first|(at_builtin;refine Ag rfl (.tmp 5) (.tmp 6) 156 rfl w.heap.size 158 (.pointer none) 1 8 rfl ND rfl Iz _ 0 [] rfl t.out (Ac g) 0 c [] rfl rfl m (λh=>(by cases h)) (λu x=>(by cases x)) (by unfold maxLen;omega) BJ v ?_;intro y G f d q));obtain⟨E,i,_⟩:=AV.of f;obtain⟨j,c2,rfl⟩:∃j c2,y=.slice j 0 c2:=by
   rcases i.cases with⟨r,_⟩|⟨_,_,_,r,_⟩
   .exact⟨_,_,r⟩
   .exact⟨_,_,r⟩
  have l:=qh (k.trans d);clear f i d q;go_ret;exact⟨_,_,rfl,l.o⟩
def qg(n:Nat)(L:List Value)(w:World)(e:Ending)(w':World):Prop:=∃p' c' ob',e=.returned (.slice p' n c')/\(0<n->AV w' (.slice p' n c') ob' 158 1 n L)/\Below w.heap.size w w'
theorem clone_any(P:Value)(ob:Option Nat)(n:Nat)(L:List Value)(h1:∀u∈L,u.oneCell'=true)(hn:n<=1000)(w:World)(h:AV w P ob 158 1 n L) :Calls prog 77 #[P] w (qg n L w):=by
 by_cases b:n=0
 .subst b;have i:L=[]:=List.eq_nil_of_length_eq_zero (by have:=h.1.1;omega);subst i;obtain⟨p,c,rfl⟩:∃p c,P=.slice p 0 c:=by
   rcases h.cases with⟨r,_⟩|⟨_,_,_,r,_⟩
   .exact⟨_,_,r⟩
   .exact⟨_,_,r⟩
  refine(VH p c ob w h).mono ?_;rintro e m ⟨k,g,rfl,a⟩;exact⟨k,g,none,rfl,λh=>absurd h BJ,a⟩
 .refine(kY P ob n L h1 hn w h (λh=>absurd h b)).mono ?_;rintro e m ⟨f,j,rfl,d,_,_,a⟩;obtain⟨p,c,rfl⟩:∃p c,f=.slice p n c:=by
   rcases d.cases with⟨r,_,l,_⟩|⟨_,_,_,r,_⟩
   .rw[r,l];exact⟨_,_,rfl⟩
   .exact⟨_,_,r⟩
  exact⟨p,c,j,rfl,λ_=>d,a⟩
theorem Rf(w:World):Calls prog 85 #[AL] w λe w'=>e=.returned AL/\Below w.heap.size w w':=by
 have a:∀W:World,(binOp .eql 161 AL AL).run prog W=.ok (.bool true) W:=λ_=>ND
 go_in;go_wp2_with fail;go_ret;exact⟨rfl,Below.refl _ _⟩
variable [In] [CO]
theorem jb(gc n me gl gm nl gi gx ni:Nat)(L:List A7)(E:List CY)(V recs out:Value)(ob:Option Nat)(ls:List Ld)(w:World)(h:BB w gc n me gl gm nl gi gx ni L E V recs out)(hls:Bc w V ob ls)(hln:ls.length<=900)(hLl:L.length<=1000)(hwi:CO.p=none/\CO.n=0/\CO.c=0) (htk:∀l∈ls,l.L[29]?=some (AA 0)) (hst:∀e∈L,∃st:Int,e.L[0]?=some (AA st)/\(st=3\/(ls.find? (Ld.is e.r e.s)).isSome=true)) :Calls prog 52 #[AP gc] w λe w'=>e=.returned (.tuple #[])/\Bc w' V ob (ls.map Ld.tick)/\Mv (λk=>∃l∈ls,k=l.g) w w':=by
 obtain⟨KC,KW,KL,O,KF,a,b,H⟩:=ed (clone_any V ob ls.length (ls.map Ld.ptr) (jK ls) BJ w hls.own) Rf (λW h=>TE gl gm nl L W h hLl) (λe (D:e∈L) W (h:BF W gl gm nl L)=>Sv gl gm nl e.r e.s e.L L W h D) (λ(Z:List Ld) (a3:Z.length<=1000) q s W (h:Holds W gc 163 (BG n me gl gi V recs out)) (d:Bc W V ob Z)=>Nr gc n me gl gi V recs out ob Z q s W h d a3) h.hc h.lg hls;obtain⟨aq,ar,bf,ad⟩:=bY hst htk h.lg.good h.lg.rows;have az:∀k,(∃l∈ls,k=l.g)->k≠gc:=by rintro k ⟨l,d,rfl⟩;exact(hls.blk l d).ne_of h.hc Iz
 have a0:∀k,(∃l∈ls,k=l.g)->k≠gl:=by rintro k ⟨l,d,rfl⟩;exact(hls.blk l d).ne_of h.lg.ix Iz
 have a1:∀k,(∃l∈ls,k=l.g)->k≠gm:=by rintro k ⟨l,d,rfl⟩;exact Du h.lg.isMap (hls.blk l d)
 obtain⟨a9,ba,bb⟩:=hwi;obtain⟨pV,cV,rfl⟩:=hls.slice;clear h hls hst htk;go_in;have d4:=Am a.o 4;go_wp2_with fail;refine KC.mono ?_;rintro e w1 ⟨pS,cS,bl,rfl,M,G⟩;have Q:=qh M;have av:=G;obtain⟨a,b,H⟩:=D5 G a b H;clear G d4 M KC;go_wp2_with fail;go_loopw [17] (λt wr=>∃i:Nat,t=AA (i:Int)/\i<=ls.length/\Bc wr (.slice pV (ls.length:Nat) cV) ob ((ls.take i).map Ld.tick++ls.drop i)/\Mv (λk=>∃l∈ls,k=l.g) w1 wr) (λt _=>ls.length - (intOf t).toNat);case atStart=>exact⟨0,rfl,Nat.zero_le _,by simpa using H.o,Mv.refl _ _⟩
 case round=>
  obtain⟨i,rfl,hi,d,hm⟩:=hrel;obtain⟨f,u⟩:=WZ d hm;have ap:=H;clear d hm;by_cases a2:i=ls.length
  .subst a2;rw[List.take_length,List.drop_length,List.append_nil] at f;obtain⟨a,b,z⟩:=bP (a.mv u.o (λh=>az _ h rfl)) (b.keep (u.block gl b.lt.1 (λh=>a0 _ h rfl)) (u.block gm b.lt.2 (λh=>a1 _ h rfl))) ((Mv.of_below (F:=λk=>∃l∈ls,k=l.g) av).mv u.o (λk K=>.inl K));clear Q u H;have d2:=Am a.o 2;go_wp2_with fail;refine(KL.o _ b.o).mono ?_;rintro e w2 ⟨v2,rfl,⟨p1,c1,B,bm,rfl,al,a8,S⟩,af⟩;obtain⟨P,HK⟩:=WZ al S;have bj:B.length<=L.length:=S.len;obtain⟨a,b,f,z⟩:=En af a b f z;clear al a8 S af d2 KL;go_wp2_with fail;go_loopw [61] (λt bc=>∃i:Nat,i<=B.length/\t=AA (i:Int)/\Base w2.heap.size w2 bc) (λt _=>B.length - (intOf t).toNat);case atStart=>exact⟨0,Nat.zero_le _,rfl,Base.start _⟩
   case round=>
    obtain⟨i,hi,rfl,C⟩:=hrel;obtain⟨m,a,b,f,z,P⟩:=mG C (a.bel C.below) (b.bel C.below) (f.bel C.below) (z.bel C.below) (P.bel C.below);clear C;by_cases h1:i<B.length
    .obtain⟨gs,cs,rs,hv1,rfl,aw,ax,J,_⟩:=P.blk BJ;cases hv1;obtain⟨r,s,j⟩:∃r s,B[i]=(r,s):=⟨_,_,rfl⟩;obtain⟨⟨v,y,U⟩,D,ak⟩:=(HK.o.mem (r,s)).1 (j▸List.getElem_mem h1);simp only[Prod.mk.injEq] at ak;obtain⟨rfl,rfl⟩:=ak;obtain⟨ac,O⟩:=WZ (show wr.rangeAt gs (i*2) [AA v,AA y] from J.CB (i*2) (Nu B rs i h1 v y j)) (show ∀W,BF W gl gm nl L->_ from O.o _ D);obtain⟨st,am,hst⟩:=aq.o _ D;have ae:U.length=21:=(ad.o _ D).1;have au:U.toArray.all (·.oneCell')=true:=(ad.o _ D).2;simp only at O am hst;clear J j D;go_upto_region 10 with(first|(refine lM (i*2) ac.o ?_)|(refine Ai rfl 37 _ _ rfl rfl _ _ ([AA v,AA y]:List Value).toArray rfl rfl ND ND (by simp[Value.oneCell']) ?_));go_name_world W0 I;have A:=qh (show Holds W0 wr.heap.size 37 [AA v,AA y] by rw[<-I];exact AC wr _ _);have ai:Below wr.heap.size wr W0:=by rw[<-I];exact(Below.refl _ _).alloc Ve _
     obtain⟨a,b,f,m⟩:=En ai a b f m;clear I ac ai;refine' CU [⟨9,10,6,72,45,zero21,U⟩] ND ND ND ?z11 ?z21 ?bd1 _ ?h1 ?val1 ?fin1;case z11=>
      intro x j;simp only[List.mem_cons,List.not_mem_nil,or_false] at j;subst j
      .exact⟨.agg (zero21:List Value).toArray,ND,rfl⟩
     case z21=>
      intro x j;simp only[List.mem_cons,List.not_mem_nil,or_false] at j;subst j
      .exact⟨by show _=some U.length;rw[ae];kernel_rfl,ae.symm,au⟩
     case bd1=>
      intro x j;simp only[List.mem_cons,List.not_mem_nil,or_false] at j;subst j
      .simp
     case h1=>
      intro W0 I;obtain⟨a,b,f,A,m⟩:=Gj I a b f A m;have bg:=MK a.o 2;obtain⟨bh,bi⟩:=JO A.o 0 1;simp only[List.map_cons,List.map_nil,BI];repeat go_big_quiet_step (first|(go_at_call 82;with_reducible exact AQ λW2 h2=>O.o W2 (b.o.bel h2)))
      refine wpQuiet_nil ?_;intro w' _;exact rfl
     case val1=>
      intro x j;simp only[List.mem_cons,List.not_mem_nil,or_false] at j;subst j
      .rfl
     intro β w4 G j a7;have N:=j _ List.mem_cons_self;clear j a7;simp only[] at N;simp only[D7,List.foldl,Act.put,List.setIfInBounds_toArray,List.set_cons_zero,List.set_cons_succ];obtain⟨a,b,f,A,m⟩:=Gj G a b f A m;generalize β 6=g6 at N |-;have H6:=qh N.2;have bk:=N.1;clear N;clear G;have y0:=H6.cell 0;rw[am] at y0;obtain⟨x0,x1⟩:=Cf A.o 0 1;by_cases X:st=3
     .subst X;clear b;go_wp2_with fail;go_roundw;case rel=>exact⟨i+1,BJ,by go_num,m.o⟩
      case measure=>simp[intOf];omega
     .have hs4:(st==3)=false:=by simp[X]
      have ay:=hst.resolve_left X;obtain⟨lf,a6⟩:∃lf,(ls.map Ld.tick).find? (Ld.is v y)=some lf:=by rw[List.find?_map];obtain⟨l,d⟩:=Option.isSome_iff_exists.1 ay;exact⟨l.tick,by rw[show (Ld.is v y ∘ Ld.tick)=Ld.is v y from rfl,d];rfl⟩
      clear b;go_wp2_with fail;refine Ah (KF.o _ (by rw[List.length_map];omega) v y _ a.o f.o) ?_;rintro w5 ag;rw[a6];have m:=D9 ag m;clear ag y0 x0 x1 A H6 a f;go_wp2_with fail;go_roundw;case rel=>exact⟨i+1,BJ,by go_num,m.o⟩
      case measure=>simp[intOf];omega
    .obtain rfl:i=B.length:=BJ
     have d5:=a.cell 5;simp only[BG,yA,yB,a9,ba,bb] at d5;go_wp2_with fail;refine Ah (KW.o _) ?_;rintro w6 ah;obtain⟨f,z⟩:=Ce ah f z;clear ah d5 a;go_wp2_with fail;go_loopw [93] (λt bd=>t=AA 0/\w6=bd) (λ_ _=>0);case atStart=>exact⟨rfl,rfl⟩
     case round=>obtain⟨rfl,rfl⟩:=hrel;go_wp2_with fail;exact bE ⟨rfl,f.o,z.o⟩
  .have hi2:i<ls.length:=BJ
   have aj:ls.drop i=ls[i] :: ls.drop (i+1):=List.drop_eq_getElem_cons hi2;have T:ls[i]∈ls:=List.getElem_mem hi2;have htk:=ar.o _ T;have a4:=(List.getElem?_eq_some_iff.1 htk).1;have M:=(Q.o BJ).mv u.o (λk K=>by rintro⟨l,d,rfl⟩;exact(Q.o BJ).Hw (ap.blk l d) Iz _ K rfl);obtain⟨gs,cs,rs,hv,rfl,aw,ax,J,_⟩:=M.blk BJ;cases hv;have s0:=J.cell i;rw[show (ls.map Ld.ptr++rs)[i]?=some (AP ls[i].g) by rw[List.getElem?_append_left (by rw[List.length_map];exact hi2),List.getElem?_map,List.getElem?_eq_getElem hi2];rfl] at s0;have d:=f.o;rw[aj] at d;have ab:=qh d;generalize a5:ls[i]=l at s0 d ab htk a4 T aj;have aa:=qh (d.blk l Vj);clear d M J f;have an:=aa.cell 31;rw[show l.cells[31]?=some (AA 0) from htk] at an;go_upto_region 4 with(first|(refine Bh rfl 3 (.tmp 27) (.tmp 25) rfl rfl l.g 31 167 _ aa.o (by simp only[Ld.cells,List.length_cons];omega) rfl (AA 1) rfl rfl ND rfl ?_;intro w7 R Y));obtain⟨ao,HT⟩:=WZ (ab.put (l':=l.tick) rfl R Y) (u.mv (Mv.AZ (F:=λk=>k=l.g) Y rfl) (λk K=>.inl ⟨l,T,K⟩));have be:=R.cell 31;rw[show (l.cells.set 31 (AA 1))[31]?=some (AA 1) by rw[List.getElem?_set_self (by simp only[Ld.cells,List.length_cons];omega)]] at be;clear R Y s0 an u;go_wp2_with fail;go_roundw;case rel=>exact⟨i+1,by go_num,BJ,by rw[List.take_succ_eq_append_getElem hi2,a5,List.map_append,List.append_assoc];exact ao.o,HT.o⟩
   case measure=>simp[intOf];omega
end
def ptrs(n:Nat)(gs:Nat->Nat):List Value:=(List.range n).map λi=>.pointer (some ⟨gs i,0,none⟩)
theorem jL(n:Nat)(gs:Nat->Nat):(ptrs n gs).length=n:=by simp[ptrs]
theorem MB(n:Nat)(gs:Nat->Nat)(rest:List Value)(i:Nat)(hi:i<n):(ptrs n gs++rest)[i]?=some (.pointer (some ⟨gs i,0,none⟩)):=by rw[List.getElem?_append_left (by rw[jL];exact hi)];simp[ptrs,hi]
def Dq(n:Nat)(dv nv clv cav lv hv:Value):List Value:=[AA n,dv,nv,clv,cav,lv,hv]
theorem UF(id:Int)(h1:1<=id)(h2:id<=8)(w:World):Calls prog 37 #[AA id] w λe w'=>e=.returned (.bool true)/\Below w.heap.size w w':=by go_in;go_wp2_with fail;go_ret;exact⟨rfl,Below.refl _ _⟩
theorem rW(gC n:Nat)(dv nv clv cav lv hv:Value)(w:World)(h:Holds w gC 85 (Dq n dv nv clv cav lv hv)) :Calls prog 9 #[AP gC] w λe w'=>e=.returned (AA n)/\Below w.heap.size w w':=by have a:=Am h 0;clear h;go_in;go_wp2_with fail;go_ret;exact⟨rfl,Below.refl _ _⟩
theorem YK(gC n gN cN i:Nat)(gs:Nat->Nat)(rest:List Value)(dv clv cav lv hv:Value)(w:World)(h:Holds w gC 85 (Dq n dv (.slice (some ⟨gN,0,none⟩) n cN) clv cav lv hv))(hN:Holds w gN 59 (ptrs n gs++rest))(hi:i<n) :Calls prog 17 #[.pointer (some ⟨gC,0,none⟩),.int .i64 i] w λe w'=>e=.returned (.pointer (some ⟨gs i,0,none⟩))/\Below w.heap.size w w':=by
 obtain⟨a,b⟩:=Cf h 0 2;have p:=hN.cell i;rw[MB n gs rest i hi] at p;have d:(i:Int)<(n:Int):=BJ
 have c:¬((i:Int)<0):=BJ
 clear h hN;go_in;go_wp2_with fail;go_ret;exact⟨rfl,Below.refl _ _⟩
def ql(w:World)(e:Ending)(w':World):Prop:=∃p' c',e=.returned (.slice p' 0 c')/\Below w.heap.size w w'
theorem ZE(p:Option Addr)(c:Nat)(ob:Option Nat)(w:World)(h:AV w (.slice p 0 c) ob 47 51 0 []) :Calls prog 34 #[.slice p 0 c] w (ql w):=by
 rcases h.cases with⟨b,_,_,_⟩|⟨g,A,F,b,_,B,C,s,D⟩
 .cases b;have n:∀W:World,(binOp .eql 34 AL AL).run prog W=.ok (.bool true) W:=λ_=>ND
  clear h;go_in;go_wp2_with fail;go_ret;exact⟨_,_,rfl,Below.refl _ _⟩
 .cases b;have z:=qh (show AV (w.alloc (.cells #[] 47)) (.slice (Ac w.heap.size) 0 0) (some w.heap.size) 47 51 0 [] from⟨World.ownsRow_lit (size:=51) w #[] 0 (Nat.zero_le _) (by unfold maxLen;omega) Vj,rfl⟩);have a:Below w.heap.size w (w.alloc (.cells #[] 47)):=by go_grown
  have k:=qh a;have v:=a.size;have n:∀W:World,(binOp .eql 34 (.slice (Ac g) 0 c) AL).run prog W=.ok (.bool false) W:=λ_=>ND
  have t:=qh (show (w.alloc (.cells #[] 47)).ownsRow w.heap.size 47 51 (.slice (Ac w.heap.size) 0 0) 0 [] from World.ownsRow_lit (size:=51) w #[] 0 Ve (by unfold maxLen;omega) Vj);clear h s a;go_in;have m:Reads (w.alloc (.cells #[] 47)) (Ac g) []:=λh=>by simp at h
  go_wp2_with (first|(at_builtin;refine Ag rfl (.tmp 5) (.tmp 6) 34 rfl w.heap.size 47 (.agg EX.toArray) 51 480 rfl ND rfl Iz _ 0 [] rfl t.out (Ac g) 0 c [] rfl rfl m (λh=>(by cases h)) (λu x=>(by cases x)) (by unfold maxLen;omega) BJ v ?_;intro y G f d q));obtain⟨E,i,_⟩:=AV.of f;obtain⟨j,c2,rfl⟩:∃j c2,y=.slice j 0 c2:=by
   rcases i.cases with⟨r,_⟩|⟨_,_,_,r,_⟩
   .exact⟨_,_,r⟩
   .exact⟨_,_,r⟩
  have l:=qh (k.trans d);clear f i d q;go_ret;exact⟨_,_,rfl,l.o⟩
def Px(m:Nat)(w:World)(e:Ending)(w':World):Prop:=∃p c,e=.returned (.slice p m c)/\Below w.heap.size w w'
theorem dM(gC n m:Nat)(dv nv clv cav lv hv:Value)(ob:Option Nat)(L:List Value)(w:World)(h:Holds w gC 85 (Dq n dv nv clv cav lv hv))(hl:AV w lv ob 47 51 m L)(h1:∀u∈L,u.oneCell'=true)(hm2:m<=1000) :Calls prog 13 #[AP gC] w (Px m w):=by
 have K:Calls prog 34 #[lv] w (Px m w):=by
  rcases Nat.eq_zero_or_pos m with rfl|f
  .have hL:L=[]:=List.eq_nil_of_length_eq_zero (by have:=hl.len;omega);subst hL;obtain⟨p,c,rfl⟩:∃p c,lv=.slice p 0 c:=by
    rcases hl.cases with⟨r,_⟩|⟨_,_,_,r,_⟩
    .exact⟨_,_,r⟩
    .exact⟨_,_,r⟩
   exact ZE p c ob w hl
  .refine(dN lv ob m L h1 hm2 w hl (λh=>BJ)).mono ?_;rintro e t ⟨k,q,rfl,i,_,_,a⟩;obtain⟨g,l,s,rfl,_⟩:=i.blk f;exact⟨_,_,rfl,a⟩
 have K:=qh K;have d:=Am h 5;clear h hl h1;go_in;go_wp2_with fail;refine K.out.mono ?_;rintro e j ⟨p,c,rfl,a⟩;have b:=qh (show Px m w (.returned (.slice p m c)) j from⟨p,c,rfl,a⟩);clear a d K;go_wp2_with fail;go_ret;exact b.o
theorem UG(g:Nat)(id seq:Int)(x:Cm)(waits:Bool)(target ticks:Int)(w:World)(h:OY w g id seq x waits target ticks) :Calls prog 38 #[AP g] w λe w'=>e=.returned (.bool waits)/\Below w.heap.size w w':=by have a:=Am h 9;clear h;go_in;go_wp2_with fail;go_ret;exact⟨rfl,Below.refl _ _⟩
end Go.Proofs.YtimdpiifpibgfaaGreatDoor
