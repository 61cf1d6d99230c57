/- A part of the proof of TopReads. -/
import Derived.Test.YtimdpiifpibgfaaGreatDoorQr31
set_option linter.all false
set_option maxRecDepth 20000
set_option maxHeartbeats 16000000
open Go.RowKit Go.Maps
namespace Go.Proofs.YtimdpiifpibgfaaGreatDoor
open Tryz
def Ee(k nn:Int):List Value:=[AA k,AA nn,AA 0,AA 0,AA 0,AA 0,AA 0,AU,AU,AU,AU,AL]
def Off(gC n:Nat)(dv nv clv cav hv:Value)(gl m cap:Nat)(L:List Value)(w W:World):Prop:=Holds W gC 85 (Dq n dv nv clv cav (.slice (Ac gl) m cap) hv)/\AV W (.slice (Ac gl) m cap) (some gl) 47 51 m L/\Mv (λk=>k=gC\/k=gl) w W
theorem Off.bel{gC n:Nat}{dv nv clv cav hv:Value}{gl m cap:Nat}{L:List Value}{w W W':World}(h:Off gC n dv nv clv cav hv gl m cap L w W)(hb:Below W.heap.size W W'):Off gC n dv nv clv cav hv gl m cap L w W':=⟨h.1.bel hb,h.2.1.bel hb,h.2.2.bel hb⟩
instance {gC n:Nat}{dv nv clv cav hv:Value}{gl m cap:Nat}{L:List Value}{w W W':World}:Bl W W' (Off gC n dv nv clv cav hv gl m cap L w W) (Off gC n dv nv clv cav hv gl m cap L w W'):=⟨λhb h=>Off.bel h hb⟩
theorem ZB(gC gN n cN gl m cap:Nat)(gs:Nat->Nat)(rN:List Value)(t k:Nat)(M LL:List Value)(dv clv cav hv:Value)(R6 R7:World->Prop)(w:World) (h:Holds w gC 85 (Dq n dv (.slice (some ⟨gN,0,none⟩) n cN) clv cav (.slice (some ⟨gl,0,none⟩) (m+1:Nat) cap) hv)) (hN:Holds w gN 59 (ptrs n gs++rN)) (ht:t<n) (hl:AV w (.slice (some ⟨gl,0,none⟩) (m+1:Nat) cap) (some gl) 47 51 (m+1) LL) (hMl:M.length=51) (hM2:M[2]?=some (.int .i64 t)) (hM1:M.toArray.all (·.oneCell')=true) (hk:k<m+1) (hMr:∀(j:Nat) v,M[j]?=some v->∀rest,(LL++rest)[k*51+j]?=some v) (h1:∀u∈LL,u.oneCell'=true) (hm:m<=2000) (KT:∀W,Off gC n dv (.slice (some ⟨gN,0,none⟩) n cN) clv cav hv gl m cap (LL.take (k*51)++LL.drop ((k+1)*51)) w W->Calls prog 50 #[.pointer (some ⟨gs t,0,none⟩),.agg M.toArray] W λe W'=>(∃b,e=.returned (.bool b))/\R6 W'/\∀g L,w.heap.size<=g->Holds W g 47 L->Holds W' g 47 L) (KO:∀W,R6 W->Calls prog 31 #[.pointer (some ⟨gC,0,none⟩),.int .i64 t] W λe W'=>e=.returned (.tuple #[])/\R7 W') :Calls prog 27 #[.pointer (some ⟨gC,0,none⟩),.agg (Ee 2 k).toArray] w λe w'=>e=.returned (.bool true)/\R7 w':=by
 have E:gl≠gC/\gN≠gC/\gN≠gl:=by obtain⟨g1,_,_,_,h0,_,_,U,_⟩:=hl.blk (Nat.succ_pos m);cases h0;exact⟨U.ne_of h Iz,hN.ne_of h Iz,hN.ne_of U Iz⟩
 obtain⟨an,am,rl,ah,af,ao,ap,N,_⟩:=hl.blk (Nat.succ_pos m);cases af;injection ah with _ _ ad;subst ad;obtain⟨q,KD,KN,KT,KO,c,i,d⟩:=ed N (λW (h:AV W (.slice (some ⟨gl,0,none⟩) (m+1:Nat) cap) (some gl) 47 51 (m+1) LL)=>lH gl (m+1) cap k LL W h h1 hk BJ) (λW aj h hN=>YK gC n gN cN t gs rN dv clv cav aj hv W h hN ht) KT KO h hN hl;have f:=qh (Mv.refl (λk=>k=gC\/k=gl) w);have aw:(k:Int)<((m+1:Nat):Int):=BJ
 have au:¬(k:Int)<0:=BJ
 have av:IntKind.i64.wrap ((k:Int)+1)=(k:Int)+1:=by rw[IntKind.wrap_i64];omega
 have ax:((m+1:Nat):Int)=(m:Int)+1:=BJ
 clear h hN hl N h1;go_in;go_upto_region 1 with(fail);go_name_world W O;obtain⟨a,S,ag⟩:=GI 32 (Ee 2 k) O;clear O;obtain⟨c,i,d,f,q⟩:=Gj S c i d f q;clear S;have F:w.heap.size≠gC/\w.heap.size≠gl:=⟨a.ne_of c.o Iz,by have:=d.lt gl rfl;have h9:=a.ne_of q.o Iz;exact h9⟩;generalize w.heap.size=gS at a F |-;clear ag;have s1:=Am a.o 1;have c5:=Am c.o 5;go_quiet (fail);have Q:Below W.heap.size W (W.drewN nq):=Bg _ _ _;obtain⟨c,i,d,f,q,a⟩:=Ef Q c i d f q a;clear Q s1 c5;generalize W.drewN nq=w1 at c i d f q a |-;have ay:=f.size;have ar:gl<w1.heap.size/\gC<w1.heap.size:=⟨d.lt gl rfl,c.lt⟩;go_upto_region 3 with(fail);have aa:=qh (BK (cs:=M) q.o (k*51) (λj v hv=>hMr j v hv _));refine' CU [⟨8,9,5,27,47,EX,M⟩] ND ND ND ?z11 ?z21 ?bd1 _ ?h1 ?val1 ?fin1;case z11=>
  intro x p;simp only[List.mem_cons,List.not_mem_nil,or_false] at p;subst p
  .exact⟨.agg (EX:List Value).toArray,ND,rfl⟩
 case z21=>
  intro x p;simp only[List.mem_cons,List.not_mem_nil,or_false] at p;subst p
  .exact⟨by show _=some M.length;rw[hMl];kernel_rfl,hMl.symm,hM1⟩
 case bd1=>
  intro x p;simp only[List.mem_cons,List.not_mem_nil,or_false] at p;subst p
  .simp
 case h1=>
  intro W0 ac;obtain⟨c,i,d,f,q,a⟩:=Ef ac c i d f q a;have ak:=MK c.o 5;have al:=MK a.o 1;have ab:=qh (BK (cs:=M) q.o (k*51) (λj v hv=>hMr j v hv _));simp only[List.map_cons,List.map_nil,BI];repeat(first
  | (with_reducible refine qR (k*51) ab.o ?_ (hi:=N8 hMl);simp only[Act.put,List.setIfInBounds_toArray,List.set_cons_succ,List.set_cons_zero])
  | go_big_quiet_step (first
   | fail))
  refine wpQuiet_nil ?_;intro w' _;exact rfl
 case val1=>
  intro x p;simp only[List.mem_cons,List.not_mem_nil,or_false] at p;subst p
  .rfl
 intro β w4 P p ae;have B:=p _ List.mem_cons_self;clear p ae;simp only[] at B;simp only[D7,List.foldl,Act.put,List.setIfInBounds_toArray,List.set_cons_zero,List.set_cons_succ];obtain⟨c,i,d,f,q,a⟩:=Ef P c i d f q a;generalize β 5=g5 at B |-;have l:=qh B.2;have aq:=B.1;clear B;clear P;have T:g5≠gC/\g5≠gl:=BJ
 have ai:w.heap.size<=g5:=BJ
 clear aa q;have G:=Am a.o 0;go_upto_region 5 with(fail);clear G;obtain⟨c,i,d,f,a,l⟩:=Ef (AY _ w4) c i d f a l;refine Ed [10,13] 14 (λhSn=>?_);generalize w4.drew=wd at c i d f a l hSn |-;simp only[List.replicate];refine J9 0 ?_;refine BO 4 [10,11,12,13] (λw A=>Am (c.bel A) 5) ?_;refine CW 5 ?_;refine BO 6 [10,11,12,13] (λw A=>Am (a.bel A) 1) ?_;refine CW 7 ?_;refine BO 8 [9,10,11,12,13] (λw A=>Am (a.bel A) 1) ?_;refine CW 9 ?_;refine BN 10 rfl (λK z=>?_);go_simp;refine Ah (KD.o _ (d.bel hSn)) ?_;rintro w5 ⟨X,Y⟩;have r:Mv (λk=>k=gl) _ w5:=Mv.AZ Y rfl;obtain⟨c,i,a,l,f,d⟩:=mG ((c.bel hSn).mv r (Ne.symm E.1)) ((i.bel hSn).mv r E.2.2) ((a.bel hSn).mv r F.2) ((l.bel hSn).mv r T.2) ((f.bel hSn).mv r (λk hk=>.inl (.inr hk))) X;clear X Y r;refine BR z ?_;clear z;refine F9 11 ?_ (hS:=JI);refine BN 13 rfl (λK z=>?_);refine tC 5 c.o (.slice (some ⟨gl,0,none⟩) m cap) ?_;intro w6 V Z;have s:Mv (λk=>k=gC) w5 w6:=Mv.AZ Z rfl;obtain⟨c,i,a,l,d,f⟩:=mG (show Holds w6 gC 85 (Dq n dv (.slice (some ⟨gN,0,none⟩) n cN) clv cav (.slice (some ⟨gl,0,none⟩) m cap) hv) from V) (i.mv s E.2.1) (a.mv s F.1) (l.mv s T.1) (d.mv s (λk hk=>by cases hk;exact E.1)) (f.mv s (λk hk=>.inl (.inl hk)));clear V Z s;refine BR z ?_;clear z;refine BA ?_;clear hSn;have C:=l.cell 2;rw[hM2] at C;go_wp2_with fail;refine Ah (KN.o _ _ c.o i.o) ?_;rintro w7 R;have D:=qh (show Off gC n dv (.slice (some ⟨gN,0,none⟩) n cN) clv cav hv gl m cap (LL.take (k*51)++LL.drop ((k+1)*51)) w w6 from⟨c.o,d.o,f.o⟩);obtain⟨D,a,l⟩:=D5 R D a l;clear R C c i d f;have G:=Am a.o 0;go_upto_region 8 with(fail);have I:=qh l.Af;go_wp2_with (first|(with_reducible refine lR 0 I.o ?_ (hi:=N8 hMl)));refine(KT.o _ D.o).mono ?_;rintro e w8 ⟨⟨bb,rfl⟩,J,y⟩;obtain⟨H,l⟩:=WZ J (y g5 _ ai l.o);clear J y D a I G KT;have C:=l.cell 2;rw[hM2] at C;go_wp2_with fail;refine Ah (KO.o _ H.o) ?_;rintro w9 y;have H7:=qh y;clear y H KO C l;go_wp2_with fail;go_ret;exact⟨rfl,H7.o⟩
inductive Pz
 | fresh
 | pre
 | lead (A:List Nat)
 | com
structure Lz where
 k:Nat
 f:Nat
 t:Nat
 j:Nat
 deriving DecidableEq
def Fj(n o j:Nat):List Lz:=((List.range n).filter λr=>r != o).map λr=>⟨5,o,r,j⟩
def DJ(n:Nat)(p:Pz)(m:Lz):Pz × List Lz:=
 if m.k=1 then match p with
  | .fresh=>(.pre,[⟨2,m.t,m.f,m.j⟩])
  | .com=>(.com,[⟨5,m.t,m.f,m.j⟩])
  | p=>(p,[])
 else if m.k=2 then match p with
  | .lead A=>if A.length+3<n then (.lead (A++[m.f]),[]) else (.com,Fj n m.t m.j)
  | p=>(p,[])
 else if m.k=5 then match p with
  | .fresh=>(.com,[])
  | .pre=>(.com,[])
  | p=>(p,[])
 else (p,[])
theorem Lm{x:Lz}:∀(l:List Lz) (k:Nat) (h:k<l.length),(l.eraseIdx k).count x+(if l[k]=x then 1 else 0)=l.count x
 | [],k,h=>by simp at h
 | a :: l,0,h=>by simp only[List.eraseIdx_cons_zero,List.getElem_cons_zero,List.count_cons,beq_iff_eq]
 | a :: l,k+1,h=>by have:=Lm (x:=x) l k (by simpa using h);simp only[List.eraseIdx_cons_succ,List.getElem_cons_succ,List.count_cons,beq_iff_eq];omega
theorem ZG(n o j:Nat):(Fj n o j).Nodup:=by unfold Fj;refine List.Pairwise.map _ (λa b (h:a≠b) e=>h ?_) (List.Pairwise.filter _ List.nodup_range);injection e
theorem L6{n o j:Nat}{x:Lz}:x∈Fj n o j ↔ x.k=5/\x.f=o/\x.j=j/\x.t<n/\x.t≠o:=by
 unfold Fj;rw[List.mem_map];constructor
 .rintro⟨r,hr,rfl⟩;rw[List.mem_filter,List.mem_range] at hr;exact⟨rfl,rfl,rfl,hr.1,by simpa using hr.2⟩
 .obtain⟨k,f,t,j2⟩:=x;rintro⟨rfl,rfl,rfl,a,b⟩;exact⟨t,List.mem_filter.2 ⟨List.mem_range.2 a,by simpa using b⟩,rfl⟩
theorem ZJ(n o j:Nat)(x:Lz):(Fj n o j).count x=if x.k=5/\x.f=o/\x.j=j/\x.t<n/\x.t≠o then 1 else 0:=by
 split
 .rename_i h;have b:=(List.nodup_iff_count.1 (ZG n o j)) x;have c:=List.count_pos_iff.2 (L6.2 h);omega
 .rename_i h;exact List.count_eq_zero.2 λa=>h (L6.1 a)
def Nb(lets:List Lz)(o j:Nat)(A:List Nat)(r:Nat)(p:Pz):Prop:=
 lets.count ⟨5,o,r,j⟩=0/\lets.count ⟨5,r,o,j⟩=0 /\
 ((p=.fresh/\lets.count ⟨1,o,r,j⟩=1/\lets.count ⟨2,r,o,j⟩=0/\r∉A)\/(p=.pre/\lets.count ⟨1,o,r,j⟩=0/\lets.count ⟨2,r,o,j⟩=1/\r∉A)\/(p=.pre/\lets.count ⟨1,o,r,j⟩=0/\lets.count ⟨2,r,o,j⟩=0/\r∈A))
def Jf(lets:List Lz)(o j:Nat)(r:Nat)(p:Pz):Prop:=
 (p=.fresh/\lets.count ⟨1,o,r,j⟩=1/\lets.count ⟨5,o,r,j⟩=1)\/(p=.pre/\lets.count ⟨1,o,r,j⟩=0/\lets.count ⟨5,o,r,j⟩=1)\/(p=.com/\lets.count ⟨5,o,r,j⟩=0)
structure Kr(n o j:Nat)(P:Nat->Pz)(lets:List Lz):Prop where
 on:o<n
 row:(∃A,P o=.lead A/\A.length+2<n/\∀r,r<n->r≠o->Nb lets o j A r (P r))\/(P o=.com/\∀r,r<n->r≠o->Jf lets o j r (P r))
 wf:∀m∈lets,m.j=j->(m.k=1/\m.f=o/\m.t<n/\m.t≠o)\/(m.k=2/\m.t=o/\m.f<n/\m.f≠o)\/(m.k=5/\((m.f=o/\m.t<n/\m.t≠o)\/(m.t=o/\m.f<n/\m.f≠o)))
def JK(P:Nat->Pz)(r:Nat)(p:Pz)(x:Nat):Pz:=if x=r then p else P x
theorem Kr.give{n o j:Nat}{P:Nat->Pz}{lets:List Lz}(h:Kr n o j P lets)(k:Nat)(hk:k<lets.length)(hj:lets[k].j=j) :Kr n o j (JK P lets[k].t (DJ n (P lets[k].t) lets[k]).1) (lets.eraseIdx k++(DJ n (P lets[k].t) lets[k]).2):=by
 have X:=λx=>Lm (x:=x) lets k hk;have i:=List.getElem_mem hk;have hw:=h.wf _ i hj;have aa:1<=lets.count lets[k]:=List.count_pos_iff.2 i;have J:∀m∈lets.eraseIdx k,m∈lets:=λm i=>(List.eraseIdx_sublist ..).mem i;have K:=h.wf;have D:=h.on;have R:=h.row;clear i h;generalize lets[k]=m at *;generalize hl:lets.eraseIdx k=S at *;obtain⟨mk,d,p,u⟩:=m;simp only at hj hw;subst hj;have E:∀a b c,S.count ⟨a,b,c,u⟩=lets.count ⟨a,b,c,u⟩ - (if mk=a/\d=b/\p=c then 1 else 0):=λa b c=>by have:=X ⟨a,b,c,u⟩;simp only[Lz.mk.injEq,and_true] at this;omega
 clear X;rcases hw with⟨rfl,rfl,H,s⟩|⟨rfl,rfl,V,Q⟩|⟨rfl,⟨rfl,H,s⟩|⟨rfl,V,Q⟩⟩
 ·
  have F:DJ n .fresh ⟨1,d,p,u⟩=(.pre,[⟨2,p,d,u⟩]):=rfl;have M:DJ n .com ⟨1,d,p,u⟩=(.com,[⟨5,p,d,u⟩]):=rfl;have W:∀T:List Lz,(T=[⟨2,p,d,u⟩]\/T=[⟨5,p,d,u⟩])->∀m∈S++T,m.j=u->(m.k=1/\m.f=d/\m.t<n/\m.t≠d)\/(m.k=2/\m.t=d/\m.f<n/\m.f≠d)\/(m.k=5/\((m.f=d/\m.t<n/\m.t≠d)\/(m.t=d/\m.f<n/\m.f≠d))):=λT ho m i hj=>by
   rcases List.mem_append.1 i with i|i
   .exact K m (J m i) hj
   .rcases ho with rfl|rfl
    .rw[List.mem_singleton.1 i];exact .inr (.inl ⟨rfl,rfl,H,s⟩)
    .rw[List.mem_singleton.1 i];exact .inr (.inr ⟨rfl,.inr ⟨rfl,H,s⟩⟩)
  rcases R with⟨A,z,O,q⟩|⟨z,q⟩
  .obtain⟨G,h2,h3⟩:=q p H s;rcases h3 with⟨w,B,v,I⟩|⟨w,B,v,I⟩|⟨w,B,v,I⟩
   .rw[w,F];refine⟨D,.inl ⟨A,by simp[JK,Ne.symm s,z],O,λr y l=>?_⟩,W _ (.inl rfl)⟩;obtain⟨L,N,C⟩:=q r y l;unfold Nb;simp only[List.count_append,List.count_cons,List.count_nil,E,beq_iff_eq,Lz.mk.injEq,JK];by_cases e:r=p
    .subst e;simp[s,Ne.symm s,G,h2,B,v,I]
    .simp[e,Ne.symm e,L,N,s];simpa[e,Ne.symm e] using C
   .omega
   .omega
  .rcases q p H s with⟨w,B,v⟩|⟨w,B,v⟩|⟨w,v⟩
   .rw[w,F];refine⟨D,.inr ⟨by simp[JK,Ne.symm s,z],λr y l=>?_⟩,W _ (.inl rfl)⟩;have g:=q r y l;unfold Jf at g |-;simp only[List.count_append,List.count_cons,List.count_nil,E,beq_iff_eq,Lz.mk.injEq,JK];by_cases e:r=p
    .subst e;simp[s,Ne.symm s,B,v]
    .simpa[e,Ne.symm e,s] using g
   .omega
   .rw[w,M];refine⟨D,.inr ⟨by simp[JK,Ne.symm s,z],λr y l=>?_⟩,W _ (.inr rfl)⟩;have g:=q r y l;unfold Jf at g |-;simp only[List.count_append,List.count_cons,List.count_nil,E,beq_iff_eq,Lz.mk.injEq,JK];by_cases e:r=p
    .subst e;simp[s,Ne.symm s,v]
    .simpa[e,Ne.symm e,s,Ne.symm l] using g
 ·
  have F:∀A:List Nat,DJ n (.lead A) ⟨2,d,p,u⟩=if A.length+3<n then (.lead (A++[d]),[]) else (.com,Fj n p u):=λA=>rfl;have M:DJ n .com ⟨2,d,p,u⟩=(.com,[]):=rfl;rcases R with⟨A,z,O,q⟩|⟨z,q⟩
  .obtain⟨G,h2,h3⟩:=q d V Q;rcases h3 with⟨w,B,v,I⟩|⟨w,B,v,I⟩|⟨w,B,v,I⟩
   .omega
   .rw[z,F];by_cases Y:A.length+3<n
    .rw[if_pos Y];refine⟨D,.inl ⟨A++[d],by simp[JK],by simp;omega,λr y l=>?_⟩,λm i hj=>K m (J m (by simpa using i)) hj⟩;obtain⟨L,N,C⟩:=q r y l;unfold Nb;simp only[List.append_nil,E,JK,if_neg l];by_cases e:r=d
     .subst e;simp[G,h2,B,v,w]
     .simp[e,Ne.symm e,L,N];simpa[e,Ne.symm e] using C
    .rw[if_neg Y];refine⟨D,.inr ⟨by simp[JK],λr y l=>?_⟩,λm i hj=>?_⟩
     .obtain⟨L,N,C⟩:=q r y l;unfold Jf;simp only[List.count_append,ZJ,E,JK,if_neg l];simp[L,y,l];rcases C with⟨C,U,_⟩|⟨C,U,_⟩|⟨C,U,_⟩<;>simp[C,U]
     .rcases List.mem_append.1 i with i|i
      .exact K m (J m i) hj
      .obtain⟨a1,a2,a3,a4,a5⟩:=L6.1 i;exact .inr (.inr ⟨a1,.inl ⟨a2,a4,a5⟩⟩)
   .omega
  .rw[z,M];refine⟨D,.inr ⟨by simp[JK],λr y l=>?_⟩,λm i hj=>K m (J m (by simpa using i)) hj⟩;have g:=q r y l;unfold Jf at g |-;simp only[List.append_nil,E,JK,if_neg l];simpa using g
 ·
  have F:DJ n .fresh ⟨5,d,p,u⟩=(.com,[]):=rfl;have M:DJ n .pre ⟨5,d,p,u⟩=(.com,[]):=rfl;rcases R with⟨A,z,O,q⟩|⟨z,q⟩
  .obtain⟨G,h2,h3⟩:=q p H s;omega
  .have hfin:∀m∈S++[],m.j=u->_:=λm i hj=>K m (J m (by simpa using i)) hj;have Z:∀r,r<n->r≠d->lets.count ⟨5,d,p,u⟩=1->Jf (S++[]) d u r (JK P p .com r):=λr y l G=>by
    have g:=q r y l;unfold Jf at g |-;simp only[List.append_nil,E,JK];by_cases e:r=p
    .subst e;simp[G]
    .simpa[e,Ne.symm e] using g
   rcases q p H s with⟨w,B,v⟩|⟨w,B,v⟩|⟨w,v⟩
   .rw[w,F];exact⟨D,.inr ⟨by simp[JK,Ne.symm s,z],λr a b=>Z r a b v⟩,hfin⟩
   .rw[w,M];exact⟨D,.inr ⟨by simp[JK,Ne.symm s,z],λr a b=>Z r a b v⟩,hfin⟩
   .omega
 ·
  have F:DJ n .com ⟨5,d,p,u⟩=(.com,[]):=rfl;rcases R with⟨A,z,O,q⟩|⟨z,q⟩
  .obtain⟨G,h2,h3⟩:=q d V Q;omega
  .rw[z,F];refine⟨D,.inr ⟨by simp[JK],λr y l=>?_⟩,λm i hj=>K m (J m (by simpa using i)) hj⟩;have g:=q r y l;unfold Jf at g |-;simp only[List.append_nil,E,JK,if_neg l];simpa[Q,l,Ne.symm l] using g
theorem Kr.keep{n o j:Nat}{P P':Nat->Pz}{l l2:List Lz}(h:Kr n o j P l)(hP:∀r,r<n->P' r=P r)(hc:∀a b c,l2.count ⟨a,b,c,j⟩=l.count ⟨a,b,c,j⟩):Kr n o j P' l2:=by
 refine⟨h.on,?_,λm i f=>h.wf m ?_ f⟩
 .rcases h.row with⟨A,ha,hal,hr⟩|⟨ha,hr⟩
  .refine .inl ⟨A,(hP o h.on).trans ha,hal,λr d g=>?_⟩;have:=hr r d g;unfold Nb at this |-;rw[hc,hc,hc,hc,hP r d];exact this
  .refine .inr ⟨(hP o h.on).trans ha,λr d g=>?_⟩;have:=hr r d g;unfold Jf at this |-;rw[hc,hc,hP r d];exact this
 .obtain⟨a,b,c,j2⟩:=m;have f:j2=j:=f;subst f;have:=hc a b c;have k:=List.count_pos_iff.2 i;exact List.count_pos_iff.1 BJ
theorem Ip{j:Nat}{out:List Lz}(h:∀m∈out,m.j≠j)(a b c:Nat):out.count ⟨a,b,c,j⟩=0:=List.count_eq_zero.2 λd=>h _ d rfl
theorem Yr(n:Nat)(p:Pz)(m x:Lz)(hx:x∈(DJ n p m).2):x.j=m.j:=by
 obtain⟨k,f,t,j⟩:=m;unfold DJ at hx;split at hx
 .cases p<;>simp at hx<;>rw[hx]
 .split at hx
  .cases p with
   | lead A=>
    simp only at hx;split at hx
    .simp at hx
    .exact(L6.1 hx).2.2.1
   | _=>simp at hx
  .split at hx
   .cases p<;>simp at hx
   .simp at hx
theorem Kr.other{n o j:Nat}{P:Nat->Pz}{lets:List Lz}(h:Kr n o j P lets)(k:Nat)(hk:k<lets.length)(hj:lets[k].j≠j)(p:Pz):Kr n o j P (lets.eraseIdx k++(DJ n p lets[k]).2):=
 h.keep (λ_ _=>rfl) λa b c=>by have d:=Lm (x:=⟨a,b,c,j⟩) lets k hk;rw[if_neg (λe=>hj (by rw[e]))] at d;rw[List.count_append,Ip (out:=(DJ n p lets[k]).2) (λm f=>by rw[Yr n p _ m f];exact hj)];omega
def DF(n o j:Nat):List Lz:=((List.range n).filter λr=>r != o).map λr=>⟨1,o,r,j⟩
theorem Z9(n o j:Nat):(DF n o j).Nodup:=by unfold DF;refine List.Pairwise.map _ (λa b (h:a≠b) e=>h ?_) (List.Pairwise.filter _ List.nodup_range);injection e
theorem I4{n o j:Nat}{x:Lz}:x∈DF n o j ↔ x.k=1/\x.f=o/\x.j=j/\x.t<n/\x.t≠o:=by
 unfold DF;rw[List.mem_map];constructor
 .rintro⟨r,hr,rfl⟩;rw[List.mem_filter,List.mem_range] at hr;exact⟨rfl,rfl,rfl,hr.1,by simpa using hr.2⟩
 .obtain⟨k,f,t,j2⟩:=x;rintro⟨rfl,rfl,rfl,a,b⟩;exact⟨t,List.mem_filter.2 ⟨List.mem_range.2 a,by simpa using b⟩,rfl⟩
theorem ZK(n o j:Nat)(x:Lz):(DF n o j).count x=if x.k=1/\x.f=o/\x.j=j/\x.t<n/\x.t≠o then 1 else 0:=by
 split
 .rename_i h;have b:=(List.nodup_iff_count.1 (Z9 n o j)) x;have c:=List.count_pos_iff.2 (I4.2 h);omega
 .rename_i h;exact List.count_eq_zero.2 λa=>h (I4.1 a)
theorem Kr.begin{n o j:Nat}{P:Nat->Pz}{lets:List Lz}(hn:3<=n)(ho:o<n)(hno:∀m∈lets,m.j≠j)(hP:P o=.lead [])(hF:∀r,r<n->r≠o->P r=.fresh):Kr n o j P (lets++DF n o j):=by
 refine⟨ho,.inl ⟨[],hP,by simp;omega,λr b c=>?_⟩,λm a d=>?_⟩
 .unfold Nb;simp[List.count_append,Ip hno,ZK,b,c,hF r b c]
 .rcases List.mem_append.1 a with a|a
  .exact absurd d (hno m a)
  .obtain⟨a1,a2,a3,a4,a5⟩:=I4.1 a;exact .inl ⟨a1,a2,a4,a5⟩
theorem Kr.last{n o j:Nat}{P:Nat->Pz}(h:Kr n o j P [])(r:Nat)(hr:r<n):P r=.com:=by
 rcases h.row with⟨A,s,D,q⟩|⟨s,q⟩
 .exfalso;have w:∀r,r<n->r≠o->r∈A:=λr hr C=>by
   obtain⟨_,_,p⟩:=q r hr C;rcases p with⟨_,c,_⟩|⟨_,_,c,_⟩|⟨_,_,_,c⟩
   .simp at c
   .simp at c
   .exact c
  have z:∀k,k<=n->∃B:List Nat,B.Nodup/\(∀x∈B,x<k/\x≠o)/\k<=B.length+1/\(k<=o->k<=B.length):=λk=>by
   induction k with
   | zero=>exact λ_=>⟨[],List.nodup_nil,Vj,Vj,Vj⟩
   | succ k ih=>
    intro E;obtain⟨B,g,f,p,c⟩:=ih BJ;by_cases e:k=o
    .exact⟨B,g,λx d=>⟨by have:=(f x d).1;omega,(f x d).2⟩,by have:=c BJ;omega,λh=>BJ⟩
    .refine⟨k :: B,List.nodup_cons.2 ⟨λd=>by have:=(f k d).1;omega,g⟩,λx d=>?_,by simp;omega,λh=>by have:=c BJ;simp;omega⟩;rcases List.mem_cons.1 d with rfl|d
     .exact⟨BJ,e⟩
     .exact⟨by have:=(f x d).1;omega,(f x d).2⟩
  obtain⟨B,g,f,p,_⟩:=z n (Nat.le_refl n);have v:∀(l m:List Nat),l.Nodup->(∀x∈l,x∈m)->l.length<=m.length:=by
   intro l;induction l with
   | nil=>intro m _ _;exact Nat.zero_le _
   | cons x l ih=>
    intro m h t;obtain⟨a,b,rfl⟩:=List.append_of_mem (t x (List.mem_cons_self ..));obtain⟨g,f⟩:=List.nodup_cons.1 h;have:=ih (a++b) f λy u=>by
     rcases List.mem_append.1 (t y (List.mem_cons_of_mem _ u)) with i|i
     .exact List.mem_append_left _ i
     .rcases List.mem_cons.1 i with rfl|i
      .exact absurd u g
      .exact List.mem_append_right _ i
    simp only[List.length_append,List.length_cons] at this |-;omega
  have:=v B A g λx d=>w x (f x d).1 (f x d).2;omega
 .by_cases e:r=o
  .rw[e];exact s
  .rcases q r hr e with⟨_,c,_⟩|⟨_,_,c⟩|⟨c,_⟩
   .simp at c
   .simp at c
   .exact c
def Ii(l:List Lz):Nat:=(l.map λm=>if m.k=1 then 2 else 1).sum
def UZ(n:Nat):Pz->Nat
 | .lead _=>n
 | _=>0
theorem Uw(a b:List Lz):Ii (a++b)=Ii a+Ii b:=by simp[Ii]
theorem pI(n o j:Nat):Ii (Fj n o j)<=n:=by
 unfold Ii Fj;rw[List.map_map];have h:∀l:List Nat,(l.map ((λm:Lz=>if m.k=1 then 2 else 1) ∘ λr=>(⟨5,o,r,j⟩:Lz))).sum=l.length:=λl=>by
  induction l with
  | nil=>rfl
  | cons a l ih=>
   rw[List.map_cons,List.sum_cons,ih,List.length_cons];show 1+l.length=_;omega
 rw[h];exact Nat.le_trans (List.length_filter_le _ _) Vj
theorem aT(n:Nat)(p:Pz)(m:Lz):Ii (DJ n p m).2+UZ n (DJ n p m).1<Ii [m]+UZ n p:=by
 obtain⟨k,f,t,j⟩:=m;unfold DJ;split
 .rename_i h;simp only at h;subst h;cases p<;>simp[Ii,UZ]
 .split
  .rename_i h;simp only at h;subst h;cases p with
   | lead A=>
    simp only;split
    .simp[Ii,UZ]
    .have:=pI n t j;simp[Ii,UZ] at this |-;omega
   | _=>simp[Ii,UZ]
  .split
   .rename_i h;simp only at h;subst h;cases p<;>simp[Ii,UZ]
   .have:1<=Ii [⟨k,f,t,j⟩]:=by simp[Ii];split<;>omega
    simp[Ii,UZ] at this |-;omega
theorem Ux:∀(l:List Lz) (k:Nat) (h:k<l.length),Ii (l.eraseIdx k)+Ii [l[k]]=Ii l
 | [],k,h=>by simp at h
 | a :: l,0,h=>by simp[Ii];omega
 | a :: l,k+1,h=>by have:=Ux l k (by simpa using h);simp only[Ii,List.eraseIdx_cons_succ,List.getElem_cons_succ,List.map_cons,List.sum_cons,List.map_nil,List.sum_nil] at this |-;omega
section
theorem Jl(f:CY->Int)(M:Int)(hM:0<=M):∀(l:List CY) (p:CY->Bool),(∀e∈l,p e=true->f e<=M)->l.foldr (λe m=>if p e then max (f e) m else m) 0<=M
 | [],_,_=>hM
 | x :: l,p,h=>by
  have:=Jl f M hM l p λe a=>h e (by simp[a]);rw[List.foldr_cons];split
  .have:=h x Vj (by assumption);omega
  .exact this
def cK(c:Cm):Nat:=c.c.toNat-1
def IB(m:Nat->Nat):Nat->Nat->Nat
 | 0,_=>0
 | j+1,r=>IB m j r+if m j=r then 1 else 0
theorem TW(m:Nat->Nat)(r:Nat){i j:Nat}(h:i<=j):IB m i r<=IB m j r:=by
 induction j with
 | zero=>rw[Nat.le_zero.1 h];exact Nat.le_refl _
 | succ j ih=>
  by_cases e:i=j+1
  .rw[e];exact Nat.le_refl _
  .exact Nat.le_trans (ih BJ) (Nat.le_add_right _ _)
theorem Ul(m:Nat->Nat)(r:Nat):∀j,IB m j r<=j
 | 0=>Ve
 | j+1=>by have:=Ul m r j;show IB m j r+(if m j=r then 1 else 0)<=j+1;split<;>omega
theorem TV(m:Nat->Nat)(r:Nat):∀(j s:Nat),1<=s->s<=IB m j r->∃i,i<j/\m i=r/\IB m i r+1=s
 | 0,s,h1,h2=>absurd h2 (by show ¬s<=0;omega)
 | j+1,s,h1,h2=>by
  have h2:s<=IB m j r+(if m j=r then 1 else 0):=h2;by_cases h:s<=IB m j r
  .obtain⟨i,a,b⟩:=TV m r j s h1 h;exact⟨i,BJ,b⟩
  .split at h2
   .rename_i e;exact⟨j,Nat.lt_succ_self _,e,BJ⟩
   .omega
def Kn.en(k:Kn):CY:=⟨(k.m:Int),k.I.sl,k.c,k.I.aq⟩
class Rz where
 zn:Nat
 zN:Nat
 zp:Nat
 zK:Nat->Kn
 n7:zn=3\/zn=5\/zn=7
 hN:zN<=15
 hp:zp<=8/\zp<=zN
 m:∀j,(zK j).m<zn
 c:∀j,j<zN->JB (zK j).c
 put:∀j,j<zp->(zK j).c.k=2
 get:∀j,zp<=j->j<zN->(zK j).c.k=1
 sl:∀j,j<zN->(zK j).I.sl=(IB (λj=>(zK j).m) j (zK j).m:Int)+1
 aq:∀j,j<zN->Em ((List.range j).map λi=>(zK i).en) (zK j).m (zK j).I.sl (zK j).c=(zK j).I.aq
 ad:∀j,j<zN->∀r,r<7->CG ((List.range j).map λi=>(zK i).en) (λ_=>0) (zK j).m (zK j).I.sl (zK j).c r=(zK j).I.ad r
 cl:∀j j',j<zN->j'<zN->zp<=j->zp<=j'->j≠j'->IU (zK j').c (zK j).c=false
 ck0:∀j,j<zp->cK (zK j).c=0/\(zK j).c.s=(j:Int)+1
 ck1:∀j,zp<=j->j<zN->cK (zK j).c=j-zp+1/\(zK j).c.s=1
open Rz (zn zN zp zK)
section
variable [Rz]
theorem Yp{i j:Nat}(hj:j<zN)(h:i<j)(hm:(zK i).m=(zK j).m):(zK i).I.sl<(zK j).I.sl:=by
 rw[Rz.sl i BJ,Rz.sl j hj,hm];have a:=TW (λj=>(zK j).m) (zK j).m (show i+1<=j from h);have b:IB (λj=>(zK j).m) (i+1) (zK j).m=IB (λj=>(zK j).m) i (zK j).m+1:=by show _+(if (zK i).m=(zK j).m then 1 else 0)=_;rw[if_pos hm]
 omega
theorem Gv{i j:Nat}(hi:i<zN)(hj:j<zN)(hm:(zK i).m=(zK j).m)(hs:(zK i).I.sl=(zK j).I.sl):i=j:=by
 rcases Nat.lt_trichotomy i j with h|h|h
 .have:=Yp hj h hm;omega
 .exact h
 .have:=Yp hi h hm.symm;omega
theorem Un{j:Nat}(hj:j<zN){s:Int}(h1:1<=s)(h2:s<(zK j).I.sl):∃i,i<j/\(zK i).m=(zK j).m/\(zK i).I.sl=s:=by rw[Rz.sl j hj] at h2;obtain⟨i,a,b,c⟩:=TV (λj=>(zK j).m) (zK j).m j s.toNat BJ BJ;have b:(zK i).m=(zK j).m:=b;exact⟨i,a,b,by rw[Rz.sl i BJ,b];omega⟩
theorem Tc{j:Nat}(hj:j<zN):1<=(zK j).I.sl/\(zK j).I.sl<=15:=by have b:=Ul (λj=>(zK j).m) (zK j).m j;have a:=Rz.hN;rw[Rz.sl j hj];have:zN<=15:=a;omega
def Jm:Pz->Bool
 | .fresh=>true
 | _=>false
def isC:Pz->Bool
 | .com=>true
 | _=>false
theorem Gn{p:Pz}(h:isC p=true):Jm p=false:=by cases p<;>first|rfl|cases h
def Dc(d:Nat->Int)(j:Nat):Bool:=decide ((zK j).I.sl<=d (zK j).m)
theorem Vh{d:Nat->Int}{j:Nat}:Dc d j=true ↔ (zK j).I.sl<=d (zK j).m:=by simp[Dc]
structure Ko(p:Nat->Pz)(d:Nat->Int):Prop where
 nn:∀r,0<=d r
 com:∀j,j<zN->Dc d j=true->isC (p j)=true
 cl:∀j,j<zN->(zK j).I.sl=d (zK j).m+1->isC (p j)=false
 hi:∀r,0<d r->∃j,j<zN/\(zK j).m=r/\(zK j).I.sl=d r
theorem Ko.all{p:Nat->Pz}{d:Nat->Int}(h:Ko p d){J:Nat}(hJ:J<=zN)(hp:∀j,j<J->isC (p j)=true){j:Nat}(hj:j<J):Dc d j=true:=by
 rw[Vh];refine Decidable.byContradiction λf=>?_;by_cases e:(zK j).I.sl=d (zK j).m+1
 .have:=h.cl j BJ e;rw[hp j hj] at this;cases this
 .obtain⟨i,a,b,c⟩:=Un (j:=j) BJ (s:=d (zK j).m+1) (by have:=h.nn (zK j).m;omega) BJ;have:=h.cl i BJ (by rw[b];exact c);rw[hp i BJ] at this;cases this
theorem Ko.le{p:Nat->Pz}{d:Nat->Int}(h:Ko p d)(r:Nat):0<=d r/\d r<=15:=by
 refine⟨h.nn r,?_⟩;by_cases f:0<d r
 .obtain⟨j,a,b,c⟩:=h.hi r f;have:=Tc a;omega
 .omega
theorem Ko.MH{p p':Nat->Pz}{d:Nat->Int}(h:Ko p d)(hp:∀j,j<zN->isC (p' j)=isC (p j)):Ko p' d:=
 ⟨h.nn,λj a b=>by rw[hp j a];exact h.com j a b,λj a c=>by rw[hp j a];exact h.cl j a c,h.hi⟩
theorem Ko.zero{p:Nat->Pz}(hp:∀j,j<zN->isC (p j)=false):Ko p λ_=>0:=
 ⟨λ_=>Int.le_refl _,λj a b=>by rw[Vh] at b;have:=Tc a;omega,λj a _=>hp j a,λr h=>absurd h BJ⟩
def JQ(k:Kn):Pz->Option A7
 | .fresh=>none
 | .com=>some k.IW
 | _=>some k.UM
def Nh(p:Nat->Pz)(L:List A7):Prop:=∀e,e∈L ↔ ∃j,j<zN/\JQ (zK j) (p j)=some e
def Y2(p:Nat->Pz)(E:List CY):Prop:=∀e,e∈E ↔ ∃j,j<zN/\Jm (p j)=false/\e=(zK j).en
theorem EG{k:Kn}{x:Pz}{e:A7}(h:JQ k x=some e):e.r=(k.m:Int)/\e.s=k.I.sl:=by
 cases x<;>simp only[JQ,Option.some.injEq] at h
 .cases h
 .subst h;exact⟨rfl,rfl⟩
 .subst h;exact⟨rfl,rfl⟩
 .subst h;exact⟨rfl,rfl⟩
theorem dJ{k:Kn}{x:Pz}(h:Jm x=false):∃e,JQ k x=some e:=by cases x<;>first|exact⟨_,rfl⟩|cases h
theorem Nh.one{p:Nat->Pz}{L:List A7}(h:Nh p L):∀e∈L,∀e2∈L,e.r=e2.r->e.s=e2.s->e=e2:=λe c e2 d k l=>by obtain⟨j,g,b⟩:=(h e).1 c;obtain⟨i,f,a⟩:=(h e2).1 d;have m:=EG b;have n:=EG a;obtain rfl:j=i:=Gv g f BJ BJ;rw[b] at a;exact Option.some.inj a
theorem Nh.no{p:Nat->Pz}{L:List A7}(h:Nh p L){j:Nat}(hj:j<zN)(hf:Jm (p j)=true):Et L (zK j).m (zK j).I.sl=false:=lq λe b f=>by obtain⟨i,c,a⟩:=(h e).1 b;have g:=EG a;obtain rfl:i=j:=Gv c hj BJ BJ;cases d:p i<;>rw[d] at hf a<;>first|(cases hf;done)|cases a
def CE(p:Nat->Pz)(j:Nat)(x:Pz):Nat->Pz:=λi=>if i=j then x else p i
theorem DU(p:Nat->Pz)(j:Nat)(x:Pz):CE p j x j=x:=if_pos rfl
theorem Bi{p:Nat->Pz}{i j:Nat}{x:Pz}(h:i≠j):CE p j x i=p i:=if_neg h
theorem Nh.put{p:Nat->Pz}{L:List A7}(h:Nh p L){j:Nat}(hj:j<zN){x:Pz}{e:A7}(he:JQ (zK j) x=some e):Nh (CE p j x) (Ci L e):=λy=>by
 have f:=EG he;constructor
 .intro b;rcases iV b with rfl|⟨b,c⟩
  .exact⟨j,hj,by rw[DU];exact he⟩
  .obtain⟨i,hi,hc⟩:=(h y).1 b;have d:=EG hc;refine⟨i,hi,?_⟩;rw[Bi (λe=>c (by subst e;omega))];exact hc
 .rintro⟨i,hi,hc⟩;by_cases a:i=j
  .subst a;rw[DU,he] at hc;rw[<-Option.some.inj hc];exact Zn _ _
  .rw[Bi a] at hc;have d:=EG hc;exact iQ ((h y).2 ⟨i,hi,hc⟩) λc=>a (Gv hi hj BJ BJ)
theorem iW{l:List CY}{e x:CY}(h:x∈IA l e):x=e\/(x∈l/\¬(x.r=e.r/\x.s=e.s)):=by
 unfold IA at h;split at h
 .obtain⟨y,hy,rfl⟩:=List.mem_map.1 h;split
  .exact .inl rfl
  .exact .inr ⟨hy,by assumption⟩
 .rename_i hn;rcases List.mem_append.1 h with h|h
  .refine .inr ⟨h,λa=>hn (List.any_eq_true.2 ⟨x,h,by simp[a.1,a.2]⟩)⟩
  .exact .inl (List.mem_singleton.1 h)
theorem aB(l:List CY)(e:CY):e∈IA l e:=by
 unfold IA;split
 .rename_i h;obtain⟨y,b,a⟩:=List.any_eq_true.1 h;exact List.mem_map.2 ⟨y,b,if_pos (by simpa using a)⟩
 .exact List.mem_append.2 (.inr (List.mem_singleton.2 rfl))
theorem jM{l:List CY}{e x:CY}(h:x∈l)(hk:¬(x.r=e.r/\x.s=e.s)):x∈IA l e:=by
 unfold IA;split
 .exact List.mem_map.2 ⟨x,h,if_neg hk⟩
 .exact List.mem_append.2 (.inl h)
theorem Y2.put{p:Nat->Pz}{E:List CY}(h:Y2 p E){j:Nat}(hj:j<zN){x:Pz}(hx:Jm x=false):Y2 (CE p j x) (IA E (zK j).en):=λy=>by
 constructor
 .intro c;rcases iW c with rfl|⟨c,a⟩
  .exact⟨j,hj,by rw[DU];exact hx,rfl⟩
  .obtain⟨i,hi,hf,rfl⟩:=(h y).1 c;refine⟨i,hi,?_,rfl⟩;rw[Bi (λe=>a (by subst e;exact⟨rfl,rfl⟩))];exact hf
 .rintro⟨i,hi,hf,rfl⟩;by_cases b:i=j
  .subst b;exact aB _ _
  .rw[Bi b] at hf;exact jM ((h _).2 ⟨i,hi,hf,rfl⟩) λa=>b (Gv hi hj (by have:=a.1;simp only[Kn.en] at this;omega) a.2)
def Ij(p:Nat->Pz)(d:Nat->Int):Prop:=∀j,j<zN->Jm (p j)=false->∀i,i<zp->i<j->Dc d i=true
theorem Ob{i j:Nat}(hi:i<zN)(hj:j<zN)(hij:i≠j)(h:IU (zK i).c (zK j).c=true):i<zp\/j<zp:=by refine Decidable.byContradiction λa=>?_;rw[Rz.cl j i hj hi BJ BJ BJ] at h;cases h
theorem Me(f:CY->Int):∀(l:List CY) (p:CY->Bool) (e:CY),e∈l->p e=true->f e<=l.foldr (λe m=>if p e then max (f e) m else m) 0
 | x :: l,p,e,he,hp=>by
  rw[List.foldr_cons];rcases List.mem_cons.1 he with rfl|he
  .rw[if_pos hp];omega
  .have:=Me f l p e he hp;split<;>omega
theorem VY(f:CY->Int)(p:CY->Bool)(l l':List CY)(h1:∀e∈l,p e=true->e∈l')(h2:∀e∈l',p e=true->e∈l):l.foldr (λe m=>if p e then max (f e) m else m) 0=l'.foldr (λe m=>if p e then max (f e) m else m) 0:=
 Int.le_antisymm (Jl f _ (Eb f l' p) l p λe b a=>Me f l' p e (h1 e b a) a) (Jl f _ (Eb f l p) l' p λe b a=>Me f l p e (h2 e b a) a)
theorem PO{r s:Int}{c:Cm}{e:CY}(h:takes r s c e=true):IU e.c c=true/\¬(e.r=r/\s<=e.s):=by unfold takes at h;simp only[Bool.and_eq_true,Bool.not_eq_true',Bool.and_eq_false_iff,beq_eq_false_iff_ne,decide_eq_false_iff_not] at h;exact⟨h.2,λa=>by rcases h.1 with h|h;exact h a.1;exact h a.2⟩
theorem YH{p:Nat->Pz}{d:Nat->Int}{E:List CY}(hE:Y2 p E)(hd:Ko p d)(hr:Ij p d){j:Nat}(hj:j<zN)(hf:Jm (p j)=true)(hp:∀i,i<zp->i<j->Dc d i=true):@Pv (zK j).I E (zK j).m (zK j).c:=by
 have o:=Rz.hp;have o:zp<=8/\zp<=zN:=o;have g:∀e,takes (zK j).m (zK j).I.sl (zK j).c e=true->(e∈E ↔ e∈(List.range j).map λi=>(zK i).en):=λe u=>by
  obtain⟨n,w⟩:=PO u;constructor
  .intro a;obtain⟨i,b,f,rfl⟩:=(hE e).1 a;refine List.mem_map.2 ⟨i,List.mem_range.2 ?_,rfl⟩;refine Decidable.byContradiction λv=>?_;by_cases l:i=j
   .subst l;rw[hf] at f;cases f
   .rcases Ob b hj l n with h|h
    .have h1:=hr i b f j BJ BJ;have:=Gn (hd.com j hj h1);rw[hf] at this;cases this
    .have h1:=hr i b f j h BJ;have:=Gn (hd.com j hj h1);rw[hf] at this;cases this
  .intro a;obtain⟨i,b,rfl⟩:=List.mem_map.1 a;rw[List.mem_range] at b;have k:i<zN:=BJ
   refine(hE _).2 ⟨i,k,?_,rfl⟩;have t:i<zp:=by
    rcases Ob k hj BJ n with h|h
    .exact h
    .omega
   exact Gn (hd.com i k (hp i t b))
 refine⟨?_,λr hr=>?_⟩
 .rw[<-Rz.aq j hj];exact VY (λe=>e.q+1) _ _ _ (λe a hp=>(g e hp).1 a) (λe a hp=>(g e hp).2 a)
 .rw[<-Rz.ad j hj r hr];have:Bz E (takes (zK j).m (zK j).I.sl (zK j).c) r=Bz ((List.range j).map λi=>(zK i).en) (takes (zK j).m (zK j).I.sl (zK j).c) r:=
   VY (λe=>e.s) _ _ _ (λe a hp=>(g e (Bool.and_eq_true_iff.1 hp).1).1 a) (λe a hp=>(g e (Bool.and_eq_true_iff.1 hp).1).2 a)
  unfold CG;rw[this]
theorem kQ{d:Nat->Int}(hd0:∀r,0<=d r){j:Nat}(hj:j<zN)(hp:∀i,i<zp->i<j->Dc d i=true):(zK j).m<7/\(∀r,r<7->r≠(zK j).m->(zK j).I.ad r<=d r)/\(zK j).I.ad (zK j).m<=(zK j).I.sl-1:=by
 have u:(zK j).m<zn:=Rz.m j;have t:zn=3\/zn=5\/zn=7:=Rz.n7;have w:zp<=8/\zp<=zN:=Rz.hp;have k:∀(r:Nat) (M:Int),0<=M->(∀i,i<j->(zK i).m=r->IU (zK i).c (zK j).c=true->¬((zK i).m=(zK j).m/\(zK j).I.sl<=(zK i).I.sl)->(zK i).I.sl<=M)->Bz ((List.range j).map λi=>(zK i).en) (takes (zK j).m (zK j).I.sl (zK j).c) r<=M:=λr M n h=>by refine Jl (λe=>e.s) M n _ (λe=>takes (zK j).m (zK j).I.sl (zK j).c e&&e.r==(r:Int)) λe o hp=>?_;obtain⟨i,b,rfl⟩:=List.mem_map.1 o;simp only[Bool.and_eq_true,beq_iff_eq] at hp;obtain⟨a,g⟩:=PO hp.1;have l:((zK i).m:Int)=r:=hp.2;exact h i (List.mem_range.1 b) BJ a λa=>g ⟨by show ((zK i).m:Int)=_;omega,a.2⟩
 refine⟨BJ,λr l v=>?_,?_⟩
 .rw[<-Rz.ad j hj r l];unfold CG;rw[if_neg BJ];have:=k r (d r) (hd0 r) λi b f a _=>by
   have p:i<zp:=by
    rcases Ob BJ hj BJ a with h|h
    .exact h
    .omega
   have:=Vh.1 (hp i p b);rw[f] at this;exact this
  have:=hd0 r;show max _ (0:Int)<=_;omega
 .rw[<-Rz.ad j hj _ BJ];unfold CG;rw[if_pos rfl];have q:=k (zK j).m ((zK j).I.sl-1) (by have:=Tc hj;omega) λi b f _ g=>by have:¬(zK j).I.sl<=(zK i).I.sl:=λh=>g ⟨f,h⟩;omega
  split<;>omega
end
end
end Go.Proofs.YtimdpiifpibgfaaGreatDoor
