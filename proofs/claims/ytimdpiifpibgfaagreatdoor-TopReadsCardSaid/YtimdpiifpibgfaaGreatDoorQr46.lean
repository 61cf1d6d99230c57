/- A part of the proof of TopReads. -/
import Derived.Test.YtimdpiifpibgfaaGreatDoorQr43
import Derived.Test.YtimdpiifpibgfaaGreatDoorQr45
set_option linter.all false
set_option maxRecDepth 20000
set_option maxHeartbeats 16000000
open Go.RowKit Go.Maps
namespace Go.Proofs.YtimdpiifpibgfaaGreatDoor
open Tryz
section
open Rz (zn zN zp zK)
variable [Rz]
def OX:Mz:=⟨0,λ_ _=>.fresh,λ_ _=>0,[],λ_ _=>0⟩
structure qp(w0:World)(n:Nat)(gC i:Nat)(w:World)(own:Nat->Nat)(dv:Value)(obd:Option Nat)(xs:List Value)(nv:Value)(obn:Option Nat)(gs:Nat->Nat):Prop where
 cl:Holds w gC 85 (Dq n dv nv AL AL AL AL)
 oc:own gC=1
 ds:AV w dv obd 87 1 i xs
 od:∀g,obd=some g->own g=1
 ns:AV w nv obn 59 1 i (ptrs i gs)
 on:∀g,obn=some g->own g=1
 nodes:∀j,j<i->CP w (λk=>own k=2+j) (gs j) j (λ_=>.fresh) (λ_=>0) 0 0 false (λ_ _=>0) [] []
 lt:∀k,own k≠0->w0.heap.size<=k/\k<w.heap.size
 bel:Below w0.heap.size w0 w
def xX(w0:World)(n:Nat)(gC i:Nat)(w:World):Prop:=∃own dv obd xs nv obn gs,qp w0 n gC i w own dv obd xs nv obn gs
theorem TQ(i:Nat)(gs:Nat->Nat)(g:Nat):ptrs i gs++[.pointer (some ⟨g,0,none⟩)]=ptrs (i+1) λj=>if j=i then g else gs j:=by
 unfold ptrs;rw[List.range_succ,List.map_append]
 congr 1
 .refine List.map_congr_left λj a=>?_;have:=List.mem_range.1 a;show _=Value.pointer (some ⟨if j=i then g else gs j,0,none⟩);rw[if_neg (by omega)]
 .simp
theorem CS{w:World}{v:Value}{ob:Option Nat}{t t':TypeId}{s n k:Nat}{xs L:List Value}(h:AV w v ob t s n xs)(h':Holds w k t' L)(ht:t≠t'):ob≠some k:=by
 intro a;rcases h.cases with⟨_,b,_⟩|⟨d,_,_,_,b,_,_,c,_⟩
 .rw[b] at a;cases a
 .rw[b] at a;cases a;exact c.ne_of h' ht rfl
theorem L9{w:World}{v v':Value}{ob ob':Option Nat}{t t':TypeId}{s n s' n':Nat}{xs xs':List Value}(h:AV w v ob t s n xs)(h':AV w v' ob' t' s' n' xs')(ht:t≠t'):∀k,ob=some k->ob'=some k->False:=by
 intro k d a;rcases h'.cases with⟨_,b,_⟩|⟨f,_,_,_,b,_,_,c,_⟩
 .rw[b] at a;cases a
 .rw[b] at a;cases a;exact CS h c ht d
theorem qp.step{w0 wr w2 w5 wx:World}{n:Nat}{gC i gd gn:Nat}{own:Nat->Nat}{dv:Value}{obd:Option Nat}{xs:List Value}{nv:Value}{obn:Option Nat}{gs:Nat->Nat}{v8 v9:Value}{ob8 ob9:Option Nat}(h:qp w0 n gC i wr own dv obd xs nv obn gs)(hi:i<n)(hgd:wr.heap.size=gd)(hb:Below wr.heap.size wr w5)(hw2:wr.heap.size<=w2.heap.size)(HGD:∀k,k=gd->k<w5.heap.size) (hn:CP w5 (grow (λk=>k=gd) w2 w5) gn i (λ_=>.fresh) (λ_=>0) 0 0 false (λ_ _=>0) [] []) (hc:Holds wx gC 85 (Dq n v8 v9 AL AL AL AL)) (h8:AV wx v8 ob8 87 1 (i+1) (xs++[AP gd])) (h9:AV wx v9 ob9 59 1 (i+1) (ptrs i gs++[AP gn])) (o8:ob8=obd\/∃k,ob8=some k/\w5.heap.size<=k) (o9:ob9=obn\/∃k,ob9=some k/\w5.heap.size<=k) (hm:Mv (λk=>k=gC\/obd=some k\/obn=some k) w5 wx):xX w0 n gC (i+1) wx:=by
 have x:=hb.size;have z:=hm.size;have w:=h.cl.lt;have o:=h.lt
 let q:Nat->Nat:=λk=>if wr.heap.size<=k/\k<w5.heap.size then 2+i else if w5.heap.size<=k/\k<wx.heap.size then 1 else own k
 have p:∀k,k<wr.heap.size->q k=own k:=λk a=>by show (if _ then _ else _)=_;rw[if_neg BJ,if_neg BJ]
 have u:∀k,wr.heap.size<=k->k<w5.heap.size->q k=2+i:=λk c f=>if_pos ⟨c,f⟩;have v:∀k,w5.heap.size<=k->k<wx.heap.size->q k=1:=λk c f=>by show (if _ then _ else _)=_;rw[if_neg BJ,if_pos ⟨c,f⟩]
 have t:∀k,(k=gC\/obd=some k\/obn=some k)->own k=1:=by
  rintro k (rfl|a|a)
  .exact h.oc
  .exact h.od k a
  .exact h.on k a
 have s:∀k,own k=1->k<wr.heap.size:=λk a=>(o k BJ).2;refine⟨q,v8,ob8,_,v9,ob9,λj=>if j=i then gn else gs j,hc,by rw[p _ w,h.oc],h8,λg d=>?_,TQ i gs gn▸h9,λg d=>?_,λj y=>?_,λk a=>?_,?_⟩
 .rcases o8 with b|⟨k,b,l⟩
  .have:=h.od g (b▸d);rw[p g (s g this),this]
  .rw[b] at d;cases d;exact v _ l (h8.lt _ b)
 .rcases o9 with b|⟨k,b,l⟩
  .have:=h.on g (b▸d);rw[p g (s g this),this]
  .rw[b] at d;cases d;exact v _ l (h9.lt _ b)
 .by_cases hji:j=i
  .subst hji;simp only[if_true];have c:=CP.mv hn hm λk a r m=>by have f:=s k (t k a);rcases m with m|⟨m,_⟩<;>omega
   exact c.foot λk a r=>by
    rcases a with a|⟨b,l⟩
    .exact u k BJ (by
      have:=HGD k a;omega)
    .exact u k BJ l
  .simp only[if_neg hji];have c:=CP.mv (h.nodes j BJ) (Mv.of_below hb:Mv (λ_=>False) wr w5) λk a _=>a.elim;have f:=c.mv hm λk a r m=>by have:=t k a;omega
   exact f.foot λk a r=>by rw[p k (o k BJ).2];exact a
 .have hk2:(if wr.heap.size<=k/\k<w5.heap.size then 2+i else if w5.heap.size<=k/\k<wx.heap.size then 1 else own k)≠0:=a;have A:=h.bel.size;split at hk2
  .omega
  .split at hk2
   .omega
   .have:=o k hk2;omega
 .exact h.bel.trans ((hb.mono h.bel.size).trans (hm.below (Nat.le_trans h.bel.size x) λk a=>(o k (by rw[t k a];decide)).1))
structure N2(w0:World)(n:Nat)(gC k:Nat)(w:World)(own:Nat->Nat)(dv nv:Value)(obn:Option Nat)(gs:Nat->Nat)(clv:Value)(obc:Option Nat)(gcl:Nat->Nat):Prop where
 cl:Holds w gC 85 (Dq n dv nv clv AL AL AL)
 oc:own gC=1
 ns:AV w nv obn 59 1 n (ptrs n gs)
 on:∀g,obn=some g->own g=1
 nodes:∀j,j<n->CP w (λk=>own k=2+j) (gs j) j (λ_=>.fresh) (λ_=>0) 0 0 false (λ_ _=>0) [] []
 cs:AV w clv obc 92 1 k (ptrs k gcl)
 ocl:∀g,obc=some g->own g=1
 cats:∀j,j<k->OY w (gcl j) ((j:Int)+1) 0 Cm.zero false 0 0/\own (gcl j)=1
 lt:∀k,own k≠0->w0.heap.size<=k/\k<w.heap.size
 bel:Below w0.heap.size w0 w
def xW(w0:World)(n:Nat)(gC k:Nat)(w:World):Prop:=∃own dv nv obn gs clv obc gcl,N2 w0 n gC k w own dv nv obn gs clv obc gcl
theorem N2.step{w0 wr wx:World}{n:Nat}{gC k gk:Nat}{own:Nat->Nat}{dv nv:Value}{obn:Option Nat}{gs:Nat->Nat}{clv:Value}{obc:Option Nat}{gcl:Nat->Nat}{v5:Value}{ob5:Option Nat}(h:N2 w0 n gC k wr own dv nv obn gs clv obc gcl)(hgk:wr.heap.size=gk) (hcl:Holds wx gC 85 (Dq n dv nv v5 AL AL AL)) (ho:AV wx v5 ob5 92 1 (k+1) (ptrs k gcl++[AP gk])) (hob:ob5=obc\/∃k,ob5=some k/\wr.heap.size<=k) (hcx:OY wx gk ((k:Int)+1) 0 Cm.zero false 0 0) (hm:Mv (λk=>k=gC\/obc=some k) wr wx):xW w0 n gC (k+1) wx:=by
 have w:=hm.size;have d:=h.lt;have c:∀k,k<wr.heap.size->Cb own wr wx 1 k=own k:=λk b=>Ez _ _ _ _ _ b;have q:∀k,(k=gC\/obc=some k)->own k=1:=by
  rintro k (rfl|b)
  .exact h.oc
  .exact h.ocl k b
 have p:∀k,own k=1->k<wr.heap.size:=λk b=>(d k BJ).2;have m:∀g t L,Holds wr g t L->t≠85->t≠92->¬(g=gC\/obc=some g):=by
  rintro g t L a r i (rfl|b)
  .exact r (Eu a h.cl)
  .exact CS h.cs a (Ne.symm i) b
 refine⟨Cb own wr wx 1,dv,nv,obn,gs,v5,ob5,λj=>if j=k then gk else gcl j,hcl,by rw[c _ h.cl.lt,h.oc],h.ns.mv hm λg a=>?_,λg a=>by rw[c g (p g (h.on g a)),h.on g a],λj o=>?_,TQ k gcl gk▸ho,λg a=>?_,λj o=>?_,λx f=>?_,h.bel.trans (hm.below h.bel.size λg a=>(d g (by rw[q g a];decide)).1)⟩
 .rcases h.ns.cases with⟨_,h0,_⟩|⟨g1,_,_,_,h0,_,_,hh,_⟩
  .rw[h0] at a;cases a
  .rw[h0] at a;cases a;exact m _ _ _ hh Iz Iz
 .have i:=(h.nodes j o).mv hm λk b u v=>by have:=q k b;omega
  exact i.foot λx f u=>by rw[c x (d x BJ).2];exact f
 .rcases hob with h3|⟨x,h3,h4⟩
  .have:=h.ocl g (h3▸a);rw[c g (p g this),this]
  .rw[h3] at a;cases a;exact Fv _ _ _ _ _ h4 (ho.lt _ h3)
 .by_cases hjk:j=k
  .subst hjk;simp only[if_true];exact⟨hcx,Fv _ _ _ _ _ BJ hcx.lt⟩
  .simp only[if_neg hjk];obtain⟨l,s⟩:=h.cats j BJ;exact⟨Holds.mv l hm (m _ _ _ l Iz Iz),by rw[c _ l.lt,s]⟩
 .by_cases hx2:wr.heap.size<=x/\x<wx.heap.size
  .exact⟨Nat.le_trans h.bel.size hx2.1,hx2.2⟩
  .have h7:Cb own wr wx 1 x=own x:=if_neg hx2;rw[h7] at f;have:=d x f;omega
def SB(w0:World)(gC:Nat)(w:World):Prop:=∃own,Fg w own gC OX [] (λ_=>0) (λ_=>0) false/\(∀k,own k≠0->w0.heap.size<=k)/\Below w0.heap.size w0 w
theorem SB.next{w0 w w':World}{gC:Nat}{own own':Nat->Nat}(hlo:∀k,own k≠0->w0.heap.size<=k)(hb:Below w0.heap.size w0 w)(h:Fg w' own' gC OX [] (λ_=>0) (λ_=>0) false)(hs:Stepped w own w' own'):SB w0 gC w':=by
 refine⟨own',h,λk a=>?_,hb.trans (hs.2.below hb.size λk a=>hlo k a)⟩;by_cases b:k<w.heap.size
 .rw[hs.1 k b] at a;exact hlo k a
 .have:=hb.size;omega
def MX:List Value:=Cm.zero.cells++(Cm.zero.cells++Cm.zero.cells++Cm.zero.cells++Cm.zero.cells++Cm.zero.cells++Cm.zero.cells++Cm.zero.cells)
theorem Zp:∀W:World,(Instr.makeSlice 83 (AA 8) (AA 8)).run prog W=.ok (.slice (Ac W.heap.size) 8 8) (W.alloc (.cells MX.toArray 23)):=λ_=>ND
theorem N2.start{w0 wr w7:World}{n:Nat}{gC:Nat}{own:Nat->Nat}{dv nv:Value}{obn:Option Nat}{gs:Nat->Nat}{clv:Value}{obc:Option Nat}{gcl:Nat->Nat}(h:N2 w0 n gC 8 wr own dv nv obn gs clv obc gcl)(hn:0<n) (hz:n=zn) (hc:Holds w7 gC 85 (Dq n dv nv clv (.slice (Ac wr.heap.size) 8 8) AL AL)) (ht:Touch gC (wr.alloc (.cells MX.toArray 23)) w7):SB w0 gC w7:=by
 have p:=(Below.refl wr.heap.size wr).alloc Ve (.cells MX.toArray 23);have P:=ht.size;have Q:wr.heap.size+1<=w7.heap.size:=by
  have:(wr.alloc (.cells MX.toArray 23)).heap.size=wr.heap.size+1:=Vj
  omega
 have d:Mv (λk=>k=gC) wr w7:=(Mv.of_below p).mv (Mv.AZ ht rfl:Mv (λk=>k=gC) _ w7) λk a=>.inl a;have f:=h.lt;have c:∀k,k<wr.heap.size->Cb own wr w7 1 k=own k:=λk a=>Ez _ _ _ _ _ a;have O:∀k,own k=1->k<wr.heap.size:=λk a=>(f k BJ).2;have G:Holds w7 wr.heap.size 23 MX:=(AC wr 23 MX).mv (Mv.AZ ht rfl:Mv (λk=>k=gC) _ w7) (by have:=h.cl.lt;omega);obtain⟨o,C,A,rfl,rfl,F,N,t,_⟩:=h.ns.blk hn;obtain⟨m,B,z,rfl,rfl,L,M,q,_⟩:=h.cs.blk Iz;have E:Holds w7 o 59 (ptrs n gs++A):=t.mv d (t.ne_of h.cl Iz);have D:Holds w7 m 92 (ptrs 8 gcl++z):=q.mv d (q.ne_of h.cl Iz);have H:∀j,j<8->OY w7 (gcl j) ((j:Int)+1) 0 Cm.zero false 0 0:=λj b=>Holds.mv (h.cats j b).1 d ((h.cats j b).1.ne_of h.cl Iz);have u:∀k,Cb own wr w7 1 k≠0->w0.heap.size<=k/\k<w7.heap.size:=by
  intro x l;have K:=h.bel.size;by_cases y:wr.heap.size<=x/\x<w7.heap.size
  .exact⟨BJ,y.2⟩
  .have h7:Cb own wr w7 1 x=own x:=if_neg y;rw[h7] at l;have:=f x l;omega
 subst hz;refine⟨Cb own wr w7 1,⟨dv,o,C,m,B,wr.heap.size,AL,AL,gs,gcl,⟨hc,⟨by rw[c _ h.cl.lt,h.oc],by rw[c _ t.lt,h.on o rfl],by rw[c _ q.lt,h.ocl m rfl],Fv _ _ _ _ _ Ve BJ⟩,⟨A,E⟩,F,⟨z,D⟩,λj b=>⟨0,0,H j b⟩,λj b=>by rw[c _ (h.cats j b).1.lt,(h.cats j b).2],⟨MX,G,rfl,λk a j v w=>?_⟩,⟨none,AV.nil _ _ _,λg r=>(by cases r)⟩,⟨none,λ_=>AL,λ_=>none,⟨AV.nil _ _ _,λi s=>by simp at s⟩,λg r=>(by cases r),λi s=>by simp at s⟩,λk a=>(u k a).2⟩,λj b=>?_⟩,λk a=>(u k a).1,h.bel.trans ((p.mono h.bel.size).trans (ht.below (f gC (by rw[h.oc];decide)).1 (Nat.le_trans h.bel.size p.size)))⟩
 .have b:j<7:=(List.getElem?_eq_some_iff.1 w).1;rw[<-w];rcases(show k=0\/k=1\/k=2\/k=3\/k=4\/k=5\/k=6\/k=7 by omega) with rfl|rfl|rfl|rfl|rfl|rfl|rfl|rfl<;>rcases(show j=0\/j=1\/j=2\/j=3\/j=4\/j=5\/j=6 by omega) with rfl|rfl|rfl|rfl|rfl|rfl|rfl<;>rfl
 .have h2:=CP.mv (h.nodes j b) d λk a J I=>by have:=h.oc;rw[a] at I;omega
  exact h2.foot λx l J=>by rw[c x (f x BJ).2];exact l
theorem vN(n:Nat)(w:World)(hn:n=3\/n=5\/n=7)(hz:n=zn) (KN:∀i gd W,i<n->F7 W gd->Calls prog 45 #[AA n,AA i,AP gd] W λe w'=>∃g,e=.returned (.tuple #[AP g,AA 0])/\CP w' (grow (λk=>k=gd) W w') g i (λ_=>.fresh) (λ_=>0) 0 0 false (λ_ _=>0) [] []/\Mv (λk=>k=gd) W w') :Calls prog 25 #[AA n] w λe w'=>∃gC,e=.returned (.tuple #[AP gC,AA 0])/\SB w gC w':=by
 have cy:=Zp;obtain⟨KD,KN,HZ,b0⟩:=bY eu KN hz (λ(k:Nat) W (a:k<8)=>uB ((k:Int)+1) W BJ);have cz:max (n:Int) 1=n:=BJ
 have cx:min (n:Int) 8=n:=BJ
 have c4:n<=7:=BJ
 have c0:0<n:=BJ
 clear hn hz;go_in;go_upto_region 2 with(fail);go_name_world W hW;obtain⟨b,be,cg⟩:=GI 85 (Dq n AL AL AL AL AL AL) hW;clear hW;have bb:xX w n w.heap.size 0 W:=⟨λk=>if k=w.heap.size then 1 else 0,AL,none,[],AL,none,λ_=>0,⟨b.o,if_pos rfl,AV.nil _ _ _,Vj,AV.nil _ _ _,Vj,λj hj=>BJ,λk a=>by
  by_cases bj:k=w.heap.size
  .subst bj;exact⟨Ve,b.lt⟩
  .simp[bj] at a,be⟩⟩
 have a4:=qh bb;clear bb be cg b;have b7:w.heap.size=w.heap.size:=rfl;generalize cr:w.heap.size=gC at a4 |-;clear b7;go_wp2_with fail;go_loopw [20] (λH wr=>∃i:Nat,H=AA (i:Int)/\i<=n/\xX w n gC i wr) (λH _=>n - (intOf H).toNat);case atStart=>exact⟨0,rfl,Nat.zero_le _,a4.o⟩
 case round=>
  clear a4;obtain⟨i,rfl,hi,ch,dv,ac,xs,nv,an,gs,hI⟩:=hrel;have y:=qh hI;clear hI;by_cases ca:i=n
  .subst ca;have bs:=qh (show xW w i gC 0 wr from⟨ch,dv,nv,an,gs,AL,none,λ_=>0,⟨y.cl,y.oc,y.ns,y.on,y.nodes,AV.nil _ _ _,Vj,λj hj=>BJ,y.lt,y.bel⟩⟩);clear y KN;go_wp2_with fail;go_loopw [10] (λH ck=>∃k:Nat,H=AA ((k:Int)+1)/\k<=8/\xW w i gC k ck) (λH _=>9 - (intOf H).toNat);case atStart=>exact⟨0,rfl,BJ,bs.out⟩
   case round=>
    clear bs;obtain⟨k,rfl,a,c8,cn,c6,c7,cp,b1,bu,co,bc⟩:=hrel;have Z:=qh bc;clear bc;by_cases cd:k=8
    .subst cd;have b:=Z.cl;have h9:((8:Nat):Int)+1=9:=rfl;have cq:¬(((8:Nat):Int)+1<=8):=BJ
     try rw[h9]
     go_wp2_with (first|(refine sC 4 (b.bel ((Below.refl _ _).alloc Ve _)) (.slice (Ac wr.heap.size) 8 8) ?_;intro w7 ah am));have ba:=qh (Z.start BJ HZ.o ah am);clear ah am Z b;go_loopw [82] (λH cm=>∃j:Nat,H=AA (j:Int)/\j<=i/\SB w gC cm) (λH _=>i - (intOf H).toNat);case atStart=>exact⟨0,rfl,Nat.zero_le _,ba.o⟩
     case round=>
      clear ba;obtain⟨j,rfl,hj,hS⟩:=hrel;have HS:=qh hS;clear hS;by_cases cb:j=i
      .subst cb;go_wp2_with fail;refine b2 (v:=.tuple #[AP gC,AA 0]) ?_;exact⟨gC,rfl,HS.o⟩
      .have hjl:j<i:=BJ
       have cv:(j:Int)<(i:Int):=BJ
       obtain⟨ci,bq,ce,b3⟩:=HS.o;have KO:=qh (Ye _ ci gC j OX _ _ [] (λ_=>0) (λ_=>0) false (λ_=>[]) (λ_=>[]) bq (HZ.o▸hjl) (λ_ _=>rfl) (λ_ _=>rfl) Vj Vj Vj Vj (by simp[OX]));go_wp2_with fail;refine KO.mono ?_;rintro e w9 ⟨rfl,c9,br,bp⟩;have bz:=qh (SB.next ce b3 br bp);clear br bp KO bq;go_wp2_with fail;go_roundw;case rel=>exact⟨j+1,Vj,BJ,bz.o⟩
       case measure=>simp[intOf];omega
    .have hk7:k<8:=BJ
     have cw:((k:Int)+1)<=8:=BJ
     go_wp2_with fail;refine Ah (b0.o k _ hk7) ?_;rintro w3 ⟨bf,ar⟩;obtain⟨a0,a7,b,az⟩:=bY (show Holds w3 _ 132 _ from bf) ar (Z.cl.bel ar) (Z.cs.bel ar);clear ar bf;generalize b9:wr.heap.size=gk at a0 |-;have c3:=Am b.o 3;obtain⟨pc,cc,rfl⟩:∃pc cc,b1=.slice pc k cc:=by
      rcases az.cases with⟨r,_,r2,_⟩|⟨_,_,_,r,_⟩
      .rw[r2];exact⟨_,_,r⟩
      .exact⟨_,_,r⟩
     go_wp2_with (first|(refine FX rfl 82 92 (AP gk) [AP gk] rfl rfl rfl (λw=>ND) ?_;intro wa x m;obtain⟨a9,ay,ap,a8,a1⟩:=dD x (b.bel m) (az.bel m) (a7.trans (m.mono a7.size)) (a0.bel m);clear x m)|(at_builtin;refine aS (.pointer none) 1 8 ap.o [AP gk] (a9.reads 0 _ (λj v E=>by rw[Nat.zero_add];exact E)) ?_;intro v5 bt C bn bo av;obtain⟨ad,a2⟩:=WZ bn (a1.mv av (CS ap.o a1.o Iz));have b4:=CS ap.o ay.o Iz;obtain⟨ao,ab⟩:=WZ (ay.mv av b4) (Mv.mv (F:=λk=>k=gC\/bu=some k) (Mv.of_below a8.o) av (λk a=>.inl (.inr a)));have c5:=a8.size;have cf:bt=bu\/∃k,bt=some k/\wr.heap.size<=k:=bo.imp id (λ⟨k,h,h2⟩=>⟨k,h,BJ⟩);clear bn bo av)|(refine sC 3 ao.o v5 ?_ (hu:=ad.c1) (h1:=ad.c2);intro w7 ah am));have aw:Mv (λk=>k=gC) C w7:=Mv.AZ am rfl;have b5:=CS ad.o ao.o Iz;have b6:OY w7 gk ((k:Int)+1) 0 Cm.zero false 0 0:=Holds.mv (Holds.mv a2.o (Mv.refl (λ_=>False) _) id) aw (a2.ne_of ao.o Iz);have bx:=qh (Z.step b9 ah (ad.mv aw (λk a l=>b5 (l▸a))) cf b6 (ab.mv aw (λk a=>.inl (.inl a))));clear ah am aw b az ay ap ao ad ab a9 Z c3 a0 a1 a2;go_roundw;case rel=>exact⟨k+1,Vj,BJ,bx.o⟩
     case measure=>simp[intOf];omega
  .have hilt:i<n:=BJ
   have cu:(i:Int)<(n:Int):=BJ
   go_wp2_with fail;refine Ah (KD.o _) ?_;rintro w2 ⟨bg,bd⟩;obtain⟨ax,a3⟩:=WZ bd bg;clear bd bg;go_wp2_with fail;refine(KN.o i _ _ hilt a3.o).mono ?_;rintro e C ⟨I,rfl,bm,hm⟩;obtain⟨aq,ab⟩:=WZ bm hm;have bw:=a3;clear bm hm a3;generalize au:wr.heap.size=gd at aq ab;have aa:=qh (show Below wr.heap.size wr C from ax.trans (ab.below ax.size (λk a=>BJ)));have ct:gd<C.heap.size:=by have h1:=ab.size;have h2:=(show Holds w2 gd 125 _ from au▸bw.o).lt;omega
   have a6:wr.heap.size<=w2.heap.size:=ax.size;obtain⟨b,q,p,d⟩:=bY (y.cl.bel aa.o) (y.ds.bel aa.o) (y.ns.bel aa.o) (Mv.refl (λk=>k=gC\/ac=some k\/an=some k) C);go_upto_region 9 with(fail);have bh:=CS q.o b.o Iz;obtain⟨b,q,p,d⟩:=En (AY _ C) b q p d;refine wp_region_noPanic ?_;refine Bv (S:=λW'=>Mv (λk=>ac=some k) C.drew W') (X0:=[15,18,21]) (by as_aux_lemma=>kernel_rfl) ?_;generalize C.drew=wd at b q p d |-;have hSn:Mv (λk=>ac=some k) wd wd:=Mv.refl _ _;change wpAnyL _ _ _ _ _ _ 22 #[false,false,false,false,false,false,false,false,false,false,false,false,false,false,false,false,false,false,false,false,false,false] _ _;refine J9 0 ?_;refine CW 4 ?_;refine BO 5 [8,15,16,17,18,19,20,21] (λw a5=>Am (b.mv a5 bh) 1) ?_;refine CW 6 ?_;refine ES 9 ?_;refine BO 12 [15,16,17,18,19,20,21] (λw a5=>Am (b.mv a5 bh) 2) ?_;refine CW 13 ?_;refine rdA [7,14] (BD.cons rfl (λK c=>?_) (BD.cons rfl (λK c=>?_) (BD.nil)))
   .skip
    refine tU 87 (AP gd) [AP gd] ?_;intro cj x m;obtain⟨b,q,p,d⟩:=En m b q p d;try(have t:=qh (t.bel m))
    have D:=qh x;have b8:=m.size;clear x;first|(have hSn:=hSn.bel m;refine c.out _ _ (λ_=>hSn) ?_)|refine c.out _ _ JI ?_
    clear c;try simp only[Act.put,zA,zB,zC]
    refine rdA [8,14] (BD.cons rfl (λK c=>?_) (BD.cons rfl (λK c=>?_) (BD.nil)))
    .skip
     refine tS (.pointer none) 1 8 q.o [AP gd] (D.reads 0 _ (λj v E=>by rw[Nat.zero_add];exact E)) ?_;intro G V w8 O Q u;have af:=CS q.o b.o Iz;have ag:=L9 p.o q.o Iz;try(have ae:=CS q.o t.o Iz;have t:=qh (t.mv u ae))
     obtain⟨b,p⟩:=WZ (b.mv u af) (p.mv u (λk a l=>ag k a l));have bk:=d.size;obtain⟨d,f⟩:=WZ (d.mv u (λk a=>.inl (.inr (.inl a)))) O;have ak:V=ac\/∃k,V=some k/\C.heap.size<=k:=Q.imp id (λ⟨k,h,h2⟩=>⟨k,h,BJ⟩);have hSn:=hSn.mv u (λk a=>.inl a);clear O Q u q;change K (Act.put _ (some 45) _) _;refine BR c ?_;clear c;refine BN 14 rfl (λK c=>?_);refine tU 59 (AP I) [AP I] ?_;intro bv x m;obtain⟨b,p,d⟩:=D5 m b p d;try(have D:=qh (D.bel m))
     try(have q:=qh (q.bel m))
     try(have f:=qh (f.bel m))
     have t:=qh x;have bi:=m.size;clear x;first|(have hSn:=hSn.bel m;refine c.out _ _ (λ_=>hSn) ?_)|refine c.out _ _ JI ?_
     clear c;try simp only[Act.put,zA,zB,zC]
     refine BN 15 rfl (λK c=>?_);refine tS (.pointer none) 1 8 p.o [AP I] (t.reads 0 _ (λj v E=>by rw[Nat.zero_add];exact E)) ?_;intro Y X w9 P R B;have ai:=CS p.o b.o Iz;have aj:=L9 f.o p.o Iz;obtain⟨b,f⟩:=WZ (b.mv B ai) (f.mv B (λk a l=>aj k a l));have bl:=d.size;obtain⟨d,s⟩:=WZ (d.mv B (λk a=>.inl (.inr (.inr a)))) P;have al:X=an\/∃k,X=some k/\C.heap.size<=k:=R.imp id (λ⟨k,h,h2⟩=>⟨k,h,BJ⟩);clear P R B p;change K (Act.put _ (some 52) _) _;refine BR c ?_;clear c;refine F9 16 ?_ (hS:=JI);refine BN 18 rfl (λK c=>?_);refine tC 1 b.o G ?_ (hu:=f.c1) (h1:=f.c2);intro w10 M T;have z:Mv (λk=>k=gC) _ w10:=Mv.AZ T rfl;have J:=CS f.o b.o Iz;have L:=CS s.o b.o Iz;obtain⟨f,s,d,b⟩:=bY (f.mv z (λk a l=>J (l▸a))) (s.mv z (λk a l=>L (l▸a))) (d.mv z (λk a=>.inl (.inl a))) (show Holds w10 gC 85 (Dq n G nv AL AL AL AL) from M);clear M T z;refine BR c ?_;clear c;refine F9 19 ?_ (hS:=JI);refine BN 21 rfl (λK c=>?_);refine tC 2 b.o Y ?_ (hu:=s.c1) (h1:=s.c2);intro w11 N U;have A:Mv (λk=>k=gC) _ w11:=Mv.AZ U rfl;obtain⟨f,s,d,b⟩:=bY (f.mv A (λk a l=>J (l▸a))) (s.mv A (λk a l=>L (l▸a))) (d.mv A (λk a=>.inl (.inl a))) (show Holds w11 gC 85 (Dq n G Y AL AL AL AL) from N);clear N U A;refine BR c ?_;clear c;refine BA ?_;clear D t;go_wp2_with fail;go_roundw;case rel=>exact⟨i+1,Vj,BJ,y.step hilt au aa.o a6 (λk a=>BJ) aq.o b.o f.o s.o ak al d.o⟩
     case measure=>simp[intOf];omega
    .skip
     refine tU 59 (AP I) [AP I] ?_;intro bv x m;obtain⟨b,p,d⟩:=D5 m b p d;try(have D:=qh (D.bel m))
     try(have q:=qh (q.bel m))
     try(have f:=qh (f.bel m))
     have t:=qh x;have bi:=m.size;clear x;first|(have hSn:=hSn.bel m;refine c.out _ _ (λ_=>hSn) ?_)|refine c.out _ _ JI ?_
     clear c;try simp only[Act.put,zA,zB,zC]
     refine BN 8 rfl (λK c=>?_);refine tS (.pointer none) 1 8 q.o [AP gd] (D.reads 0 _ (λj v E=>by rw[Nat.zero_add];exact E)) ?_;intro G V w8 O Q u;have af:=CS q.o b.o Iz;have ag:=L9 p.o q.o Iz;try(have ae:=CS q.o t.o Iz;have t:=qh (t.mv u ae))
     obtain⟨b,p⟩:=WZ (b.mv u af) (p.mv u (λk a l=>ag k a l));have bk:=d.size;obtain⟨d,f⟩:=WZ (d.mv u (λk a=>.inl (.inr (.inl a)))) O;have ak:V=ac\/∃k,V=some k/\C.heap.size<=k:=Q.imp id (λ⟨k,h,h2⟩=>⟨k,h,BJ⟩);have hSn:=hSn.mv u (λk a=>.inl a);clear O Q u q;change K (Act.put _ (some 45) _) _;refine BR c ?_;clear c;refine BN 15 rfl (λK c=>?_);refine tS (.pointer none) 1 8 p.o [AP I] (t.reads 0 _ (λj v E=>by rw[Nat.zero_add];exact E)) ?_;intro Y X w9 P R B;have ai:=CS p.o b.o Iz;have aj:=L9 f.o p.o Iz;obtain⟨b,f⟩:=WZ (b.mv B ai) (f.mv B (λk a l=>aj k a l));have bl:=d.size;obtain⟨d,s⟩:=WZ (d.mv B (λk a=>.inl (.inr (.inr a)))) P;have al:X=an\/∃k,X=some k/\C.heap.size<=k:=R.imp id (λ⟨k,h,h2⟩=>⟨k,h,BJ⟩);clear P R B p;change K (Act.put _ (some 52) _) _;refine BR c ?_;clear c;refine F9 16 ?_ (hS:=JI);refine BN 18 rfl (λK c=>?_);refine tC 1 b.o G ?_ (hu:=f.c1) (h1:=f.c2);intro w10 M T;have z:Mv (λk=>k=gC) _ w10:=Mv.AZ T rfl;have J:=CS f.o b.o Iz;have L:=CS s.o b.o Iz;obtain⟨f,s,d,b⟩:=bY (f.mv z (λk a l=>J (l▸a))) (s.mv z (λk a l=>L (l▸a))) (d.mv z (λk a=>.inl (.inl a))) (show Holds w10 gC 85 (Dq n G nv AL AL AL AL) from M);clear M T z;refine BR c ?_;clear c;refine F9 19 ?_ (hS:=JI);refine BN 21 rfl (λK c=>?_);refine tC 2 b.o Y ?_ (hu:=s.c1) (h1:=s.c2);intro w11 N U;have A:Mv (λk=>k=gC) _ w11:=Mv.AZ U rfl;obtain⟨f,s,d,b⟩:=bY (f.mv A (λk a l=>J (l▸a))) (s.mv A (λk a l=>L (l▸a))) (d.mv A (λk a=>.inl (.inl a))) (show Holds w11 gC 85 (Dq n G Y AL AL AL AL) from N);clear N U A;refine BR c ?_;clear c;refine BA ?_;clear D t;go_wp2_with fail;go_roundw;case rel=>exact⟨i+1,Vj,BJ,y.step hilt au aa.o a6 (λk a=>BJ) aq.o b.o f.o s.o ak al d.o⟩
     case measure=>simp[intOf];omega
   .skip
    refine tU 59 (AP I) [AP I] ?_;intro bv x m;obtain⟨b,p,d⟩:=D5 m b p d;try(have D:=qh (D.bel m))
    try(have q:=qh (q.bel m))
    try(have f:=qh (f.bel m))
    have t:=qh x;have bi:=m.size;clear x;first|(have hSn:=hSn.bel m;refine c.out _ _ (λ_=>hSn) ?_)|refine c.out _ _ JI ?_
    clear c;try simp only[Act.put,zA,zB,zC]
    refine BN 7 rfl (λK c=>?_);refine tU 87 (AP gd) [AP gd] ?_;intro cj x m;obtain⟨b,q,p,d⟩:=En m b q p d;try(have t:=qh (t.bel m))
    have D:=qh x;have b8:=m.size;clear x;first|(have hSn:=hSn.bel m;refine c.out _ _ (λ_=>hSn) ?_)|refine c.out _ _ JI ?_
    clear c;try simp only[Act.put,zA,zB,zC]
    refine BN 8 rfl (λK c=>?_);refine tS (.pointer none) 1 8 q.o [AP gd] (D.reads 0 _ (λj v E=>by rw[Nat.zero_add];exact E)) ?_;intro G V w8 O Q u;have af:=CS q.o b.o Iz;have ag:=L9 p.o q.o Iz;try(have ae:=CS q.o t.o Iz;have t:=qh (t.mv u ae))
    obtain⟨b,p⟩:=WZ (b.mv u af) (p.mv u (λk a l=>ag k a l));have bk:=d.size;obtain⟨d,f⟩:=WZ (d.mv u (λk a=>.inl (.inr (.inl a)))) O;have ak:V=ac\/∃k,V=some k/\C.heap.size<=k:=Q.imp id (λ⟨k,h,h2⟩=>⟨k,h,BJ⟩);have hSn:=hSn.mv u (λk a=>.inl a);clear O Q u q;change K (Act.put _ (some 45) _) _;refine BR c ?_;clear c;refine BN 15 rfl (λK c=>?_);refine tS (.pointer none) 1 8 p.o [AP I] (t.reads 0 _ (λj v E=>by rw[Nat.zero_add];exact E)) ?_;intro Y X w9 P R B;have ai:=CS p.o b.o Iz;have aj:=L9 f.o p.o Iz;obtain⟨b,f⟩:=WZ (b.mv B ai) (f.mv B (λk a l=>aj k a l));have bl:=d.size;obtain⟨d,s⟩:=WZ (d.mv B (λk a=>.inl (.inr (.inr a)))) P;have al:X=an\/∃k,X=some k/\C.heap.size<=k:=R.imp id (λ⟨k,h,h2⟩=>⟨k,h,BJ⟩);clear P R B p;change K (Act.put _ (some 52) _) _;refine BR c ?_;clear c;refine F9 16 ?_ (hS:=JI);refine BN 18 rfl (λK c=>?_);refine tC 1 b.o G ?_ (hu:=f.c1) (h1:=f.c2);intro w10 M T;have z:Mv (λk=>k=gC) _ w10:=Mv.AZ T rfl;have J:=CS f.o b.o Iz;have L:=CS s.o b.o Iz;obtain⟨f,s,d,b⟩:=bY (f.mv z (λk a l=>J (l▸a))) (s.mv z (λk a l=>L (l▸a))) (d.mv z (λk a=>.inl (.inl a))) (show Holds w10 gC 85 (Dq n G nv AL AL AL AL) from M);clear M T z;refine BR c ?_;clear c;refine F9 19 ?_ (hS:=JI);refine BN 21 rfl (λK c=>?_);refine tC 2 b.o Y ?_ (hu:=s.c1) (h1:=s.c2);intro w11 N U;have A:Mv (λk=>k=gC) _ w11:=Mv.AZ U rfl;obtain⟨f,s,d,b⟩:=bY (f.mv A (λk a l=>J (l▸a))) (s.mv A (λk a l=>L (l▸a))) (d.mv A (λk a=>.inl (.inl a))) (show Holds w11 gC 85 (Dq n G Y AL AL AL AL) from N);clear N U A;refine BR c ?_;clear c;refine BA ?_;clear D t;go_wp2_with fail;go_roundw;case rel=>exact⟨i+1,Vj,BJ,y.step hilt au aa.o a6 (λk a=>BJ) aq.o b.o f.o s.o ak al d.o⟩
    case measure=>simp[intOf];omega
end
theorem ZC(gC n:Nat)(dv nv clv cav hv:Value)(p:_)(cap:_)(w:World) (h:Holds w gC 85 (Dq n dv nv clv cav (.slice p 0 cap) hv)) :Calls prog 27 #[AP gC,.agg (Ee 2 0).toArray] w λe w'=>e=.returned (.bool false)/\Below w.heap.size w w':=by obtain⟨b,a⟩:=WZ h (Base.start w);clear h;go_in;go_upto_region 1 with(fail);go_name_world W d;obtain⟨c,g,k⟩:=GI 32 (Ee 2 0) d;clear d;obtain⟨b,a⟩:=Ce g b a;clear g;generalize j:w.heap.size=m at c a |-;clear k;have l:=Am c.o 1;have i:=Am b.o 5;go_quiet (fail);have f:Below W.heap.size W (W.drewN nq):=Bg _ _ _;obtain⟨b,a,c⟩:=D5 f b a c;clear f l i;generalize W.drewN nq=q at b a c |-;go_wp2_with fail;go_ret;exact⟨rfl,j▸a.below⟩
theorem rY(gC n:Nat)(R G:Nat->World->Prop)(E:World->Prop)(w:World) (KN:Calls prog 9 #[AP gC] w λe W'=>e=.returned (AA n)/\R 0 W') (KT:∀i,i<n->∀W,R i W->Calls prog 11 #[AP gC,.agg (Ee 5 (i:Nat)).toArray] W λe W'=>e=.returned (.bool true)/\R (i+1) W') (KG:∀i W,G i W->Calls prog 11 #[AP gC,.agg (Ee 2 0).toArray] W λe W'=>(e=.returned (.bool true)/\G (i+1) W')\/(e=.returned (.bool false)/\E W')) (KM:∀j:Nat,j<8->∀W,E W->Calls prog 11 #[AP gC,.agg (Ee 6 ((j:Int)+1)).toArray] W λe W'=>e=.returned (.bool true)/\E W') (hRG:∀W,R n W->G 0 W) (hG:∀i W,G i W->i<10000) (hn:n<=7) :Calls prog 16 #[AP gC] w λe w'=>e=.returned (.tuple #[])/\E w':=by
 obtain⟨KN,KT,KG,hG,KM,hRG⟩:=mG KN KT KG hG KM hRG;go_in;go_wp2_with fail;refine Ah (KN.o) ?_;rintro H l;have h:=qh l;clear l KN;go_wp2_with fail;go_loopw [6,2] (λa _ wr=>∃j:Nat,a=AA (j:Int)/\j<=n/\R j wr) (λa _ _=>n - (intOf a).toNat);case atStart=>exact⟨0,rfl,Nat.zero_le _,h.o⟩
 case round=>
  obtain⟨j,rfl,D,r⟩:=hrel;clear h;have c:=qh r;clear r;by_cases u:j=n
  .subst u;have F:¬((j:Int)<(j:Int)):=BJ
   have b:=qh (hRG.out _ c.o);clear c KT hRG;go_wp2_with fail;go_loopw [14] (λa z=>∃k:Nat,a=AA (k:Int)/\G k z) (λa _=>20000 - (intOf a).toNat);case atStart=>exact⟨0,rfl,b.o⟩
   case round=>
    obtain⟨k,rfl,g⟩:=hrel;clear b;have x:=hG.out _ _ g;have y:(k:Int)<20000:=BJ
    have b:=qh g;clear g;go_wp2_with fail;refine(KG.o k _ b.o).mono ?_;rintro e J (⟨rfl,d⟩|⟨rfl,d⟩)
    .have b:=qh d;clear d;go_wp2_with fail;go_roundw;case rel=>exact⟨k+1,Vj,b.o⟩
     case measure=>simp[intOf];omega
    .have b:=qh d;clear d KG x y;go_wp2_with fail;go_loopw [3] (λa A=>∃i:Nat,a=AA ((i:Int)+1)/\i<=8/\E A) (λa _=>9 - (intOf a).toNat);case atStart=>exact⟨0,rfl,Nat.zero_le _,b.o⟩
     case round=>
      obtain⟨i,rfl,C,q⟩:=hrel;have f:=qh q;clear q b;by_cases t:i=8
      .subst t;have B:¬(((8:Nat):Int)+1<=8):=Iz
       go_wp2_with fail;exact bE ⟨rfl,f.o⟩
      .have hi9:(i:Int)+1<=8:=BJ
       have s:i<8:=BJ
       go_wp2_with (first|(with_reducible show wpList _ _ _ (_ :: _) _ _;refine Gy ND 32 0 1 _ _ rfl (AA 6) (AA ((i:Int)+1)) rfl rfl (.agg (Ee 6 ((i:Int)+1)).toArray) (λw=>ND) ?_));refine Ah (KM.o i s _ f.o) ?_;rintro K p;have f:=qh p;clear p;go_wp2_with fail;go_roundw;case rel=>exact⟨i+1,Vj,BJ,f.o⟩
       case measure=>simp[intOf];omega
  .have hji:(j:Int)<(n:Int):=BJ
   have v:j<n:=BJ
   go_wp2_with (first|(with_reducible show wpList _ _ _ (_ :: _) _ _;refine Gy ND 32 0 1 _ _ rfl (AA 5) (AA (j:Int)) rfl rfl (.agg (Ee 5 (j:Nat)).toArray) (λw=>ND) ?_));refine Ah (KT.o j v _ c.o) ?_;rintro I m;have c:=qh m;clear m;go_wp2_with fail;go_roundw;case rel=>exact⟨j+1,Vj,BJ,c.o⟩
   case measure=>simp[intOf];omega
theorem lD(gC n gCl cCl j:Nat)(gcl:Nat->Nat)(rest:List Value)(dv nv cav lv hv:Value)(id seq:Int)(x:Cm)(wt:Bool)(tg tk:Int)(w:World)(h:Holds w gC 85 (Dq n dv nv (.slice (Ac gCl) 8 cCl) cav lv hv))(hC:Holds w gCl 92 (ptrs 8 gcl++rest))(hj:j<8) (hc:OY w (gcl j) id seq x wt tg tk) :Calls prog 15 #[AP gC,AA ((j:Int)+1)] w λe w'=>e=.returned (.bool wt)/\Below w.heap.size w w':=by
 obtain⟨g,i,d,c,f,a⟩:=mG (UF ((j:Int)+1) BJ BJ) (λW (h:OY W (gcl j) id seq x wt tg tk)=>UG (gcl j) id seq x wt tg tk W h) h hC (show Holds w (gcl j) 132 _ from hc) (Base.start w);have m:(j:Int)<8:=BJ
 have q:IntKind.i64.wrap ((j:Int)+1-1)=(j:Int):=by rw[Int.add_sub_cancel];exact IntWalk.i64_in _ BJ
 have l:(j:Int)+1-1=(j:Int):=BJ
 clear h hC hc;go_in;go_wp2_with fail;refine Ah (g.o _) ?_;rintro r b;obtain⟨d,c,f,a⟩:=En b d c f a;clear b;have k:=Am d.o 3;have p:=c.cell j;rw[MB 8 gcl rest j hj] at p;go_wp2_with fail;refine Ah (i.o _ f.o) ?_;rintro s b;have a:=D9 b a;clear b k p d c f;go_wp2_with fail;go_ret;exact⟨rfl,a.below⟩
theorem eU(gC:Nat)(R:World->Prop)(w:World)(h0:R w) (KW:∀j:Nat,j<8->∀W,R W->Calls prog 15 #[AP gC,AA ((j:Int)+1)] W λe W'=>e=.returned (.bool false)/\R W') :Calls prog 18 #[AP gC] w λe w'=>e=.returned (AA 0)/\R w':=by
 obtain⟨KW,c⟩:=WZ KW h0;clear h0;go_in;go_wp2_with fail;go_loopw [4,3] (λb i wr=>∃j:Nat,b=AA ((j:Int)+1)/\i=AA 0/\j<=8/\R wr) (λb _ _=>9 - (intOf b).toNat);case atStart=>exact⟨0,rfl,rfl,Nat.zero_le _,c.o⟩
 case round=>
  clear c;obtain⟨j,rfl,rfl,l,f⟩:=hrel;have a:=qh f;clear f;by_cases h:j=8
  .subst h;have k:¬(((8:Nat):Int)+1<=8):=Iz
   go_wp2_with fail;go_ret;exact⟨rfl,a.o⟩
  .have hj9:(j:Int)+1<=8:=BJ
   have g:j<8:=BJ
   go_wp2_with fail;refine Ah (KW.o j g _ a.o) ?_;rintro m d;have a:=qh d;clear d;go_wp2_with fail;go_roundw;case rel=>exact⟨j+1,Vj,rfl,BJ,a.o⟩
   case measure=>simp[intOf];omega
end Go.Proofs.YtimdpiifpibgfaaGreatDoor
