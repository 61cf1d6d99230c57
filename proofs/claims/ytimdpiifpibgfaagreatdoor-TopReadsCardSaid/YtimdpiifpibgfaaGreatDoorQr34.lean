/- A part of the proof of TopReads. -/
import Derived.Test.YtimdpiifpibgfaaGreatDoorQr33
set_option linter.all false
set_option maxRecDepth 20000
set_option maxHeartbeats 16000000
open Go.RowKit Go.Maps
namespace Go.Proofs.YtimdpiifpibgfaaGreatDoor
open Tryz
section
open Rz (zn zN zp zK)
@[reducible] def I0:In:=⟨1,0,λ_=>0,Iz,Iz,λ_=>Iz⟩
def G6(A:List Nat)(r:Nat):Int:=if r∈A then 1 else 0
def Hq:List TypeId:=[163,248,312,158,167,43,177,179]
def Ig:List TypeId:=[177,179]
def Ib:List TypeId:=[158,167,43]
def VB:List TypeId:=[121,69]
theorem Ep{w:World}{F:Ap}{T:List TypeId}{k:Nat}{t:TypeId}{L:List Value}(h:Holds w k t L)(ht:t∉T):DN w F T k:=.inl (.inr ⟨t,L,h,ht⟩)
theorem kT{w:World}{F:Ap}{T:List TypeId}{k:Nat}{t:TypeId}{L:List Value}(h:Holds w k t L)(ht:t∉T):Tn w F T k:=.inr ⟨t,L,h,ht⟩
theorem Eu{w:World}{a:Nat}{t t':TypeId}{L L':List Value}(h:Holds w a t L)(h':Holds w a t' L'):t=t':=Decidable.byContradiction λb=>(h.ne_of h' b) rfl
theorem BB.away[CO]{w w':World}{F G:Ap}{T:List TypeId}{gc n me gl gm nl gi gx ni:Nat}{L:List A7}{E:List CY}{leads recs out:Value}(h:BB w gc n me gl gm nl gi gx ni L E leads recs out)(hf:F gc/\F gl/\F gm/\F gi/\F gx)(hm:Mv G w w')(hG:∀k,G k->k<w.heap.size->Tn w F T k)(hT:∀t∈Hq,t∈T):BB w' gc n me gl gm nl gi gx ni L E leads recs out:=by
 letI:In:=I0
 obtain⟨c,d,f,g,i⟩:=hf;have j:=h.lg.isMap;have l:=h.ix.isMap;have b:=h.lt;exact h.mv hm (λa=>(hG _ a b.1).ne h.hc c (hT _ Iz) rfl) (λa=>(hG _ a b.2.1).ne h.lg.ix d (hT _ Iz) rfl) (λa=>(hG _ a b.2.2.1).ig j f rfl) (λa=>(hG _ a b.2.2.2.1).ne h.ix.ix g (hT _ Iz) rfl) (λa=>(hG _ a b.2.2.2.2).ig l i rfl)
theorem A8.away{w w':World}{F G:Ap}{T:List TypeId}{g n me:Nat}{e:TypeId}{Fr:FrontP.Fr}(h:A8 w g e n me Fr)(hf:F g)(hm:Mv G w w')(hG:∀k,G k->k<w.heap.size->DN w F T k)(he:e∈T):A8 w' g e n me Fr:=⟨h.h.away hf hm hG he,h.n7⟩
theorem OwnAt.away{w w':World}{F G:Ap}{T:List TypeId}{o:Nat->Ow}{pv:Nat->Value}{pb:Nat->Option Nat}(h:OwnAt w o pv pb)(hF:∀i,i<8->∀g,pb i=some g->F g)(hm:Mv G w w')(hG:∀k,G k->k<w.heap.size->DN w F T k)(he:69∈T):OwnAt w' o pv pb:=λi a=>AV.away (h i a) (hF i a) hm hG he
def Io(w:World)(F:Ap)(P:Value)(pv:Nat->Value)(S:St):Prop:=∃ob pb,Ad w P ob S.ps/\OwnAt w S.ow pv pb/\(∀g,ob=some g->F g)/\∀i,i<8->∀g,pb i=some g->F g
def Fh(w:World)(F:Ap)(out:Value)(m:Nat)(V:Nat->List Value):Prop:=(m=0->out=AL)/\∃ob,AV w out ob 47 51 m (flat 51 m V)/\∀g,ob=some g->F g
def Tv(w:World)(B r:Nat)(recs:Value):Prop:=(r=0/\recs=AL)\/(r=1/\∃gr cr m rv rest,recs=.slice (Ac gr) 1 cr/\Holds w gr 127 (rv :: rest)/\Au w B rv m/\(1<=m/\m<=480)/\B<=gr)
structure Lx where
 j:Nat
 A:List Nat
 tk:Int
 g:Nat
 R:Value
 ob:Option Nat
structure Wx where
 g:Nat
 r:Int
 s:Int
 L:List Value
def Wx.ptr(x:Wx):Value:=AP x.g
def Wx.cells(x:Wx):List Value:=AA x.r :: AA x.s :: x.L
structure MV(w:World)(F:Ap)(V:Value)(ws:List Wx):Prop where
 own:∃ob,AV w V ob 177 1 ws.length (ws.map Wx.ptr)/\∀g,ob=some g->F g
 blk:∀x∈ws,Holds w x.g 179 x.cells/\F x.g
 len:ws.length<=256
variable [Rz]
def Lx.ld(me:Nat)(x:Lx):Ld:=@NE (zK x.j).I x.g me (zK x.j).c (G6 x.A) x.R x.A.length x.tk
structure Ei(w:World)(F:Ap)(me:Nat)(p:Nat->Pz)(lt:Int)(V:Value)(ob:Option Nat)(xs:List Lx):Prop where
 ls:Bc w V ob (xs.map (Lx.ld me))
 f:∀g,ob=some g->F g
 x:∀x∈xs,(x.j<zN/\(zK x.j).m=me/\p x.j=.lead x.A/\0<=x.tk/\x.tk<=lt)/\F x.g/\(∀g,x.ob=some g->F g)/\AV w x.R x.ob 43 8 x.A.length (flat 8 x.A.length λ_=>@ED (zK x.j).I)
 all:∀j A,j<zN->p j=.lead A->∃x∈xs,x.j=j
 up:xs.Pairwise λa b=>a.j<b.j
 ap:xs.Pairwise λa b=>∀g,a.ob=some g->b.ob≠some g
def cst:Pz->Nat
 | .fresh=>0
 | .com=>2
 | _=>1
def J4(p:Nat->Pz):Nat->Nat
 | 0=>0
 | j+1=>J4 p j+cst (p j)
def EI(p:Nat->Pz):Nat:=J4 p zN
theorem VM(p:Nat->Pz):∀J,J4 p J<=2*J
 | 0=>Ve
 | J+1=>by have:=VM p J;show J4 p J+cst (p J)<=_;cases p J<;>simp only[cst]<;>omega
theorem FO(p:Nat->Pz):EI p<=30:=by have a:=VM p zN;have b:zN<=15:=Rz.hN;unfold EI;omega
theorem SL(p:Nat->Pz)(j:Nat)(x:Pz):∀J,(J<=j->J4 (CE p j x) J=J4 p J)/\(j<J->J4 (CE p j x) J+cst (p j)=J4 p J+cst x)
 | 0=>⟨λ_=>rfl,λh=>absurd h BJ⟩
 | J+1=>by
  obtain⟨h1,h2⟩:=SL p j x J;refine⟨λa=>?_,λa=>?_⟩
  .show J4 (CE p j x) J+cst (CE p j x J)=J4 p J+cst (p J);rw[h1 BJ,Bi BJ]
  .show J4 (CE p j x) J+cst (CE p j x J)+_=J4 p J+cst (p J)+_;by_cases e:J=j
   .subst e;rw[h1 Ve,DU];omega
   .rw[Bi e];have:=h2 BJ;omega
theorem IG{p:Nat->Pz}{j:Nat}{x:Pz}(hj:j<zN):EI (CE p j x)+cst (p j)=EI p+cst x:=(SL p j x zN).2 hj
theorem O4{p:Nat->Pz}{j:Nat}{x:Pz}(h:p j=x):CE p j x=p:=by
 funext i
 by_cases e:i=j
 .subst e;rw[DU,h]
 .rw[Bi e]
structure O7(w:World)(F:Ap)(gc me:Nat)(p:Nat->Pz)(lt:Int)(wz:Bool)(recs out:Value)(wi:CO)(gl gm nl gi gx ni:Nat)(L:List A7)(E:List CY)(leads:Value)(ob:Option Nat)(xs:List Lx)(ws:List Wx):Prop where
 co:@BB wi w gc zn me gl gm nl gi gx ni L E leads recs out
 nl:nl<=EI p
 ni:ni<=EI p
 ln:L.length<=EI p
 f:F gc/\F gl/\F gm/\F gi/\F gx
 lg:Nh p L
 ix:Y2 p E
 ld:Ei w F me p lt leads ob xs
 wsh:MV w F (.slice wi.p wi.n wi.c) ws
 wz:wz=false->wi.p=none/\wi.n=0/\wi.c=0
def Ea(w:World)(F:Ap)(gc me:Nat)(p:Nat->Pz)(lt:Int)(wz:Bool)(recs out:Value):Prop:=∃wi gl gm nl gi gx ni L E leads ob xs ws,O7 w F gc me p lt wz recs out wi gl gm nl gi gx ni L E leads ob xs ws
def Dh(k f t:Int)(d:Nat->Int):List Value:=[AA k,AA f,AA t,AA 0,AA 0,AA 0,AA 0,AA 0,AA 0,AA 0,AU,AU,AU,AU,AA 0,AA 0,AA 0,AA 0,AA 0,AA 0,AA 0,AA 0,AA 0,AA 0,AA 0,AA 0,AA 0,AA 0,AA 0,AA 0,AU,AU,AU,AU,AA 0,AA 0,AA 0,AA 0,AA 0,AA 0,AA 0,AA 0,.bool false,AA (d 0),AA (d 1),AA (d 2),AA (d 3),AA (d 4),AA (d 5),AA (d 6),AU]
def FM(dv:Nat->Nat->Int)(m:Lz):List Value:=
 if m.k=9\/m.k=11 then Dh m.k m.f m.t (if m.k=9 then λ_=>0 else dv m.f)
 else @BC (zK m.j).I m.k m.f m.t (zK m.j).m (if m.k=2 then Cm.zero else (zK m.j).c)
def FQ(dv:Nat->Nat->Int)(l:List Lz)(i:Nat):List Value:=FM dv (l.getD i ⟨9,0,0,0⟩)
def Ih(l:List Nat):List (Nat × Int):=l.map λj=>(cK (zK j).c,(zK j).c.s)
def O9(w:World)(F:Ap)(waits:Value)(l:List Nat):Prop:=∃ob,AV w waits ob 37 2 (Ih l).length (LY (Ih l))/\∀g,ob=some g->F g
def U3(w:World)(F:Ap)(ans:Value)(l:List Nat):Prop:=(l=[]->ans=AL)/\∃ob al,AnsAt w ans ob al/\al.map An.key=l.map (λj=>(cK (zK j).c,(zK j).c.s,Js j))/\(∀g,ob=some g->F g)/\∀a∈al,∀g,a.ob=some g->F g
def UH(d:Nat->Int):Nat:=((List.range zN).filter (Dc d)).length
structure xU(d:Nat->Int)(sc:Int)(kp:Nat->Int):Prop where
 s0:0<=sc/\sc<=40
 lo:∀r,0<=kp r/\kp r<=d r
 q:8<=UH d\/((∀r,kp r=0)/\sc<=UH d)
structure Dx(w:World)(F:Ap)(g me:Nat)(p:Nat->Pz)(d:Nat->Int)(lt:Int)(tk:Int)(wz:Bool)(recs cout:Value)(dv:Nat->Nat->Int)(ol:List Lz)(wl al:List Nat)(lim:Nat)(rs:Bool)
  (gd mb gw gc gfr:Nat) (P:Value) (pv:Nat->Value) (sc:Int) (kp:Nat->Int) (waits out ans:Value):Prop where
 nd:Holds w g 102 (Ar zn me gd gw gc gfr P (MC (Dc d)).ow pv d kp sc tk waits out ans)
 dk:Dw w F gd gw mb
 lm:mb<=lim
 co:Ea w F gc me p lt wz recs cout
 fr:A8 w gfr 197 zn me (NZ me kp)
 st:Io w F P pv (MC (Dc d))
 wa:O9 w F waits wl
 ou:Fh w F out ol.length (FQ dv ol)
 an:U3 w F ans al
 f:F g/\F gfr
 kp:xU d sc kp
 rs:rs=true->sc<8
def EC(w:World)(F:Ap)(g me:Nat)(p:Nat->Pz)(d:Nat->Int)(lt:Int)(tk:Int)(wz:Bool)(recs cout:Value)(dv:Nat->Nat->Int)(ol:List Lz)(wl al:List Nat)(lim:Nat)(rs:Bool):Prop:=
 ∃gd mb gw gc gfr P pv sc kp waits out ans,Dx w F g me p d lt tk wz recs cout dv ol wl al lim rs gd mb gw gc gfr P pv sc kp waits out ans
section
variable {w w':World} {F G F':Ap} {T:List TypeId}
theorem MV.away{V:Value}{ws:List Wx}(h:MV w F V ws)(hm:Mv G w w')(hG:∀k,G k->k<w.heap.size->DN w F T k)(hT:∀t∈Ig,t∈T):MV w' F V ws:=by obtain⟨⟨g,d,c⟩,a,f⟩:=h;exact⟨⟨g,d.away c hm hG (hT _ Iz),c⟩,λx b=>⟨(a x b).1.away (a x b).2 hm hG (hT _ Iz),(a x b).2⟩,f⟩
theorem MV.foot{V:Value}{ws:List Wx}(h:MV w F V ws)(hF:∀k,F k->k<w.heap.size->F' k):MV w F' V ws:=by obtain⟨⟨j,c,f⟩,a,i⟩:=h;exact⟨⟨j,c,λg d=>hF g (f g d) (c.lt g d)⟩,λx b=>⟨(a x b).1,hF _ (a x b).2 (a x b).1.lt⟩,i⟩
theorem Ei.away{me:Nat}{p:Nat->Pz}{lt:Int}{V:Value}{ob:Option Nat}{xs:List Lx}(h:Ei w F me p lt V ob xs)(hm:Mv G w w')(hG:∀k,G k->k<w.heap.size->DN w F T k)(hT:∀t∈Ib,t∈T):Ei w' F me p lt V ob xs:=by
 obtain⟨a,c,d,g,i,j⟩:=h;refine⟨⟨a.own.away c hm hG (hT _ Iz),λl f=>?_,a.nd⟩,c,λx b=>?_,g,i,j⟩
 .obtain⟨x,b,rfl⟩:=List.mem_map.1 f;exact(a.blk _ f).away (d x b).2.1 hm hG (hT _ Iz)
 .obtain⟨b1,b2,b3,b4⟩:=d x b;exact⟨b1,b2,b3,b4.away b3 hm hG (hT _ Iz)⟩
theorem Ei.foot{me:Nat}{p:Nat->Pz}{lt:Int}{V:Value}{ob:Option Nat}{xs:List Lx}(h:Ei w F me p lt V ob xs)(hF:∀k,F k->k<w.heap.size->F' k):Ei w F' me p lt V ob xs:=by obtain⟨b,f,i,j,l,m⟩:=h;refine⟨b,λg a=>hF g (f g a) (b.own.lt g a),λx d=>?_,j,l,m⟩;obtain⟨n,o,q,c⟩:=i x d;exact⟨n,hF _ o (b.blk _ (List.mem_map.2 ⟨x,d,rfl⟩)).lt,λg a=>hF g (q g a) (c.lt g a),c⟩
theorem Ea.away{gc me:Nat}{p:Nat->Pz}{lt:Int}{wz:Bool}{recs out:Value}(h:Ea w F gc me p lt wz recs out)(hm:Mv G w w')(hG:∀k,G k->k<w.heap.size->Tn w F T k)(hT:∀t∈Hq,t∈T):Ea w' F gc me p lt wz recs out:=by obtain⟨B,s,u,z,r,v,y,L,E,x,A,D,C,f,g,i,j,d,l,m,n,o,q⟩:=h;exact⟨B,s,u,z,r,v,y,L,E,x,A,D,C,f.away d hm hG hT,g,i,j,d,l,m,n.away hm (λk a b=>.inl (hG k a b)) (λt c=>hT t ((show ∀t∈Ib,t∈Hq by decide) t c)),o.away hm (λk a b=>.inl (hG k a b)) (λt c=>hT t ((show ∀t∈Ig,t∈Hq by decide) t c)),q⟩
theorem Ea.foot{gc me:Nat}{p:Nat->Pz}{lt:Int}{wz:Bool}{recs out:Value}(h:Ea w F gc me p lt wz recs out)(hF:∀k,F k->k<w.heap.size->F' k):Ea w F' gc me p lt wz recs out:=by obtain⟨C,u,v,A,t,x,z,L,E,y,B,G,D,b,c,d,f,⟨n,o,q,r,s⟩,g,i,j,l,m⟩:=h;have a:=(letI:In:=I0;b.lt);exact⟨C,u,v,A,t,x,z,L,E,y,B,G,D,b,c,d,f,⟨hF _ n a.1,hF _ o a.2.1,hF _ q a.2.2.1,hF _ r a.2.2.2.1,hF _ s a.2.2.2.2⟩,g,i,j.foot hF,l.foot hF,m⟩
theorem Io.mv{P:Value}{pv:Nat->Value}{S:St}(h:Io w F P pv S)(hm:Mv G w w')(hG:∀k,G k->k<w.heap.size->DN w F T k)(he:69∈T):Io w' F P pv S:=by obtain⟨f,g,c,d,a,b⟩:=h;exact⟨f,g,AV.away c a hm hG he,d.away b hm hG he,a,b⟩
theorem Io.foot{P:Value}{pv:Nat->Value}{S:St}(h:Io w F P pv S)(hF:∀k,F k->k<w.heap.size->F' k):Io w F' P pv S:=by obtain⟨l,m,b,c,f,j⟩:=h;exact⟨l,m,b,c,λg a=>hF g (f g a) (AV.lt b g a),λi d g a=>hF g (j i d g a) (AV.lt (c i d) g a)⟩
theorem O9.mv{waits:Value}{l:List Nat}(h:O9 w F waits l)(hm:Mv G w w')(hG:∀k,G k->k<w.heap.size->DN w F T k)(he:37∈T):O9 w' F waits l:=by obtain⟨c,b,a⟩:=h;exact⟨c,AV.away b a hm hG he,a⟩
theorem O9.foot{waits:Value}{l:List Nat}(h:O9 w F waits l)(hF:∀k,F k->k<w.heap.size->F' k):O9 w F' waits l:=by obtain⟨d,a,c⟩:=h;exact⟨d,a,λg b=>hF g (c g b) (a.lt g b)⟩
theorem U3.mv{ans:Value}{l:List Nat}(h:U3 w F ans l)(hm:Mv G w w')(hG:∀k,G k->k<w.heap.size->DN w F T k)(he:∀t∈VB,t∈T):U3 w' F ans l:=by obtain⟨g,n,f,⟨i,j⟩,m,b,c⟩:=h;exact⟨g,n,f,⟨AV.away i b hm hG (he _ Iz),λa d=>AV.away (j a d) (c a d) hm hG (he _ Iz)⟩,m,b,c⟩
theorem U3.foot{ans:Value}{l:List Nat}(h:U3 w F ans l)(hF:∀k,F k->k<w.heap.size->F' k):U3 w F' ans l:=by obtain⟨j,p,i,⟨c,d⟩,m,n,o⟩:=h;exact⟨j,p,i,⟨c,d⟩,m,λg b=>hF g (n g b) (AV.lt c g b),λa f g b=>hF g (o a f g b) (AV.lt (d a f) g b)⟩
theorem Fh.mv{out:Value}{m:Nat}{V:Nat->List Value}(h:Fh w F out m V)(hm:Mv G w w')(hG:∀k,G k->k<w.heap.size->DN w F T k)(he:47∈T):Fh w' F out m V:=by obtain⟨b,d,c,a⟩:=h;exact⟨b,d,c.away a hm hG he,a⟩
theorem Fh.foot{out:Value}{m:Nat}{V:Nat->List Value}(h:Fh w F out m V)(hF:∀k,F k->k<w.heap.size->F' k):Fh w F' out m V:=by obtain⟨c,f,a,d⟩:=h;exact⟨c,f,a,λg b=>hF g (d g b) (a.lt g b)⟩
end
section
variable {w w':World} {F G F':Ap} {g me:Nat} {p p':Nat->Pz} {d d':Nat->Int} {lt tk lt' tk':Int} {wz wz':Bool} {recs cout recs' cout':Value} {dv:Nat->Nat->Int} {ol ol':List Lz} {wl al wl' al':List Nat} {lim lim':Nat} {rs rs':Bool}
 {gd mb mb' gw gc gfr:Nat} {P P':Value} {pv pv':Nat->Value} {sc sc':Int} {kp kp':Nat->Int} {waits out ans waits' out' ans':Value}
theorem Dx.mv(h:Dx w F g me p d lt tk wz recs cout dv ol wl al lim rs gd mb gw gc gfr P pv sc kp waits out ans)(hm:Mv G w w')(hG:∀k,G k->k<w.heap.size->¬F k):Dx w' F g me p d lt tk wz recs cout dv ol wl al lim rs gd mb gw gc gfr P pv sc kp waits out ans:=by have j:∀(T:List TypeId) k,G k->k<w.heap.size->Tn w F T k:=λT k b c=>.inl (hG k b c);have a:∀(T:List TypeId) k,G k->k<w.heap.size->DN w F T k:=λT k b c=>.inl (j T k b c);obtain⟨s,n,r,m,o,v,x,t,l,⟨f,i⟩,q,u⟩:=h;exact⟨s.away (T:=[102]) f hm (a _) Iz,n.away (T:=GN) hm (a _) (λ_ h=>h),r,m.away (T:=Hq) hm (j _) (λ_ h=>h),o.away (T:=[197]) i hm (a _) Iz,v.mv (T:=[69]) hm (a _) Iz,x.mv (T:=[37]) hm (a _) Iz,t.mv (T:=[47]) hm (a _) Iz,l.mv (T:=VB) hm (a _) (λ_ h=>h),⟨f,i⟩,q,u⟩
theorem Dx.bel(h:Dx w F g me p d lt tk wz recs cout dv ol wl al lim rs gd mb gw gc gfr P pv sc kp waits out ans)(hb:Below w.heap.size w w'):Dx w' F g me p d lt tk wz recs cout dv ol wl al lim rs gd mb gw gc gfr P pv sc kp waits out ans:=
 h.mv (G:=λ_=>False) (.of_below hb) λ_ h=>h.elim
instance:Bl w w' (Dx w F g me p d lt tk wz recs cout dv ol wl al lim rs gd mb gw gc gfr P pv sc kp waits out ans) (Dx w' F g me p d lt tk wz recs cout dv ol wl al lim rs gd mb gw gc gfr P pv sc kp waits out ans):=⟨λhb h=>Dx.bel h hb⟩
theorem Dx.foot(h:Dx w F g me p d lt tk wz recs cout dv ol wl al lim rs gd mb gw gc gfr P pv sc kp waits out ans)(hF:∀k,F k->k<w.heap.size->F' k):Dx w F' g me p d lt tk wz recs cout dv ol wl al lim rs gd mb gw gc gfr P pv sc kp waits out ans:=by obtain⟨b,i,n,f,a,r,s,o,c,⟨j,l⟩,m,q⟩:=h;exact⟨b,i.foot hF,n,f.foot hF,a,r.foot hF,s.foot hF,o.foot hF,c.foot hF,⟨hF _ j b.lt,hF _ l a.lt⟩,m,q⟩
theorem EC.mv(h:EC w F g me p d lt tk wz recs cout dv ol wl al lim rs)(hm:Mv G w w')(hG:∀k,G k->k<w.heap.size->¬F k):EC w' F g me p d lt tk wz recs cout dv ol wl al lim rs:=by obtain⟨c,l,i,b,f,P,n,o,j,q,m,a,h⟩:=h;exact⟨c,l,i,b,f,P,n,o,j,q,m,a,h.mv hm hG⟩
theorem EC.bel(h:EC w F g me p d lt tk wz recs cout dv ol wl al lim rs)(hb:Below w.heap.size w w'):EC w' F g me p d lt tk wz recs cout dv ol wl al lim rs:=
 h.mv (G:=λ_=>False) (.of_below hb) λ_ h=>h.elim
instance:Bl w w' (EC w F g me p d lt tk wz recs cout dv ol wl al lim rs) (EC w' F g me p d lt tk wz recs cout dv ol wl al lim rs):=⟨λhb h=>EC.bel h hb⟩
theorem EC.foot(h:EC w F g me p d lt tk wz recs cout dv ol wl al lim rs)(hF:∀k,F k->k<w.heap.size->F' k):EC w F' g me p d lt tk wz recs cout dv ol wl al lim rs:=by obtain⟨c,l,i,b,f,P,n,o,j,q,m,a,h⟩:=h;exact⟨c,l,i,b,f,P,n,o,j,q,m,a,h.foot hF⟩
theorem Dx.part(Ts:List TypeId)(h:Dx w F g me p d lt tk wz recs cout dv ol wl al lim rs gd mb gw gc gfr P pv sc kp waits out ans)(hm:Mv G w w')(hG:∀k,G k->k<w.heap.size->(∃t L,Holds w k t L/\t∈Ts)\/IP w k) :(102∉Ts->Holds w' g 102 (Ar zn me gd gw gc gfr P (MC (Dc d)).ow pv d kp sc tk waits out ans))/\((∀t∈GN,t∉Ts)->Dw w' F gd gw mb)/\((∀k,G k->k<w.heap.size->∃t L,Holds w k t L/\t∈Ts)->(∀t∈Hq,t∉Ts)->Ea w' F gc me p lt wz recs cout)/\(197∉Ts->A8 w' gfr 197 zn me (NZ me kp))/\(69∉Ts->Io w' F P pv (MC (Dc d)))/\(37∉Ts->O9 w' F waits wl)/\(47∉Ts->Fh w' F out ol.length (FQ dv ol))/\((∀t∈VB,t∉Ts)->U3 w' F ans al):=by
 obtain⟨z,m,E,l,q,B,C,A,j,⟨n,o⟩,D,H⟩:=h;have b:∀T:List TypeId,(∀t∈T,t∉Ts)->∀k,G k->k<w.heap.size->DN w F T k:=λT v k f i=>by
  rcases hG k f i with⟨t,L,a,c⟩|a
  .exact Ep a λh=>v t h c
  .exact .inr a
 have a:∀t:TypeId,t∉Ts->∀x∈[t],x∉Ts:=λt h x y=>by rw[List.mem_singleton.1 y];exact h
 refine⟨λh=>z.away (T:=[102]) n hm (b _ (a _ h)) Iz,λh=>m.away (T:=GN) hm (b _ h) (λ_ h=>h),λr h=>l.away (T:=Hq) hm (λk f i=>?_) (λ_ h=>h),λh=>q.away (T:=[197]) o hm (b _ (a _ h)) Iz,λh=>B.mv (T:=[69]) hm (b _ (a _ h)) Iz,λh=>C.mv (T:=[37]) hm (b _ (a _ h)) Iz,λh=>A.mv (T:=[47]) hm (b _ (a _ h)) Iz,λh=>j.mv (T:=VB) hm (b _ h) (λ_ h=>h)⟩;obtain⟨t,L,c,s⟩:=r k f i;exact kT c λu=>h t u s
end
end
section
variable [In] [CO]
theorem RZ(gc n me gl gi f t q:Nat)(V recs out:Value)(ob0:Option Nat)(ls:List Ld)(w:World)(h:Holds w gc 163 (BG n me gl gi V recs out))(hls:Bc w V ob0 ls)(hno:∀l∈ls,l.is q In.sl=false)(hlen:ls.length<=900) :Calls prog 144 #[AP gc,.agg (BC 2 f t q Cm.zero).toArray] w λe w'=>e=.returned (.tuple #[])/\Below w.heap.size w w':=by obtain⟨k,b,c,a⟩:=bY (λW (h:Holds W gc 163 (BG n me gl gi V recs out)) p=>show Calls prog 83 #[AP gc,.agg #[AA q,AA In.sl]] W λe w'=>e=.returned (.pointer none)/\Below W.heap.size W w' from by have:=Nr gc n me gl gi V recs out ob0 ls q In.sl W h p BJ;rw[List.find?_eq_none.2 (λl r=>by rw[hno l r];decide)] at this;exact this) h hls (Base.start w);clear h hls hno;go_in;go_upto_region 1 with(fail);go_name_world W g;obtain⟨d,j,s⟩:=GI 47 (BC 2 f t q Cm.zero) g;clear g;obtain⟨b,a,c⟩:=D5 j b a c;clear j s;generalize m:w.heap.size=x at d a |-;obtain⟨u,v⟩:=Cf d.o 3 4;go_wp2_with fail;refine Ah (k.o _ b.o c.o) ?_;rintro y i;have a:=D9 i a;clear i u v b d c;go_upto_region 2 with(fail);go_quiet (fail);have a:=qh (a.bel (Bg _ _ nq));go_wp2_with fail;exact bQ ⟨rfl,m▸a.below⟩
end
end Go.Proofs.YtimdpiifpibgfaaGreatDoor
