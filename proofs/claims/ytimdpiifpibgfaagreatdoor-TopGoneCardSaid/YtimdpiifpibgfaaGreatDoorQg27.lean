/- A part of the proof that the law TopGone returns true for every input. -/
import Derived.Test.YtimdpiifpibgfaaGreatDoorQg26
set_option linter.all false
set_option maxRecDepth 20000
set_option maxHeartbeats 16000000
open Go.RowKit Go.Maps
namespace Go.Proofs.YtimdpiifpibgfaaGreatDoor
open Tryz
section
def Du(A:List Nat)(r:Nat):Int:=if r∈A then 1 else 0
def Jw(w:World)(F:Ap)(me q:Nat)(c:Cm)(leads:Value)(S:List Nat):Prop:=
 ∃(gb cb gld:Nat) (R Sv:Value) (ob:Option Nat) (Sf:Nat→Sd) (tk:Int),leads=.slice (some ⟨gb,0,none⟩) 1 cb∧AU w (.slice (some ⟨gb,0,none⟩) 1 cb) (some gb) 158 1 1 [.pointer (some ⟨gld,0,none⟩)]∧Holds w gld 167 (CQ q 2 1 me false Cm.zero (Du S) R Sv S.length tk) ∧
  AU w Sv ob 259 22 (S.length+1) (flat 22 (S.length+1) λi=>(Sf i).cells)∧(∃p cap,Sv=.slice p (S.length+1:Nat) cap)∧(∀i,i<S.length+1→∃r,Sf i=Ed 1 me c r∧r≠q)∧F gb∧F gld∧(∀g,ob=some g→F g)
def Jt(w:World)(F:Ap)(me q:Nat)(c:Cm)(leads:Value)(A:List Nat):Prop:=
 ∃gb cb gld R Sv tk,leads=.slice (some ⟨gb,0,none⟩) 1 cb∧AU w (.slice (some ⟨gb,0,none⟩) 1 cb) (some gb) 158 1 1 [.pointer (some ⟨gld,0,none⟩)]∧Holds w gld 167 (CQ q 1 1 me false c (Du A) R Sv A.length tk)∧F gb∧F gld
def ax(v:Value):Prop:=v=.slice none 0 0∨∃g c,v=.slice (some ⟨g,0,none⟩) 0 c
def I8(w:World)(F:Ap)(me q:Nat)(c:Cm)(L:List BR)(E:List Bh)(leads:Value):Ph→Prop
 | .fresh=>L=[]∧E=[]∧leads=.slice none 0 0
 | .lead A tk=>q=me∧L=[⟨q,1,cellL 1 c true⟩]∧∃gb cb gld rest R ob,leads=.slice (some ⟨gb,0,none⟩) 1 cb∧(1≤cb∧cb≤maxLen)∧Holds w gb 158 (.pointer (some ⟨gld,0,none⟩) :: rest)∧Holds w gld 167 (EY q c (Du A) R A.length tk)∧AU w R ob 43 8 A.length (flat 8 A.length λ_=>EQ)∧F gb∧F gld∧(∀g,ob=some g→F g)
 | .pre _=>L=[⟨q,1,cellL 1 c true⟩]∧leads=.slice none 0 0
 | .prom p=>L=[⟨q,1,AO ⟨1,p,0,0⟩ 1 c true⟩]∧leads=.slice none 0 0
 | .prep S=>L=[⟨q,1,AO ⟨1,me,0,0⟩ 1 c true⟩]∧Jw w F me q c leads S
 | .accl A=>L=[⟨q,1,AO ⟨1,me,1,me⟩ 2 c false⟩]∧Jt w F me q c leads A
 | .acc=>(∃b,GV b∧L=[⟨q,1,AO b 2 c false⟩])∧leads=.slice none 0 0
 | .com=>(∃b,GV b∧L=[⟨q,1,AO b 3 c false⟩])∧ax leads
 | .gone=>False
def IQ(w:World)(F:Ap)(q:Nat)(wi:Af)(k:Nat):Prop:=∃gb cw gw rest,wi=⟨some ⟨gb,0,none⟩,1,cw⟩∧(1≤cw∧cw≤maxLen)∧Holds w gb 177 (.pointer (some ⟨gw,0,none⟩) :: rest)∧Holds w gw 179 (Gi q k)∧F gb∧F gw
def fA(wi:Af):Prop:=wi=⟨none,0,0⟩∨∃g c,wi=⟨some ⟨g,0,none⟩,0,c⟩
def Em(w:World)(F:Ap)(q:Nat)(wi:Af):Ph→Prop
 | .fresh=>wi=⟨none,0,0⟩
 | .lead _ _=>wi=⟨none,0,0⟩
 | .pre 0=>wi=⟨none,0,0⟩
 | .pre (k+1)=>IQ w F q wi (k+1)
 | .com=>fA wi∨∃k,IQ w F q wi k
 | _=>∃k,IQ w F q wi k
structure BM(w:World)(F:Ap)(gc n me q:Nat)(c:Cm)(ph:Ph)(recs out:Value):Prop where
 ex:∃(wi:Af) (gl gm nl gi gx ni:Nat) (L:List BR) (E:List Bh) (leads:Value),Ac w gc n me gl gm nl gi gx ni L E leads recs out∧nl≤bnd ph∧ni≤bnd ph∧(F gl∧F gm∧F gi∧F gx)∧I8 w F me q c L E leads ph∧Em w F q wi ph
 f:F gc
def F5(w:World)(B r:Nat)(recs:Value):Prop:=(r=0∧recs=.slice none 0 0)∨(r=1∧∃gr cr m rv rest,recs=.slice (some ⟨gr,0,none⟩) 1 cr∧Holds w gr 127 (rv :: rest)∧Aw w B rv m∧(1≤m∧m≤480)∧B≤gr)
def DN(w:World)(F:Ap)(out:Value)(m:Nat)(V:Nat→List Value):Prop:=(m=0→out=.slice none 0 0)∧∃ob,AU w out ob 47 51 m (flat 51 m V)∧∀g,ob=some g→F g
def Hr(w:World)(F:Ap)(q:Nat)(c:Cm)(P:Value)(sq v:Int)(d:Nat→Int)(since:Int):Bool→Prop
 | false=>P=.slice none 0 0∧sq=0∧v=0∧d=(λ_=>0)∧since=0
 | true=>(∃ob,Pairs w P ob c∧∀g,ob=some g→F g)∧sq=1∧v=Ea c∧d=F8 q∧since=1
def gU:List Value:=[.int .i64 1,.int .i64 1]
def I9(w:World)(F:Ap)(waits:Value):Bool→Prop
 | false=>waits=.slice none 0 0
 | true=>∃ob,AU w waits ob 37 2 1 gU∧∀g,ob=some g→F g
def jC(c:Cm):List Value:=[.int .i64 1,.int .i64 1,.int .i64 0,.bool false,.string ⟨#[]⟩,.int .i64 (Ea c),.slice none 0 0]
def I5(w:World)(F:Ap)(c:Cm)(ans:Value):Bool→Prop
 | false=>ans=.slice none 0 0
 | true=>∃ob,AU w ans ob 121 7 1 (jC c)∧∀g,ob=some g→F g
structure EO(w:World)(F:Ap)(g n me q:Nat)(c:Cm)(ph:Ph)(recs cout:Value)(dn wt:Bool)(m:Nat)(V:Nat→List Value)(an:Bool)(tk:Int)(lim:Nat)
  (gd gfl gby mb gw gc gfr:Nat) (kept:Int) (P:Value) (sq v:Int) (d:Nat→Int) (since:Int) (waits out ans:Value):Prop where
 nd:Holds w g 102 (BF n me gd gw gc gfr P sq v d since tk waits out ans)
 dk:CE w gd gfl gby mb kept
 lm:mb≤lim∧kept=(mb:Int)
 wl:Holds w gw 208 (Gh gd 1 1)
 co:BM w F gc n me q c ph recs cout
 fr:BK w gfr 197 n me (λ_ _=>0)
 st:Hr w F q c P sq v d since dn
 wa:I9 w F waits wt
 ou:DN w F out m V
 an:I5 w F c ans an
 f:F g∧F gd∧F gfl∧F gby∧F gw∧F gfr
def BZ(w:World)(F:Ap)(g gd n me q:Nat)(c:Cm)(ph:Ph)(recs cout:Value)(dn wt:Bool)(m:Nat)(V:Nat→List Value)(an:Bool)(tk:Int)(lim:Nat):Prop:=
 ∃gfl gby mb gw gc gfr kept P sq v d since waits out ans,EO w F g n me q c ph recs cout dn wt m V an tk lim gd gfl gby mb gw gc gfr kept P sq v d since waits out ans
def Np(w:World)(F:Ap)(T:List TypeId)(k:Nat):Prop:=¬F k∨∃t L,Holds w k t L∧t∉T
theorem Np.ne{w:World}{F:Ap}{T:List TypeId}{k a:Nat}{t:TypeId}{L:List Value}(h:Np w F T k)(ha:Holds w a t L)(hf:F a)(ht:t∈T):k≠a:=by
 rintro rfl;rcases h with h|⟨t',L',h,hn⟩
 ·exact h hf
 ·exact absurd rfl (h.ne_of ha (λe=>hn (e▸ht)))
def EN(w:World)(F:Ap)(T:List TypeId)(k:Nat):Prop:=Np w F T k∨Fq w k
theorem EN.ne{w:World}{F:Ap}{T:List TypeId}{k a:Nat}{t:TypeId}{L:List Value}(h:EN w F T k)(ha:Holds w a t L)(hf:F a)(ht:t∈T):k≠a:=by
 rcases h with h|hm
 ·exact h.ne ha hf ht
 ·exact(Ai hm ha).symm
theorem Np.Yk{w:World}{F:Ap}{T:List TypeId}{k b:Nat}(h:Np w F T k)(hm:Fq w b)(hf:F b):k≠b:=by
 rintro rfl;rcases h with h|⟨t',L',h,hn⟩
 ·exact h hf
 ·exact absurd rfl (Ai hm h)
theorem AU.away{w w':World}{F G:Ap}{T:List TypeId}{v:Value}{ob:Option Nat}{e:TypeId}{s n:Nat}{xs:List Value}(h:AU w v ob e s n xs)(hF:∀g,ob=some g→F g)(hm:Mv G w w')(hG:∀k,G k→k<w.heap.size→EN w F T k)(he:e∈T):AU w' v ob e s n xs:=by
 rcases h.cases with⟨rfl,rfl,rfl,rfl⟩|⟨g,cap,rest,rfl,rfl,h1,h2,h3,h4⟩
 ·exact AU.nil _ _ _
 ·exact h.mv hm λg' hg' hGg=>by cases hg';exact(hG g hGg h3.lt).ne h3 (hF g rfl) he rfl
theorem Holds.away{w w':World}{F G:Ap}{T:List TypeId}{a:Nat}{t:TypeId}{L:List Value}(h:Holds w a t L)(hf:F a)(hm:Mv G w w')(hG:∀k,G k→k<w.heap.size→EN w F T k)(he:t∈T):Holds w' a t L:=
 h.mv hm λhGa=>(hG a hGa h.lt).ne h hf he rfl
def IK:List TypeId:=[158,167,43,259,177,179]
def G9:List TypeId:=[163,248,312,158,167,43,259,177,179]
theorem UA:∀t∈IK,t∈G9:=by decide
theorem Jw.mv{w w':World}{F G:Ap}{T:List TypeId}{me q:Nat}{c:Cm}{leads:Value}{S:List Nat}(h:Jw w F me q c leads S)(hm:Mv G w w')(hG:∀k,G k→k<w.heap.size→EN w F T k)(hT:∀t∈IK,t∈T):Jw w' F me q c leads S:=by obtain⟨gb,cb,gld,R,Sv,ob,Sf,tk,h1,h2,h3,h4,h5,h6,h7,h8,h9⟩:=h;exact⟨gb,cb,gld,R,Sv,ob,Sf,tk,h1,h2.away (λg hg=>by cases hg;exact h7) hm hG (hT _ (by decide)),h3.away h8 hm hG (hT _ (by decide)),h4.away h9 hm hG (hT _ (by decide)),h5,h6,h7,h8,h9⟩
theorem Jt.mv{w w':World}{F G:Ap}{T:List TypeId}{me q:Nat}{c:Cm}{leads:Value}{A:List Nat}(h:Jt w F me q c leads A)(hm:Mv G w w')(hG:∀k,G k→k<w.heap.size→EN w F T k)(hT:∀t∈IK,t∈T):Jt w' F me q c leads A:=by obtain⟨gb,cb,gld,R,Sv,tk,h1,h2,h3,h7,h8⟩:=h;exact⟨gb,cb,gld,R,Sv,tk,h1,h2.away (λg hg=>by cases hg;exact h7) hm hG (hT _ (by decide)),h3.away h8 hm hG (hT _ (by decide)),h7,h8⟩
theorem I8.mv{w w':World}{F G:Ap}{T:List TypeId}{me q:Nat}{c:Cm}{L:List BR}{E:List Bh}{leads:Value}{ph:Ph}(h:I8 w F me q c L E leads ph)(hm:Mv G w w')(hG:∀k,G k→k<w.heap.size→EN w F T k)(hT:∀t∈IK,t∈T):I8 w' F me q c L E leads ph:=by
 cases ph with
 | lead A tk=>
  obtain⟨h0,h1,gb,cb,gld,rest,R,ob,h2,h3,h4,h5,h6,h7,h8,h9⟩:=h;exact⟨h0,h1,gb,cb,gld,rest,R,ob,h2,h3,h4.away h7 hm hG (hT _ (by decide)),h5.away h8 hm hG (hT _ (by decide)),h6.away h9 hm hG (hT _ (by decide)),h7,h8,h9⟩
 | prep S=>exact⟨h.1,h.2.mv hm hG hT⟩
 | accl A=>exact⟨h.1,h.2.mv hm hG hT⟩
 | _=>exact h
def Ku:List TypeId:=[177,179]
theorem O1:∀t∈Ku,t∈IK:=by decide
theorem IQ.mv{w w':World}{F G:Ap}{T:List TypeId}{q:Nat}{wi:Af}{k:Nat}(h:IQ w F q wi k)(hm:Mv G w w')(hG:∀k,G k→k<w.heap.size→EN w F T k)(hT:∀t∈Ku,t∈T):IQ w' F q wi k:=by obtain⟨gb,cw,gw,rest,h1,h2,h3,h4,h5,h6⟩:=h;exact⟨gb,cw,gw,rest,h1,h2,h3.away h5 hm hG (hT _ (by decide)),h4.away h6 hm hG (hT _ (by decide)),h5,h6⟩
theorem Em.map{w w':World}{F F':Ap}{q:Nat}{wi:Af}{ph:Ph}(h:Em w F q wi ph)(hk:∀k,IQ w F q wi k→IQ w' F' q wi k):Em w' F' q wi ph:=by
 cases ph with
 | fresh=>exact h
 | lead A tk=>exact h
 | pre k=>
  cases k with
  | zero=>exact h
  | succ k=>exact hk _ h
 | com=>exact h.imp id λ⟨k,h⟩=>⟨k,hk k h⟩
 | _=>exact h.imp λk h=>hk k h
theorem Em.mv{w w':World}{F G:Ap}{T:List TypeId}{q:Nat}{wi:Af}{ph:Ph}(h:Em w F q wi ph)(hm:Mv G w w')(hG:∀k,G k→k<w.heap.size→EN w F T k)(hT:∀t∈Ku,t∈T):Em w' F q wi ph:=h.map λ_ h=>h.mv hm hG hT
theorem Ac.away[Af]{w w':World}{F G:Ap}{T:List TypeId}{gc n me gl gm nl gi gx ni:Nat}{L:List BR}{E:List Bh}{leads recs out:Value}(h:Ac w gc n me gl gm nl gi gx ni L E leads recs out)(hf:F gc∧F gl∧F gm∧F gi∧F gx)(hm:Mv G w w')(hG:∀k,G k→k<w.heap.size→Np w F T k)(hT:∀t∈G9,t∈T):Ac w' gc n me gl gm nl gi gx ni L E leads recs out:=by obtain⟨f1,f2,f3,f4,f5⟩:=hf;have m1:=h.lg.isMap;have m2:=h.ix.isMap;have hl:=h.lt;exact h.mv hm (λhg=>(hG _ hg hl.1).ne h.hc f1 (hT _ (by decide)) rfl) (λhg=>(hG _ hg hl.2.1).ne h.lg.ix f2 (hT _ (by decide)) rfl) (λhg=>(hG _ hg hl.2.2.1).Yk m1 f3 rfl) (λhg=>(hG _ hg hl.2.2.2.1).ne h.ix.ix f4 (hT _ (by decide)) rfl) (λhg=>(hG _ hg hl.2.2.2.2).Yk m2 f5 rfl)
theorem BM.mv{w w':World}{F G:Ap}{T:List TypeId}{gc n me q:Nat}{c:Cm}{ph:Ph}{recs out:Value}(h:BM w F gc n me q c ph recs out)(hm:Mv G w w')(hG:∀k,G k→k<w.heap.size→Np w F T k)(hT:∀t∈G9,t∈T):BM w' F gc n me q c ph recs out:=by obtain⟨⟨wi,gl,gm,nl,gi,gx,ni,L,E,leads,h1,h2,h3,h4,h5,h6⟩,hf⟩:=h;have hG':∀k,G k→k<w.heap.size→EN w F T k:=λk h1 h2=>.inl (hG k h1 h2);have hT':∀t∈IK,t∈T:=λt ht=>hT t (UA t ht);exact⟨⟨wi,gl,gm,nl,gi,gx,ni,L,E,leads,h1.away ⟨hf,h4⟩ hm hG hT,h2,h3,h4,h5.mv hm hG' hT',h6.mv hm hG' (λt ht=>hT' t (O1 t ht))⟩,hf⟩
theorem BM.bel{w w':World}{F:Ap}{gc n me q:Nat}{c:Cm}{ph:Ph}{recs out:Value}(h:BM w F gc n me q c ph recs out)(hb:Below w.heap.size w w'):BM w' F gc n me q c ph recs out:=
 h.mv (G:=λ_=>False) (T:=G9) (.of_below hb) (λ_ h=>h.elim) (λ_ h=>h)
instance {w w':World}{F:Ap}{gc n me q:Nat}{c:Cm}{ph:Ph}{recs out:Value}:Bl w w' (BM w F gc n me q c ph recs out) (BM w' F gc n me q c ph recs out):=⟨λhb h=>BM.bel h hb⟩
theorem CE.away{w w':World}{F G:Ap}{T:List TypeId}{gd gf gb m:Nat}{kept:Int}(h:CE w gd gf gb m kept)(hf:F gd∧F gf∧F gb)(hm:Mv G w w')(hG:∀k,G k→k<w.heap.size→EN w F T k)(hT:∀t∈([125,129,5]:List TypeId),t∈T):CE w' gd gf gb m kept:=by have hl:=h.lt;have h':=h;obtain⟨⟨cf,a1,a2,a3⟩,⟨cb,r,b1,b2,b3⟩,⟨bs,r2,c1,c2,c3⟩,hn,hlm⟩:=h';exact h.mv hm (λhg=>(hG _ hg hl.1).ne a3 hf.1 (hT _ (by decide)) rfl) (λhg=>(hG _ hg hl.2.1).ne b3 hf.2.1 (hT _ (by decide)) rfl) (λhg=>(hG _ hg hl.2.2).ne c3 hf.2.2 (hT _ (by decide)) rfl)
theorem BK.away{w w':World}{F G:Ap}{T:List TypeId}{g n me:Nat}{e:TypeId}{Fr:FrontP.Fr}(h:BK w g e n me Fr)(hf:F g)(hm:Mv G w w')(hG:∀k,G k→k<w.heap.size→EN w F T k)(he:e∈T):BK w' g e n me Fr:=⟨h.h.away hf hm hG he,h.n7⟩
theorem Hr.mv{w w':World}{F G:Ap}{T:List TypeId}{q:Nat}{c:Cm}{P:Value}{sq v:Int}{d:Nat→Int}{since:Int}{dn:Bool}(h:Hr w F q c P sq v d since dn)(hm:Mv G w w')(hG:∀k,G k→k<w.heap.size→EN w F T k)(he:69∈T):Hr w' F q c P sq v d since dn:=by
 cases dn with
 | false=>exact h
 | true=>
  obtain⟨⟨ob,h1,h2⟩,r⟩:=h;exact⟨⟨ob,AU.away h1 h2 hm hG he,h2⟩,r⟩
theorem I9.mv{w w':World}{F G:Ap}{T:List TypeId}{waits:Value}{wt:Bool}(h:I9 w F waits wt)(hm:Mv G w w')(hG:∀k,G k→k<w.heap.size→EN w F T k)(he:37∈T):I9 w' F waits wt:=by
 cases wt with
 | false=>exact h
 | true=>
  obtain⟨ob,h1,h2⟩:=h;exact⟨ob,AU.away h1 h2 hm hG he,h2⟩
theorem I5.mv{w w':World}{F G:Ap}{T:List TypeId}{c:Cm}{ans:Value}{an:Bool}(h:I5 w F c ans an)(hm:Mv G w w')(hG:∀k,G k→k<w.heap.size→EN w F T k)(he:121∈T):I5 w' F c ans an:=by
 cases an with
 | false=>exact h
 | true=>
  obtain⟨ob,h1,h2⟩:=h;exact⟨ob,AU.away h1 h2 hm hG he,h2⟩
theorem DN.mv{w w':World}{F G:Ap}{T:List TypeId}{out:Value}{m:Nat}{V:Nat→List Value}(h:DN w F out m V)(hm:Mv G w w')(hG:∀k,G k→k<w.heap.size→EN w F T k)(he:47∈T):DN w' F out m V:=by obtain⟨h0,ob,h1,h2⟩:=h;exact⟨h0,ob,h1.away h2 hm hG he,h2⟩
theorem EO.mv{w w':World}{F G:Ap}{g n me q:Nat}{c:Cm}{ph:Ph}{recs cout:Value}{dn wt:Bool}{m:Nat}{V:Nat→List Value}{an:Bool}{tk:Int}{lim:Nat} {gd gfl gby mb gw gc gfr:Nat} {kept:Int} {P:Value} {sq v:Int} {d:Nat→Int} {since:Int} {waits out ans:Value} (h:EO w F g n me q c ph recs cout dn wt m V an tk lim gd gfl gby mb gw gc gfr kept P sq v d since waits out ans) (hm:Mv G w w') (hG:∀k,G k→k<w.heap.size→¬F k):EO w' F g n me q c ph recs cout dn wt m V an tk lim gd gfl gby mb gw gc gfr kept P sq v d since waits out ans:=by have hA0:∀(T:List TypeId) k,G k→k<w.heap.size→Np w F T k:=λT k h1 h2=>.inl (hG k h1 h2);have hA:∀(T:List TypeId) k,G k→k<w.heap.size→EN w F T k:=λT k h1 h2=>.inl (hA0 T k h1 h2);obtain⟨nd,dk,lm,wl,co,fr,st,wa,ou,an',f1,f2,f3,f4,f5,f6⟩:=h;exact⟨nd.away (T:=[102]) f1 hm (hA _) (by decide),dk.away (T:=[125,129,5]) ⟨f2,f3,f4⟩ hm (hA _) (by decide),lm,wl.away (T:=[208]) f5 hm (hA _) (by decide),co.mv (T:=G9) hm (hA0 _) (λ_ h=>h),fr.away (T:=[197]) f6 hm (hA _) (by decide),st.mv (T:=[69]) hm (hA _) (by decide),wa.mv (T:=[37]) hm (hA _) (by decide),ou.mv (T:=[47]) hm (hA _) (by decide),an'.mv (T:=[121]) hm (hA _) (by decide),f1,f2,f3,f4,f5,f6⟩
theorem EO.bel{w w':World}{F:Ap}{g n me q:Nat}{c:Cm}{ph:Ph}{recs cout:Value}{dn wt:Bool}{m:Nat}{V:Nat→List Value}{an:Bool}{tk:Int}{lim:Nat} {gd gfl gby mb gw gc gfr:Nat} {kept:Int} {P:Value} {sq v:Int} {d:Nat→Int} {since:Int} {waits out ans:Value} (h:EO w F g n me q c ph recs cout dn wt m V an tk lim gd gfl gby mb gw gc gfr kept P sq v d since waits out ans) (hb:Below w.heap.size w w'):EO w' F g n me q c ph recs cout dn wt m V an tk lim gd gfl gby mb gw gc gfr kept P sq v d since waits out ans:=
 h.mv (G:=λ_=>False) (.of_below hb) λ_ h=>h.elim
instance {w w':World}{F:Ap}{g n me q:Nat}{c:Cm}{ph:Ph}{recs cout:Value}{dn wt:Bool}{m:Nat}{V:Nat→List Value}{an:Bool}{tk:Int}{lim:Nat}{gd gfl gby mb gw gc gfr:Nat}{kept:Int}{P:Value}{sq v:Int}{d:Nat→Int}{since:Int}{waits out ans:Value}:Bl w w' (EO w F g n me q c ph recs cout dn wt m V an tk lim gd gfl gby mb gw gc gfr kept P sq v d since waits out ans) (EO w' F g n me q c ph recs cout dn wt m V an tk lim gd gfl gby mb gw gc gfr kept P sq v d since waits out ans):=⟨λhb h=>EO.bel h hb⟩
theorem BZ.mv{w w':World}{F G:Ap}{g gd n me q:Nat}{c:Cm}{ph:Ph}{recs cout:Value}{dn wt:Bool}{m:Nat}{V:Nat→List Value}{an:Bool}{tk:Int}{lim:Nat}(h:BZ w F g gd n me q c ph recs cout dn wt m V an tk lim)(hm:Mv G w w')(hG:∀k,G k→k<w.heap.size→¬F k):BZ w' F g gd n me q c ph recs cout dn wt m V an tk lim:=by obtain⟨gfl,gby,mb,gw,gc,gfr,kept,P,sq,v,d,since,waits,out,ans,h⟩:=h;exact⟨gfl,gby,mb,gw,gc,gfr,kept,P,sq,v,d,since,waits,out,ans,h.mv hm hG⟩
theorem BZ.bel{w w':World}{F:Ap}{g gd n me q:Nat}{c:Cm}{ph:Ph}{recs cout:Value}{dn wt:Bool}{m:Nat}{V:Nat→List Value}{an:Bool}{tk:Int}{lim:Nat}(h:BZ w F g gd n me q c ph recs cout dn wt m V an tk lim)(hb:Below w.heap.size w w'):BZ w' F g gd n me q c ph recs cout dn wt m V an tk lim:=
 h.mv (G:=λ_=>False) (.of_below hb) λ_ h=>h.elim
instance {w w':World}{F:Ap}{g gd n me q:Nat}{c:Cm}{ph:Ph}{recs cout:Value}{dn wt:Bool}{m:Nat}{V:Nat→List Value}{an:Bool}{tk:Int}{lim:Nat}:Bl w w' (BZ w F g gd n me q c ph recs cout dn wt m V an tk lim) (BZ w' F g gd n me q c ph recs cout dn wt m V an tk lim):=⟨λhb h=>BZ.bel h hb⟩
theorem Jw.foot{w:World}{F F':Ap}{me q:Nat}{c:Cm}{leads:Value}{S:List Nat}(h:Jw w F me q c leads S)(hF:∀k,F k→k<w.heap.size→F' k):Jw w F' me q c leads S:=by obtain⟨gb,cb,gld,R,Sv,ob,Sf,tk,h1,h2,h3,h4,h5,h6,h7,h8,h9⟩:=h;exact⟨gb,cb,gld,R,Sv,ob,Sf,tk,h1,h2,h3,h4,h5,h6,hF _ h7 (h2.lt _ rfl),hF _ h8 h3.lt,λg hg=>hF g (h9 g hg) (h4.lt g hg)⟩
theorem Jt.foot{w:World}{F F':Ap}{me q:Nat}{c:Cm}{leads:Value}{A:List Nat}(h:Jt w F me q c leads A)(hF:∀k,F k→k<w.heap.size→F' k):Jt w F' me q c leads A:=by obtain⟨gb,cb,gld,R,Sv,tk,h1,h2,h3,h7,h8⟩:=h;exact⟨gb,cb,gld,R,Sv,tk,h1,h2,h3,hF _ h7 (h2.lt _ rfl),hF _ h8 h3.lt⟩
theorem I8.foot{w:World}{F F':Ap}{me q:Nat}{c:Cm}{L:List BR}{E:List Bh}{leads:Value}{ph:Ph}(h:I8 w F me q c L E leads ph)(hF:∀k,F k→k<w.heap.size→F' k):I8 w F' me q c L E leads ph:=by
 cases ph with
 | lead A tk=>
  obtain⟨h0,h1,gb,cb,gld,rest,R,ob,h2,h3,h4,h5,h6,h7,h8,h9⟩:=h;exact⟨h0,h1,gb,cb,gld,rest,R,ob,h2,h3,h4,h5,h6,hF _ h7 h4.lt,hF _ h8 h5.lt,λg hg=>hF g (h9 g hg) (h6.lt g hg)⟩
 | prep S=>exact⟨h.1,h.2.foot hF⟩
 | accl A=>exact⟨h.1,h.2.foot hF⟩
 | _=>exact h
theorem IQ.foot{w:World}{F F':Ap}{q:Nat}{wi:Af}{k:Nat}(h:IQ w F q wi k)(hF:∀k,F k→k<w.heap.size→F' k):IQ w F' q wi k:=by obtain⟨gb,cw,gw,rest,h1,h2,h3,h4,h5,h6⟩:=h;exact⟨gb,cw,gw,rest,h1,h2,h3,h4,hF _ h5 h3.lt,hF _ h6 h4.lt⟩
theorem Em.foot{w:World}{F F':Ap}{q:Nat}{wi:Af}{ph:Ph}(h:Em w F q wi ph)(hF:∀k,F k→k<w.heap.size→F' k):Em w F' q wi ph:=h.map λ_ h=>h.foot hF
theorem EO.foot{w:World}{F F':Ap}{g n me q:Nat}{c:Cm}{ph:Ph}{recs cout:Value}{dn wt:Bool}{m:Nat}{V:Nat→List Value}{an:Bool}{tk:Int}{lim:Nat} {gd gfl gby mb gw gc gfr:Nat} {kept:Int} {P:Value} {sq v:Int} {d:Nat→Int} {since:Int} {waits out ans:Value} (h:EO w F g n me q c ph recs cout dn wt m V an tk lim gd gfl gby mb gw gc gfr kept P sq v d since waits out ans) (hF:∀k,F k→k<w.heap.size→F' k):EO w F' g n me q c ph recs cout dn wt m V an tk lim gd gfl gby mb gw gc gfr kept P sq v d since waits out ans:=by
 obtain⟨nd,dk,lm,wl,co,fr,st,wa,ou,an',f1,f2,f3,f4,f5,f6⟩:=h;have hO:∀{v:Value} {ob:Option Nat} {e:TypeId} {s n:Nat} {xs:List Value},AU w v ob e s n xs→(∀g,ob=some g→F g)→∀g,ob=some g→F' g:=λh hf g hg=>hF g (hf g hg) (h.lt g hg);have hdl:=dk.lt;refine⟨nd,dk,lm,wl,?_,fr,?_,?_,?_,?_,hF _ f1 nd.lt,hF _ f2 hdl.1,hF _ f3 hdl.2.1,hF _ f4 hdl.2.2,hF _ f5 wl.lt,hF _ f6 fr.lt⟩
 ·obtain⟨⟨wi,gl,gm,nl,gi,gx,ni,L,E,leads,h1,h2,h3,⟨h4,h5,h6,h7⟩,h8,h9⟩,hf⟩:=co;have hl:=h1.lt;exact⟨⟨wi,gl,gm,nl,gi,gx,ni,L,E,leads,h1,h2,h3,⟨hF _ h4 hl.2.1,hF _ h5 hl.2.2.1,hF _ h6 hl.2.2.2.1,hF _ h7 hl.2.2.2.2⟩,h8.foot hF,h9.foot hF⟩,hF _ hf hl.1⟩
 ·cases dn with
  | false=>exact st
  | true=>
   obtain⟨⟨ob,h1,h2⟩,r⟩:=st;exact⟨⟨ob,h1,hO h1 h2⟩,r⟩
 ·cases wt with
  | false=>exact wa
  | true=>
   obtain⟨ob,h1,h2⟩:=wa;exact⟨ob,h1,hO h1 h2⟩
 ·obtain⟨h0,ob,h1,h2⟩:=ou;exact⟨h0,ob,h1,hO h1 h2⟩
 ·cases an with
  | false=>exact an'
  | true=>
   obtain⟨ob,h1,h2⟩:=an';exact⟨ob,h1,hO h1 h2⟩
theorem BZ.foot{w:World}{F F':Ap}{g gd n me q:Nat}{c:Cm}{ph:Ph}{recs cout:Value}{dn wt:Bool}{m:Nat}{V:Nat→List Value}{an:Bool}{tk:Int}{lim:Nat}(h:BZ w F g gd n me q c ph recs cout dn wt m V an tk lim)(hF:∀k,F k→k<w.heap.size→F' k):BZ w F' g gd n me q c ph recs cout dn wt m V an tk lim:=by obtain⟨gfl,gby,mb,gw,gc,gfr,kept,P,sq,v,d,since,waits,out,ans,h⟩:=h;exact⟨gfl,gby,mb,gw,gc,gfr,kept,P,sq,v,d,since,waits,out,ans,h.foot hF⟩
section
variable {w w':World} {F:Ap} {g n me q:Nat} {c:Cm} {ph ph':Ph} {recs cout recs' cout':Value} {dn wt dn' wt':Bool} {m m':Nat} {V V':Nat→List Value} {an an2:Bool} {tk tk':Int} {lim:Nat}
 {gd gfl gby mb gw gc gfr:Nat} {kept:Int} {P P':Value} {sq v sq' v':Int} {d d':Nat→Int} {since since':Int} {waits out ans waits' out' ans':Value}
theorem DR{T:List TypeId}{k:Nat}{t:TypeId}{L:List Value}(h:Holds w k t L)(ht:t∉T):EN w F T k:=.inl (.inr ⟨t,L,h,ht⟩)
theorem Uk{T:List TypeId}{k:Nat}{t:TypeId}{L:List Value}(h:Holds w k t L)(ht:t∉T):Np w F T k:=.inr ⟨t,L,h,ht⟩
theorem EO.Bj(h:EO w F g n me q c ph recs cout dn wt m V an tk lim gd gfl gby mb gw gc gfr kept P sq v d since waits out ans)(hm:Mv (λk=>k=g) w w') (hn:Holds w' g 102 (BF n me gd gw gc gfr P' sq' v' d' since' tk' waits' out' ans')) (hs:Hr w' F q c P' sq' v' d' since' dn') (hw:I9 w' F waits' wt') (ho:DN w' F out' m' V') (ha:I5 w' F c ans' an2) :EO w' F g n me q c ph recs cout dn' wt' m' V' an2 tk' lim gd gfl gby mb gw gc gfr kept P' sq' v' d' since' waits' out' ans':=by obtain⟨nd,dk,lm,wl,co,fr,st,wa,ou,an',f1,f2,f3,f4,f5,f6⟩:=h;have hA:∀T:List TypeId,102∉T→∀k,k=g→k<w.heap.size→EN w F T k:=λT ht k hk _=>hk▸DR nd ht;have hA0:∀T:List TypeId,102∉T→∀k,k=g→k<w.heap.size→Np w F T k:=λT ht k hk _=>hk▸Uk nd ht;exact⟨hn,dk.away (T:=[125,129,5]) ⟨f2,f3,f4⟩ hm (hA _ (by decide)) (by decide),lm,wl.away (T:=[208]) f5 hm (hA _ (by decide)) (by decide),co.mv (T:=G9) hm (hA0 _ (by decide)) (λ_ h=>h),fr.away (T:=[197]) f6 hm (hA _ (by decide)) (by decide),hs,hw,ho,ha,f1,f2,f3,f4,f5,f6⟩
theorem Hr.Bj{L:List Value}(h:Hr w F q c P sq v d since dn)(nd:Holds w g 102 L)(hm:Mv (λk=>k=g) w w'):Hr w' F q c P sq v d since dn:=
 h.mv (T:=[69]) hm (λk hk _=>hk▸DR nd (by decide)) (by decide)
theorem I9.Bj{L:List Value}(h:I9 w F waits wt)(nd:Holds w g 102 L)(hm:Mv (λk=>k=g) w w'):I9 w' F waits wt:=
 h.mv (T:=[37]) hm (λk hk _=>hk▸DR nd (by decide)) (by decide)
theorem I5.Bj{L:List Value}(h:I5 w F c ans an)(nd:Holds w g 102 L)(hm:Mv (λk=>k=g) w w'):I5 w' F c ans an:=
 h.mv (T:=[121]) hm (λk hk _=>hk▸DR nd (by decide)) (by decide)
theorem DN.Bj{L:List Value}(h:DN w F out m V)(nd:Holds w g 102 L)(hm:Mv (λk=>k=g) w w'):DN w' F out m V:=
 h.mv (T:=[47]) hm (λk hk _=>hk▸DR nd (by decide)) (by decide)
theorem EO.cu(h:EO w F g n me q c ph recs cout dn wt m V an tk lim gd gfl gby mb gw gc gfr kept P sq v d since waits out ans)(hm:Mv (λk=>k=gfr) w w')(hf:BK w' gfr 197 n me (λ_ _=>0)) :EO w' F g n me q c ph recs cout dn wt m V an tk lim gd gfl gby mb gw gc gfr kept P sq v d since waits out ans:=by obtain⟨nd,dk,lm,wl,co,fr,st,wa,ou,an',f1,f2,f3,f4,f5,f6⟩:=h;have hA:∀T:List TypeId,197∉T→∀k,k=gfr→k<w.heap.size→EN w F T k:=λT ht k hk _=>hk▸DR fr.h ht;have hA0:∀T:List TypeId,197∉T→∀k,k=gfr→k<w.heap.size→Np w F T k:=λT ht k hk _=>hk▸Uk fr.h ht;exact⟨nd.away (T:=[102]) f1 hm (hA _ (by decide)) (by decide),dk.away (T:=[125,129,5]) ⟨f2,f3,f4⟩ hm (hA _ (by decide)) (by decide),lm,wl.away (T:=[208]) f5 hm (hA _ (by decide)) (by decide),co.mv (T:=G9) hm (hA0 _ (by decide)) (λ_ h=>h),hf,st.mv (T:=[69]) hm (hA _ (by decide)) (by decide),wa.mv (T:=[37]) hm (hA _ (by decide)) (by decide),ou.mv (T:=[47]) hm (hA _ (by decide)) (by decide),an'.mv (T:=[121]) hm (hA _ (by decide)) (by decide),f1,f2,f3,f4,f5,f6⟩
theorem EO.RD{G:Ap}(h:EO w F g n me q c ph recs cout dn wt m V an tk lim gd gfl gby mb gw gc gfr kept P sq v d since waits out ans)(hm:Mv G w w')(hG:∀k,G k→k<w.heap.size→(∃t L,Holds w k t L∧t∈G9)∨Fq w k) (hc:BM w' F gc n me q c ph' recs' cout'):EO w' F g n me q c ph' recs' cout' dn wt m V an tk lim gd gfl gby mb gw gc gfr kept P sq v d since waits out ans:=by
 obtain⟨nd,dk,lm,wl,co,fr,st,wa,ou,an',f1,f2,f3,f4,f5,f6⟩:=h;have hA:∀T:List TypeId,(∀t∈G9,t∉T)→∀k,G k→k<w.heap.size→EN w F T k:=λT ht k hk hl=>by
  rcases hG k hk hl with⟨t,L,h1,h2⟩|h1
  ·exact DR h1 (ht t h2)
  ·exact .inr h1
 exact⟨nd.away (T:=[102]) f1 hm (hA _ (by decide)) (by decide),dk.away (T:=[125,129,5]) ⟨f2,f3,f4⟩ hm (hA _ (by decide)) (by decide),lm,wl.away (T:=[208]) f5 hm (hA _ (by decide)) (by decide),hc,fr.away (T:=[197]) f6 hm (hA _ (by decide)) (by decide),st.mv (T:=[69]) hm (hA _ (by decide)) (by decide),wa.mv (T:=[37]) hm (hA _ (by decide)) (by decide),ou.mv (T:=[47]) hm (hA _ (by decide)) (by decide),an'.mv (T:=[121]) hm (hA _ (by decide)) (by decide),f1,f2,f3,f4,f5,f6⟩
end
end
theorem LJ[Af](k:Int)(fn:FuncId)(hk:((k=1∨k=3∨k=6)∧fn=141)∨((k=2∨k=4∨k=7)∧fn=144)∨(k=5∧fn=142))(gc n me gl gi f q:Nat)(be br:Int)(x:Cm)(b:Bal)(st:Int)(y:Cm)(sm:Bool)(d:Nat→Int)(leads recs out:Value)(Post:World→World→Prop)(w:World)(h:Holds w gc 163 (Au n me gl gi leads recs out))(hf:f<n)(hq:q<n) (KL:∀W,Calls prog 72 #[.agg (Aj k f me q 1 be br x b st y sm d).toArray] W λe w'=>e=.returned (.bool true)∧Below W.heap.size W w') (KG:∀W,Below w.heap.size w W→Calls prog 140 #[.pointer (some ⟨gl,0,none⟩),.agg #[.int .i64 q,.int .i64 1]] W λe w'=>e=.returned (.bool false)∧Below W.heap.size W w') (KA:∀W,Below w.heap.size w W→Calls prog fn #[.pointer (some ⟨gc,0,none⟩),.agg (Aj k f me q 1 be br x b st y sm d).toArray] W λe w'=>e=.returned (.tuple #[])∧Post W w') :Calls prog 75 #[.pointer (some ⟨gc,0,none⟩),.agg (Aj k f me q 1 be br x b st y sm d).toArray] w λe w'=>e=.returned (.bool false)∧∃w1,Below w.heap.size w w1∧Post w1 w':=by
 rcases hk with⟨rfl|rfl|rfl,rfl⟩|⟨rfl|rfl|rfl,rfl⟩|⟨rfl,rfl⟩;all_goals
  have KO:=qh (λW (h:Holds W gc 163 (Au n me gl gi leads recs out))=>one_any gc n me gl gi f leads recs out W h hf);have KOq:=qh (λW (h:Holds W gc 163 (Au n me gl gi leads recs out))=>one_any gc n me gl gi q leads recs out W h hq);have KL:=qh KL;have KG:=qh KG;have KA:=qh KA;have HC:=qh h;have HB:=qh (Base.start w);have hmm:((me:Int)==(me:Int))=true:=by simp
  clear h;go_in;go_upto_region 1 with(fail);go_name_world W hW;obtain⟨HX,hbW,hsW⟩:=Ef 47 (Aj _ f me q 1 be br x b st y sm d) hW;clear hW;obtain⟨HC,HB⟩:=Bf hbW HC HB;clear hbW hsW;generalize hB0:w.heap.size=B at HX HB KG KA ⊢;have HR1:=qh (Ar (cs:=Aj _ f me q 1 be br x b st y sm d) HX.o 0 (by intro j v hv;rw[Nat.zero_add];exact hv));obtain⟨x0,x1,x2,x3⟩:=jP HX.o 0 1 2 3;have c1:=Iz HC.o 1;refine wp_region_quiet_below (by kernel_rfl) (by kernel_rfl) ?_;repeat(first
   | (with_reducible refine qR 0 HR1.o ?_;simp only[Act.put,List.setIfInBounds_toArray,List.set_cons_succ,List.set_cons_zero])
   | go_big_quiet_step (first
    | (go_at_call 72;with_reducible exact AL λW _=>KL.o W)
    | (go_at_call 139;first|(with_reducible exact AL λW h2=>KO.o W (HC.o.bel h2))|(with_reducible exact AL λW h2=>KOq.o W (HC.o.bel h2)))))
  refine wpQuiet_nil ?_;intro w3 hw';have hb3:=AV hw';obtain⟨HC,HX,HB⟩:=Ce hb3 HC HX HB;clear hw' hb3 x0 x1 x2 x3 c1 HR1;have x0:=AZ HX.o 0;go_upto_region 4 with(fail);clear x0;have c2:=Iz HC.o 2;obtain⟨x3,x4⟩:=Ji HX.o 3 4;refine wp_region_quiet_below (by kernel_rfl) (by kernel_rfl) ?_;repeat go_big_quiet_step (first|(go_at_call 140;with_reducible exact AL λW h2=>KG.o W (HB.o.below.trans (h2.mono HB.o.le))))
  refine wpQuiet_nil ?_;intro w4 hw';have hb3:=AV hw';obtain⟨HC,HX,HB⟩:=Ce hb3 HC HX HB;clear hw' hb3 x3 x4 c2;have x0:=AZ HX.o 0;have HR:=qh HX.AX;go_wp2_with (first|(with_reducible refine lR 0 HR.o ?_));refine AY (KA.o _ HB.below) ?_;rintro w5 hp;have HP:=qh (show ∃w1,Below B w w1∧Post w1 w5 from⟨w4,HB.below,hp⟩);clear hp x0 HR;go_wp2_with fail;go_ret;exact⟨rfl,hB0▸HP.o⟩
theorem PW(gi gx ni q:Nat)(c:Cm)(w:World)(h:Dn w gi gx ni (λ_=>0) [])(hc:CU c)(hq:q<7) :Calls prog 209 #[.pointer (some ⟨gi,0,none⟩),.agg #[.int .i64 q,.int .i64 1],.agg #[.int .i64 c.k,.int .i64 c.c,.int .i64 c.s,.string c.a,.string c.b,.string c.o,.string c.v]] w λe w'=>e=.returned (.agg ([.int .i64 0,.int .i64 0,.int .i64 0,.int .i64 0,.int .i64 0,.int .i64 0,.int .i64 0,.int .i64 0]:List Value).toArray)∧Below w.heap.size w w':=by
 refine AY (XJ gi gx ni (λ_=>0) [] q 1 c w h (by have:=hc.aa;omega)) ?_;rintro w' hb;refine⟨?_,hb⟩;have h1:Gm [] q 1 c=0:=rfl;have h2:∀j:Nat,C9 [] (λ_=>0) q 1 c j=0:=λj=>by
  unfold C9;split
  ·split<;>rfl
  ·rfl
 rw[h1];unfold E5 ER;rw[h2,h2,h2,h2,h2,h2,h2]
def XE[Af](gc n me gl gm nl gi gx ni:Nat)(c:Cm)(w:World)(e:Ending)(w':World):Prop:=
 ∃(gb cb gld gr cr m:Nat) (rest rest2:List Value) (rv out:Value) (ob:Option Nat),e=.returned (.tuple #[.agg #[.int .i64 me,.int .i64 1],.bool true]) ∧
  Ac w' gc n me gl gm (nl+1) gi gx (ni+1) [⟨me,1,cellL 1 c true⟩] [⟨me,1,c,0⟩] (.slice (some ⟨gb,0,none⟩) 1 cb) (.slice (some ⟨gr,0,none⟩) 1 cr) out ∧
  Holds w' gb 158 (.pointer (some ⟨gld,0,none⟩) :: rest)∧(1≤cb∧cb≤maxLen)∧Holds w' gld 167 (EY me c (λ_=>0) (.slice none 0 0) 0 0) ∧
  Holds w' gr 127 (rv :: rest2)∧Aw w' w.heap.size rv m∧(1≤m∧m≤480) ∧
  AU w' out ob 47 51 (n-1) (flat 51 (n-1) (Og 1 me me c))∧(∀g,ob=some g→w.heap.size≤g) ∧
  (w.heap.size≤gb∧w.heap.size≤gld∧w.heap.size≤gr∧gb≠gld∧gb≠gr∧gld≠gr)∧Mv (λk=>k=gc∨k=gm∨k=gx) w w'
theorem SB[Af](gc n me gl gm nl gi gx ni:Nat)(c:Cm)(w:World)(h:Ac w gc n me gl gm nl gi gx ni [] [] (.slice none 0 0) (.slice none 0 0) (.slice none 0 0))(hnl:nl≤1000)(hni:ni≤1000)(hn:n≤7)(hme:me<n)(hc:CU c) :Calls prog 129 #[.pointer (some ⟨gc,0,none⟩),.agg #[.int .i64 c.k,.int .i64 c.c,.int .i64 c.s,.string c.a,.string c.b,.string c.o,.string c.v]] w (XE gc n me gl gm nl gi gx ni c w):=by
 have KT:=qh (λW (h:A7 W gl gm nl [])=>Yg gl gm nl W h);have hidx:∀W,(Instr.index 41 (.agg BX.toArray) (.int .i64 me)).run prog W=.ok (.int .i64 0) W:=λW=>FC (λ_=>0) me (by omega) W;have HIDX:=qh hidx;have KR:=qh (λW=>by have:=EF c.k c.c c.s c.a c.b c.o c.v W;rw[hc.right] at this;exact this);have KA:=qh (λW (h:Dn W gi gx ni (λ_=>0) [])=>PW gi gx ni me c W h hc (by omega));have KD:=qh BN;have KS:=qh (λW (h:Ac W gc n me gl gm nl gi gx ni [] [] (.slice none 0 0) (.slice none 0 0) (.slice none 0 0))=>SQ gc n me gl gm nl gi gx ni [] [] (.slice none 0 0) (.slice none 0 0) me 1 c true W h hnl hni (by omega) hc (.inl ⟨rfl,rfl⟩) (.inl rfl));have KB:=qh (λgld recs W h hl hne=>VQ gc n me gl gi gld recs me c (.slice none 0 0) 0 0 W h hl hn hme hne);have HCA:=qh h;have HC:=qh h.hc;have HLG:=qh h.lg;have HIX:=qh h.ix;have hlt:=h.lt;have hne:=h.ne;have hkk:=hc.kk;have hk0:((c.k:Int)==0)=false:=by simp;omega
 have HM:=qh (Mv.refl (λk=>k=gc∨k=gm∨k=gx) w);clear h hidx hc hkk;go_in;go_upto_region 1 with(fail);go_name_world W hW;obtain⟨HX,HZ,hbW,hsW⟩:=Qu 23 ([.int .i64 c.k,.int .i64 c.c,.int .i64 c.s,.string c.a,.string c.b,.string c.o,.string c.v]) 37 ([.int .i64 0,.int .i64 0]) hW;clear hW;obtain⟨HCA,HC,HLG,HIX,HM⟩:=FB hbW HCA HC HLG HIX HM;clear hbW;generalize hz0:w.heap.size+1=gz at HZ ⊢;generalize hx0:w.heap.size=gX at HX ⊢;have hWs:gz<W.heap.size:=by omega
 have HSZ:=qh (show Sz (gz+1) W from hWs);have hgzw:w.heap.size+1=gz:=hz0;clear hsW;refine' bx1 ⟨16,17,6,23,37,[.int .i64 0,.int .i64 0],[.int .i64 me,.int .i64 1]⟩ _ (by simp[Value.oneCell']) ?h1 ?val1 ?fin1;case h1=>
  intro W0 hW0;obtain⟨HCA,HC,HLG,HIX,HM,HX⟩:=Eh hW0 HCA HC HLG HIX HM HX;obtain⟨HZ,HSZ⟩:=Bf hW0 HZ HSZ;obtain⟨c0_1,c0_2⟩:=Ji HC.o 1 2;have hidx:=HIDX.o;simp only[List.map_cons,List.map_nil,A8];repeat go_big_quiet_step (first|(go_at_call 208;with_reducible exact AL λW2 h2=>KT.o W2 (HLG.o.bel h2)))
  refine wpQuiet_nil ?_;intro w' _;exact rfl
 case val1=>rfl
 intro β w4 hb hx6;simp only[] at hx6;simp only[Dc,List.foldl,Act.put,List.setIfInBounds_toArray,List.set_cons_zero,List.set_cons_succ];obtain⟨HCA,HC,HLG,HIX,HM,HX⟩:=Eh hb HCA HC HLG HIX HM HX;obtain⟨HZ,HSZ⟩:=Bf hb HZ HSZ;generalize β 6=g6 at hx6 ⊢;have H6:=qh hx6.2;have hge6:=hx6.1;clear hx6;clear hb;have hs4:=HM.size;obtain⟨x0,x1,x2,x3,x4,x5,x6⟩:=ED HX.o 0 1 2 3 4 5 6;go_wp2_with fail;refine AY (KR.o _) ?_;rintro w5 hb;obtain⟨HCA,HC,HIX,HM,HX,HZ⟩:=Eh hb HCA HC HIX HM HX HZ;obtain⟨H6,HSZ⟩:=Bf hb H6 HSZ;clear hb x0 x1 x2 x3 x4 x5 x6 HLG;have x0:=AZ HX.o 0;have y1:=AZ H6.o 1;have d4:=AZ HC.o 4;go_upto_region 4 with(fail);clear x0 y1 d4;have hs5:=HM.size;refine' bx1 ⟨7,8,7,52,43,[.int .i64 0,.int .i64 0,.int .i64 0,.int .i64 0,.int .i64 0,.int .i64 0,.int .i64 0,.int .i64 0],[.int .i64 0,.int .i64 0,.int .i64 0,.int .i64 0,.int .i64 0,.int .i64 0,.int .i64 0,.int .i64 0]⟩ _ (by simp[Value.oneCell']) ?h2 ?val2 ?fin2;case h2=>
  intro W0 hW0;obtain⟨HCA,HC,HIX,HM,HX,HZ⟩:=Eh hW0 HCA HC HIX HM HX HZ;obtain⟨H6,HSZ⟩:=Bf hW0 H6 HSZ;have c0_3:=Iz HC.o 3;obtain⟨c1_0,c1_1⟩:=Ji H6.o 0 1;obtain⟨c2_0,c2_1,c2_2,c2_3,c2_4,c2_5,c2_6⟩:=ig HX.o 0 1 2 3 4 5 6;simp only[List.map_cons,List.map_nil,A8];repeat go_big_quiet_step (first|(go_at_call 209;with_reducible exact AL λW2 h2=>KA.o W2 (HIX.o.bel h2)))
  refine wpQuiet_nil ?_;intro w' _;exact rfl
 case val2=>rfl
 intro β w4 hb hx7;simp only[] at hx7;simp only[Dc,List.foldl,Act.put,List.setIfInBounds_toArray,List.set_cons_zero,List.set_cons_succ];obtain⟨HCA,HC,HIX,HM,HX,HZ⟩:=Eh hb HCA HC HIX HM HX HZ;obtain⟨H6,HSZ⟩:=Bf hb H6 HSZ;generalize β 7=g7 at hx7 ⊢;have H7:=qh hx7.2;have hge7:=hx7.1;clear hx7;clear hb;obtain⟨a0,a1,a2,a3,a4,a5,a6,a7⟩:=Cj H7.o 0 1 2 3 4 5 6 7;go_wp2_with fail;refine AY (KD.o _) ?_;rintro w6 hb;obtain⟨HCA,HM,HX,HZ,H6,H7⟩:=Eh hb HCA HM HX HZ H6 H7;have HSZ:=Ci hb HSZ;clear hb a0 a1 a2 a3 a4 a5 a6 a7 HC HIX;obtain⟨a0,a1,a2,a3,a4,a5,a6,a7⟩:=Cj H7.o 0 1 2 3 4 5 6 7;obtain⟨x0,x1,x2,x3,x4,x5,x6⟩:=ED HX.o 0 1 2 3 4 5 6;obtain⟨y0,y1⟩:=BQ H6.o 0 1;go_wp2_with fail;refine AY (KS.o _ HCA.o) ?_;rintro w7 ⟨gr,cr,m,rv,rest2,hca,hr,ho,hm,hgr,hmv⟩;have hs6:=HM.size;have hz6:=HSZ.le;have HCA:=qh (show Ac w7 gc n me gl gm (nl+1) gi gx (ni+1) [⟨me,1,cellL 1 c true⟩] [⟨me,1,c,0⟩] (.slice none 0 0) (.slice (some ⟨gr,0,none⟩) 1 cr) (.slice none 0 0) from hca);have HX:=qh (HX.mv hmv (by omega));have HZ:=qh (HZ.mv hmv (by omega));have H6:=qh (H6.mv hmv (by omega));have H7:=qh (H7.mv hmv (by omega));have HR:=qh hr;have HO:=qh (Aw.mono (B':=gz+1) ho hz6);have HMR:=qh hm;have HM:=qh (HM.mv hmv (λk hk=>.inl hk));have HSZ:=qh (HSZ.mv hmv);have hgr2:gz<gr:=by omega
 clear hca hr ho hm hmv a0 a1 a2 a3 a4 a5 a6 a7 x0 x1 x2 x3 x4 x5 x6 y0 y1;obtain⟨a0,a1,a2,a3,a4,a5,a6,a7⟩:=Cj H7.o 0 1 2 3 4 5 6 7;obtain⟨x0,x1,x2,x3,x4,x5,x6⟩:=ED HX.o 0 1 2 3 4 5 6;obtain⟨y0,y1⟩:=BQ H6.o 0 1;have hs7:=HM.size;have hz7:=HSZ.le;have hgr7:gr<w7.heap.size:=HR.lt;have hlt7:=HCA.lt;have hxl:=HX.lt;have hzl:=HZ.lt;have h6l:=H6.lt;have hal:Below w7.heap.size w7 (w7.alloc (.cells (EY me c (λ_=>0) (.slice none 0 0) 0 0).toArray 167)):=(Below.refl _ _).alloc (Nat.le_refl _) _;have HLD:=qh (AA w7 167 (EY me c (λ_=>0) (.slice none 0 0) 0 0));have HCA8:=qh (HCA.bel hal);have HR8:=qh (HR.bel hal);have HO8:=qh (HO.below hal);have HX8:=qh (HX.bel hal);have HZ8:=qh (HZ.bel hal);have H68:=qh (H6.bel hal);have HM8:=qh (HM.bel hal);have HAL:=qh hal;clear hal;go_wp2_with fail;refine AY (KB.o w7.heap.size (.slice (some ⟨gr,0,none⟩) 1 cr) (w7.alloc (.cells (EY me c (λ_=>0) (.slice none 0 0) 0 0).toArray 167)) HCA8.hc HLD.o (by omega)) ?_;rintro w9 ⟨gb,cb,rest,hb9,hcb,hgb,out,ob,hc9,ho9,hob9,hm9⟩;have hs8:=HAL.size;have hld:w7.heap.size<(w7.alloc (.cells (EY me c (λ_=>0) (.slice none 0 0) 0 0).toArray 167)).heap.size:=HLD.lt;have HCA:=qh (HCA8.IL hm9 hc9 (Ne.symm hne.1) (Ne.symm hne.2.1) (Ne.symm hne.2.2.1) (Ne.symm hne.2.2.2.1));have HLD:=qh (HLD.mv hm9 (by omega));have HR:=qh (HR8.mv hm9 (by omega));have HO:=qh (show Aw w9 (gz+1) rv m from by
  obtain⟨bs,h1,h2,h3,h4⟩:=HO8.o;exact⟨bs,h1,h2,h3,h4.imp id λ⟨b,cap,cur,e1,e2,hh,r⟩=>⟨b,cap,cur,e1,by omega,(hm9.block b (Array.getElem?_eq_some_iff.1 hh).1 (by omega)).trans hh,r⟩⟩)
 have HX:=qh (HX8.mv hm9 (by omega));have HZ:=qh (HZ8.mv hm9 (by omega));have H6:=qh (H68.mv hm9 (by omega));have HM:=qh (HM8.mv hm9 (λk hk=>.inl (.inl hk)));have HG:=qh hb9;have HOO:=qh (And.intro ho9 (show ∀g,ob=some g→gz<g from λg hg=>by have:=hob9 g hg;omega));have hgb7:w7.heap.size<gb:=by omega
 clear hb9 hc9 ho9 hob9 hm9 HAL HCA8 HR8 HO8 HX8 HZ8 H68 HM8 a0 a1 a2 a3 a4 a5 a6 a7 x0 x1 x2 x3 x4 x5 x6 y0 y1 hld hs8;obtain⟨y0,y1⟩:=BQ H6.o 0 1;go_wp2_with (first|(refine sW [.int .i64 me,.int .i64 1] HZ.o ?_;intro wz hz9 htz));have hmz:Mv (λk=>k=gz) w9 wz:=Mv.Aa htz rfl;have hl9:=HCA.lt;have hold:=HLD.lt;have HCA:=qh (HCA.mv hmz (by omega) (by omega) (by omega) (by omega) (by omega));have HLD:=qh (HLD.mv hmz (by omega));have HR:=qh (HR.mv hmz (by omega));have HG:=qh (HG.mv hmz (by omega));have HO:=qh (Aw.mono (B':=w.heap.size) (HO.iy htz (Nat.lt_succ_self _)) (by omega));have HOO:=qh (And.intro (HOO.1.mv hmz (λg hg=>by have:=HOO.2 g hg;omega)) (show ∀g,ob=some g→w.heap.size≤g from λg hg=>by have:=HOO.2 g hg;omega));have HM:=qh (HM.mv hmz (λk hk=>.inr (by omega)));have HRZ:=qh hz9.AX;clear hz9 htz hmz y0 y1;go_wp2_with fail;refine bT HRZ.o ?_;exact⟨gb,cb,w7.heap.size,gr,cr,m,rest,rest2,rv,out,ob,rfl,HCA.o,HG.o,hcb,HLD.o,HR.o,HO.o,HMR.o,HOO.1,HOO.2,by omega,HM.o⟩
end Go.Proofs.YtimdpiifpibgfaaGreatDoor
