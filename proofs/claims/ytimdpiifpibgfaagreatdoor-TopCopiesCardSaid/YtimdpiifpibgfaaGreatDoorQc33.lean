/- A part of the proof that the law TopCopies returns true for every input. -/
import Derived.Test.YtimdpiifpibgfaaGreatDoorQc32
set_option linter.all false
set_option maxRecDepth 20000
set_option maxHeartbeats 16000000
open Go.RowKit Go.Maps
namespace Go.Proofs.YtimdpiifpibgfaaGreatDoor
open Tryz
section
class Bs where
 L:List Ad
 E:List Bf
 d:Nat→Int
 S:St
 sc:Int
 kp:Nat→Int
 nb:Nat
variable [In] [Bs]
inductive Ph where
 | fresh|lead (A:List Nat) (tk:Nat)|pre|com
 deriving DecidableEq
inductive Dn where
 | no|run|yes
 deriving DecidableEq
def bnd:Ph→Nat
 | .fresh=>0
 | .lead _ _=>1
 | .pre=>1
 | .com=>2
theorem UK(ph:Ph):bnd ph≤2:=by cases ph<;>simp[bnd]
def GG(A:List Nat)(r:Nat):Int:=if r∈A then 1 else 0
def e1(q:Nat)(c:Cm):Ad:=⟨q,In.sl,cellL 1 c true⟩
def e3(q:Nat)(c:Cm):Ad:=⟨q,In.sl,cellL 3 c false⟩
def en(q:Nat)(c:Cm):Bf:=⟨q,In.sl,c,In.aq⟩
def NC(q:Nat)(c:Cm)(dn:Dn):St:=if dn=.no then Bs.S else IC Bs.S c
def Rq(q:Nat)(dn:Dn):Nat→Int:=if dn=.no then Bs.d else doneD Bs.d q
def RF:Dn→Int
 | .no=>Bs.sc
 | .run=>Bs.sc+1
 | .yes=>if Bs.sc+1=8 then 0 else Bs.sc+1
def Na(q:Nat):Dn→Nat→Int
 | .yes=>if Bs.sc+1=8 then doneD Bs.d q else Bs.kp
 | _=>Bs.kp
def EO(w:World)(F:Af)(leads:Value):Prop:=∃p c ob,leads=.slice p 0 c∧AO w leads ob 158 1 0 []∧∀g,ob=some g→F g
def JD(w:World)(F:Af)(me q:Nat)(c:Cm)(L:List Ad)(E:List Bf)(leads:Value):Ph→Prop
 | .fresh=>L=Bs.L∧E=Bs.E∧EO w F leads
 | .lead A tk=>q=me∧(L=CO Bs.L (e1 q c)∧E=Gf Bs.E (en q c))∧∃gb cb gld rest R ob,leads=.slice (some ⟨gb,0,none⟩) 1 cb∧(1≤cb∧cb≤maxLen∧Hid (rest.length+1=cb))∧Holds w gb 158 (.pointer (some ⟨gld,0,none⟩) :: rest)∧Holds w gld 167 (Dh q c (GG A) R A.length tk)∧AO w R ob 43 8 A.length (flat 8 A.length λ_=>EW)∧F gb∧F gld∧(∀g,ob=some g→F g)
 | .pre=>L=CO Bs.L (e1 q c)∧E=Gf Bs.E (en q c)∧EO w F leads
 | .com=>L=CO (CO Bs.L (e1 q c)) (e3 q c)∧E=Gf (Gf Bs.E (en q c)) (en q c)∧EO w F leads
structure Ba(w:World)(F:Af)(gc n me q:Nat)(c:Cm)(ph:Ph)(recs out:Value):Prop where
 ex:∃gl gm nl gi gx ni L E leads,BC w gc n me gl gm nl gi gx ni L E leads recs out∧nl≤2*Bs.nb+bnd ph∧ni≤2*Bs.nb+bnd ph∧(F gl∧F gm∧F gi∧F gx)∧JD w F me q c L E leads ph
 f:F gc
def IR(w:World)(B r:Nat)(recs:Value):Prop:=(r=0∧recs=.slice none 0 0)∨(r=1∧∃gr cr m rv rest,recs=.slice (some ⟨gr,0,none⟩) 1 cr∧Holds w gr 127 (rv :: rest)∧Aj w B rv m∧(1≤m∧m≤480)∧B≤gr)
def Dv(w:World)(F:Af)(out:Value)(m:Nat)(V:Nat→List Value):Prop:=(m=0→out=.slice none 0 0)∧∃ob,AO w out ob 47 51 m (flat 51 m V)∧∀g,ob=some g→F g
def FK(w:World)(F:Af)(P:Value)(pv:Nat→Value)(S:St):Prop:=∃ob pb,AV w P ob S.ps∧OwnAt w S.ow pv pb∧(∀g,ob=some g→F g)∧∀i,i<8→∀g,pb i=some g→F g
def cK(c:Cm):Nat:=c.c.toNat-1
def ji(c:Cm):List Value:=[.int .i64 ((cK c:Nat)+1:Int),.int .i64 c.s]
def Gw(w:World)(F:Af)(c:Cm)(waits:Value):Bool→Prop
 | false=>waits=.slice none 0 0
 | true=>∃ob,AO w waits ob 37 2 1 (ji c)∧∀g,ob=some g→F g
def Lu(c:Cm):Rep:=(FN Bs.S.ps c).2
def IM(w:World)(F:Af)(c:Cm)(ans:Value):Bool→Prop
 | false=>ans=.slice none 0 0
 | true=>∃ob v obv,AO w ans ob 121 7 1 (MH (cK c) c.s (Lu c) v)∧AV w v obv (Lu c).ps∧(∀g,ob=some g→F g)∧∀g,obv=some g→F g
structure DR(w:World)(F:Af)(g n me q:Nat)(c:Cm)(ph:Ph)(recs cout:Value)(dn:Dn)(wt:Bool)(m:Nat)(V:Nat→List Value)(an:Bool)(tk:Int)(lim:Nat)
  (gd mb gw gc gfr:Nat) (P:Value) (pv:Nat→Value) (waits out ans:Value):Prop where
 nd:Holds w g 102 (A7 n me gd gw gc gfr P (NC q c dn).ow pv (Rq q dn) (Na q dn) (RF dn) tk waits out ans)
 dk:D5 w F gd gw mb
 lm:mb≤lim
 co:Ba w F gc n me q c ph recs cout
 fr:Au w gfr 197 n me (Oe me (Na q dn))
 st:FK w F P pv (NC q c dn)
 wa:Gw w F c waits wt
 ou:Dv w F out m V
 an:IM w F c ans an
 f:F g∧F gfr
def DJ(w:World)(F:Af)(g n me q:Nat)(c:Cm)(ph:Ph)(recs cout:Value)(dn:Dn)(wt:Bool)(m:Nat)(V:Nat→List Value)(an:Bool)(tk:Int)(lim:Nat):Prop:=
 ∃gd mb gw gc gfr P pv waits out ans,DR w F g n me q c ph recs cout dn wt m V an tk lim gd mb gw gc gfr P pv waits out ans
theorem EO.away{w w':World}{F G:Af}{T:List TypeId}{leads:Value}(h:EO w F leads)(hm:Mv G w w')(hG:∀k,G k→k<w.heap.size→Dx w F T k)(hT:158∈T):EO w' F leads:=by obtain⟨p,c,ob,h1,h2,h3⟩:=h;exact⟨p,c,ob,h1,h2.away h3 hm hG hT,h3⟩
theorem EO.foot{w:World}{F F':Af}{leads:Value}(h:EO w F leads)(hF:∀k,F k→k<w.heap.size→F' k):EO w F' leads:=by obtain⟨p,c,ob,h1,h2,h3⟩:=h;exact⟨p,c,ob,h1,h2,λg hg=>hF g (h3 g hg) (h2.lt g hg)⟩
def Qq:List TypeId:=[158,167,43]
def GV:List TypeId:=[163,248,312,158,167,43]
theorem Um:∀t∈Qq,t∈GV:=by decide
theorem JD.mv{w w':World}{F G:Af}{T:List TypeId}{me q:Nat}{c:Cm}{L:List Ad}{E:List Bf}{leads:Value}{ph:Ph}(h:JD w F me q c L E leads ph)(hm:Mv G w w')(hG:∀k,G k→k<w.heap.size→Dx w F T k)(hT:∀t∈Qq,t∈T):JD w' F me q c L E leads ph:=by
 cases ph with
 | lead A tk=>
  obtain⟨h0,h1,gb,cb,gld,rest,R,ob,h2,h3,h4,h5,h6,h7,h8,h9⟩:=h;exact⟨h0,h1,gb,cb,gld,rest,R,ob,h2,h3,h4.away h7 hm hG (hT _ (by decide)),h5.away h8 hm hG (hT _ (by decide)),h6.away h9 hm hG (hT _ (by decide)),h7,h8,h9⟩
 | fresh=>exact⟨h.1,h.2.1,h.2.2.away hm hG (hT _ (by decide))⟩
 | pre=>exact⟨h.1,h.2.1,h.2.2.away hm hG (hT _ (by decide))⟩
 | com=>exact⟨h.1,h.2.1,h.2.2.away hm hG (hT _ (by decide))⟩
theorem BC.away{w w':World}{F G:Af}{T:List TypeId}{gc n me gl gm nl gi gx ni:Nat}{L:List Ad}{E:List Bf}{leads recs out:Value}(h:BC w gc n me gl gm nl gi gx ni L E leads recs out)(hf:F gc∧F gl∧F gm∧F gi∧F gx)(hm:Mv G w w')(hG:∀k,G k→k<w.heap.size→N9 w F T k)(hT:∀t∈GV,t∈T):BC w' gc n me gl gm nl gi gx ni L E leads recs out:=by obtain⟨f1,f2,f3,f4,f5⟩:=hf;have m1:=h.lg.isMap;have m2:=h.ix.isMap;have hl:=h.lt;exact h.mv hm (λhg=>(hG _ hg hl.1).ne h.hc f1 (hT _ (by decide)) rfl) (λhg=>(hG _ hg hl.2.1).ne h.lg.ix f2 (hT _ (by decide)) rfl) (λhg=>(hG _ hg hl.2.2.1).Yz m1 f3 rfl) (λhg=>(hG _ hg hl.2.2.2.1).ne h.ix.ix f4 (hT _ (by decide)) rfl) (λhg=>(hG _ hg hl.2.2.2.2).Yz m2 f5 rfl)
theorem Ba.mv{w w':World}{F G:Af}{T:List TypeId}{gc n me q:Nat}{c:Cm}{ph:Ph}{recs out:Value}(h:Ba w F gc n me q c ph recs out)(hm:Mv G w w')(hG:∀k,G k→k<w.heap.size→N9 w F T k)(hT:∀t∈GV,t∈T):Ba w' F gc n me q c ph recs out:=by obtain⟨⟨gl,gm,nl,gi,gx,ni,L,E,leads,h1,h2,h3,h4,h5⟩,hf⟩:=h;exact⟨⟨gl,gm,nl,gi,gx,ni,L,E,leads,h1.away ⟨hf,h4⟩ hm hG hT,h2,h3,h4,h5.mv hm (λk h1 h2=>.inl (hG k h1 h2)) (λt ht=>hT t (Um t ht))⟩,hf⟩
theorem Ba.bel{w w':World}{F:Af}{gc n me q:Nat}{c:Cm}{ph:Ph}{recs out:Value}(h:Ba w F gc n me q c ph recs out)(hb:Below w.heap.size w w'):Ba w' F gc n me q c ph recs out:=
 h.mv (G:=λ_=>False) (T:=GV) (.of_below hb) (λ_ h=>h.elim) (λ_ h=>h)
instance {w w':World}{F:Af}{gc n me q:Nat}{c:Cm}{ph:Ph}{recs out:Value}:Bl w w' (Ba w F gc n me q c ph recs out) (Ba w' F gc n me q c ph recs out):=⟨λhb h=>Ba.bel h hb⟩
theorem Au.away{w w':World}{F G:Af}{T:List TypeId}{g n me:Nat}{e:TypeId}{Fr:FrontP.Fr}(h:Au w g e n me Fr)(hf:F g)(hm:Mv G w w')(hG:∀k,G k→k<w.heap.size→Dx w F T k)(he:e∈T):Au w' g e n me Fr:=⟨h.h.away hf hm hG he,h.n7⟩
theorem OwnAt.away{w w':World}{F G:Af}{T:List TypeId}{o:Nat→Ow}{pv:Nat→Value}{pb:Nat→Option Nat}(h:OwnAt w o pv pb)(hF:∀i,i<8→∀g,pb i=some g→F g)(hm:Mv G w w')(hG:∀k,G k→k<w.heap.size→Dx w F T k)(he:69∈T):OwnAt w' o pv pb:=λi hi=>AO.away (h i hi) (hF i hi) hm hG he
theorem FK.mv{w w':World}{F G:Af}{T:List TypeId}{P:Value}{pv:Nat→Value}{S:St}(h:FK w F P pv S)(hm:Mv G w w')(hG:∀k,G k→k<w.heap.size→Dx w F T k)(he:69∈T):FK w' F P pv S:=by obtain⟨ob,pb,h1,h2,h3,h4⟩:=h;exact⟨ob,pb,AO.away h1 h3 hm hG he,h2.away h4 hm hG he,h3,h4⟩
theorem FK.foot{w:World}{F F':Af}{P:Value}{pv:Nat→Value}{S:St}(h:FK w F P pv S)(hF:∀k,F k→k<w.heap.size→F' k):FK w F' P pv S:=by obtain⟨ob,pb,h1,h2,h3,h4⟩:=h;exact⟨ob,pb,h1,h2,λg hg=>hF g (h3 g hg) (AO.lt h1 g hg),λi hi g hg=>hF g (h4 i hi g hg) (AO.lt (h2 i hi) g hg)⟩
theorem Gw.mv{w w':World}{F G:Af}{T:List TypeId}{c:Cm}{waits:Value}{wt:Bool}(h:Gw w F c waits wt)(hm:Mv G w w')(hG:∀k,G k→k<w.heap.size→Dx w F T k)(he:37∈T):Gw w' F c waits wt:=by
 cases wt with
 | false=>exact h
 | true=>
  obtain⟨ob,h1,h2⟩:=h;exact⟨ob,AO.away h1 h2 hm hG he,h2⟩
def P7:List TypeId:=[121,69]
theorem IM.mv{w w':World}{F G:Af}{T:List TypeId}{c:Cm}{ans:Value}{an:Bool}(h:IM w F c ans an)(hm:Mv G w w')(hG:∀k,G k→k<w.heap.size→Dx w F T k)(he:∀t∈P7,t∈T):IM w' F c ans an:=by
 cases an with
 | false=>exact h
 | true=>
  obtain⟨ob,v,obv,h1,h2,h3,h4⟩:=h;exact⟨ob,v,obv,AO.away h1 h3 hm hG (he _ (by decide)),AO.away h2 h4 hm hG (he _ (by decide)),h3,h4⟩
theorem Dv.mv{w w':World}{F G:Af}{T:List TypeId}{out:Value}{m:Nat}{V:Nat→List Value}(h:Dv w F out m V)(hm:Mv G w w')(hG:∀k,G k→k<w.heap.size→Dx w F T k)(he:47∈T):Dv w' F out m V:=by obtain⟨h0,ob,h1,h2⟩:=h;exact⟨h0,ob,h1.away h2 hm hG he,h2⟩
theorem DR.mv{w w':World}{F G:Af}{g n me q:Nat}{c:Cm}{ph:Ph}{recs cout:Value}{dn:Dn}{wt:Bool}{m:Nat}{V:Nat→List Value}{an:Bool}{tk:Int}{lim:Nat}{gd mb gw gc gfr:Nat}{P:Value}{pv:Nat→Value}{waits out ans:Value}(h:DR w F g n me q c ph recs cout dn wt m V an tk lim gd mb gw gc gfr P pv waits out ans)(hm:Mv G w w')(hG:∀k,G k→k<w.heap.size→¬F k):DR w' F g n me q c ph recs cout dn wt m V an tk lim gd mb gw gc gfr P pv waits out ans:=by have hA0:∀(T:List TypeId) k,G k→k<w.heap.size→N9 w F T k:=λT k h1 h2=>.inl (hG k h1 h2);have hA:∀(T:List TypeId) k,G k→k<w.heap.size→Dx w F T k:=λT k h1 h2=>.inl (hA0 T k h1 h2);obtain⟨nd,dk,lm,co,fr,st,wa,ou,an',f1,f2⟩:=h;exact⟨nd.away (T:=[102]) f1 hm (hA _) (by decide),dk.away (T:=GX) hm (hA _) (λ_ h=>h),lm,co.mv (T:=GV) hm (hA0 _) (λ_ h=>h),fr.away (T:=[197]) f2 hm (hA _) (by decide),st.mv (T:=[69]) hm (hA _) (by decide),wa.mv (T:=[37]) hm (hA _) (by decide),ou.mv (T:=[47]) hm (hA _) (by decide),an'.mv (T:=P7) hm (hA _) (λ_ h=>h),f1,f2⟩
theorem DR.bel{w w':World}{F:Af}{g n me q:Nat}{c:Cm}{ph:Ph}{recs cout:Value}{dn:Dn}{wt:Bool}{m:Nat}{V:Nat→List Value}{an:Bool}{tk:Int}{lim:Nat}{gd mb gw gc gfr:Nat}{P:Value}{pv:Nat→Value}{waits out ans:Value}(h:DR w F g n me q c ph recs cout dn wt m V an tk lim gd mb gw gc gfr P pv waits out ans)(hb:Below w.heap.size w w'):DR w' F g n me q c ph recs cout dn wt m V an tk lim gd mb gw gc gfr P pv waits out ans:=
 h.mv (G:=λ_=>False) (.of_below hb) λ_ h=>h.elim
instance {w w':World}{F:Af}{g n me q:Nat}{c:Cm}{ph:Ph}{recs cout:Value}{dn:Dn}{wt:Bool}{m:Nat}{V:Nat→List Value}{an:Bool}{tk:Int}{lim:Nat}{gd mb gw gc gfr:Nat}{P:Value}{pv:Nat→Value}{waits out ans:Value}:Bl w w' (DR w F g n me q c ph recs cout dn wt m V an tk lim gd mb gw gc gfr P pv waits out ans) (DR w' F g n me q c ph recs cout dn wt m V an tk lim gd mb gw gc gfr P pv waits out ans):=⟨λhb h=>DR.bel h hb⟩
theorem DJ.mv{w w':World}{F G:Af}{g n me q:Nat}{c:Cm}{ph:Ph}{recs cout:Value}{dn:Dn}{wt:Bool}{m:Nat}{V:Nat→List Value}{an:Bool}{tk:Int}{lim:Nat}(h:DJ w F g n me q c ph recs cout dn wt m V an tk lim)(hm:Mv G w w')(hG:∀k,G k→k<w.heap.size→¬F k):DJ w' F g n me q c ph recs cout dn wt m V an tk lim:=by obtain⟨gd,mb,gw,gc,gfr,P,pv,waits,out,ans,h⟩:=h;exact⟨gd,mb,gw,gc,gfr,P,pv,waits,out,ans,h.mv hm hG⟩
theorem DJ.bel{w w':World}{F:Af}{g n me q:Nat}{c:Cm}{ph:Ph}{recs cout:Value}{dn:Dn}{wt:Bool}{m:Nat}{V:Nat→List Value}{an:Bool}{tk:Int}{lim:Nat}(h:DJ w F g n me q c ph recs cout dn wt m V an tk lim)(hb:Below w.heap.size w w'):DJ w' F g n me q c ph recs cout dn wt m V an tk lim:=
 h.mv (G:=λ_=>False) (.of_below hb) λ_ h=>h.elim
instance {w w':World}{F:Af}{g n me q:Nat}{c:Cm}{ph:Ph}{recs cout:Value}{dn:Dn}{wt:Bool}{m:Nat}{V:Nat→List Value}{an:Bool}{tk:Int}{lim:Nat}:Bl w w' (DJ w F g n me q c ph recs cout dn wt m V an tk lim) (DJ w' F g n me q c ph recs cout dn wt m V an tk lim):=⟨λhb h=>DJ.bel h hb⟩
theorem JD.foot{w:World}{F F':Af}{me q:Nat}{c:Cm}{L:List Ad}{E:List Bf}{leads:Value}{ph:Ph}(h:JD w F me q c L E leads ph)(hF:∀k,F k→k<w.heap.size→F' k):JD w F' me q c L E leads ph:=by
 cases ph with
 | lead A tk=>
  obtain⟨h0,h1,gb,cb,gld,rest,R,ob,h2,h3,h4,h5,h6,h7,h8,h9⟩:=h;exact⟨h0,h1,gb,cb,gld,rest,R,ob,h2,h3,h4,h5,h6,hF _ h7 h4.lt,hF _ h8 h5.lt,λg hg=>hF g (h9 g hg) (h6.lt g hg)⟩
 | fresh=>exact⟨h.1,h.2.1,h.2.2.foot hF⟩
 | pre=>exact⟨h.1,h.2.1,h.2.2.foot hF⟩
 | com=>exact⟨h.1,h.2.1,h.2.2.foot hF⟩
theorem Ba.foot{w:World}{F F':Af}{gc n me q:Nat}{c:Cm}{ph:Ph}{recs out:Value}(h:Ba w F gc n me q c ph recs out)(hF:∀k,F k→k<w.heap.size→F' k):Ba w F' gc n me q c ph recs out:=by obtain⟨⟨gl,gm,nl,gi,gx,ni,L,E,leads,h1,h2,h3,⟨h4,h5,h6,h7⟩,h8⟩,hf⟩:=h;have hl:=h1.lt;exact⟨⟨gl,gm,nl,gi,gx,ni,L,E,leads,h1,h2,h3,⟨hF _ h4 hl.2.1,hF _ h5 hl.2.2.1,hF _ h6 hl.2.2.2.1,hF _ h7 hl.2.2.2.2⟩,h8.foot hF⟩,hF _ hf hl.1⟩
theorem Dv.foot{w:World}{F F':Af}{out:Value}{m:Nat}{V:Nat→List Value}(h:Dv w F out m V)(hF:∀k,F k→k<w.heap.size→F' k):Dv w F' out m V:=by obtain⟨h0,ob,h1,h2⟩:=h;exact⟨h0,ob,h1,λg hg=>hF g (h2 g hg) (h1.lt g hg)⟩
theorem Gw.foot{w:World}{F F':Af}{c:Cm}{waits:Value}{wt:Bool}(h:Gw w F c waits wt)(hF:∀k,F k→k<w.heap.size→F' k):Gw w F' c waits wt:=by
 cases wt with
 | false=>exact h
 | true=>
  obtain⟨ob,h1,h2⟩:=h;exact⟨ob,h1,λg hg=>hF g (h2 g hg) (h1.lt g hg)⟩
theorem IM.foot{w:World}{F F':Af}{c:Cm}{ans:Value}{an:Bool}(h:IM w F c ans an)(hF:∀k,F k→k<w.heap.size→F' k):IM w F' c ans an:=by
 cases an with
 | false=>exact h
 | true=>
  obtain⟨ob,v,obv,h1,h2,h3,h4⟩:=h;exact⟨ob,v,obv,h1,h2,λg hg=>hF g (h3 g hg) (h1.lt g hg),λg hg=>hF g (h4 g hg) (AO.lt h2 g hg)⟩
theorem DR.foot{w:World}{F F':Af}{g n me q:Nat}{c:Cm}{ph:Ph}{recs cout:Value}{dn:Dn}{wt:Bool}{m:Nat}{V:Nat→List Value}{an:Bool}{tk:Int}{lim:Nat}{gd mb gw gc gfr:Nat}{P:Value}{pv:Nat→Value}{waits out ans:Value}(h:DR w F g n me q c ph recs cout dn wt m V an tk lim gd mb gw gc gfr P pv waits out ans)(hF:∀k,F k→k<w.heap.size→F' k):DR w F' g n me q c ph recs cout dn wt m V an tk lim gd mb gw gc gfr P pv waits out ans:=by obtain⟨nd,dk,lm,co,fr,st,wa,ou,an',f1,f2⟩:=h;exact⟨nd,dk.foot hF,lm,co.foot hF,fr,st.foot hF,wa.foot hF,ou.foot hF,an'.foot hF,hF _ f1 nd.lt,hF _ f2 fr.lt⟩
theorem DJ.foot{w:World}{F F':Af}{g n me q:Nat}{c:Cm}{ph:Ph}{recs cout:Value}{dn:Dn}{wt:Bool}{m:Nat}{V:Nat→List Value}{an:Bool}{tk:Int}{lim:Nat}(h:DJ w F g n me q c ph recs cout dn wt m V an tk lim)(hF:∀k,F k→k<w.heap.size→F' k):DJ w F' g n me q c ph recs cout dn wt m V an tk lim:=by obtain⟨gd,mb,gw,gc,gfr,P,pv,waits,out,ans,h⟩:=h;exact⟨gd,mb,gw,gc,gfr,P,pv,waits,out,ans,h.foot hF⟩
section
variable {w w':World} {F:Af} {g n me q:Nat} {c:Cm} {ph ph':Ph} {recs cout recs' cout':Value} {dn dn':Dn} {wt wt':Bool} {m m':Nat} {V V':Nat→List Value} {an an2:Bool} {tk tk':Int} {lim:Nat}
 {gd mb gw gc gfr:Nat} {P P':Value} {pv pv':Nat→Value} {waits out ans waits' out' ans':Value}
theorem Eh{T:List TypeId}{k:Nat}{t:TypeId}{L:List Value}(h:Holds w k t L)(ht:t∉T):Dx w F T k:=.inl (.inr ⟨t,L,h,ht⟩)
theorem Np{T:List TypeId}{k:Nat}{t:TypeId}{L:List Value}(h:Holds w k t L)(ht:t∉T):N9 w F T k:=.inr ⟨t,L,h,ht⟩
theorem DR.CQ(h:DR w F g n me q c ph recs cout dn wt m V an tk lim gd mb gw gc gfr P pv waits out ans)(hm:Mv (λk=>k=g) w w') (hn:Holds w' g 102 (A7 n me gd gw gc gfr P' (NC q c dn').ow pv' (Rq q dn') (Na q dn') (RF dn') tk' waits' out' ans')) (hk:Na q dn'=Na q dn) (hs:FK w' F P' pv' (NC q c dn')) (hw:Gw w' F c waits' wt') (ho:Dv w' F out' m' V') (ha:IM w' F c ans' an2) :DR w' F g n me q c ph recs cout dn' wt' m' V' an2 tk' lim gd mb gw gc gfr P' pv' waits' out' ans':=by obtain⟨nd,dk,lm,co,fr,st,wa,ou,an',f1,f2⟩:=h;have hA:∀T:List TypeId,102∉T→∀k,k=g→k<w.heap.size→Dx w F T k:=λT ht k hk _=>hk▸Eh nd ht;have hA0:∀T:List TypeId,102∉T→∀k,k=g→k<w.heap.size→N9 w F T k:=λT ht k hk _=>hk▸Np nd ht;exact⟨hn,dk.away (T:=GX) hm (hA _ (by decide)) (λ_ h=>h),lm,co.mv (T:=GV) hm (hA0 _ (by decide)) (λ_ h=>h),hk▸fr.away (T:=[197]) f2 hm (hA _ (by decide)) (by decide),hs,hw,ho,ha,f1,f2⟩
theorem FK.CQ{L:List Value}{S:St}(h:FK w F P pv S)(nd:Holds w g 102 L)(hm:Mv (λk=>k=g) w w'):FK w' F P pv S:=
 h.mv (T:=[69]) hm (λk hk _=>hk▸Eh nd (by decide)) (by decide)
theorem Gw.CQ{L:List Value}(h:Gw w F c waits wt)(nd:Holds w g 102 L)(hm:Mv (λk=>k=g) w w'):Gw w' F c waits wt:=
 h.mv (T:=[37]) hm (λk hk _=>hk▸Eh nd (by decide)) (by decide)
theorem IM.CQ{L:List Value}(h:IM w F c ans an)(nd:Holds w g 102 L)(hm:Mv (λk=>k=g) w w'):IM w' F c ans an:=
 h.mv (T:=P7) hm (λk hk _=>hk▸Eh nd (by decide)) (λ_ h=>h)
theorem Dv.CQ{L:List Value}(h:Dv w F out m V)(nd:Holds w g 102 L)(hm:Mv (λk=>k=g) w w'):Dv w' F out m V:=
 h.mv (T:=[47]) hm (λk hk _=>hk▸Eh nd (by decide)) (by decide)
theorem DR.YE{G:Af}(h:DR w F g n me q c ph recs cout dn wt m V an tk lim gd mb gw gc gfr P pv waits out ans)(hm:Mv G w w')(hG:∀k,G k→k<w.heap.size→(∃t L,Holds w k t L∧t∈GV)∨Gv w k) (hc:Ba w' F gc n me q c ph' recs' cout'):DR w' F g n me q c ph' recs' cout' dn wt m V an tk lim gd mb gw gc gfr P pv waits out ans:=by
 obtain⟨nd,dk,lm,co,fr,st,wa,ou,an',f1,f2⟩:=h;have hA:∀T:List TypeId,(∀t∈GV,t∉T)→∀k,G k→k<w.heap.size→Dx w F T k:=λT ht k hk hl=>by
  rcases hG k hk hl with⟨t,L,h1,h2⟩|h1
  ·exact Eh h1 (ht t h2)
  ·exact .inr h1
 exact⟨nd.away (T:=[102]) f1 hm (hA _ (by decide)) (by decide),dk.away (T:=GX) hm (hA _ (by decide)) (λ_ h=>h),lm,hc,fr.away (T:=[197]) f2 hm (hA _ (by decide)) (by decide),st.mv (T:=[69]) hm (hA _ (by decide)) (by decide),wa.mv (T:=[37]) hm (hA _ (by decide)) (by decide),ou.mv (T:=[47]) hm (hA _ (by decide)) (by decide),an'.mv (T:=P7) hm (hA _ (by decide)) (λ_ h=>h),f1,f2⟩
end
end
abbrev Lt:=Nat × Nat × Nat
structure Cs where
 phs:List Ph
 lets:List Lt
 hist:Nat
 wait:Bool
 tk:Nat
 deriving DecidableEq
def FU(n q:Nat):List Nat:=(List.range (n-1)).map λi=>if i<q then i else i+1
def Bz(k n q:Nat):List Lt:=(FU n q).map λr=>(k,q,r)
def BU(n:Nat):Cs:=⟨List.replicate n .fresh,[],0,false,0⟩
def EM(n q:Nat):Cs:=⟨(List.replicate n Ph.fresh).set q (.lead [] 0),Bz 1 n q,1,true,0⟩
def Jq(n tk:Nat):Cs:=⟨List.replicate n .com,[],2,false,tk⟩
def JV(n q:Nat)(ph:Ph)(m:Lt):Option (Ph × List Lt × Bool):=
 if m.2.1=m.2.2∨n≤m.2.1∨n≤m.2.2 then none else
 match m.1,ph with
 | 1,.fresh=>if m.2.1=q then some (.pre,[(2,m.2.2,q)],false) else none
 | 1,.pre=>if m.2.1=q then some (.pre,[(2,m.2.2,q)],false) else none
 | 2,.lead A tk=>if m.2.1∈A then some (.lead A tk,[],false) else if 5<A.length then none else if n≤A.length+3 then some (.com,Bz 5 n q,true) else some (.lead (m.2.1 :: A) tk,[],false)
 | 2,.com=>if m.2.2=q then some (.com,[],false) else none
 | 5,.pre=>some (.com,[],false)
 | 5,.com=>some (.com,[],false)
 | _,_=>none
def OE(s:Cs)(rest:List Lt)(i:Nat)(ph:Ph)(out:List Lt)(an:Bool):Option Cs:=
 if 1000≤rest.length+out.length then none else
 if an then (if s.wait=true∧s.hist=1 then some ⟨s.phs.set i ph,rest++out,2,false,s.tk⟩ else none)
 else some ⟨s.phs.set i ph,rest++out,s.hist,s.wait,s.tk⟩
def Ei(n q:Nat)(keep:Bool)(s:Cs):Option Cs:=
 match s.lets with
 | []=>none
 | m :: rest=>(JV n q (s.phs.getD m.2.2 .fresh) m).bind λr=>OE s (if keep then m :: rest else rest) m.2.2 r.1 r.2.1 r.2.2
def Tf(i:Nat)(s:Cs):Option Cs:=
 if 5≤s.tk then none else match s.phs.getD i .com with
 | .fresh=>some { s with tk:=s.tk+1 }
 | .lead A 0=>some { s with phs:=s.phs.set i (.lead A 1),tk:=s.tk+1 }
 | _=>none
def NG(n q:Nat)(s:Cs):Option Cs:=(Ei n q true s).bind (Ei n q false)
def I9(f:Cs→Option Cs):Nat→Cs→Option Cs
 | 0,s=>some s
 | k+1,s=>(I9 f k s).bind f
def Vl(n q:Nat)(f:Cs→Option Cs)(N:Nat):Bool:=
 (List.range N).all (λi=>match I9 f i (EM n q) with
  | some s=>!s.lets.isEmpty
  | none=>false)&&I9 f N (EM n q)==some (Jq n 0)
theorem Qy:∀n∈[3,5,7],∀q∈List.range n,Vl n q (Ei n q false) (3*(n-1))=true:=by decide +kernel
theorem PQ:∀n∈[3,5,7],∀q∈List.range n,Vl n q (NG n q) (4*(n-1))=true:=by decide +kernel
def Za(g:Nat)(Q3:World→Prop)(W:World):Prop:=
 W.cell? ⟨g,69,none⟩=some (.int .i64 8)∧∃(d:Nat→Int) (P:Value) (o:Nat→Ow) (pv:Nat→Value) (L:List Value),Holds W g 102 L∧(∀(j:Nat) u,(DF d)[j]?=some u→L[55+j]?=some u)∧(∀(j:Nat) u,(Es P o pv)[j]?=some u→L[6+j]?=some u)∧Bq P∧(∀i,i<8→Bq (pv i)) ∧
  (∀W',Below W.heap.size W W'→Calls prog 94 #[.agg (DF d).toArray,.agg (Es P o pv).toArray] W' λe w'=>∃v' k,e=.returned v'∧(1≤k∨v'=.slice none 0 0∧k=0)∧k≤16000∧Aj w' W.heap.size v' k∧Below W'.heap.size W' w') ∧
  (∀W' v len,Below W.heap.size W W'→Aj W' W.heap.size v len→len≤16000→(1≤len∨v=.slice none 0 0∧len=0)→Calls prog 93 #[.pointer (some ⟨g,0,none⟩),v] W' λe w'=>e=.returned (.bool true)∧Q3 w')
theorem XV(g:Nat)(w:World)(R1 R2 R3 Q3 R4:World→Prop) (hbad:w.cell? ⟨g,74,none⟩=some (.bool false)) (KD:Calls prog 90 #[.pointer (some ⟨g,0,none⟩)] w λe w'=>e=.returned (.bool true)∧R1 w') (KR:∀W,R1 W→Calls prog 91 #[.pointer (some ⟨g,0,none⟩)] W λe w'=>e=.returned (.tuple #[])∧R2 w') (KA:∀W,R2 W→Calls prog 92 #[.pointer (some ⟨g,0,none⟩)] W λe w'=>e=.returned (.tuple #[])∧R3 w') (hs:∀W,R3 W→(∃x:Int,W.cell? ⟨g,69,none⟩=some (.int .i64 x)∧x<8∧∀W',Below W.heap.size W W'→Q3 W')∨Za g Q3 W) (KT:∀W,Q3 W→Calls prog 95 #[.pointer (some ⟨g,0,none⟩)] W λe w'=>e=.returned (.tuple #[])∧R4 w') :Calls prog 53 #[.pointer (some ⟨g,0,none⟩)] w λe w'=>e=.returned (.tuple #[])∧R4 w':=by
 have KD:=qh KD;have KR:=qh KR;have KA:=qh KA;have KT:=qh KT;have hs:=qh hs;go_in;go_wp2_with fail;refine KD.mono ?_;rintro e w1 ⟨rfl,h1⟩;have H1:=qh h1;clear h1 hbad KD;go_wp2_with fail;refine Ac (KR.o _ H1.o) ?_;rintro w2 h2;have H2:=qh h2;clear h2 H1 KR;go_wp2_with fail;refine Ac (KA.o _ H2.o) ?_;rintro w3 h3;have H3:=qh h3;clear h3 H2 KA;go_upto_region 3 with(fail);rcases hs.out _ H3.o with⟨x,h69,hx,hq⟩|hk
 ·have hx':¬(8:Int)≤x:=by omega
  have HQ:=qh hq;clear hx hq H3 hs;go_quiet (fail);have H3:=qh (HQ.o _ (BV _ w3 nq));clear h69 hx' HQ;generalize w3.drewN nq=W2 at H3 ⊢;go_wp2_with fail;refine Ac (KT.o _ H3.o) ?_;rintro w4 h4;have H4:=qh h4;clear h4 H3 KT;go_wp2_with fail;exact bE ⟨rfl,H4.o⟩
 ·obtain⟨h69,d,P,o,pv,L,hn,hd,hst,hP,hpv,hput,hkeep⟩:=hk;have HN:=qh hn;have HDD:=qh hd;have HSS:=qh hst;have HPU:=qh hput;have HKE:=qh hkeep;have h69':L[69]?=some (.int .i64 8):=by rw[←hn.cell 69];exact h69
  have HR:=qh (λ(w':World) (h:Below w3.drew.heap.size w3.drew w')=>(((HN.bel (AQ _ w3)).bel h).Ci 55 HDD.o));have HR6:=qh (λ(w':World) (h:Below w3.drew.heap.size w3.drew w')=>(((HN.bel (AQ _ w3)).bel h).Ci 6 HSS.o));have HBW:=qh (show Below w3.heap.size w3 w3.drew from AQ _ w3);have HSZ:=qh (show w3.heap.size=w3.drew.heap.size from rfl);clear hn hd hst hput hkeep h69 H3 hs;have HN:=ET (AQ _ w3) HN;refine EQ [16] 19 (λhSn=>?_);generalize w3.drew=wd at HN HR HR6 HBW HSZ hSn ⊢;simp only[List.replicate];refine Dz 0 ?_;refine He 3 [4,5,6,7,8,9,10,11,12,13,14,15,16,17,18] (some 18) (?vg4) rfl (Or.inl ⟨by rfl,?hg4⟩) hSn ?rg4;case hg4=>
   intro w hSw;have b69:=(HN.bel hSw).cell 69;rw[h69'] at b69;go_simp;try with_reducible rfl
  simp only[Act.put,zA,zB,zC];refine Jr 4 ?_;refine FT 8 ?_;refine He 10 [15,16,17,18] (some 25) (.agg (DF d).toArray) rfl (yieldsIf_load_mid (by rfl) 41 _ rfl g 55 rfl (DF d) _ (λw hSw=>HR.o w hSw) underlying41 rfl (by as_aux_lemma=>kernel_rfl)) hSn ?rg11;simp only[Act.put,zA,zB,zC];refine Dz 11 ?_;refine He 14 [15,16,17,18] (some 29) (.agg (Es P o pv).toArray) rfl (yieldsIf_load_mid (by rfl) 66 _ rfl g 6 rfl (Es P o pv) _ (λw hSw=>HR6.o w hSw) underlying66 rfl (by as_aux_lemma=>kernel_rfl)) hSn ?rg15;simp only[Act.put,zA,zB,zC];refine BH 15 rfl (λK hK=>?_);go_simp;refine(HPU.o _ (AB HBW.o hSn)).mono ?_;rintro e w5 ⟨v5,len5,rfl,h51,h52,ho5,hb⟩;have hSn:=AB hSn hb;have HO5:=qh ho5;have hB5:=AB HBW.o hSn;clear ho5;clear hb;refine BN hK ?_;clear hK;refine BH 16 rfl (λK hK=>?_);go_simp;refine Ac (HKE.o _ v5 len5 hB5 HO5.o h52 h51) ?_;rintro w7 hq7;have H3:=qh hq7;clear hq7;refine BN hK ?_;clear hK;refine FT 17 ?_ (hS:=IJ);refine Dl ?_;clear hSn HN;go_wp2_with fail;refine Ac (KT.o _ H3.o) ?_;rintro w4 h4;have H4:=qh h4;clear h4 H3 KT;go_wp2_with fail;exact bE ⟨rfl,H4.o⟩
section
section
variable {P:Program} {ops:Array Oper} {Q:Exit→Act→World→Prop}
theorem IL{rest:List Oper}{o:Oper}{a:Act}{w:World}(hw:Region.wanted o (yielded ops a.tmps)=true)(t:TypeId)(i j:Nat)(q r:Tmp)(ho:o.op=.build t #[(i,.tmp q),(j,.tmp r)])(u v:Value)(hu:a.eval (.tmp q)=u)(hv:a.eval (.tmp r)=v) (z:Value) (hr:∀w,(Instr.build t #[(i,u),(j,v)]).run P w=.ok z w) (h:wpList P ops Q rest (a.put o.dst z) w):wpList P ops Q (o :: rest) a w:=
 wpList_step λK hK=>by rw[if_pos hw];unfold Oper.wp execOp;simp only[ho,List.map_toArray,List.map_cons,List.map_nil,hu,hv];rw[Sem.run_bind,hr];exact hK _ _ h
end
variable [In]
def G8(q:Nat)(c:Cm):List Value:=.int .i64 q :: .int .i64 In.sl :: cellL 3 c false
theorem Uk(q:Nat)(c:Cm):∀u∈G8 q c,u.oneCell'=true:=by simp[G8,cellL,Value.oneCell']
theorem fF(q:Nat)(c:Cm):∀W:World,(Instr.build 267 #[(0,.agg #[.int .i64 q,.int .i64 In.sl]),(1,.agg (cellL 3 c false).toArray)]).run prog W=.ok (.agg (G8 q c).toArray) W:=λ_=>by kernel_rfl
def ZX(b:Bool)(P:List (Int × Int))(q:Nat)(c:Cm)(i:Nat)(w:World)(v:Value):Prop:=∃ob,(¬(b=true∧((q:Int),In.sl)∈P.take i)→v=.slice none 0 0)∧((b=true∧((q:Int),In.sl)∈P.take i)→AO w v ob 267 23 1 (FQ q c))
theorem ZX.bel{b:Bool}{P:List (Int × Int)}{q:Nat}{c:Cm}{i:Nat}{w w':World}{v:Value}(h:ZX b P q c i w v)(hb:Below w.heap.size w w'):ZX b P q c i w' v:=h.imp λ_ h=>⟨h.1,λh1=>(h.2 h1).bel hb⟩
instance {b:Bool}{P:List (Int × Int)}{q:Nat}{c:Cm}{i:Nat}{w w':World}{v:Value}:Bl w w' (ZX b P q c i w v) (ZX b P q c i w' v):=⟨λhb h=>ZX.bel h hb⟩
theorem ZX.skip{b:Bool}{P:List (Int × Int)}{q:Nat}{c:Cm}{i:Nat}{w:World}{v:Value}(h:ZX b P q c i w v)(hi:i<P.length)(hx:¬(b=true∧P[i]=((q:Int),In.sl))):ZX b P q c (i+1) w v:=by
 obtain⟨ob,h1,h2⟩:=h;have e:(b=true∧((q:Int),In.sl)∈P.take (i+1)) ↔ (b=true∧((q:Int),In.sl)∈P.take i):=by
  rw[List.take_add_one,List.getElem?_eq_getElem hi];constructor
  ·rintro⟨h1,h2⟩;rcases List.mem_append.1 h2 with h2|h2
   ·exact⟨h1,h2⟩
   ·simp at h2;exact absurd ⟨h1,h2.symm⟩ hx
  ·rintro⟨h1,h2⟩;exact⟨h1,List.mem_append.2 (.inl h2)⟩
 exact⟨ob,λh=>h1 λh3=>h (e.2 h3),λh=>h2 (e.1 h)⟩
theorem PN{α:Type}:∀(P:List α) (i:Nat) (hi:i<P.length),P.Nodup→P[i]∉P.take i
 | [],_,h,_=>by cases h
 | x :: P,0,_,_=>by simp
 | x :: P,i+1,h,hn=>by
  obtain⟨h1,h2⟩:=List.nodup_cons.1 hn;rw[List.getElem_cons_succ,List.take_succ_cons];intro hc;rcases List.mem_cons.1 hc with hc|hc
  ·exact h1 (hc▸List.getElem_mem _)
  ·exact PN P i _ h2 hc
theorem SS(P:List (Int × Int))(rest:List Value)(i:Nat)(hi:i<P.length)(r s:Int)(hx:P[i]=(r,s)):∀j v,([.int .i64 r,.int .i64 s]:List Value)[j]?=some v→(insL P++rest)[i*2+j]?=some v:=by
 intro j v hv;have hj:j<2:=(List.getElem?_eq_some_iff.1 hv).1;rw[List.getElem?_append_left (by rw[GM];omega),Ol P i j hi hj];have:(P.toArray[i]!)=(r,s):=by rw[getElem!_pos _ _ (by simpa using hi)];simpa using hx
 rw[this,←hv];rcases(show j=0∨j=1 by omega) with rfl|rfl<;>rfl
theorem J4(g n me gd gw gc gl gm nl gi gx ni gfr q:Nat)(st:Int)(c:Cm)(sm:Bool)(b:Bool)(L:List Ad)(E:List Bf)(leads recs cout:Value)(P:Value)(o:Nat→Ow)(pv:Nat→Value)(d kp:Nat→Int)(since tk:Int)(waits out ans:Value)(w:World) (nd:Holds w g 102 (A7 n me gd gw gc gfr P o pv d kp since tk waits out ans)) (hc:BC w gc n me gl gm nl gi gx ni L E leads recs cout) (hl:L.length≤1000) (hd:∀r,0≤d r∧d r≤100000) (hall:∀e∈L,e.s≤d e.r.toNat∨(e=⟨q,In.sl,cellL st c sm⟩∧d q<In.sl)) (hb:(b=true∧st=3∧sm=false∧(⟨q,In.sl,cellL 3 c false⟩:Ad)∈L∧d q<In.sl)∨(b=false∧st=1)) :Calls prog 164 #[.pointer (some ⟨g,0,none⟩)] w λe w'=>∃R ob,e=.returned R∧(b=false→R=.slice none 0 0)∧(b=true→AO w' R ob 267 23 1 (FQ q c))∧Below w.heap.size w w':=by
 have KC:=qh (QB gc n me gl gm nl gi gx ni L E leads recs cout w hc hl);have KX:=qh (λe (he:e∈L) W (h:Holds W gc 163 (Az n me gl gi leads recs cout)) hl=>QC gc n me gl gm nl gi e.r e.s e.L L leads recs cout W h hl he);have HN:=qh nd;have HC:=qh hc.hc;have HL:=qh hc.lg;have HA:=qh hall;have HGD:=qh hc.lg.good;have HRW:=qh hc.lg.rows;have HBB:=qh hb;have HDD:=qh hd;clear nd hc hall hb hd;go_in;have n4:=Ag HN.o 4;go_wp2_with fail;refine KC.mono ?_;rintro e w1 ⟨v1,rfl,⟨p1,c1,PP,ob1,rfl,ho1,hob1,hk1⟩,hb1⟩;have HS:=qh ho1;have HK:=qh hk1;have HB:=qh hb1;have hPl:PP.length≤L.length:=hk1.len;obtain⟨HN,HC,HL⟩:=Du hb1 HN HC HL;clear ho1 hob1 hk1 hb1 KC n4;go_wp2_with fail;go_loopw [14,3] (λvi v3 wr=>∃i:Nat,i≤PP.length∧vi=.int .i64 i∧ZX b PP q c i wr v3∧Base w1.heap.size w1 wr) (λvi _ _=>PP.length - (intOf vi).toNat);case atStart=>exact⟨0,by omega,rfl,⟨none,λ_=>rfl,λh=>(by simp at h)⟩,Base.start _⟩
 case round=>
  obtain⟨i,hi,rfl,hR,hbs⟩:=hrel;have HR:=qh hR;have HW:=qh hbs;have HN:=qh (HN.bel hbs.below);have HC:=qh (HC.bel hbs.below);have HL:=qh (HL.bel hbs.below);have HS:=qh (HS.bel hbs.below);clear hR hbs;by_cases h1:i<PP.length
  ·obtain⟨gs,cs,rs,hv1,rfl,hcs1,hcs2,hgs,_⟩:=HS.blk (by omega);cases hv1;obtain⟨r,s,hx⟩:∃r s,PP[i]=(r,s):=⟨_,_,rfl⟩;obtain⟨⟨er,es,V⟩,he,hek⟩:=(HK.o.mem (r,s)).1 (hx▸List.getElem_mem h1);have hge:=HGD.o _ he;simp only[Prod.mk.injEq] at hek hge;obtain⟨rfl,rfl⟩:=hek;obtain⟨k,rfl⟩:∃k:Nat,er=k:=⟨er.toNat,by omega⟩;have hk7:k<7:=by omega
   have HRR:=qh (show wr.rangeAt gs (i*2) [.int .i64 k,.int .i64 es] from hgs.Ci (i*2) (SS PP rs i h1 k es hx));have KX:=qh (show ∀W,Holds W gc 163 (Az n me gl gi leads recs cout)→Ap W gl gm nl L→_ from KX.o _ he);have hA:=HA.o _ he;simp only[Int.toNat_natCast] at hA;have hV1:V.length=21:=(HRW.o _ he).1;have hV2:V.toArray.all (·.oneCell')=true:=(HRW.o _ he).2;have HX:=qh hx;have HE:=qh he;simp only at KX;clear hgs hx he;go_upto_region 5 with(first|(refine lM (i*2) HRR.o ?_)|(refine Ai rfl 37 _ _ rfl rfl _ _ ([.int .i64 k,.int .i64 es]:List Value).toArray rfl rfl (by kernel_rfl) (by kernel_rfl) (by simp[Value.oneCell']) ?_));go_name_world W0 hW0;have HI:=qh (show Holds W0 wr.heap.size 37 [.int .i64 k,.int .i64 es] by rw[←hW0];exact AA wr _ _);have hbV:Below wr.heap.size wr W0:=by rw[←hW0];exact(Below.refl _ _).alloc (Nat.le_refl _) _
   obtain⟨HN,HC,HL,HW,HR⟩:=Fq hbV HN HC HL HW HR;clear hW0 HRR hbV;refine' DN [⟨9,10,6,25,45,zero21,V⟩] (by kernel_rfl) (by kernel_rfl) (by kernel_rfl) ?z11 ?z21 ?bd1 _ ?h1 ?val1 ?fin1;case z11=>
    intro x hx;simp only[List.mem_cons,List.not_mem_nil,or_false] at hx;subst hx
    ·exact⟨.agg (zero21:List Value).toArray,by kernel_rfl,rfl⟩
   case z21=>
    intro x hx;simp only[List.mem_cons,List.not_mem_nil,or_false] at hx;subst hx
    ·exact⟨by show _=some V.length;rw[hV1];kernel_rfl,hV1.symm,hV2⟩
   case bd1=>
    intro x hx;simp only[List.mem_cons,List.not_mem_nil,or_false] at hx;subst hx
    ·simp
   case h1=>
    intro W0 hW0;obtain⟨HN,HC,HL,HI,HW,HR⟩:=FI hW0 HN HC HL HI HW HR;have c0_4:=Jt HN.o 4;obtain⟨c1_0,c1_1⟩:=Jo HI.o 0 1;simp only[List.map_cons,List.map_nil,A8];repeat go_big_quiet_step (first|(go_at_call 176;with_reducible exact AL λW2 h2=>KX.o W2 (HC.o.bel h2) (HL.o.bel h2)))
    refine wpQuiet_nil ?_;intro w' _;exact rfl
   case val1=>
    intro x hx;simp only[List.mem_cons,List.not_mem_nil,or_false] at hx;subst hx
    ·rfl
   intro β w4 hb hx hne;have hx6:=hx _ List.mem_cons_self;clear hx hne;simp only[] at hx6;simp only[Dk,List.foldl,Act.put,List.setIfInBounds_toArray,List.set_cons_zero,List.set_cons_succ];obtain⟨HN,HC,HL,HI,HW,HR⟩:=FI hb HN HC HL HI HW HR;generalize β 6=g6 at hx6 ⊢;have H6:=qh hx6.2;have hge6:=hx6.1;clear hx6;clear hb;have hs1:=HW.le;go_upto_region 6 with(fail);have hdq:=HN.cell (55+k);rw[IK _ _ _ _ _ _ _ _ _ _ _ _ _ _ _ _ k hk7] at hdq;obtain⟨i0,i1⟩:=CU HI.o 0 1;have hki:(k:Int)<7:=by omega
   have hix:=HX.o;rcases hA with hA|⟨hA,hA2⟩
   ·have hA':¬d k<es:=by omega
    have hne:¬(b=true∧PP[i]=((q:Int),In.sl)):=by
     rintro⟨hb1,hb2⟩;rw[hix] at hb2;simp only[Prod.mk.injEq] at hb2;obtain⟨h3,h4⟩:=hb2;obtain rfl:k=q:=by omega
     rcases HBB.o with⟨_,_,_,_,h5⟩|⟨h5,_⟩
     ·omega
     ·rw[h5] at hb1;cases hb1
    have HNE:=qh hne;generalize d k=dk at hA' hA hdq;clear hA hne hix;go_quiet (fail);have HR:=qh ((HR.bel (BV _ w4 nq)).skip h1 HNE.o);have HW:=ET (BV _ w4 nq) HW;clear hdq i0 i1 hA';generalize w4.drewN nq=W2 at HR HW ⊢;go_wp2_with fail;go_roundw;case rel=>exact⟨i+1,by omega,by go_num,HR.o,HW.o⟩
    case measure=>simp[intOf];omega
   ·simp only[Ad.mk.injEq] at hA;obtain⟨hkq,rfl,rfl⟩:=hA;obtain rfl:k=q:=by omega
    have hA':d k<In.sl:=hA2;have y0:=Ag H6.o 0;clear hA2 hkq;rcases HBB.o with⟨rfl,rfl,rfl,hm,_⟩|⟨rfl,rfl⟩
    ·obtain⟨ob,hr1,hr2⟩:=HR.o;have hr3:=hr1 (λh=>PN PP i h1 HK.o.nd (by rw[hix];exact h.2));subst hr3;have hmem:((k:Int),In.sl)∈PP.take (i+1):=by rw[List.take_add_one,List.getElem?_eq_getElem h1,hix];exact List.mem_append.2 (.inr (by simp))
     have HMM:=qh hmem;generalize d k=dk at hA' hdq;clear hr1 hr2 hm hmem hix;go_quiet (fail);obtain⟨HI,H6,HW⟩:=Du (BV _ w4 nq) HI H6 HW;clear i0 i1 y0 hdq hA';generalize w4.drewN nq=W2 at HI H6 HW ⊢;obtain⟨i0,i1⟩:=CU HI.o 0 1;have HR6:=qh H6.AY;go_wp2_with (first|(refine lM 0 HR6.o ?_)|(with_reducible show wpList _ _ _ (_ :: _) _ _;refine IL (by kernel_rfl) 267 0 1 _ _ rfl (.agg #[.int .i64 k,.int .i64 In.sl]) (.agg (cellL 3 c false).toArray) rfl rfl (.agg (G8 k c).toArray) (fF k c) ?_)|(refine F8 rfl 262 267 (.agg (G8 k c).toArray) (G8 k c) rfl rfl rfl (λw=>by kernel_rfl) ?_;intro wa hna hba;have HNA:=qh hna;have HBA:=qh (HW.bel hba);clear hna hba)|(at_builtin;refine aS (.agg Yn.toArray) 23 216 (AO.nil _ _ _) (G8 k c) (HNA.reads 0 _ (λj v hv=>by rw[Nat.zero_add];exact hv)) ?_ (Uk k c);intro v5 ob5 w5 ho5 hob5 hm5;have HO5:=qh (show AO w5 v5 ob5 267 23 1 (FQ k c) from ho5);have HB5:=qh (HBA.mv hm5 (λk hk=>by cases hk));clear ho5 hob5 hm5));go_roundw;case rel=>exact⟨i+1,by omega,by go_num,⟨ob5,λh=>absurd ⟨rfl,HMM.o⟩ h,λ_=>HO5.o⟩,HB5.o⟩
     case measure=>simp[intOf];omega
    ·generalize d k=dk at hA' hdq;clear hix;go_quiet (fail);have HR:=qh ((HR.bel (BV _ w4 nq)).skip h1 (λh=>by cases h.1));have HW:=ET (BV _ w4 nq) HW;clear hdq i0 i1 hA' y0;generalize w4.drewN nq=W2 at HR HW ⊢;go_wp2_with fail;go_roundw;case rel=>exact⟨i+1,by omega,by go_num,HR.o,HW.o⟩
     case measure=>simp[intOf];omega
  ·obtain rfl:i=PP.length:=by omega
   obtain⟨ob,hr1,hr2⟩:=HR.o;have h3:=qh (show b=false→u3=.slice none 0 0 from λh=>hr1 λh2=>by rw[h] at h2;cases h2.1);have h4:=qh (show b=true→AO wr u3 ob 267 23 1 (FQ q c) from λh=>by
    rcases HBB.o with⟨_,_,_,hm,_⟩|⟨h5,_⟩
    ·exact hr2 ⟨h,by rw[List.take_length];exact(HK.o.mem _).2 ⟨_,hm,rfl⟩⟩
    ·rw[h5] at h;cases h)
   have HB2:=qh (HB.trans (HW.below.mono HB.size));clear hr1 hr2;go_wp2_with fail;go_ret;exact⟨_,ob,rfl,h3.out,h4.out,HB2.o⟩
end
end Go.Proofs.YtimdpiifpibgfaaGreatDoor
