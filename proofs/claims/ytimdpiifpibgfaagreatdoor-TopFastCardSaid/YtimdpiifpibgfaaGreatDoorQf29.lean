/- For every input the law TopFast returns true (a part of the proof). Condition: the listed variables start as the program's text lays them. -/
import Derived.Test.YtimdpiifpibgfaaGreatDoorQf28
set_option linter.unusedVariables false
set_option linter.unusedSimpArgs false
set_option maxRecDepth 20000
set_option maxHeartbeats 16000000
namespace Go.Proofs.YtimdpiifpibgfaaGreatDoor
section
open Go.RowKit Go.Maps
inductive Ph where
 | fresh|lead (A:List Nat) (tk:Nat)|pre|com
 deriving DecidableEq
def bnd:Ph→Nat
 | .fresh=>0
 | .lead _ _=>1
 | .pre=>1
 | .com=>2
def ansOf (A:List Nat) (r:Nat):Int:=if r∈A then 1 else 0
def LeadAt (w:World) (F:Foot) (me q:Nat) (c:Cm) (L:List LEnt) (E:List Ent) (leads:Value):Ph→Prop
 | .fresh=>L=[]∧E=[]∧leads=.slice none 0 0
 | .lead A tk=>q=me∧L=[⟨q,1,cellL 1 c true⟩]∧∃ gb cb gld rest R ob,leads=.slice (some ⟨gb,0,none⟩) 1 cb∧(1≤cb∧cb≤maxLen)∧Holds w gb 158 (.pointer (some ⟨gld,0,none⟩) :: rest)∧Holds w gld 167 (leadL q c (ansOf A) R A.length tk)∧OwnS w R ob 43 8 A.length (flat 8 A.length fun _=>attr0)∧F gb∧F gld∧(∀ g,ob=some g→F g)
 | .pre=>L=[⟨q,1,cellL 1 c true⟩]∧leads=.slice none 0 0
 | .com=>L=[⟨q,1,cellL 3 c false⟩]∧∃ p cb,leads=.slice p 0 cb
structure CoreSt (w:World) (F:Foot) (gc n me q:Nat) (c:Cm) (ph:Ph) (recs out:Value):Prop where
 ex:∃ gl gm nl gi gx ni L E leads,CoreAt w gc n me gl gm nl gi gx ni L E leads recs out∧nl≤bnd ph∧ni≤bnd ph∧(F gl∧F gm∧F gi∧F gx)∧LeadAt w F me q c L E leads ph
 f:F gc
def RecS (w:World) (B r:Nat) (recs:Value):Prop:=(r=0∧recs=.slice none 0 0)∨(r=1∧∃ gr cr m rv rest,recs=.slice (some ⟨gr,0,none⟩) 1 cr∧Holds w gr 127 (rv :: rest)∧Own8 w B rv m∧(1≤m∧m≤480)∧B≤gr)
def LetS (w:World) (F:Foot) (out:Value) (m:Nat) (V:Nat→List Value):Prop:=(m=0→out=.slice none 0 0)∧∃ ob,OwnS w out ob 47 51 m (flat 51 m V)∧∀ g,ob=some g→F g
def StateIs (w:World) (F:Foot) (q:Nat) (c:Cm) (P:Value) (sq v:Int) (d:Nat→Int) (since:Int):Bool→Prop
 | false=>P=.slice none 0 0∧sq=0∧v=0∧d=(fun _=>0)∧since=0
 | true=>(∃ ob,Pairs w P ob c∧∀ g,ob=some g→F g)∧sq=1∧v=verOf c∧d=oneD q∧since=1
def instL:List Value:=[.int .i64 1,.int .i64 1]
def WaitIs (w:World) (F:Foot) (waits:Value):Bool→Prop
 | false=>waits=.slice none 0 0
 | true=>∃ ob,OwnS w waits ob 37 2 1 instL∧∀ g,ob=some g→F g
def ansL (c:Cm):List Value:=[.int .i64 1,.int .i64 1,.int .i64 0,.bool false,.string ⟨#[]⟩,.int .i64 (verOf c),.slice none 0 0]
def AnsIs (w:World) (F:Foot) (c:Cm) (ans:Value):Bool→Prop
 | false=>ans=.slice none 0 0
 | true=>∃ ob,OwnS w ans ob 121 7 1 (ansL c)∧∀ g,ob=some g→F g
structure NodeI (w:World) (F:Foot) (g n me q:Nat) (c:Cm) (ph:Ph) (recs cout:Value) (dn wt:Bool) (m:Nat) (V:Nat→List Value) (an:Bool) (tk:Int) (lim:Nat)
  (gd gfl gby mb gw gc gfr:Nat) (kept:Int) (P:Value) (sq v:Int) (d:Nat→Int) (since:Int) (waits out ans:Value):Prop where
 nd:Holds w g 102 (nodeL n me gd gw gc gfr P sq v d since tk waits out ans)
 dk:Disk1 w gd gfl gby mb kept
 lm:mb≤lim
 wl:Holds w gw 208 (walL gd 1 1)
 co:CoreSt w F gc n me q c ph recs cout
 fr:FrontAt w gfr 197 n me (fun _ _=>0)
 st:StateIs w F q c P sq v d since dn
 wa:WaitIs w F waits wt
 ou:LetS w F out m V
 an:AnsIs w F c ans an
 f:F g∧F gd∧F gfl∧F gby∧F gw∧F gfr
def NodeG (w:World) (F:Foot) (g n me q:Nat) (c:Cm) (ph:Ph) (recs cout:Value) (dn wt:Bool) (m:Nat) (V:Nat→List Value) (an:Bool) (tk:Int) (lim:Nat):Prop:=
 ∃ gd gfl gby mb gw gc gfr kept P sq v d since waits out ans,NodeI w F g n me q c ph recs cout dn wt m V an tk lim gd gfl gby mb gw gc gfr kept P sq v d since waits out ans
def Away (w:World) (F:Foot) (T:List TypeId) (k:Nat):Prop:=¬ F k∨∃ t L,Holds w k t L∧t∉T
theorem Away.ne {w:World} {F:Foot} {T:List TypeId} {k a:Nat} {t:TypeId} {L:List Value} (h:Away w F T k) (ha:Holds w a t L) (hf:F a) (ht:t∈T):k≠a:=by
 rintro rfl
 rcases h with h|⟨t',L',h,hn⟩
 ·exact h hf
 ·exact absurd rfl (h.ne_of ha (fun e=>hn (e▸ht)))
def AwayC (w:World) (F:Foot) (T:List TypeId) (k:Nat):Prop:=Away w F T k∨IsMapB w k
theorem AwayC.ne {w:World} {F:Foot} {T:List TypeId} {k a:Nat} {t:TypeId} {L:List Value} (h:AwayC w F T k) (ha:Holds w a t L) (hf:F a) (ht:t∈T):k≠a:=by
 rcases h with h|hm
 ·exact h.ne ha hf ht
 ·exact (ownsMap_ne hm ha).symm
theorem Away.ne_map {w:World} {F:Foot} {T:List TypeId} {k b:Nat} (h:Away w F T k) (hm:IsMapB w b) (hf:F b):k≠b:=by
 rintro rfl
 rcases h with h|⟨t',L',h,hn⟩
 ·exact h hf
 ·exact absurd rfl (ownsMap_ne hm h)
theorem OwnS.away {w w':World} {F G:Foot} {T:List TypeId} {v:Value} {ob:Option Nat} {e:TypeId} {s n:Nat} {xs:List Value} (h:OwnS w v ob e s n xs) (hF:∀ g,ob=some g→F g) (hm:Mv G w w') (hG:∀ k,G k→k<w.heap.size→AwayC w F T k) (he:e∈T):OwnS w' v ob e s n xs:=by
 rcases h.cases with⟨rfl,rfl,rfl,rfl⟩|⟨g,cap,rest,rfl,rfl,h1,h2,h3,h4⟩
 ·exact OwnS.nil _ _ _
 ·exact h.mv hm fun g' hg' hGg=>by cases hg';exact (hG g hGg h3.lt).ne h3 (hF g rfl) he rfl
theorem Holds.away {w w':World} {F G:Foot} {T:List TypeId} {a:Nat} {t:TypeId} {L:List Value} (h:Holds w a t L) (hf:F a) (hm:Mv G w w') (hG:∀ k,G k→k<w.heap.size→AwayC w F T k) (he:t∈T):Holds w' a t L:=
 h.mv hm fun hGa=>(hG a hGa h.lt).ne h hf he rfl
def leadTs:List TypeId:=[158,167,43]
def coreTs:List TypeId:=[163,248,312,158,167,43]
theorem leadTs_sub:∀ t∈leadTs,t∈coreTs:=by decide
theorem LeadAt.mv {w w':World} {F G:Foot} {T:List TypeId} {me q:Nat} {c:Cm} {L:List LEnt} {E:List Ent} {leads:Value} {ph:Ph} (h:LeadAt w F me q c L E leads ph) (hm:Mv G w w') (hG:∀ k,G k→k<w.heap.size→AwayC w F T k) (hT:∀ t∈leadTs,t∈T):LeadAt w' F me q c L E leads ph:=by
 cases ph with
 | fresh=>exact h
 | lead A tk=>
  obtain⟨h0,h1,gb,cb,gld,rest,R,ob,h2,h3,h4,h5,h6,h7,h8,h9⟩:=h
  exact⟨h0,h1,gb,cb,gld,rest,R,ob,h2,h3,h4.away h7 hm hG (hT _ (by decide)),h5.away h8 hm hG (hT _ (by decide)),h6.away h9 hm hG (hT _ (by decide)),h7,h8,h9⟩
 | pre=>exact h
 | com=>exact h
theorem CoreAt.away {w w':World} {F G:Foot} {T:List TypeId} {gc n me gl gm nl gi gx ni:Nat} {L:List LEnt} {E:List Ent} {leads recs out:Value} (h:CoreAt w gc n me gl gm nl gi gx ni L E leads recs out) (hf:F gc∧F gl∧F gm∧F gi∧F gx) (hm:Mv G w w') (hG:∀ k,G k→k<w.heap.size→Away w F T k) (hT:∀ t∈coreTs,t∈T):CoreAt w' gc n me gl gm nl gi gx ni L E leads recs out:=by
 obtain⟨f1,f2,f3,f4,f5⟩:=hf
 have m1:=h.lg.isMap
 have m2:=h.ix.isMap
 have hl:=h.lt
 exact h.mv hm (fun hg=>(hG _ hg hl.1).ne h.hc f1 (hT _ (by decide)) rfl) (fun hg=>(hG _ hg hl.2.1).ne h.lg.ix f2 (hT _ (by decide)) rfl) (fun hg=>(hG _ hg hl.2.2.1).ne_map m1 f3 rfl) (fun hg=>(hG _ hg hl.2.2.2.1).ne h.ix.ix f4 (hT _ (by decide)) rfl) (fun hg=>(hG _ hg hl.2.2.2.2).ne_map m2 f5 rfl)
theorem CoreSt.mv {w w':World} {F G:Foot} {T:List TypeId} {gc n me q:Nat} {c:Cm} {ph:Ph} {recs out:Value} (h:CoreSt w F gc n me q c ph recs out) (hm:Mv G w w') (hG:∀ k,G k→k<w.heap.size→Away w F T k) (hT:∀ t∈coreTs,t∈T):CoreSt w' F gc n me q c ph recs out:=by
 obtain⟨⟨gl,gm,nl,gi,gx,ni,L,E,leads,h1,h2,h3,h4,h5⟩,hf⟩:=h
 exact⟨⟨gl,gm,nl,gi,gx,ni,L,E,leads,h1.away ⟨hf,h4⟩ hm hG hT,h2,h3,h4,h5.mv hm (fun k h1 h2=>.inl (hG k h1 h2)) (fun t ht=>hT t (leadTs_sub t ht))⟩,hf⟩
theorem CoreSt.bel {w w':World} {F:Foot} {gc n me q:Nat} {c:Cm} {ph:Ph} {recs out:Value} (h:CoreSt w F gc n me q c ph recs out) (hb:Below w.heap.size w w'):CoreSt w' F gc n me q c ph recs out:=
 h.mv (G:=fun _=>False) (T:=coreTs) (.of_below hb) (fun _ h=>h.elim) (fun _ h=>h)
theorem Disk1.away {w w':World} {F G:Foot} {T:List TypeId} {gd gf gb m:Nat} {kept:Int} (h:Disk1 w gd gf gb m kept) (hf:F gd∧F gf∧F gb) (hm:Mv G w w') (hG:∀ k,G k→k<w.heap.size→AwayC w F T k) (hT:∀ t∈([125,129,5]:List TypeId),t∈T):Disk1 w' gd gf gb m kept:=by
 have hl:=h.lt
 have h':=h
 obtain⟨⟨cf,a1,a2,a3⟩,⟨cb,r,b1,b2,b3⟩,⟨bs,r2,c1,c2,c3⟩,hn,hlm⟩:=h'
 exact h.mv hm (fun hg=>(hG _ hg hl.1).ne a3 hf.1 (hT _ (by decide)) rfl) (fun hg=>(hG _ hg hl.2.1).ne b3 hf.2.1 (hT _ (by decide)) rfl) (fun hg=>(hG _ hg hl.2.2).ne c3 hf.2.2 (hT _ (by decide)) rfl)
theorem FrontAt.away {w w':World} {F G:Foot} {T:List TypeId} {g n me:Nat} {e:TypeId} {Fr:FrontP.Fr} (h:FrontAt w g e n me Fr) (hf:F g) (hm:Mv G w w') (hG:∀ k,G k→k<w.heap.size→AwayC w F T k) (he:e∈T):FrontAt w' g e n me Fr:=⟨h.h.away hf hm hG he,h.n7⟩
theorem StateIs.mv {w w':World} {F G:Foot} {T:List TypeId} {q:Nat} {c:Cm} {P:Value} {sq v:Int} {d:Nat→Int} {since:Int} {dn:Bool} (h:StateIs w F q c P sq v d since dn) (hm:Mv G w w') (hG:∀ k,G k→k<w.heap.size→AwayC w F T k) (he:69∈T):StateIs w' F q c P sq v d since dn:=by
 cases dn with
 | false=>exact h
 | true=>
  obtain⟨⟨ob,h1,h2⟩,r⟩:=h
  exact⟨⟨ob,OwnS.away h1 h2 hm hG he,h2⟩,r⟩
theorem WaitIs.mv {w w':World} {F G:Foot} {T:List TypeId} {waits:Value} {wt:Bool} (h:WaitIs w F waits wt) (hm:Mv G w w') (hG:∀ k,G k→k<w.heap.size→AwayC w F T k) (he:37∈T):WaitIs w' F waits wt:=by
 cases wt with
 | false=>exact h
 | true=>
  obtain⟨ob,h1,h2⟩:=h
  exact⟨ob,OwnS.away h1 h2 hm hG he,h2⟩
theorem AnsIs.mv {w w':World} {F G:Foot} {T:List TypeId} {c:Cm} {ans:Value} {an:Bool} (h:AnsIs w F c ans an) (hm:Mv G w w') (hG:∀ k,G k→k<w.heap.size→AwayC w F T k) (he:121∈T):AnsIs w' F c ans an:=by
 cases an with
 | false=>exact h
 | true=>
  obtain⟨ob,h1,h2⟩:=h
  exact⟨ob,OwnS.away h1 h2 hm hG he,h2⟩
theorem LetS.mv {w w':World} {F G:Foot} {T:List TypeId} {out:Value} {m:Nat} {V:Nat→List Value} (h:LetS w F out m V) (hm:Mv G w w') (hG:∀ k,G k→k<w.heap.size→AwayC w F T k) (he:47∈T):LetS w' F out m V:=by
 obtain⟨h0,ob,h1,h2⟩:=h
 exact⟨h0,ob,h1.away h2 hm hG he,h2⟩
theorem NodeI.mv {w w':World} {F G:Foot} {g n me q:Nat} {c:Cm} {ph:Ph} {recs cout:Value} {dn wt:Bool} {m:Nat} {V:Nat→List Value} {an:Bool} {tk:Int} {lim:Nat}
  {gd gfl gby mb gw gc gfr:Nat} {kept:Int} {P:Value} {sq v:Int} {d:Nat→Int} {since:Int} {waits out ans:Value}
  (h:NodeI w F g n me q c ph recs cout dn wt m V an tk lim gd gfl gby mb gw gc gfr kept P sq v d since waits out ans) (hm:Mv G w w') (hG:∀ k,G k→k<w.heap.size→¬ F k):NodeI w' F g n me q c ph recs cout dn wt m V an tk lim gd gfl gby mb gw gc gfr kept P sq v d since waits out ans:=by
 have hA0:∀ (T:List TypeId) k,G k→k<w.heap.size→Away w F T k:=fun T k h1 h2=>.inl (hG k h1 h2)
 have hA:∀ (T:List TypeId) k,G k→k<w.heap.size→AwayC w F T k:=fun T k h1 h2=>.inl (hA0 T k h1 h2)
 obtain⟨nd,dk,lm,wl,co,fr,st,wa,ou,an',f1,f2,f3,f4,f5,f6⟩:=h
 exact⟨nd.away (T:=[102]) f1 hm (hA _) (by decide),dk.away (T:=[125,129,5]) ⟨f2,f3,f4⟩ hm (hA _) (by decide),lm,wl.away (T:=[208]) f5 hm (hA _) (by decide),co.mv (T:=coreTs) hm (hA0 _) (fun _ h=>h),fr.away (T:=[197]) f6 hm (hA _) (by decide),st.mv (T:=[69]) hm (hA _) (by decide),wa.mv (T:=[37]) hm (hA _) (by decide),ou.mv (T:=[47]) hm (hA _) (by decide),an'.mv (T:=[121]) hm (hA _) (by decide),f1,f2,f3,f4,f5,f6⟩
theorem NodeI.bel {w w':World} {F:Foot} {g n me q:Nat} {c:Cm} {ph:Ph} {recs cout:Value} {dn wt:Bool} {m:Nat} {V:Nat→List Value} {an:Bool} {tk:Int} {lim:Nat}
  {gd gfl gby mb gw gc gfr:Nat} {kept:Int} {P:Value} {sq v:Int} {d:Nat→Int} {since:Int} {waits out ans:Value}
  (h:NodeI w F g n me q c ph recs cout dn wt m V an tk lim gd gfl gby mb gw gc gfr kept P sq v d since waits out ans) (hb:Below w.heap.size w w'):NodeI w' F g n me q c ph recs cout dn wt m V an tk lim gd gfl gby mb gw gc gfr kept P sq v d since waits out ans:=
 h.mv (G:=fun _=>False) (.of_below hb) fun _ h=>h.elim
theorem NodeG.mv {w w':World} {F G:Foot} {g n me q:Nat} {c:Cm} {ph:Ph} {recs cout:Value} {dn wt:Bool} {m:Nat} {V:Nat→List Value} {an:Bool} {tk:Int} {lim:Nat} (h:NodeG w F g n me q c ph recs cout dn wt m V an tk lim) (hm:Mv G w w') (hG:∀ k,G k→k<w.heap.size→¬ F k):NodeG w' F g n me q c ph recs cout dn wt m V an tk lim:=by
 obtain⟨gd,gfl,gby,mb,gw,gc,gfr,kept,P,sq,v,d,since,waits,out,ans,h⟩:=h
 exact⟨gd,gfl,gby,mb,gw,gc,gfr,kept,P,sq,v,d,since,waits,out,ans,h.mv hm hG⟩
theorem NodeG.bel {w w':World} {F:Foot} {g n me q:Nat} {c:Cm} {ph:Ph} {recs cout:Value} {dn wt:Bool} {m:Nat} {V:Nat→List Value} {an:Bool} {tk:Int} {lim:Nat} (h:NodeG w F g n me q c ph recs cout dn wt m V an tk lim) (hb:Below w.heap.size w w'):NodeG w' F g n me q c ph recs cout dn wt m V an tk lim:=
 h.mv (G:=fun _=>False) (.of_below hb) fun _ h=>h.elim
theorem LeadAt.foot {w:World} {F F':Foot} {me q:Nat} {c:Cm} {L:List LEnt} {E:List Ent} {leads:Value} {ph:Ph} (h:LeadAt w F me q c L E leads ph) (hF:∀ k,F k→k<w.heap.size→F' k):LeadAt w F' me q c L E leads ph:=by
 cases ph with
 | fresh=>exact h
 | lead A tk=>
  obtain⟨h0,h1,gb,cb,gld,rest,R,ob,h2,h3,h4,h5,h6,h7,h8,h9⟩:=h
  exact⟨h0,h1,gb,cb,gld,rest,R,ob,h2,h3,h4,h5,h6,hF _ h7 h4.lt,hF _ h8 h5.lt,fun g hg=>hF g (h9 g hg) (h6.lt g hg)⟩
 | pre=>exact h
 | com=>exact h
theorem NodeI.foot {w:World} {F F':Foot} {g n me q:Nat} {c:Cm} {ph:Ph} {recs cout:Value} {dn wt:Bool} {m:Nat} {V:Nat→List Value} {an:Bool} {tk:Int} {lim:Nat}
  {gd gfl gby mb gw gc gfr:Nat} {kept:Int} {P:Value} {sq v:Int} {d:Nat→Int} {since:Int} {waits out ans:Value}
  (h:NodeI w F g n me q c ph recs cout dn wt m V an tk lim gd gfl gby mb gw gc gfr kept P sq v d since waits out ans) (hF:∀ k,F k→k<w.heap.size→F' k):NodeI w F' g n me q c ph recs cout dn wt m V an tk lim gd gfl gby mb gw gc gfr kept P sq v d since waits out ans:=by
 obtain⟨nd,dk,lm,wl,co,fr,st,wa,ou,an',f1,f2,f3,f4,f5,f6⟩:=h
 have hO:∀ {v:Value} {ob:Option Nat} {e:TypeId} {s n:Nat} {xs:List Value},OwnS w v ob e s n xs→(∀ g,ob=some g→F g)→∀ g,ob=some g→F' g:=fun h hf g hg=>hF g (hf g hg) (h.lt g hg)
 have hdl:=dk.lt
 refine⟨nd,dk,lm,wl,?_,fr,?_,?_,?_,?_,hF _ f1 nd.lt,hF _ f2 hdl.1,hF _ f3 hdl.2.1,hF _ f4 hdl.2.2,hF _ f5 wl.lt,hF _ f6 fr.lt⟩
 ·obtain⟨⟨gl,gm,nl,gi,gx,ni,L,E,leads,h1,h2,h3,⟨h4,h5,h6,h7⟩,h8⟩,hf⟩:=co
  have hl:=h1.lt
  refine⟨⟨gl,gm,nl,gi,gx,ni,L,E,leads,h1,h2,h3,⟨hF _ h4 hl.2.1,hF _ h5 hl.2.2.1,hF _ h6 hl.2.2.2.1,hF _ h7 hl.2.2.2.2⟩,?_⟩,hF _ hf hl.1⟩
  cases ph with
  | fresh=>exact h8
  | lead A tk=>
   obtain⟨h0,h1,gb,cb,gld,rest,R,ob,h2,h3,h4,h5,h6,h7,h8,h9⟩:=h8
   exact⟨h0,h1,gb,cb,gld,rest,R,ob,h2,h3,h4,h5,h6,hF _ h7 h4.lt,hF _ h8 h5.lt,hO h6 h9⟩
  | pre=>exact h8
  | com=>exact h8
 ·cases dn with
  | false=>exact st
  | true=>
   obtain⟨⟨ob,h1,h2⟩,r⟩:=st
   exact⟨⟨ob,h1,hO h1 h2⟩,r⟩
 ·cases wt with
  | false=>exact wa
  | true=>
   obtain⟨ob,h1,h2⟩:=wa
   exact⟨ob,h1,hO h1 h2⟩
 ·obtain⟨h0,ob,h1,h2⟩:=ou
  exact⟨h0,ob,h1,hO h1 h2⟩
 ·cases an with
  | false=>exact an'
  | true=>
   obtain⟨ob,h1,h2⟩:=an'
   exact⟨ob,h1,hO h1 h2⟩
theorem NodeG.foot {w:World} {F F':Foot} {g n me q:Nat} {c:Cm} {ph:Ph} {recs cout:Value} {dn wt:Bool} {m:Nat} {V:Nat→List Value} {an:Bool} {tk:Int} {lim:Nat} (h:NodeG w F g n me q c ph recs cout dn wt m V an tk lim) (hF:∀ k,F k→k<w.heap.size→F' k):NodeG w F' g n me q c ph recs cout dn wt m V an tk lim:=by
 obtain⟨gd,gfl,gby,mb,gw,gc,gfr,kept,P,sq,v,d,since,waits,out,ans,h⟩:=h
 exact⟨gd,gfl,gby,mb,gw,gc,gfr,kept,P,sq,v,d,since,waits,out,ans,h.foot hF⟩
section
variable {w w':World} {F:Foot} {g n me q:Nat} {c:Cm} {ph ph':Ph} {recs cout recs' cout':Value} {dn wt dn' wt':Bool} {m m':Nat} {V V':Nat→List Value} {an an2:Bool} {tk tk':Int} {lim:Nat}
 {gd gfl gby mb gw gc gfr:Nat} {kept:Int} {P P':Value} {sq v sq' v':Int} {d d':Nat→Int} {since since':Int} {waits out ans waits' out' ans':Value}
theorem awayC_of {T:List TypeId} {k:Nat} {t:TypeId} {L:List Value} (h:Holds w k t L) (ht:t∉T):AwayC w F T k:=.inl (.inr ⟨t,L,h,ht⟩)
theorem away_of {T:List TypeId} {k:Nat} {t:TypeId} {L:List Value} (h:Holds w k t L) (ht:t∉T):Away w F T k:=.inr ⟨t,L,h,ht⟩
theorem NodeI.touchG (h:NodeI w F g n me q c ph recs cout dn wt m V an tk lim gd gfl gby mb gw gc gfr kept P sq v d since waits out ans) (hm:Mv (fun k=>k=g) w w')
  (hn:Holds w' g 102 (nodeL n me gd gw gc gfr P' sq' v' d' since' tk' waits' out' ans')) (hs:StateIs w' F q c P' sq' v' d' since' dn') (hw:WaitIs w' F waits' wt') (ho:LetS w' F out' m' V') (ha:AnsIs w' F c ans' an2) :
  NodeI w' F g n me q c ph recs cout dn' wt' m' V' an2 tk' lim gd gfl gby mb gw gc gfr kept P' sq' v' d' since' waits' out' ans':=by
 obtain⟨nd,dk,lm,wl,co,fr,st,wa,ou,an',f1,f2,f3,f4,f5,f6⟩:=h
 have hA:∀ T:List TypeId,102∉T→∀ k,k=g→k<w.heap.size→AwayC w F T k:=fun T ht k hk _=>hk▸awayC_of nd ht
 have hA0:∀ T:List TypeId,102∉T→∀ k,k=g→k<w.heap.size→Away w F T k:=fun T ht k hk _=>hk▸away_of nd ht
 exact⟨hn,dk.away (T:=[125,129,5]) ⟨f2,f3,f4⟩ hm (hA _ (by decide)) (by decide),lm,wl.away (T:=[208]) f5 hm (hA _ (by decide)) (by decide),co.mv (T:=coreTs) hm (hA0 _ (by decide)) (fun _ h=>h),fr.away (T:=[197]) f6 hm (hA _ (by decide)) (by decide),hs,hw,ho,ha,f1,f2,f3,f4,f5,f6⟩
theorem StateIs.touchG {L:List Value} (h:StateIs w F q c P sq v d since dn) (nd:Holds w g 102 L) (hm:Mv (fun k=>k=g) w w'):StateIs w' F q c P sq v d since dn:=
 h.mv (T:=[69]) hm (fun k hk _=>hk▸awayC_of nd (by decide)) (by decide)
theorem WaitIs.touchG {L:List Value} (h:WaitIs w F waits wt) (nd:Holds w g 102 L) (hm:Mv (fun k=>k=g) w w'):WaitIs w' F waits wt:=
 h.mv (T:=[37]) hm (fun k hk _=>hk▸awayC_of nd (by decide)) (by decide)
theorem AnsIs.touchG {L:List Value} (h:AnsIs w F c ans an) (nd:Holds w g 102 L) (hm:Mv (fun k=>k=g) w w'):AnsIs w' F c ans an:=
 h.mv (T:=[121]) hm (fun k hk _=>hk▸awayC_of nd (by decide)) (by decide)
theorem LetS.touchG {L:List Value} (h:LetS w F out m V) (nd:Holds w g 102 L) (hm:Mv (fun k=>k=g) w w'):LetS w' F out m V:=
 h.mv (T:=[47]) hm (fun k hk _=>hk▸awayC_of nd (by decide)) (by decide)
theorem NodeI.coreG {G:Foot} (h:NodeI w F g n me q c ph recs cout dn wt m V an tk lim gd gfl gby mb gw gc gfr kept P sq v d since waits out ans) (hm:Mv G w w') (hG:∀ k,G k→k<w.heap.size→(∃ t L,Holds w k t L∧t∈coreTs)∨IsMapB w k)
  (hc:CoreSt w' F gc n me q c ph' recs' cout'):NodeI w' F g n me q c ph' recs' cout' dn wt m V an tk lim gd gfl gby mb gw gc gfr kept P sq v d since waits out ans:=by
 obtain⟨nd,dk,lm,wl,co,fr,st,wa,ou,an',f1,f2,f3,f4,f5,f6⟩:=h
 have hA:∀ T:List TypeId,(∀ t∈coreTs,t∉T)→∀ k,G k→k<w.heap.size→AwayC w F T k:=fun T ht k hk hl=>by
  rcases hG k hk hl with⟨t,L,h1,h2⟩|h1
  ·exact awayC_of h1 (ht t h2)
  ·exact .inr h1
 exact⟨nd.away (T:=[102]) f1 hm (hA _ (by decide)) (by decide),dk.away (T:=[125,129,5]) ⟨f2,f3,f4⟩ hm (hA _ (by decide)) (by decide),lm,wl.away (T:=[208]) f5 hm (hA _ (by decide)) (by decide),hc,fr.away (T:=[197]) f6 hm (hA _ (by decide)) (by decide),st.mv (T:=[69]) hm (hA _ (by decide)) (by decide),wa.mv (T:=[37]) hm (hA _ (by decide)) (by decide),ou.mv (T:=[47]) hm (hA _ (by decide)) (by decide),an'.mv (T:=[121]) hm (hA _ (by decide)) (by decide),f1,f2,f3,f4,f5,f6⟩
end
end
abbrev Lt:=Nat × Nat × Nat
structure Cs where
 phs:List Ph
 lets:List Lt
 hist:Nat
 wait:Bool
 tk:Nat
 deriving DecidableEq
def othersOf (n q:Nat):List Nat:=(List.range (n-1)).map fun i=>if i<q then i else i+1
def sendAll (k n q:Nat):List Lt:=(othersOf n q).map fun r=>(k,q,r)
def startS (n:Nat):Cs:=⟨List.replicate n .fresh,[],0,false,0⟩
def callS (n q:Nat):Cs:=⟨(List.replicate n Ph.fresh).set q (.lead [] 0),sendAll 1 n q,1,true,0⟩
def takesS (n q:Nat) (ph:Ph) (m:Lt):Option (Ph × List Lt × Bool):=
 if m.2.1=m.2.2∨n≤m.2.1∨n≤m.2.2 then none else
 match m.1,ph with
 | 1,.fresh=>if m.2.1=q then some (.pre,[(2,m.2.2,q)],false) else none
 | 2,.lead A tk=>if m.2.1∈A∨5<A.length then none else if n≤A.length+3 then some (.com,sendAll 5 n q,true) else some (.lead (m.2.1 :: A) tk,[],false)
 | 2,.com=>if m.2.2=q then some (.com,[],false) else none
 | 5,.pre=>some (.com,[],false)
 | _,_=>none
def afterS (s:Cs) (rest:List Lt) (i:Nat) (ph:Ph) (out:List Lt) (an:Bool):Option Cs:=
 if 1000≤rest.length+out.length then none else
 if an then (if s.wait=true∧s.hist=1 then some ⟨s.phs.set i ph,rest++out,2,false,s.tk⟩ else none)
 else some ⟨s.phs.set i ph,rest++out,s.hist,s.wait,s.tk⟩
def giveS (n q:Nat) (s:Cs):Option Cs:=
 match s.lets with
 | []=>none
 | m :: rest=>(takesS n q (s.phs.getD m.2.2 .fresh) m).bind fun r=>afterS s rest m.2.2 r.1 r.2.1 r.2.2
def loseS (s:Cs):Option Cs:=
 match s.lets with
 | []=>none
 | _ :: rest=>some { s with lets:=rest }
def tickS (i:Nat) (s:Cs):Option Cs:=
 if 5≤s.tk then none else match s.phs.getD i .com with
 | .fresh=>some { s with tk:=s.tk+1 }
 | .lead A 0=>some { s with phs:=s.phs.set i (.lead A 1),tk:=s.tk+1 }
 | _=>none
def fast1 (n q out:Nat) (s:Cs):Option Cs:=
 match s.lets with
 | []=>none
 | m :: _=>if m.2.2=out∨m.2.1=out then loseS s else giveS n q s
def fastN (n q out:Nat):Nat→Cs→Option Cs
 | 0,s=>some s
 | k+1,s=>(fastN n q out k s).bind (fast1 n q out)
def giveN:Nat→Cs→Option Cs
 | 0,s=>some s
 | k+1,s=>(giveN k s).bind (giveS 3 0)
section
open Go.RowKit Go.Maps
def updA (a:Nat→Int) (f:Nat) (r:Nat):Int:=if r=f then 1 else a r
theorem leadL_at (q:Int) (x:Cm) (a:Nat→Int) (R:Value) (cnt tk:Int) (f:Nat) (hf:f<7):(leadL q x a R cnt tk)[21+f]?=some (.int .i64 (a f)):=by
 rcases (show f=0∨f=1∨f=2∨f=3∨f=4∨f=5∨f=6 by omega) with rfl|rfl|rfl|rfl|rfl|rfl|rfl<;>rfl
theorem leadL_set (q:Int) (x:Cm) (a:Nat→Int) (R:Value) (cnt tk:Int) (f:Nat) (hf:f<7):(leadL q x a R cnt tk).set (21+f) (.int .i64 1)=leadL q x (updA a f) R cnt tk:=by
 rcases (show f=0∨f=1∨f=2∨f=3∨f=4∨f=5∨f=6 by omega) with rfl|rfl|rfl|rfl|rfl|rfl|rfl<;>rfl
theorem attr_snoc (cnt:Nat):flat 8 cnt (fun _=>attr0)++attr0=flat 8 (cnt+1) fun _=>attr0:=flat_snoc (V:=fun _=>attr0) (by decide) (fun _ _=>rfl)
theorem attr0_one':∀ u∈attr0,u.oneCell'=true:=by simp [attr0,Value.oneCell']
structure LeadIs (w:World) (gc n me gl gm nl gi gx ni q:Nat) (c:Cm) (E:List Ent) (gb cb gld:Nat) (rest:List Value) (a:Nat→Int) (R:Value) (ob:Option Nat) (cnt:Nat) (tk:Int):Prop where
 co:CoreAt w gc n me gl gm nl gi gx ni [⟨q,1,cellL 1 c true⟩] E (.slice (some ⟨gb,0,none⟩) 1 cb) (.slice none 0 0) (.slice none 0 0)
 hb:Holds w gb 158 (.pointer (some ⟨gld,0,none⟩) :: rest)
 hl:Holds w gld 167 (leadL q c a R cnt tk)
 hr:OwnS w R ob 43 8 cnt (flat 8 cnt fun _=>attr0)
 cb1:1≤cb∧cb≤maxLen
theorem LeadIs.bel {w w':World} {gc n me gl gm nl gi gx ni q:Nat} {c:Cm} {E:List Ent} {gb cb gld:Nat} {rest:List Value} {a:Nat→Int} {R:Value} {ob:Option Nat} {cnt:Nat} {tk:Int} (h:LeadIs w gc n me gl gm nl gi gx ni q c E gb cb gld rest a R ob cnt tk) (hb:Below w.heap.size w w'):LeadIs w' gc n me gl gm nl gi gx ni q c E gb cb gld rest a R ob cnt tk:=
 ⟨h.co.bel hb,h.hb.bel hb,h.hl.bel hb,h.hr.bel hb,h.cb1⟩
theorem answered_w (gc n me gl gm nl gi gx ni gb gld cb q f t cnt:Nat) (c:Cm) (E:List Ent) (rest:List Value) (a:Nat→Int) (R:Value) (ob:Option Nat) (tk:Int) (Post:World→Value→Option Nat→World→Prop) (w:World)
  (h:LeadIs w gc n me gl gm nl gi gx ni q c E gb cb gld rest a R ob cnt tk) (hf:f<7) (haf:a f=0) (hcnt:cnt≤7)
  (KW:∀ R' ob' W,LeadIs W gc n me gl gm nl gi gx ni q c E gb cb gld rest (updA a f) R' ob' (cnt+1) tk→Calls Tryz.prog 78 #[.pointer (some ⟨gc,0,none⟩),.pointer (some ⟨gld,0,none⟩),.bool false] W fun e W'=>(∃ b,e=.returned (.bool b))∧Post W R' ob' W') :
  Calls Tryz.prog 144 #[.pointer (some ⟨gc,0,none⟩),.agg (letL 2 f t q Cm.zero).toArray] w fun e w'=>e=.returned (.tuple #[])∧∃ w1 R' ob',LeadIs w1 gc n me gl gm nl gi gx ni q c E gb cb gld rest (updA a f) R' ob' (cnt+1) tk∧(ob'=ob∨∃ k,ob'=some k∧w.heap.size≤k)∧Mv (fun k=>k=gld∨ob=some k) w w1∧Post w1 R' ob' w':=by
 obtain⟨hco,hb,hl,hr,hcb⟩:=h
 have KF:=qh (fun W (h:Holds W gc 163 (coreL n me gl gi (.slice (some ⟨gb,0,none⟩) 1 cb) (.slice none 0 0) (.slice none 0 0))) hb hl=>find_one gc n me gl gi gb gld cb rest (.slice none 0 0) (.slice none 0 0) q c a R cnt tk W h hb hl hcb.1)
 have KW:=qh KW
 have hd:gld≠gc∧gld≠gl∧gld≠gm∧gld≠gi∧gld≠gx∧gld≠gb:=⟨hl.ne_of hco.hc (by decide),hl.ne_of hco.lg.ix (by decide),ownsMap_ne hco.lg.isMap hl,hl.ne_of hco.ix.ix (by decide),ownsMap_ne hco.ix.isMap hl,hl.ne_of hb (by decide)⟩
 have hod:∀ g,ob=some g→g≠gc∧g≠gl∧g≠gm∧g≠gi∧g≠gx∧g≠gb∧g≠gld:=by
  intro g hg
  rcases hr.cases with⟨_,h0,_⟩|⟨g1,_,_,_,h0,_,_,hh,_⟩
  ·rw [h0] at hg;cases hg
  ·rw [h0] at hg
   cases hg
   exact⟨hh.ne_of hco.hc (by decide),hh.ne_of hco.lg.ix (by decide),ownsMap_ne hco.lg.isMap hh,hh.ne_of hco.ix.ix (by decide),ownsMap_ne hco.ix.isMap hh,hh.ne_of hb (by decide),hh.ne_of hl (by decide)⟩
 have hol:=hr.lt
 have HCA:=qh hco;have HC:=qh hco.hc;have HG:=qh hb;have HL:=qh hl;have HR:=qh hr
 have hlt:=hco.lt
 have hllt:=hl.lt
 have HM:=qh (Mv.refl (fun k=>k=gld∨ob=some k) w)
 clear hco hb hl hr
 have hmm:=@run_makeMap Tryz.prog
 have hfi:(f:Int)<7:=by omega
 go_enter Tryz.func144,Tryz.ntmps144
 go_upto_region 1 with (fail)
 go_name_world W hW
 have hW:allocs w [.cells (letL 2 f t q Cm.zero:List Value).toArray 47]=W:=hW
 have HX:=qh (show Holds W (w.heap.size) 47 (letL 2 f t q Cm.zero) from holds_allocs _ hW 0 rfl)
 have hbW:=below_allocs _ hW
 have hsW:=size_allocs _ hW
 simp only [List.length_cons,List.length_nil] at hsW
 clear hW
 have HCA:=qh (HCA.out.bel hbW)
 have HC:=qh (HC.out.bel hbW)
 have HG:=qh (HG.out.bel hbW)
 have HL:=qh (HL.out.bel hbW)
 have HR:=qh (HR.out.bel hbW)
 have HM:=qh (HM.out.bel hbW)
 clear hbW
 generalize hx0:w.heap.size=gX at HX ⊢
 have hWs:w.heap.size<W.heap.size:=by omega
 have hgx:gX≠gld∧(∀ g,ob=some g→gX≠g):=⟨by omega,fun g hg=>by have:=hol g hg;omega⟩
 clear hsW
 have x3:=HX.out.cell 3
 have x4:=HX.out.cell 4
 simp only [letL,yA,yB] at x3 x4
 go_wp2_with fail
 refine (KF.out _ HC.out HG.out HL.out).mono ?_
 rintro e w3 ⟨rfl,hb3⟩
 have HCA:=qh (HCA.out.bel hb3)
 have HC:=qh (HC.out.bel hb3)
 have HG:=qh (HG.out.bel hb3)
 have HL:=qh (HL.out.bel hb3)
 have HR:=qh (HR.out.bel hb3)
 have HM:=qh (HM.out.bel hb3)
 have HX:=qh (HX.out.bel hb3)
 clear hb3 x3 x4
 go_upto_region 2 with (fail)
 have y3:=HL.out.cell 3
 have y4:=HL.out.cell 4
 simp only [leadL,yA,yB] at y3 y4
 have x1:=HX.out.cell 1
 have x5:=HX.out.cell 5
 have x6:=HX.out.cell 6
 simp only [letL,yA,yB] at x1 x5 x6
 have hyf:=HL.out.cell (21+f)
 rw [leadL_at q c a R cnt tk f hf,haf] at hyf
 go_quiet (fail)
 have hb2:Below w3.heap.size w3 (w3.drewN nq):=t_drewN _ _ _
 have HCA:=qh (HCA.out.bel hb2)
 have HC:=qh (HC.out.bel hb2)
 have HG:=qh (HG.out.bel hb2)
 have HL:=qh (HL.out.bel hb2)
 have HR:=qh (HR.out.bel hb2)
 have HM:=qh (HM.out.bel hb2)
 have HX:=qh (HX.out.bel hb2)
 clear hb2 y3 y4 x1 x5 x6 hyf
 generalize w3.drewN nq=W2 at HCA HC HG HL HR HM HX ⊢
 go_upto_region 3 with (fail)
 go_wp2_with (first
  | (refine wpList_insert_int rfl _ _ _ rfl W2.heap.size [] rfl (MapL.made W2) (by decide) 2 0 rfl rfl rfl rfl ?_;intro w4 hm4 hg4)
  | (refine wpList_insert_int rfl _ _ _ rfl W2.heap.size [(2,0)] rfl hm4 (by decide) 4 1 rfl rfl rfl rfl ?_;intro w5 hm5 hg5)
  | (refine wpList_insert_int rfl _ _ _ rfl W2.heap.size [(4,1),(2,0)] rfl hm5 (by decide) 7 2 rfl rfl rfl rfl ?_;intro w6 hm6 hg6;have hlook:=hm6.look 2 0 rfl lead_look;have hb6:Below W2.heap.size W2 w6:=Below.trans ((Below.refl _ _).alloc (Nat.le_refl _) _) (((Touch.of_grownBy hg4).trans ((Touch.of_grownBy hg5).trans (Touch.of_grownBy hg6))).below (Nat.le_refl _) (by simp));have HX6:=qh (HX.out.bel hb6);have HL6:=qh (HL.out.bel hb6);have x0:=HX6.out.cell 0;have y2:=HL6.out.cell 2;simp only [letL,leadL,yA,yB] at x0 y2))
 have HX:=HX6;have HL:=HL6
 have HCA:=qh (HCA.out.bel hb6)
 have HC:=qh (HC.out.bel hb6)
 have HG:=qh (HG.out.bel hb6)
 have HR:=qh (HR.out.bel hb6)
 have HM:=qh (HM.out.bel hb6)
 clear hb6 HX6 HL6 hm4 hg4 hm5 hg5 hm6 hg6 hlook x0 y2
 have HCA:=qh (HCA.out.bel (t_drew _ w6))
 have HG:=qh (HG.out.bel (t_drew _ w6))
 have HL:=qh (HL.out.bel (t_drew _ w6))
 have HR:=qh (HR.out.bel (t_drew _ w6))
 have HM:=qh (HM.out.bel (t_drew _ w6))
 have HX:=qh (HX.out.bel (t_drew _ w6))
 refine wp_region_noPanic ?_
 refine wp_region_late (S:=fun W'=>Below w6.drew.heap.size w6.drew W') (X0:=[6]) (by as_aux_lemma=>kernel_rfl) ?_
 generalize w6.drew=wd at HCA HG HL HR HM HX ⊢
 have hSn:Below wd.heap.size wd wd:=Below.refl _ _
 change wpAnyL _ _ _ _ _ _ 7 #[false,false,false,false,false,false,false] _ _
 refine mvA 0 (some 42) (fun _=>hSn) ?_
 simp only [Act.put,zA,zB,zC]
 refine mvA 1 (some 43) (fun _=>hSn) ?_
 simp only [Act.put,zA,zB,zC]
 refine tkA 2 [5,6] (some 44) (?vg3) rfl (Or.inl ⟨by rfl,?hg3⟩) hSn ?rg3
 case hg3=>
  intro w hSw
  have b1:=(HX.out.bel hSw).cell 1
  simp only [letL,yA,yB] at b1
  go_simp
  try with_reducible rfl
 simp only [Act.put,zA,zB,zC]
 refine mvA 3 (some 45) (fun _=>hSn) ?_
 simp only [Act.put,zA,zB,zC]
 refine mvA 4 (some 46) (fun _=>hSn) ?_
 simp only [Act.put,zA,zB,zC]
 refine mvA 5 (some 47) (fun _=>hSn) ?_
 simp only [Act.put,zA,zB,zC]
 refine rd1 6 rfl (fun K hK=>?_)
 refine step_store_cell rfl 3 (.tmp 47) (.const (.int .i64 1)) rfl rfl gld (21+f) 167 _ (HL.out.bel hSn) (by simp [leadL];omega) rfl (.int .i64 1) rfl rfl (by kernel_rfl) rfl ?_
 intro w7 hh7 ht7
 have HL:=qh (show Holds w7 gld 167 (leadL q c (updA a f) R cnt tk) from (leadL_set q c a R cnt tk f hf)▸hh7)
 have hm7:Mv (fun k=>k=gld) _ w7:=Mv.of_touch ht7 rfl
 have HCA:=qh ((HCA.out.bel hSn).mv hm7 (Ne.symm hd.1) (Ne.symm hd.2.1) (Ne.symm hd.2.2.1) (Ne.symm hd.2.2.2.1) (Ne.symm hd.2.2.2.2.1))
 have HG:=qh ((HG.out.bel hSn).mv hm7 (Ne.symm hd.2.2.2.2.2))
 have HR:=qh ((HR.out.bel hSn).mv hm7 (fun g hg=>(hod g hg).2.2.2.2.2.2))
 have HX:=qh ((HX.out.bel hSn).mv hm7 hgx.1)
 have HM:=qh ((HM.out.bel hSn).mv hm7 (fun k hk=>.inl (.inl hk)))
 clear hm7 hh7 ht7
 refine hK.out _ _ nlA ?_
 clear hK
 try simp only [Act.put,zA,zB,zC]
 refine dnA (NoPanic.normal ?_)
 clear hSn
 have y30:=HL.out.cell 30
 simp only [leadL,yA,yB] at y30
 go_upto_region 11 with (first
  | (refine wpList_store_cell rfl 3 (.tmp 54) (.tmp 52) rfl rfl gld 30 167 _ HL.out (by simp [leadL]) rfl (.int .i64 ((cnt:Int)+1)) rfl rfl (by kernel_rfl) rfl ?_;intro w8 hh8 ht8))
 have HL:=qh (show Holds w8 gld 167 (leadL q c (updA a f) R (cnt+1) tk) from hh8)
 have hm8:Mv (fun k=>k=gld) w7 w8:=Mv.of_touch ht8 rfl
 have HCA:=qh (HCA.out.mv hm8 (Ne.symm hd.1) (Ne.symm hd.2.1) (Ne.symm hd.2.2.1) (Ne.symm hd.2.2.2.1) (Ne.symm hd.2.2.2.2.1))
 have HG:=qh (HG.out.mv hm8 (Ne.symm hd.2.2.2.2.2))
 have HR:=qh (HR.out.mv hm8 (fun g hg=>(hod g hg).2.2.2.2.2.2))
 have HX:=qh (HX.out.mv hm8 hgx.1)
 have HM:=qh (HM.out.mv hm8 (fun k hk=>.inl (.inl hk)))
 clear hm8 hh8 ht8 y30
 have hobx:∀ g,ob=some g→g≠gld:=fun g hg=>(hod g hg).2.2.2.2.2.2
 have HCA:=qh (HCA.out.bel (t_drew _ w8))
 have HG:=qh (HG.out.bel (t_drew _ w8))
 have HL:=qh (HL.out.bel (t_drew _ w8))
 have HR:=qh (HR.out.bel (t_drew _ w8))
 have HM:=qh (HM.out.bel (t_drew _ w8))
 have HX:=qh (HX.out.bel (t_drew _ w8))
 refine wp_region_noPanic ?_
 refine wp_region_late (S:=fun W'=>Below w8.drew.heap.size w8.drew W') (X0:=[8,11]) (by as_aux_lemma=>kernel_rfl) ?_
 generalize w8.drew=wd at HCA HG HL HR HM HX ⊢
 have hSn:Below wd.heap.size wd wd:=Below.refl _ _
 change wpAnyL _ _ _ _ _ _ 12 #[false,false,false,false,false,false,false,false,false,false,false,false] _ _
 refine mvA 0 (some 75) (fun _=>hSn) ?_
 simp only [Act.put,zA,zB,zC]
 refine mvA 1 (some 76) (fun _=>hSn) ?_
 simp only [Act.put,zA,zB,zC]
 refine mvA 2 (some 77) (fun _=>hSn) ?_
 simp only [Act.put,zA,zB,zC]
 refine mvA 3 (some 78) (fun _=>hSn) ?_
 simp only [Act.put,zA,zB,zC]
 refine tkA 4 [8,9,10,11] (some 79) (?vg11) rfl (Or.inl ⟨by rfl,?hg11⟩) hSn ?rg11
 case hg11=>
  intro w hSw
  have b28:=(HL.out.bel hSw).cell 28
  simp only [leadL,yA,yB] at b28
  go_simp
  try with_reducible rfl
 simp only [Act.put,zA,zB,zC]
 refine mvA 5 (some 80) (fun _=>hSn) ?_
 simp only [Act.put,zA,zB,zC]
 refine tkA 6 [7,8,9,10,11] (some 81) (?vg13) rfl (Or.inl ⟨by rfl,?hg13⟩) hSn ?rg13
 case hg13=>
  intro w hSw
  have b14:=(HX.out.bel hSw).cell 14
  have b15:=(HX.out.bel hSw).cell 15
  have b16:=(HX.out.bel hSw).cell 16
  have b17:=(HX.out.bel hSw).cell 17
  have b18:=(HX.out.bel hSw).cell 18
  have b19:=(HX.out.bel hSw).cell 19
  have b20:=(HX.out.bel hSw).cell 20
  have b21:=(HX.out.bel hSw).cell 21
  simp only [letL,yA,yB] at b14 b15 b16 b17 b18 b19 b20 b21
  go_simp
  try with_reducible rfl
 simp only [Act.put,zA,zB,zC]
 refine rd1 7 rfl (fun K hK=>?_)
 refine step_build1 rfl 164 43 (.agg attr0.toArray) attr0 rfl rfl rfl (fun w=>by kernel_rfl) ?_
 intro wa hna hba
 have hSn:=below_next hSn hba
 have HN:=qh hna
 generalize wd.heap.size=gn at HN ⊢
 have HR:=qh (HR.out.bel hSn)
 have HCA:=qh (HCA.out.bel hSn)
 have HG:=qh (HG.out.bel hSn)
 have HL:=qh (HL.out.bel hSn)
 have HM:=qh (HM.out.bel hSn)
 clear hna hba
 change K (Act.put _ (some 82) _) _
 refine hK.out _ _ (fun _=>hSn) ?_
 clear hK
 try simp only [Act.put,zA,zB,zC]
 refine rd1 8 rfl (fun K hK=>?_)
 refine step_append_s rfl (.tmp 79) (.tmp 82) 164 rfl 43 (.agg attr0.toArray) 8 64 rfl (by kernel_rfl) rfl (by decide) _ ob cnt (flat 8 cnt fun _=>attr0) rfl HR.out _ 1 1 attr0 rfl rfl (HN.out.reads 0 _ (fun j v hv=>by rw [Nat.zero_add];exact hv)) (by decide) attr0_one' (by unfold maxLen;omega) (by omega) ?_
 intro v9 ob9 w9 ho9 hob9 hm9
 have hmF:∀ k,ob=some k→k≠gc∧k≠gl∧k≠gm∧k≠gi∧k≠gx∧k≠gb∧k≠gld:=hod
 have HCA9:=qh (HCA.out.mv hm9 (fun h=>(hod _ h).1 rfl) (fun h=>(hod _ h).2.1 rfl) (fun h=>(hod _ h).2.2.1 rfl) (fun h=>(hod _ h).2.2.2.1 rfl) (fun h=>(hod _ h).2.2.2.2.1 rfl))
 have HG9:=qh (HG.out.mv hm9 (fun h=>(hod _ h).2.2.2.2.2.1 rfl))
 have HL9:=qh (HL.out.mv hm9 (fun h=>(hod _ h).2.2.2.2.2.2 rfl))
 have HM9:=qh (HM.out.mv hm9 (fun k hk=>.inl (.inr hk)))
 have hwa:=HM.out.size
 have HO9:=qh (And.intro (show OwnS w9 v9 ob9 43 8 (cnt+1) (flat 8 (cnt+1) fun _=>attr0) from attr_snoc cnt▸ho9) (show ob9=ob∨∃ g,ob9=some g∧w.heap.size≤g from hob9.imp id fun ⟨g,h1,h2⟩=>⟨g,h1,by omega⟩))
 obtain⟨p9,c9,rfl⟩:∃ p9 c9,v9=.slice p9 (cnt+1:Nat) c9:=by
  rcases ho9.cases with⟨_,_,h0,_⟩|⟨g1,cap,_,hv,_⟩
  ·omega
  ·exact⟨_,cap,hv⟩
 clear ho9 hob9 hm9
 change K (Act.put _ (some 83) _) _
 refine hK.out _ _ nlA ?_
 clear hK
 try simp only [Act.put,zA,zB,zC]
 refine mvA 9 (some 84) nlA ?_
 simp only [Act.put,zA,zB,zC]
 refine mvA 10 (some 85) nlA ?_
 simp only [Act.put,zA,zB,zC]
 refine rd1 11 rfl (fun K hK=>?_)
 refine step_store_cell rfl 164 (.tmp 85) (.tmp 83) rfl rfl gld 28 167 _ HL9.out (by simp [leadL]) rfl (.slice p9 (cnt+1:Nat) c9) rfl rfl (by kernel_rfl) rfl ?_
 intro w10 hh10 ht10
 have HL:=qh (show Holds w10 gld 167 (leadL q c (updA a f) (.slice p9 (cnt+1:Nat) c9) (cnt+1) tk) from hh10)
 have hm10:Mv (fun k=>k=gld) w9 w10:=Mv.of_touch ht10 rfl
 have HCA:=qh (HCA9.out.mv hm10 (Ne.symm hd.1) (Ne.symm hd.2.1) (Ne.symm hd.2.2.1) (Ne.symm hd.2.2.2.1) (Ne.symm hd.2.2.2.2.1))
 have HG:=qh (HG9.out.mv hm10 (Ne.symm hd.2.2.2.2.2))
 have HO:=qh (And.intro (HO9.out.1.mv hm10 (fun g hg=>by rcases HO9.out.2 with h|⟨g2,h,h2⟩<;>rw [h] at hg;exact hobx g hg;cases hg;omega)) HO9.out.2)
 have HM:=qh (HM9.out.mv hm10 (fun k hk=>.inl (.inl hk)))
 clear hm10 hh10 ht10 HCA9 HG9 HL9 HM9 HO9
 refine hK.out _ _ nlA ?_
 clear hK
 try simp only [Act.put,zA,zB,zC]
 refine dnA (NoPanic.normal ?_)
 clear hSn HR HX HN
 go_wp2_with fail
 have HLD:=qh (show LeadIs w10 gc n me gl gm nl gi gx ni q c E gb cb gld rest (updA a f) (.slice p9 (cnt+1:Nat) c9) ob9 (cnt+1) tk from ⟨HCA.out,HG.out,by rw [show ((cnt+1:Nat):Int)=(cnt:Int)+1 from by omega];exact HL.out,HO.out.1,hcb⟩)
 refine (KW.out _ _ _ HLD.out).mono ?_
 rintro e w11 ⟨⟨bb,rfl⟩,hp⟩
 have HP:=qh (show ∃ w1 R' ob',LeadIs w1 gc n me gl gm nl gi gx ni q c E gb cb gld rest (updA a f) R' ob' (cnt+1) tk∧(ob'=ob∨∃ k,ob'=some k∧w.heap.size≤k)∧Mv (fun k=>k=gld∨ob=some k) w w1∧Post w1 R' ob' w11 from ⟨_,_,_,HLD.out,HO.out.2,HM.out,hp⟩)
 clear hp HLD HCA HG HL HO HM
 go_wp2_with fail
 exact bodyPost_end (v:=.tuple #[]) (by simp [results,Tryz.results144,go_sem]) rfl ⟨rfl,HP.out⟩
end
section
open Go.RowKit Go.Maps
def zero8:List Value:=[.int .i64 0,.int .i64 0,.int .i64 0,.int .i64 0,.int .i64 0,.int .i64 0,.int .i64 0,.int .i64 0]
def zero16:List Value:=zero8++zero8
theorem join_zero2 (b:Nat) (w:World) (h:Holds w b 43 zero16) :
  Calls Tryz.prog 216 #[.slice (some ⟨b,0,none⟩) 2 2] w fun e w'=>e=.returned (.agg zero8.toArray)∧Below w.heap.size w w':=by
 have hr:IsRows w (some ⟨b,0,none⟩) 2 8 fun i=>((fun _:Nat=>At.of 0) i).cells:=by
  refine⟨by unfold maxLen;omega,fun _ _=>rfl,fun _=>⟨b,0,rfl,h.lt,fun i hi j hj=>?_⟩⟩
  rw [Nat.zero_add,h.cell]
  have hi2:i=0∨i=1:=by omega
  have hj2:j=0∨j=1∨j=2∨j=3∨j=4∨j=5∨j=6∨j=7:=by omega
  rcases hi2 with rfl|rfl<;>rcases hj2 with rfl|rfl|rfl|rfl|rfl|rfl|rfl|rfl<;>rfl
 have hj:(joinAll (fun _:Nat=>At.of 0) 1).cells=zero8:=by rfl
 refine (join_any b 0 2 2 (fun _=>At.of 0) w hr (by omega) (by omega) (by omega)).mono ?_
 rintro e w' ⟨rfl,hb⟩
 refine⟨?_,hb⟩
 rw [show 2-1=1 from rfl,hj]
end
end Go.Proofs.YtimdpiifpibgfaaGreatDoor
