/- A part of the proof of TopReads. -/
import Derived.Test.YtimdpiifpibgfaaGreatDoorQr34
set_option linter.all false
set_option maxRecDepth 20000
set_option maxHeartbeats 16000000
open Go.RowKit Go.Maps
namespace Go.Proofs.YtimdpiifpibgfaaGreatDoor
open Tryz
section
open Rz (zn zN zp zK)
variable [Rz]
def Jg(w:World)(F:Ap):Ap:=λk=>F k/\((∃t L,Holds w k t L/\t∈Hq)\/IP w k)
theorem Jg.of{w:World}{F:Ap}{k:Nat}{t:TypeId}{L:List Value}(hf:F k)(h:Holds w k t L)(ht:t∈Hq):Jg w F k:=⟨hf,.inl ⟨t,L,h,ht⟩⟩
theorem Jg.map{w:World}{F:Ap}{k:Nat}(hf:F k)(h:IP w k):Jg w F k:=⟨hf,.inr h⟩
theorem OG{w:World}{F:Ap}{v:Value}{ob:Option Nat}{e:TypeId}{s n:Nat}{xs:List Value}(h:AV w v ob e s n xs)(hf:∀g,ob=some g->F g)(he:e∈Hq):∀k,ob=some k->Jg w F k:=λk b=>by
 rcases h.cases with⟨_,a,_⟩|⟨d,_,_,_,a,_,_,c,_⟩
 .rw[a] at b;cases b
 .rw[a] at b;cases b;exact .of (hf _ a) c he
theorem OE{w:World}{F:Ap}{v:Value}{ob:Option Nat}{e:TypeId}{s n:Nat}{xs:List Value}{T:List TypeId}(h:AV w v ob e s n xs)(he:e∉T):∀k,ob=some k->DN w F T k:=λk a=>by
 rcases h.cases with⟨_,b,_⟩|⟨d,_,_,_,b,_,_,c,_⟩
 .rw[b] at a;cases a
 .rw[b] at a;cases a;exact Ep c he
theorem DN.Ey{w:World}{F:Ap}{T:List TypeId}{k:Nat}{v:Value}{ob:Option Nat}{e:TypeId}{s n:Nat}{xs:List Value}(h:DN w F T k)(ho:AV w v ob e s n xs)(hf:∀g,ob=some g->F g)(he:e∈T):∀g,ob=some g->k≠g:=λg b=>by
 rcases ho.cases with⟨_,a,_⟩|⟨d,_,_,_,a,_,_,c,_⟩
 .rw[a] at b;cases b
 .rw[a] at b;cases b;exact h.ne c (hf _ a) he
def GK(F:Ap)(gc me:Nat)(p:Nat->Pz)(lt:Int)(wz:Bool)(r m:Nat)(V:Nat->List Value)(w w':World):Prop:=
 ∃recs cout,Ea w' (grow F w w') gc me p lt wz recs cout/\Tv w' w.heap.size r recs/\Fh w' (grow F w w') cout m V/\Mv (Jg w F) w w'
def tH:Pz->Bool
 | .lead _=>true
 | _=>false
section
variable {w w':World} {F G:Ap} {gc me:Nat} {p p':Nat->Pz} {lt:Int} {wz:Bool} {recs out:Value} {gl gm nl gi gx ni:Nat} {L:List A7} {E:List CY} {leads:Value} {ob:Option Nat} {xs:List Lx} {ws:List Wx}
theorem iF{y:Lx}{j:Nat}(h1:y.j<zN)(h2:(zK y.j).m=me)(hj:j<zN)(hne:y.j≠j):(Lx.ld me y).is (zK j).m (zK j).I.sl=false:=by
 cases b:Ld.is (zK j).m (zK j).I.sl (Lx.ld me y) with
 | false=>rfl
 | true=>
  unfold Ld.is at b;simp only[Bool.and_eq_true,beq_iff_eq] at b;obtain⟨c,a⟩:=b;have c:(me:Int)=(zK j).m:=c;have a:(zK y.j).I.sl=(zK j).I.sl:=a;exact absurd (Gv h1 hj BJ a) hne
theorem Ei.no(h:Ei w F me p lt leads ob xs){j:Nat}(hj:j<zN)(hl:tH (p j)=false):∀l∈xs.map (Lx.ld me),l.is (zK j).m (zK j).I.sl=false:=λl d=>by obtain⟨x,f,rfl⟩:=List.mem_map.1 d;obtain⟨⟨a,b,c,_⟩,_⟩:=h.x x f;exact iF a b hj λe=>by rw[<-e,c] at hl;cases hl
theorem Ei.len(h:Ei w F me p lt leads ob xs):xs.length<=15:=by
 have a:(xs.map Lx.j).Nodup:=List.pairwise_map.2 (h.up.imp λg e=>BJ);have b:=Xd (xs.map Lx.j) (List.range zN) a λj c=>by obtain⟨x,d,rfl⟩:=List.mem_map.1 c;exact List.mem_range.2 (h.x x d).1.1
 rw[List.length_map,List.length_range] at b;have f:zN<=15:=Rz.hN;omega
theorem Ei.MH(h:Ei w F me p lt leads ob xs)(hp:∀j A,p' j=.lead A ↔ p j=.lead A):Ei w F me p' lt leads ob xs:=
 ⟨h.ls,h.f,λx l=>by
  obtain⟨⟨a,b,c,d⟩,g⟩:=h.x x l;exact⟨⟨a,b,(hp _ _).2 c,d⟩,g⟩,λj A i k=>h.all j A i ((hp _ _).1 k),h.up,h.ap⟩
theorem TY{j:Nat}{x:Pz}(h1:tH (p j)=false)(h2:tH x=false)(i:Nat)(A:List Nat):CE p j x i=.lead A ↔ p i=.lead A:=by
 by_cases e:i=j
 .subst e;rw[DU];constructor
  .intro h;rw[h] at h2;cases h2
  .intro h;rw[h] at h1;cases h1
 .rw[Bi e]
theorem O7.fin{wi:CO}(h:O7 w F gc me p lt wz AL AL wi gl gm nl gi gx ni L E leads ob xs ws){nl' ni':Nat}{L':List A7}{E':List CY}{leads':Value}{ob':Option Nat}{xs':List Lx}(hm:Mv G w w')(hG:∀k,G k->k<w.heap.size->DN w F Ig k) (co:@BB wi w' gc zn me gl gm nl' gi gx ni' L' E' leads' recs out) (c1:nl'<=EI p') (c2:ni'<=EI p') (c3:L'.length<=EI p') (lg:Nh p' L') (ix:Y2 p' E') (ld:Ei w' (grow F w w') me p' lt leads' ob' xs'):Ea w' (grow F w w') gc me p' lt wz recs out:=by obtain⟨a,b,c,d,g⟩:=h.f;exact⟨wi,gl,gm,nl',gi,gx,ni',L',E',leads',ob',xs',ws,co,c1,c2,c3,⟨.inl a,.inl b,.inl c,.inl d,.inl g⟩,lg,ix,ld,(h.wsh.away hm hG (λ_ h=>h)).foot (λk i _=>.inl i),h.wz⟩
theorem three{wi:CO}(h:O7 w F gc me p lt wz AL AL wi gl gm nl gi gx ni L E leads ob xs ws):(∀k,(k=gc\/k=gm\/k=gx)->Jg w F k)/\(∀T:List TypeId,163∉T->∀k,(k=gc\/k=gm\/k=gx)->DN w F T k):=by
 obtain⟨a,g,b,i,c⟩:=h.f;refine⟨?_,λT d=>?_⟩
 .rintro k (rfl|rfl|rfl)
  .exact .of a h.co.hc Iz
  .exact .map b h.co.lg.isMap
  .exact .map c h.co.ix.isMap
 .rintro k (rfl|rfl|rfl)
  .exact Ep h.co.hc d
  .exact .inr h.co.lg.isMap
  .exact .inr h.co.ix.isMap
theorem Ei.grow(h:Ei w' F me p lt leads ob xs):Ei w' (grow F w w') me p lt leads ob xs:=h.foot λk a _=>.inl a
end
theorem SN{p:Nat->Pz}{j:Nat}(hj:j<zN)(h:p j=.fresh):EI (CE p j .pre)=EI p+1:=by have:=IG (p:=p) (x:=.pre) hj;rw[h] at this;simpa[cst] using this
theorem Ll{p:Nat->Pz}{j:Nat}(hj:j<zN)(h:isC (p j)=false):EI p+1<=EI (CE p j .com):=by have:=IG (p:=p) (x:=.com) hj;cases a:p j<;>rw[a] at this h<;>simp only[cst] at this<;>first|(cases h;done)|omega
theorem TA(dv:Nat->Nat->Int)(m:Lz):FQ dv [m] 0=FM dv m:=rfl
theorem Oj{s m:Nat}{V V':Nat->List Value}(hs:0<s)(h:∀i,i<m->V i=V' i):flat s m V=flat s m V':=by unfold flat;refine List.map_congr_left λt b=>?_;have a:t<m*s:=List.mem_range.1 b;rw[h (t / s) (Nat.div_lt_of_lt_mul (by rw[Nat.mul_comm];exact a))]
theorem Fh.MH{w:World}{F:Ap}{out:Value}{m:Nat}{V V':Nat->List Value}(h:Fh w F out m V)(hV:∀i,i<m->V i=V' i):Fh w F out m V':=by obtain⟨a,d,b,c⟩:=h;exact⟨a,d,Oj (s:=51) Iz hV▸b,c⟩
theorem Fh.nil0(w:World)(F:Ap)(V:Nat->List Value):Fh w F AL 0 V:=⟨λ_=>rfl,none,AV.nil _ _ _,Vj⟩
theorem Jq(dv:Nat->Nat->Int)(k f t j:Nat)(h1:k≠9)(h2:k≠11):FM dv ⟨k,f,t,j⟩=@BC (zK j).I k f t (zK j).m (if k=2 then Cm.zero else (zK j).c):=by unfold FM;rw[if_neg (by simp[h1,h2])]
theorem pg(j:Nat):(zK j).m<7/\(zK j).m<zn:=by have a:(zK j).m<zn:=Rz.m j;have b:zn=3\/zn=5\/zn=7:=Rz.n7;omega
section
variable {w:World} {F:Ap} {gc me:Nat} {p:Nat->Pz} {lt:Int} {wz:Bool} {f j:Nat}
theorem QC(V:Nat->List Value){w':World}(h:Ea w F gc me p lt wz AL AL)(hb:Below w.heap.size w w'):GK F gc me p lt wz 0 0 V w w':=
 ⟨_,_,(h.away (G:=λ_=>False) (T:=Hq) (.of_below hb) (λ_ h=>h.elim) (λ_ h=>h)).foot λk a _=>.inl a,.inl ⟨rfl,rfl⟩,Fh.nil0 _ _ _,.of_below hb⟩
theorem dV(dv:Nat->Nat->Int){d:Nat->Int}(h:Ea w F gc me p lt wz AL AL)(hd:Ko p d)(hr:Ij p d)(hj:j<zN)(hp:p j=.fresh)(hdn:∀i,i<zp->i<j->Dc d i=true)(hf:f=(zK j).m)(hme:me<zn)(hne:f≠me) :Calls prog 75 #[AP gc,.agg (FM dv ⟨1,f,me,j⟩).toArray] w λe w'=>e=.returned (.bool false)/\GK F gc me (CE p j .pre) lt wz 1 1 (FQ dv [⟨2,me,f,j⟩]) w w':=by
 obtain⟨wi,o,l,v,t,q,C,L,E,ah,D,xs,ws,h⟩:=h
 letI:In:=(zK j).I
 have u:=pg j;have h7:zn=3\/zn=5\/zn=7:=Rz.n7;have ad:=FO p;have ae:=SN hj hp;subst hf;rw[Jq dv 1 _ _ _ Iz Iz];obtain⟨H,x,rfl⟩:=h.ld.ls.slice;have z:=Rz.c j hj;have S:=YH h.ix hd hr hj (by rw[hp];rfl) hdn;have b:=h.co;have Y:=h.ld.no hj (by rw[hp];rfl);have af:=h.ld.len;have e1:=h.nl;have e2:=h.ni;refine Ah (dh gc zn me o t (zK j).m (zK j).m (zK j).c _ _ _ (λW w'=>Nj L E H (xs.map (Lx.ld me)).length x gc zn me o l v t q C (zK j).m (zK j).m (zK j).c W w') w b.hc u.2 u.2 (Xp (zK j).m me (zK j).m (zK j).c z.right BJ BJ BJ hne) (λW a=>Ha o l v _ (zK j).m In.sl W (b.lg.bel a) (E8 (zK j).m BJ)) (λW a=>Y5 gc zn me o l v t q C (zK j).m me (zK j).m (zK j).c L E H _ x D (xs.map (Lx.ld me)) W (h.lg.no hj (by rw[hp];rfl)) S (b.bel a) (h.ld.ls.bel a) Y (by rw[List.length_map];omega) BJ BJ u.1 z)) ?_;rintro w' ⟨J,a,R,Q,m,rv,ab,ac,aa,K,M,N,O,c5,y,P,r⟩;have Z:=a.size;have ag:=r.size;obtain⟨t1,t2⟩:=three h;have U:∀k,(k=gc\/k=l\/k=q)->k<J.heap.size->DN J F Ib k:=λk n _=>by
  rcases n with rfl|rfl|rfl
  .exact Ep (b.hc.bel a) Iz
  .exact .inr (b.bel a).lg.isMap
  .exact .inr (b.bel a).ix.isMap
 have X:Ei w' F me p lt _ D xs:=(h.ld.away (G:=λ_=>False) (T:=Ib) (.of_below a) (λ_ h=>h.elim) (λ_ h=>h)).away (T:=Ib) r U (λ_ h=>h);have B:Mv (λk=>k=gc\/k=l\/k=q) w w':=(Mv.of_below a).mv r λk n=>.inl n;refine⟨rfl,_,ab,h.fin B (λk n _=>t2 Ig Iz k n) K BJ BJ (by have:=OA L (zK j).UM;have:=h.ln;show (Ci L (zK j).UM).length<=_;omega) (h.lg.put hj rfl) (h.ix.put hj rfl) ((X.MH (TY (by rw[hp];rfl) rfl)).grow),.inr ⟨rfl,R,Q,m,rv,ac,rfl,M,Au.mono N Z,O,BJ⟩,⟨λh=>(by cases h),aa,?_,λg A=>.inr ⟨by have:=P g A;omega,y.lt g A⟩⟩,B.more t1⟩;rw[Ir (s:=51) (V:=FQ dv [⟨2,me,(zK j).m,j⟩]) rfl,TA,Jq dv 2 _ _ _ Iz Iz];exact y
theorem VL(dv:Nat->Nat->Int)(h:Ea w F gc me p lt wz AL AL)(hj:j<zN)(hp:p j=.com)(hf:f=(zK j).m)(hme:me<zn)(hne:f≠me) :Calls prog 75 #[AP gc,.agg (FM dv ⟨1,f,me,j⟩).toArray] w λe w'=>e=.returned (.bool false)/\GK F gc me p lt wz 0 1 (FQ dv [⟨5,me,f,j⟩]) w w':=by
 obtain⟨S,i,n,r,l,v,z,L,E,q,J,xs,U,h⟩:=h
 letI:In:=(zK j).I
 have o:=pg j;have P:zn=3\/zn=5\/zn=7:=Rz.n7;subst hf;rw[Jq dv 1 _ _ _ Iz Iz];have D:=Rz.c j hj;have d:=h.co;have C:(⟨(zK j).m,In.sl,cellL 3 (zK j).c false⟩:A7)∈L:=(h.lg _).2 ⟨j,hj,by rw[hp];rfl⟩;refine Ah (dh gc zn me i l (zK j).m (zK j).m (zK j).c _ _ _ (λW w'=>bZ gc zn me i n r l v z (zK j).m (zK j).m (zK j).c L E q 5 W w') w d.hc o.2 o.2 (Xp (zK j).m me (zK j).m (zK j).c D.right BJ BJ BJ hne) (λW a=>Ha i n r _ (zK j).m In.sl W (d.lg.bel a) (E8 (zK j).m BJ)) (λW a=>Y4 gc zn me i n r l v z (zK j).m me (zK j).m (zK j).c L E q W C (d.bel a) o.1)) ?_;rintro w' ⟨R,a,M,K,A,t,B,u⟩;have Q:=a.size;obtain⟨N,O⟩:=three h;have H:Ei w' F me p lt q J xs:=(h.ld.away (G:=λ_=>False) (T:=Ib) (.of_below a) (λ_ h=>h.elim) (λ_ h=>h)).away (T:=Ib) u (λk b _=>by rw[b];exact Ep (d.hc.bel a) Iz) (λ_ h=>h);have y:Mv (λk=>k=gc) w w':=(Mv.of_below a).mv u λk b=>.inl b;refine⟨rfl,_,M,h.fin y (λk b _=>O Ig Iz k (.inl b)) A h.nl h.ni h.ln h.lg h.ix H.grow,.inl ⟨rfl,rfl⟩,⟨λh=>(by cases h),K,?_,λg x=>.inr ⟨by have:=B g x;omega,t.lt g x⟩⟩,y.more λk b=>N k (.inl b)⟩;rw[Ir (s:=51) (V:=FQ dv [⟨5,me,(zK j).m,j⟩]) rfl,TA,Jq dv 5 _ _ _ Iz Iz];exact t
theorem ZI(dv:Nat->Nat->Int)(V:Nat->List Value)(h:Ea w F gc me p lt wz AL AL)(hj:j<zN)(hp:p j=.fresh\/p j=.pre)(hf:f<zn)(hme:me<zn)(hne:f≠me) :Calls prog 75 #[AP gc,.agg (FM dv ⟨5,f,me,j⟩).toArray] w λe w'=>e=.returned (.bool false)/\GK F gc me (CE p j .com) lt wz 1 0 V w w':=by
 obtain⟨wi,g,i,y,t,u,G,L,E,ab,n,xs,ws,h⟩:=h
 letI:In:=(zK j).I
 have C:=pg j;have h7:zn=3\/zn=5\/zn=7:=Rz.n7;have ad:=FO p;have Y:isC (p j)=false:=by rcases hp with h|h<;>rw[h]<;>rfl
 have D:tH (p j)=false:=by rcases hp with h|h<;>rw[h]<;>rfl
 have ae:=Ll hj Y;rw[Jq dv 5 _ _ _ Iz Iz];have B:=Rz.c j hj;have q:=h.co;have Z:=h.ld.no hj D;have af:=h.ld.len;have e1:=h.nl;have e2:=h.ni;obtain⟨s,bv,aa⟩:∃s bv,qE L (zK j).m (zK j).c s bv:=by
  rcases hp with hp|hp
  .exact⟨_,_,.inl ⟨h.lg.no hj (by rw[hp];rfl),rfl,rfl⟩⟩
  .exact⟨_,_,.inr ⟨(h.lg _).2 ⟨j,hj,by rw[hp];rfl⟩,rfl,rfl⟩⟩
 refine Ah (eF gc zn me g t f (zK j).m (zK j).c _ _ _ (λW w'=>∃o,qy gc zn me g i y t u G L E o AL n (xs.map (Lx.ld me)) (zK j).m 3 (zK j).c false W w') w q.hc hf C.2 (Xr f me (zK j).m (zK j).c B.right BJ BJ BJ hne) (λW b=>Ha g i y _ (zK j).m In.sl W (q.lg.bel b) (E8 (zK j).m BJ)) (λW b=>je gc zn me g i y t u G f me (zK j).m (zK j).c L E ab n (xs.map (Lx.ld me)) s bv W (q.bel b) (h.ld.ls.bel b) Z (by rw[List.length_map];omega) aa BJ BJ C.1 B)) ?_;rintro w' ⟨w1,b,o,T,S,m,rv,ac,M,Q,N,O,P,c5,z⟩;have hs:=b.size;have ag:=z.size;obtain⟨t1,H⟩:=three h;have v:Mv (λk=>(k=gc\/k=i\/k=u)\/n=some k) w w':=(Mv.of_below b).mv z λk a=>.inl a;have U:∀x∈xs,AV w' x.R x.ob 43 8 x.A.length (flat 8 x.A.length λ_=>@ED (zK x.j).I):=λx l=>by
  obtain⟨_,_,r,d⟩:=h.ld.x x l;refine d.mv v λk a hf=>?_;rcases hf with hf|hf
  .exact(H [43] Iz k hf).Ey d r Iz k a rfl
  .exact IK d h.ld.ls.own Iz k a hf
 have X:Ei w' F me p lt o n xs:=⟨Q,h.ld.f,λx l=>by
  obtain⟨J,K,r,d⟩:=h.ld.x x l;exact⟨J,K,r,U x l⟩,h.ld.all,h.ld.up,h.ld.ap⟩
 refine⟨rfl,_,AL,h.fin v (λk a _=>?_) M BJ BJ (by have:=OA L (zK j).IW;have:=h.ln;show (Ci L (zK j).IW).length<=_;omega) (h.lg.put hj rfl) (h.ix.put hj rfl) ((X.MH (TY D rfl)).grow),.inr ⟨rfl,T,S,m,rv,ac,rfl,N,Au.mono O hs,P,BJ⟩,Fh.nil0 _ _ _,v.more λk a=>?_⟩
 .rcases a with a|a
  .exact H Ig Iz k a
  .exact OE h.ld.ls.own Iz k a
 .rcases a with a|a
  .exact t1 k a
  .exact OG h.ld.ls.own h.ld.f Iz k a
theorem UK(dv:Nat->Nat->Int)(V:Nat->List Value)(h:Ea w F gc me p lt wz AL AL)(hj:j<zN)(hp:p j=.com)(hf:f<zn)(hme:me<zn)(hne:f≠me) :Calls prog 75 #[AP gc,.agg (FM dv ⟨5,f,me,j⟩).toArray] w λe w'=>e=.returned (.bool false)/\GK F gc me p lt wz 0 0 V w w':=by
 have n:=h;obtain⟨z,d,i,l,g,t,v,L,E,s,x,B,A,h⟩:=h
 letI:In:=(zK j).I
 have k:=pg j;have u:zn=3\/zn=5\/zn=7:=Rz.n7;rw[Jq dv 5 _ _ _ Iz Iz];have r:=Rz.c j hj;have b:=h.co;have o:(⟨(zK j).m,In.sl,cellL 3 (zK j).c false⟩:A7)∈L:=(h.lg _).2 ⟨j,hj,by rw[hp];rfl⟩;refine Ah (eF gc zn me d g f (zK j).m (zK j).c _ _ _ (λW w'=>Below W.heap.size W w') w b.hc hf k.2 (Xr f me (zK j).m (zK j).c r.right BJ BJ BJ hne) (λW a=>Ha d i l _ (zK j).m In.sl W (b.lg.bel a) (E8 (zK j).m BJ)) (λW a=>jd gc zn me d i l g f me (zK j).m (zK j).c L s _ _ W (b.hc.bel a) (b.lg.bel a) o k.1)) ?_;rintro w' ⟨y,a,q⟩;exact⟨rfl,QC V n (a.trans (q.mono a.size))⟩
theorem ZH(dv:Nat->Nat->Int)(V:Nat->List Value)(h:Ea w F gc me p lt wz AL AL)(hj:j<zN)(hp:p j=.com)(hf:f<zn)(hme:me<zn)(hne:f≠me) :Calls prog 75 #[AP gc,.agg (FM dv ⟨2,f,me,j⟩).toArray] w λe w'=>e=.returned (.bool false)/\GK F gc me p lt wz 0 0 V w w':=by
 have i:=h;obtain⟨z,c,g,q,d,t,x,L,E,o,r,s,A,h⟩:=h
 letI:In:=(zK j).I
 have l:=pg j;have u:zn=3\/zn=5\/zn=7:=Rz.n7;rw[Jq dv 2 _ _ _ Iz Iz];have b:=h.co;have n:=h.ld.no hj (by rw[hp];rfl);have v:=h.ld.len;refine Ah (dw gc zn me c d f (zK j).m Cm.zero _ _ _ (λW w'=>Below W.heap.size W w') w b.hc hf l.2 (Xq f me (zK j).m BJ BJ BJ hne) (λW a=>Ha c g q _ (zK j).m In.sl W (b.lg.bel a) (E8 (zK j).m BJ)) (λW a=>RZ gc zn me c d f me (zK j).m o _ _ r (s.map (Lx.ld me)) W (b.hc.bel a) (h.ld.ls.bel a) n (by rw[List.length_map];omega))) ?_;rintro w' ⟨y,a,k⟩;exact⟨rfl,QC V i (a.trans (k.mono a.size))⟩
theorem GM.bel[In][CO]{w w':World}{gc n me gl gm nl gi gx ni q:Nat}{c:Cm}{L:List A7}{E:List CY}{V:Value}{ob0:Option Nat}{A B:List Ld}{gld:Nat}{a:Nat->Int}{R:Value}{ob:Option Nat}{cnt:Nat}{tk:Int}(h:GM w gc n me gl gm nl gi gx ni q c L E V ob0 A B gld a R ob cnt tk)(hb:Below w.heap.size w w'):GM w' gc n me gl gm nl gi gx ni q c L E V ob0 A B gld a R ob cnt tk:=⟨h.co.bel hb,h.ls.bel hb,h.hr.bel hb⟩
instance [In][CO]{w w':World}{gc n me gl gm nl gi gx ni q:Nat}{c:Cm}{L:List A7}{E:List CY}{V:Value}{ob0:Option Nat}{A B:List Ld}{gld:Nat}{a:Nat->Int}{R:Value}{ob:Option Nat}{cnt:Nat}{tk:Int}:Bl w w' (GM w gc n me gl gm nl gi gx ni q c L E V ob0 A B gld a R ob cnt tk) (GM w' gc n me gl gm nl gi gx ni q c L E V ob0 A B gld a R ob cnt tk):=⟨λhb h=>GM.bel h hb⟩
theorem oh(A:List Nat)(f:Nat):MI (G6 A) f=G6 (A++[f]):=by
 funext r
 unfold MI G6;by_cases h:r=f<;>simp[h]
theorem Zz:∀n∈[3,5,7],∀o∈List.range n,((List.range n).filter λr=>r != o)=(List.range (n-1)).map λi=>if i<o then i else i+1:=Iz
theorem Pn(dv:Nat->Nat->Int)(k me j:Nat)(hm:(zK j).m=me)(hk:k=1\/k=5):(((List.range zn).filter λr=>r != me).map λr=>(⟨k,me,r,j⟩:Lz)).length=zn-1/\∀i,i<zn-1->@Rl (zK j).I k me (zK j).m (zK j).c i=FQ dv (((List.range zn).filter λr=>r != me).map λr=>⟨k,me,r,j⟩) i:=by
 have a:me<zn:=by rw[<-hm];exact Rz.m j
 have d:zn=3\/zn=5\/zn=7:=Rz.n7;rw[Zz zn (by simp;omega) me (List.mem_range.2 a)];refine⟨Vj,λi b=>?_⟩;unfold FQ;have:((List.map (λi=>if i<me then i else i+1) (List.range (zn-1))).map λr=>(⟨k,me,r,j⟩:Lz)).getD i ⟨9,0,0,0⟩=⟨k,me,if i<me then i else i+1,j⟩:=by simp[List.getD_eq_getElem?_getD,b]
 rw[this,Jq dv k _ _ _ BJ BJ,show (if k=2 then Cm.zero else (zK j).c)=(zK j).c from if_neg BJ]
 rfl
theorem jO{α:Type}{R:α->α->Prop}{X1 X2:List α}{x y:α}(h:(X1++x :: X2).Pairwise R)(h1:∀a∈X1,R a x->R a y)(h2:∀a∈X2,R x a->R y a):(X1++y :: X2).Pairwise R:=by
 rw[List.pairwise_append] at h |-;obtain⟨i,d,g⟩:=h;rw[List.pairwise_cons] at d |-;refine⟨i,⟨λa c=>h2 a c (d.1 a c),d.2⟩,λa c b f=>?_⟩;rcases List.mem_cons.1 f with rfl|f
 .exact h1 a c (g a c x (List.mem_cons_self ..))
 .exact g a c b (List.mem_cons_of_mem _ f)
theorem Yl{α:Type}{R:α->α->Prop}{X1 X2:List α}{x:α}(h:(X1++x :: X2).Pairwise R):(X1++X2).Pairwise R:=h.sublist ((List.sublist_cons_self x X2).append_left X1)
theorem VK(dv:Nat->Nat->Int)(h:Ea w F gc me p lt wz AL AL){A:List Nat}(hj:j<zN)(hp:p j=.lead A)(hA:f∉A)(hl:A.length+2<zn)(hm:(zK j).m=me)(hf:f<zn)(hne:f≠me) :Calls prog 75 #[AP gc,.agg (FM dv ⟨2,f,me,j⟩).toArray] w λe w'=>e=.returned (.bool false) /\((A.length+3<zn/\GK F gc me (CE p j (.lead (A++[f]))) lt wz 0 0 (FQ dv []) w w')\/(¬A.length+3<zn/\GK F gc me (CE p j .com) lt wz 1 (Fj zn me j).length (FQ dv (Fj zn me j)) w w')):=by
 obtain⟨wi,D,J,T,H,O,ni,L,E,N,G,xs,ws,h⟩:=h
 letI:In:=(zK j).I
 have bl:=pg j;have h7:zn=3\/zn=5\/zn=7:=Rz.n7;have bh:=FO p;have bj:=Ll hj (p:=p) (by rw[hp];rfl);rw[Jq dv 2 _ _ _ Iz Iz,hm];have a4:=Rz.c j hj;have a1:=h.co;have a9:=h.ld.len;have e1:=h.nl;have e2:=h.ni;have hL:(⟨me,In.sl,cellL 1 (zK j).c true⟩:A7)∈L:=(h.lg _).2 ⟨j,hj,by rw[hp,<-hm];rfl⟩;obtain⟨x,hx,ag⟩:=h.ld.all j A hj hp;obtain⟨r,X2,rfl⟩:=List.append_of_mem hx;obtain⟨xj,d,xtk,s,xR,C⟩:=x;have ag:j=xj:=Eq.symm ag;subst ag;obtain⟨⟨x1,x2,x3,x4⟩,x5,x6,x7⟩:=h.ld.x _ hx;have bf:d=A:=by rw[hp] at x3;injection x3 with x3;exact x3.symm
 subst bf;have ae:=h.ld.ls;rw[List.map_append,List.map_cons] at ae;have ab:=h.ld.up;have ay:∀y∈r,y.j≠j:=λy b=>by have:=(List.pairwise_append.1 ab).2.2 y b _ (List.mem_cons_self ..);exact Nat.ne_of_lt this
 have az:∀y∈X2,y.j≠j:=λy b=>by have:=(List.pairwise_cons.1 (List.pairwise_append.1 ab).2.1).1 y b;exact Ne.symm (Nat.ne_of_lt this)
 have Y:∀y,y∈r\/y∈X2->y∈r++(⟨j,d,xtk,s,xR,C⟩:Lx) :: X2:=λy b=>by
  rcases b with b|b
  .exact List.mem_append_left _ b
  .exact List.mem_append_right _ (List.mem_cons_of_mem _ b)
 have av:∀y,y∈r\/y∈X2->y.j≠j:=λy b=>b.elim (ay y) (az y);have am:∀y,y∈r\/y∈X2->∀g,C=some g->y.ob≠some g:=λy b g o M=>by
  rcases b with b|b
  .exact(List.pairwise_append.1 h.ld.ap).2.2 y b _ (List.mem_cons_self ..) g M o
  .exact(List.pairwise_cons.1 (List.pairwise_append.1 h.ld.ap).2.1).1 y b g o M
 have ai:∀l∈r.map (Lx.ld me),l.is me In.sl=false:=λl ac=>by obtain⟨y,b,rfl⟩:=List.mem_map.1 ac;have v:=(h.ld.x y (Y y (.inl b))).1;have:=iF v.1 v.2.1 hj (ay y b);rw[hm] at this;exact this
 have a0:∀l∈X2.map (Lx.ld me),l.is me In.sl=false:=λl ac=>by obtain⟨y,b,rfl⟩:=List.mem_map.1 ac;have v:=(h.ld.x y (Y y (.inr b))).1;have:=iF v.1 v.2.1 hj (az y b);rw[hm] at this;exact this
 have bk:r.length+X2.length<=14:=by simp at a9;omega
 have HL:GM w gc zn me D J T H O ni me (zK j).c L E N G (r.map (Lx.ld me)) (X2.map (Lx.ld me)) s (G6 d) xR C d.length xtk:=⟨a1,ae,x7⟩;have af:Holds w s 167 (FP me (zK j).c (G6 d) xR d.length xtk):=ae.blk _ (List.mem_append_right _ (List.mem_cons_self ..));have K:=λ(ah:World->Value->Option Nat->World->Prop) KW=>dw gc zn me D H f me Cm.zero N AL AL (λW w'=>∃w1 u z,GM w1 gc zn me D J T H O ni me (zK j).c L E N G (r.map (Lx.ld me)) (X2.map (Lx.ld me)) s (MI (G6 d) f) u z (d.length+1) xtk/\(z=C\/∃k,z=some k/\W.heap.size<=k)/\Mv (λk=>k=s\/C=some k) W w1/\ah w1 u z w') w a1.hc hf BJ (Xq f me me BJ BJ BJ hne) (λW v=>Ha D J T _ me In.sl W (a1.lg.bel v) (E8 me BJ))
  (λW v=>Ws gc zn me D J T H O ni s me f me d.length (zK j).c L E N G (r.map (Lx.ld me)) (X2.map (Lx.ld me)) (G6 d) xR C xtk ah W (HL.bel v) BJ (by simp[G6,hA]) BJ ai (by simp;omega) KW)
 have hG:∀k,(k=s\/C=some k)->Jg w F k:=by
  rintro k (rfl|n)
  .exact .of x5 af Iz
  .exact OG x7 x6 Iz k n
 have aj:∀k,(k=s\/C=some k)->DN w F Ig k:=by
  rintro k (rfl|n)
  .exact Ep af Iz
  .exact OE x7 Iz k n
 have al:∀y,y∈r\/y∈X2->∀w2,Mv (λk=>k=s\/C=some k) w w2->AV w2 y.R y.ob 43 8 y.A.length (flat 8 y.A.length λ_=>@ED (zK y.j).I):=λy b w2 Q=>by
  obtain⟨_,_,b3,U⟩:=h.ld.x y (Y y b);refine U.mv Q λk n hf=>?_;rcases hf with rfl|hf
  .exact AV.Hw U af Iz _ n rfl
  .exact am y b k hf n
 have ak:∀(W:World) u z,GM W gc zn me D J T H O ni me (zK j).c L E N G (r.map (Lx.ld me)) (X2.map (Lx.ld me)) s (MI (G6 d) f) u z (d.length+1) xtk->Holds W s 167 (FP me (zK j).c (MI (G6 d) f) u ((d.length+1:Nat):Int) xtk):=λW u z t=>t.ls.blk _ (List.mem_append_right _ (List.mem_cons_self ..));by_cases ao:d.length+3<zn
 .refine(K (λW _ _ W'=>Below W.heap.size W W') (λu z W t=>?_)).mono ?_
  .obtain⟨q,cap,rfl,hcap,hcm2,hnil,hrows⟩:=t.hr.rows (V:=λ_=>ED) (λ_ _=>rfl) Iz;refine Ah (X5 gc zn me D H s (d.length+1) cap _ _ _ me (zK j).c (MI (G6 d) f) q xtk W t.co.hc (ak _ _ _ t) hrows hcap hnil BJ BJ BJ) ?_;rintro w' v;exact⟨⟨_,rfl⟩,v⟩
  .rintro e w' ⟨rfl,w1,hb1,w2,u,z,t,hob',Q,v⟩;have t:=t.bel v;have bc:=hb1.size;have bd:=Q.size;have be:=v.size;have Z:Mv (λk=>k=s\/C=some k) w w':=((Mv.of_below hb1).mv Q λk n=>.inl n).bel v;have bm:=x7.lt;have bg:∀y,y∈r\/y∈X2->∀g,y.ob=some g->g<w.heap.size:=λy b=>(h.ld.x y (Y y b)).2.2.2.lt;have aw:∀y,y∈r\/y∈X2->∀g,y.ob=some g->z≠some g:=λy b g o M=>by
    rcases hob' with P|⟨k,P,h3⟩
    .exact am y b g (P▸M) o
    .rw[P] at M;cases M;have:=bg y b g o;omega
   have an:=t.ls;rw[oh] at an;have ad:Ei w' (grow F w w') me (CE p j (.lead (d++[f]))) lt N G (r++(⟨j,d++[f],xtk,s,u,z⟩:Lx) :: X2):=by
    refine⟨?_,λg o=>.inl (h.ld.f g o),λy b=>?_,λi B X S=>?_,jO ab (λa ha h=>h) (λa ha h=>h),jO h.ld.ap (λa ha _ g o=>aw a (.inl ha) g o) (λa ha _ g o M=>aw a (.inr ha) g M o)⟩
    .rw[List.map_append,List.map_cons];have e:Lx.ld me ⟨j,d++[f],xtk,s,u,z⟩=NE s me (zK j).c (G6 (d++[f])) u ((d.length+1:Nat):Int) xtk:=by show NE s me (zK j).c (G6 (d++[f])) u ((d++[f]).length:Nat) xtk=_;rw[List.length_append,List.length_singleton]
     rw[e];exact an
    .have hyy:y∈r\/y∈X2\/y=⟨j,d++[f],xtk,s,u,z⟩:=by
      rcases List.mem_append.1 b with b|b
      .exact .inl b
      .rcases List.mem_cons.1 b with b|b
       .exact .inr (.inr b)
       .exact .inr (.inl b)
     have ax:y∈r\/y∈X2->_:=λb=>by obtain⟨⟨b0,b1,b2,b3⟩,U,b5,b6⟩:=h.ld.x y (Y y b);exact(show (y.j<zN/\(zK y.j).m=me/\CE p j (.lead (d++[f])) y.j=.lead y.A/\0<=y.tk/\y.tk<=lt)/\grow F w w' y.g/\(∀g,y.ob=some g->grow F w w' g)/\AV w' y.R y.ob 43 8 y.A.length (flat 8 y.A.length λ_=>@ED (zK y.j).I) from⟨⟨b0,b1,by rw[Bi (av y b)];exact b2,b3⟩,.inl U,λg o=>.inl (b5 g o),al y b w' Z⟩)
     rcases hyy with b|b|rfl
     .exact ax (.inl b)
     .exact ax (.inr b)
     .refine⟨⟨hj,hm,DU _ _ _,x4⟩,.inl x5,λg o=>?_,?_⟩
      .rcases hob' with P|⟨k,P,h3⟩
       .exact .inl (x6 g (P▸o))
       .have o:z=some g:=o;exact .inr ⟨by rw[P] at o;cases o;omega,t.hr.lt g o⟩
      .show AV w' u z 43 8 (d++[f]).length (flat 8 (d++[f]).length λ_=>ED);rw[List.length_append,List.length_singleton];exact t.hr
    .by_cases e:i=j
     .subst e;exact⟨_,List.mem_append_right _ (List.mem_cons_self ..),rfl⟩
     .rw[Bi e] at S;obtain⟨y,b,aa⟩:=h.ld.all i B X S;refine⟨y,?_,aa⟩;rcases List.mem_append.1 b with b|b
      .exact List.mem_append_left _ b
      .rcases List.mem_cons.1 b with rfl|b
       .exact absurd aa.symm e
       .exact List.mem_append_right _ (List.mem_cons_of_mem _ b)
   have bi:EI (CE p j (.lead (d++[f])))=EI p:=by have:=IG (p:=p) (x:=.lead (d++[f])) hj;rw[hp] at this;simpa[cst] using this
   have a3:∀i,JQ (zK i) (CE p j (.lead (d++[f])) i)=JQ (zK i) (p i):=λi=>by
    by_cases e:i=j
    .subst e;rw[DU,hp];rfl
    .rw[Bi e]
   have a2:∀i,Jm (CE p j (.lead (d++[f])) i)=Jm (p i):=λi=>by
    by_cases e:i=j
    .subst e;rw[DU,hp];rfl
    .rw[Bi e]
   exact⟨rfl,.inl ⟨ao,_,_,h.fin Z (λk n _=>aj k n) t.co BJ BJ (by have:=h.ln;omega) (λe=>(h.lg e).trans (by simp only[a3])) (λe=>(h.ix e).trans (by simp only[a2])) ad,.inl ⟨rfl,rfl⟩,Fh.nil0 _ _ _,Z.more hG⟩⟩
 .refine(K (λW _ _ W'=>∃u,JP gc zn me D J T H O ni L E N G (r.map (Lx.ld me)++NE s me (zK j).c (MI (G6 d) f) u ((d.length+1:Nat):Int) xtk :: X2.map (Lx.ld me)) me (zK j).c W W') (λu z W t=>?_)).mono ?_
  .obtain⟨q,cap,rfl,hcap,hcm2,hnil,hrows⟩:=t.hr.rows (V:=λ_=>ED) (λ_ _=>rfl) Iz;refine Ah (au gc zn me D J T H O ni s me (d.length+1) cap (zK j).c (MI (G6 d) f) q xtk L E N G _ W hL t.co t.ls (by simp;omega) (ak _ _ _ t) BJ BJ BJ BJ BJ a4 hrows hcap hnil BJ BJ BJ) ?_;rintro w' v;exact⟨⟨_,rfl⟩,_,v⟩
  .rintro e w' ⟨rfl,w1,hb1,w2,u,z,t,hob',Q,R9,V',gr,cr,m,rv,out,rest2,ob2,c1,cl,c2,c3,c4,c5,c6,c7,c8⟩;have bc:=hb1.size;have bd:=Q.size;have be:=c8.size;obtain⟨t1,t2⟩:=three h;have ar:Mv (λk=>k=s\/C=some k) w w2:=(Mv.of_below hb1).mv Q λk n=>.inl n;have Z:Mv (λk=>(k=s\/C=some k)\/(k=gc\/k=J\/k=O)\/G=some k) w w':=(ar.more λk n=>.inl n).mv c8 λk n=>.inl (.inr n);have bb:Ld.RN me In.sl (r.map (Lx.ld me)++NE s me (zK j).c (MI (G6 d) f) R9 ((d.length+1:Nat):Int) xtk :: X2.map (Lx.ld me))=(r++X2).map (Lx.ld me):=by
    unfold Ld.RN;rw[List.filter_append,List.filter_cons,if_neg (by simp[Ld.is,NE]),List.map_append]
    congr 1
    .exact Jb ai
    .exact Jb a0
   rw[bb] at cl;have a7:∀y∈r++X2,y∈r\/y∈X2:=λy b=>List.mem_append.1 b;have ad:Ei w' (grow F w w') me (CE p j .com) lt V' G (r++X2):=by
    refine⟨cl,λg o=>.inl (h.ld.f g o),λy b=>?_,λi B X S=>?_,Yl ab,Yl h.ld.ap⟩
    .have b:=a7 y b;obtain⟨⟨b0,b1,b2,b3⟩,U,b5,b6⟩:=h.ld.x y (Y y b);refine⟨⟨b0,b1,by rw[Bi (av y b)];exact b2,b3⟩,.inl U,λg o=>.inl (b5 g o),?_⟩;refine(al y b w2 ar).mv c8 λk n hf=>?_;rcases hf with hf|hf
     .exact(t2 [43] Iz k hf).Ey b6 b5 Iz k n rfl
     .exact IK b6 h.ld.ls.own Iz k n hf
    .have e:i≠j:=λe=>by subst e;rw[DU] at S;cases S
     rw[Bi e] at S;obtain⟨y,b,aa⟩:=h.ld.all i B X S;refine⟨y,?_,aa⟩;rcases List.mem_append.1 b with b|b
     .exact List.mem_append_left _ b
     .rcases List.mem_cons.1 b with rfl|b
      .exact absurd aa.symm e
      .exact List.mem_append_right _ b
   obtain⟨o1,o2⟩:=Pn dv 5 me j hm (.inr rfl);have ba:=h.lg.put hj (x:=.com) (e:=(zK j).IW) rfl;have a8:=h.ix.put hj (x:=.com) rfl;have a6:(⟨me,In.sl,cellL 3 (zK j).c false⟩:A7)=(zK j).IW:=by rw[<-hm];rfl
   have a5:(⟨me,In.sl,(zK j).c,In.aq⟩:CY)=(zK j).en:=by rw[<-hm];rfl
   rw[a6,a5] at c1;refine⟨rfl,.inr ⟨ao,_,out,h.fin Z (λk n _=>?_) c1 BJ BJ (by have:=OA L (zK j).IW;have:=h.ln;omega) ba a8 ad,.inr ⟨rfl,gr,cr,m,rv,rest2,rfl,c2,Au.mono c3 BJ,c4,BJ⟩,?_,Z.more λk n=>?_⟩⟩
   .rcases n with n|n|n
    .exact aj k n
    .exact t2 Ig Iz k n
    .exact OE h.ld.ls.own Iz k n
   .have ho1:(Fj zn me j).length=zn-1:=o1;refine Fh.MH (V:=Rl 5 me me (zK j).c) ?_ λi X=>?_
    .rw[ho1];exact⟨λh=>BJ,ob2,c6,λg o=>.inr ⟨by have:=c7 g o;omega,c6.lt g o⟩⟩
    .rw[ho1] at X;have:=o2 i X;rw[hm] at this;exact this
   .rcases n with n|n|n
    .exact hG k n
    .exact t1 k n
    .exact OG h.ld.ls.own h.ld.f Iz k n
end
end
theorem Zd(w:World)(a b:Nat)(ta tb:TypeId)(La Lb:List Value)(ha:Holds w a ta La)(hb:Holds w b tb Lb)(hne:a≠b)(hl:Lb≠[])(oa ob la ca lb cb:Nat) :(callFunc 219 #[.slice (some ⟨a,oa,none⟩) la ca,.slice (some ⟨b,ob,none⟩) lb cb]).run prog w=.ok (.value (.bool false)) w:=by
 rw[run_callFunc_extern func219 ND ND ND (e:=Extern.SlicesOverlaps.overlaps #[161,161] #[4]) ND,Holds.over underlying161 1 (λw=>ND) ha hb hne hl oa ob la ca lb cb]
 rfl
def Py(ob:Option Nat)(n:Nat)(L:List Value)(w:World)(e:Ending)(w':World):Prop:=∃v' ob',e=.returned v'/\AV w' v' ob' 177 1 n L/\(ob'=ob\/∃g,ob'=some g/\w.heap.size<=g)/\Mv (λk=>ob=some k) w w'
theorem UU(v:Value)(ob:Option Nat)(n:Nat)(L:List Value)(i:Nat)(bs:Nat)(x:Value)(w:World)(h:AV w v ob 177 1 n L)(hone:∀u∈L,u.oneCell'=true)(hxo:x.oneCell'=true)(hx:Holds w bs 177 [x])(hne:ob≠some bs)(hi:i<=n)(hl:n<=1000) :Calls prog 153 #[v,AA i,.slice (Ac bs) 1 1] w (Py ob (n+1) (L.take i++([x]++L.drop i)) w):=by
 have bc:L.length=n:=by have:=h.len;omega
 have hone:=qh hone;have T:∀u∈[x],u.oneCell'=true:=λu B=>by rw[List.mem_singleton.1 B];exact hxo
 obtain⟨N,c⟩:=WZ (show Reads w (Ac bs) [x] from hx.reads 0 [x] λj v hv=>by rw[Nat.zero_add];exact hv) hx;have R:∀e w',(∃v' U,e=Ending.returned v'/\AV w' v' U 177 1 (n+1) (L.take i++([x]++L.drop i))/\(U=ob\/∃g,U=some g/\w.heap.size<=g)/\Mv (λk=>ob=some k) w w')->Py ob (n+1) (L.take i++([x]++L.drop i)) w e w':=λe w' h=>h;generalize Py ob (n+1) (L.take i++([x]++L.drop i)) w=D at R |-;have E:=qh R;clear R;rcases Nat.lt_or_ge i n with ac|ac
 .obtain⟨g,cap,rest,rfl,rfl,W,J,s,t⟩:=h.blk BJ;rw[Nat.mul_one] at t;have aa:bs≠g:=λe=>hne (by rw[e]);have be:¬((i:Int)=(n:Int)):=BJ
  obtain⟨d,a⟩:=WZ s (Mv.refl (λk=>some g=some k) w);by_cases a0:n+1<=cap
  .have hov:∀lb V,(callFunc 219 #[.slice (Ac bs) 1 1,.slice (some ⟨g,i+1,none⟩) lb V]).run prog w=.ok (.value (.bool false)) w:=λlb V=>
    Zd w bs g _ _ _ _ c.o s aa (by intro e;rw[e] at t;simp at t;omega) _ _ _ _ _ _
   have au:((cap:Int)<(n:Int)+1)=False:=by simp;omega
   have aw:(0:Int)<=i:=BJ
   have bb:i<=n:=Nat.le_of_lt ac;have a4:IntKind.i64.wrap ((i:Int)+1)=(i:Int)+1:=by rw[IntKind.wrap_i64];omega
   have a5:IntKind.i64.wrap ((n:Int)+1)=(n:Int)+1:=by rw[IntKind.wrap_i64];omega
   have an:(0:Int)<=(i:Int)+1:=BJ
   have ao:(i:Int)+1<=(n:Int)+1:=BJ
   have a8:(n:Int)+1<=cap:=BJ
   have a3:((i:Int)+1).toNat=i+1:=BJ
   have bd:((n:Int)+1).toNat=n+1:=BJ
   have ap:(cap=i)=False:=by simp;omega
   have aq:(cap=i+1)=False:=by simp;omega
   have a6:(i:Int)<=(n:Int)+1:=BJ
   obtain⟨m,C⟩:=WZ (show (L.drop i).length=(n-i) by rw[List.length_drop];omega) t;have Y:g<w.heap.size:=s.lt;have y:bs<w.heap.size:=c.lt;clear s h;go_in;go_upto_region 15 with(simp only[hov]);obtain⟨d,c,a⟩:=D5 (AY _ w) d c a;have A:∀(j:Nat) v,(L.drop i)[j]?=some v->w.drew.cell? ⟨g,i+j,none⟩=some v:=λj v b=>by rw[d.cell];rw[List.getElem?_drop] at b;rw[List.getElem?_append_left (List.getElem?_eq_some_iff.1 b).1];exact b
   have O:=qh A;clear A hov
   go_region_law (refine FH rfl (.tmp 73) (.tmp 76) 161 161 rfl 177 rfl 1 ND g (i+1) (n+1 - (i+1)) (cap - (i+1)) g i (n+1-i) (cap-i) (by simp[Act.eval,Act.put]) (by simp[Act.eval,Act.put]) _ _ d.o (L.drop i) (by rw[m.out,show Nat.min (n+1-i) (n+1 - (i+1))=n-i from by rw[show n+1 - (i+1)=n-i by omega];exact Nat.min_eq_right BJ];omega) O.o (by have:=C.o;have J:=m.out;omega) (λu B=>hone.out u (List.mem_of_mem_drop B)) ?_;intro w3 p q)
   obtain⟨c,a,f⟩:=bP (c.mv (Mv.AZ (F:=λk=>k=g) q rfl) aa) (a.touch q (.inl rfl)) p;have ae:(splice (L++rest) (i+1) (L.drop i)).length=cap:=by rw[length_splice _ _ _ (by have:=C.o;have J:=m.out;omega)];exact C.o
   have al:=qh ae;clear p q ae;go_wp2_with (first|(refine ER rfl (.tmp 80) (.tmp 81) 161 161 rfl 177 rfl 1 ND g i (n+1-i) (cap-i) bs 0 1 1 rfl rfl _ _ f.o [x] (by rw[show Nat.min 1 (n+1-i)=1 from Nat.min_eq_left BJ];rfl) (λj v b=>by rw[Nat.zero_add,c.cell];exact b) (by rw[List.length_singleton,al.o];omega) T ?_;intro w4 av a2));have a:=qh (a.touch a2 (.inl rfl));have K:=av;have z:(L.drop i).length=(n-i):=m.out;have az:=C.o;rw[List.length_append] at az;have H:splice (splice (L++rest) (i+1) (L.drop i)) i [x]=(L.take i++([x]++L.drop i))++(L++rest).drop (i+1+(L.drop i).length):=by
    have I:(splice (L++rest) (i+1) (L.drop i)).take i=L.take i:=by unfold splice;rw[List.take_append_of_le_length (by simp;omega),List.take_take,Nat.min_eq_left BJ,List.take_append_of_le_length BJ]
    have e3:(splice (L++rest) (i+1) (L.drop i)).drop (i+1)=L.drop i++(L++rest).drop (i+1+(L.drop i).length):=by unfold splice;exact List.drop_left' (by simp;omega)
    rw[show splice (splice (L++rest) (i+1) (L.drop i)) i [x]=(splice (L++rest) (i+1) (L.drop i)).take i++([x]++(splice (L++rest) (i+1) (L.drop i)).drop (i+1)) from rfl,I,e3];simp only[List.append_assoc]
   rw[H] at K;refine E.o _ _ ⟨_,some g,rfl,AV.mk' K ?_ ?_ a0 J,.inl rfl,a.o⟩
   .simp only[List.length_append,List.length_take,List.length_singleton,z];omega
   .simp only[List.length_append,List.length_take,List.length_drop,List.length_singleton,z];omega
  .go_in;have au:(cap:Int)<(n:Int)+1:=BJ
   have aw:(0:Int)<=i:=BJ
   have ba:i<=cap:=BJ
   have aj:∀(j:Nat) v,(L.take i)[j]?=some v->w.cell? ⟨g,0+j,none⟩=some v:=λj v b=>by
    rw[List.getElem?_take] at b;split at b
    .rw[Nat.zero_add,d.cell,List.getElem?_append_left BJ];exact b
    .cases b
   obtain⟨am,ak⟩:=WZ aj (show (L.take i).length=i by rw[List.length_take];omega);clear aj;have a6:(i:Int)<=(n:Int)+1:=BJ
   have bf:(0:Int)<=(n:Int)+1-i:=BJ
   go_upto_region 10 with(first|(at_builtin;refine FN rfl (.tmp 34) (.tmp 39) 161 3 rfl 177 (.pointer none) 1 8 rfl .i64 .i64 rfl ND rfl Iz g 0 i cap (n+1-i) rfl (by show Value.int _ _=_;congr 1;omega) BJ (L.take i) (by rw[ak.out,Nat.mul_one]) am.o BJ (by unfold maxLen;omega) BJ ?_;intro w1 cap1 Z ab ad X ay y a1));rw[Nat.mul_one] at ad;have ag:i+(n+1-i)=n+1:=BJ
   rw[ag] at X |-;obtain⟨f,l,P⟩:=bP ab y ad;clear ab y ag ak;have Y:g<w.heap.size:=d.lt;have y:bs<w.heap.size:=c.lt;obtain⟨d,c,N,a⟩:=bY (d.bel l.o) (c.bel l.o) (N.below l.o) (a.bel l.o);generalize hG:w.heap.size=G at f Y y a1 |-;have ap:(cap1=i)=False:=by simp;omega
   have aq:(cap1=i+1)=False:=by simp;omega
   go_upto_region 11 with(first|(refine ER rfl (.tmp 43) (.tmp 44) 161 161 rfl 177 rfl 1 ND G i (n+1-i) (cap1-i) bs 0 1 1 rfl rfl _ _ f.o [x] (by rw[show Nat.min 1 (n+1-i)=1 from Nat.min_eq_left BJ];rfl) (λj v b=>by rw[Nat.zero_add,c.cell];exact b) (by rw[List.length_singleton];have:=P.o;omega) T ?_;intro r S M));rw[FD _ _ _ _ (by rw[List.length_take];omega)] at S;have a5:G<r.heap.size:=by have:=M.size;omega
   obtain⟨f,d,a,m⟩:=bY (S.bel (AY _ r)) ((d.mv (Mv.AZ (F:=λk=>k=G) M rfl) BJ).bel (AY _ r)) ((a.touch M (.inr BJ)).bel (AY _ r)) (show (L.drop i).length=(n-i) by rw[List.length_drop];omega);clear S M l N c;have A:∀(j:Nat) v,(L.drop i)[j]?=some v->r.drew.cell? ⟨g,i+j,none⟩=some v:=λj v b=>by rw[d.cell];rw[List.getElem?_drop] at b;rw[List.getElem?_append_left (List.getElem?_eq_some_iff.1 b).1];exact b
   have O:=qh A;clear A;have a4:IntKind.i64.wrap ((i:Int)+1)=(i:Int)+1:=by rw[IntKind.wrap_i64];omega
   have an:(0:Int)<=(i:Int)+1:=BJ
   have ao:(i:Int)+1<=(n:Int)+1:=BJ
   have a3:((i:Int)+1).toNat=i+1:=BJ
   have a7:(cap=i)=False:=by simp;omega
   go_region_law (refine FH rfl (.tmp 50) (.tmp 53) 161 161 rfl 177 rfl 1 ND G (i+1) (n+1 - (i+1)) (cap1 - (i+1)) g i (n-i) (cap-i) (by simp[Act.eval,Act.put]) (by simp[Act.eval,Act.put]) _ _ f.o (L.drop i) (by rw[m.out,show Nat.min (n-i) (n+1 - (i+1))=n-i from by rw[show n+1 - (i+1)=n-i by omega];exact Nat.min_self _];omega) O.o (by simp only[List.length_append,List.length_drop,List.length_take,List.length_singleton];have:=P.o;simp only[List.length_append,List.length_take] at this;omega) (λu B=>hone.out u (List.mem_of_mem_drop B)) ?_;intro w3 p q)
   have z:(L.drop i).length=(n-i):=m.out;rw[<-List.append_assoc,FD _ _ _ _ (by rw[List.length_append,List.length_take,List.length_singleton];omega),List.append_assoc] at p;obtain⟨f,a⟩:=WZ p (a.touch q (.inr BJ));clear p q;go_wp2_with fail;refine E.o _ _ ⟨_,some G,rfl,?_,.inr ⟨G,rfl,BJ⟩,a.o⟩;have K:=f.o;have ax:((L.take i).length+Z.length)=cap1:=by have:=P.o;rwa [List.length_append] at this
   rw[List.length_take] at ax;refine AV.mk' (rest:=?_) (by simpa only[List.append_assoc] using K) ?_ ?_ X ay
   .simp only[List.length_append,List.length_take,List.length_singleton,z];omega
   .simp only[List.length_append,List.length_take,List.length_drop,List.length_singleton,z];omega
 .obtain rfl:i=n:=BJ
  have H:L.take i=L:=List.take_of_length_le BJ;have I:L.drop i=[]:=List.drop_eq_nil_of_le BJ;rw[H,I,List.append_nil] at E;clear H I;obtain⟨Q,hn⟩:=WZ h (show v.ownBlock=ob from h.ob);have ar:v=AL/\i=0\/(∃g,v=.slice (Ac g) i i)\/∃g cap,v=.slice (Ac g) i cap/\(cap=i)=False:=by
   rcases h.cases with⟨rfl,rfl,rfl,_⟩|⟨g,cap,rest,rfl,rfl,W,J,s,t⟩
   .exact .inl ⟨rfl,rfl⟩
   .rcases Nat.eq_or_lt_of_le W with rfl|h
    .exact .inr (.inl ⟨_,rfl⟩)
    .exact .inr (.inr ⟨_,_,rfl,by simp;omega⟩)
  clear h hn;rcases ar with⟨rfl,rfl⟩|⟨g,rfl⟩|⟨g,cap,rfl,a9⟩;all_goals
   go_in;go_wp2_with (first|(at_builtin;refine aS (.pointer none) 1 8 Q.o [x] N.out ?_ T;intro v2 bg r ah ai af));obtain⟨Q,l,a⟩:=bP ah ai af;clear ah ai af;exact E.o _ _ ⟨_,_,rfl,Q.o,l.o,a.o⟩
end Go.Proofs.YtimdpiifpibgfaaGreatDoor
