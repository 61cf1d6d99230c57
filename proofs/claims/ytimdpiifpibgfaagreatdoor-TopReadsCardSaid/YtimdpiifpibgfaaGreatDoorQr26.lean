/- A part of the proof of TopReads. -/
import Derived.Test.YtimdpiifpibgfaaGreatDoorQr25
set_option linter.all false
set_option maxRecDepth 20000
set_option maxHeartbeats 16000000
open Go.RowKit Go.Maps
namespace Go.Proofs.YtimdpiifpibgfaaGreatDoor
open Tryz
section
variable [In] [CO]
theorem SE(gc n me gl gm nl gi gx ni:Nat)(L:List A7)(E:List CY)(leads recs out:Value)(w:World)(h:BB w gc n me gl gm nl gi gx ni L E leads recs out)(hl:L.length<=1000) :Calls prog 175 #[AP gc] w λe w'=>∃v,e=.returned v/\Listed L w.heap.size w' v/\Below w.heap.size w w':=by obtain⟨c,a⟩:=WZ (TE gl gm nl L w h.lg hl) h.hc;clear h;go_in;have g:=Am a.o 2;go_wp2_with fail;refine c.mono ?_;rintro e i ⟨v,rfl,f,d⟩;have b:=qh (And.intro f d);clear f d c a g;go_wp2_with fail;go_ret;exact⟨v,rfl,b.1,b.2⟩
theorem Sv(gl gm nl:Nat)(r s:Int)(V:List Value)(L:List A7)(w:World)(h:BF w gl gm nl L)(hL:(⟨r,s,V⟩:A7)∈L) :Calls prog 82 #[AP gl,.agg #[AA r,AA s]] w λe w'=>e=.returned (.tuple #[.agg V.toArray,.bool true])/\Below w.heap.size w w':=by have a:=h.wf _ hL;refine(JX gl gm nl _ r s w h a.1 a.2).mono ?_;rintro e w' ⟨v,f,g,b,i,rfl,c⟩;have d:=b ⟨r,s,V⟩ hL rfl rfl;refine⟨?_,c⟩;rw[d,show Et L r s=true from Iw hL]
theorem SI(gc n me gl gm nl gi:Nat)(r s:Int)(V:List Value)(L:List A7)(leads recs out:Value)(w:World)(h:Holds w gc 163 (BG n me gl gi leads recs out))(hl:BF w gl gm nl L)(hL:(⟨r,s,V⟩:A7)∈L) :Calls prog 176 #[AP gc,.agg #[AA r,AA s]] w λe w'=>e=.returned (.tuple #[.agg V.toArray,.bool true])/\Below w.heap.size w w':=by have x:=qh (λW (h:BF W gl gm nl L)=>Sv gl gm nl r s V L W h hL);have j:V.length=21:=(hl.rows _ hL).1;have A:V.toArray.all (·.oneCell')=true:=(hl.rows _ hL).2;obtain⟨c,d,a⟩:=bP h hl (Base.start w);clear h hl;go_in;go_upto_region 1 with(fail);go_name_world W k;obtain⟨f,b,m,C⟩:=bF 37 ([AA r,AA s]) 45 (zero21) k;clear k;obtain⟨c,d,a⟩:=D5 m c d a;clear m C;generalize D:w.heap.size+1=y at b |-;generalize z:w.heap.size=B at f a D |-;obtain⟨c,d,f,b,a⟩:=Gj (AY _ W) c d f b a;refine Ed [8] 10 (λhSn=>?_);generalize W.drew=G at c d f b a hSn |-;simp only[List.replicate];refine ES 0 ?_;refine BO 3 [5,6,7,8,9] (λw i=>Am (c.bel i) 2) ?_;refine BO 4 [5,6,7,8,9] (λw i=>Cf (f.bel i) 0 1) ?_;refine BN 5 rfl (λK g=>?_);go_simp;refine Ah (x.o _ (d.bel hSn)) ?_;rintro E l;have hSn:=AO hSn l;clear l;refine BR g ?_;clear g;refine F9 6 ?_;refine BN 8 rfl (λK g=>?_);obtain⟨b,a⟩:=Ce hSn b a;refine tB V b.o ?_ A (hi:=by rw[j];kernel_rfl) (hl:=by rw[j];rfl);intro F p q;obtain⟨u,t⟩:=WZ p.Af (a.touch q BJ);clear p q;refine BR g ?_;clear g;refine CW 9 ?_ (hS:=JI);refine BA ?_;clear hSn c d f b a;go_wp2_with fail;refine bodyPost_ret (v:=.tuple #[.agg V.toArray,.bool true]) (results_cell_tmp results176 _ _ y _ _ _ rfl rfl u.o underlying45 rfl (by rw[j];kernel_rfl)) rfl ?_;exact⟨rfl,z▸t.below⟩
end
def Ar(n me gd gw gc gfr:Nat)(P:Value)(o:Nat->Ow)(pv:Nat->Value)(d kp:Nat->Int)(since tk:Int)(waits out ans:Value):List Value:=
 [AA n,AA me,AP gd,AP gw,AP gc,AP gfr,P,
  AA (o 0).seq,AA (o 0).rep.why,.bool (o 0).rep.fd,.string (o 0).rep.val,AA (o 0).rep.ver,pv 0,
  AA (o 1).seq,AA (o 1).rep.why,.bool (o 1).rep.fd,.string (o 1).rep.val,AA (o 1).rep.ver,pv 1,
  AA (o 2).seq,AA (o 2).rep.why,.bool (o 2).rep.fd,.string (o 2).rep.val,AA (o 2).rep.ver,pv 2,
  AA (o 3).seq,AA (o 3).rep.why,.bool (o 3).rep.fd,.string (o 3).rep.val,AA (o 3).rep.ver,pv 3,
  AA (o 4).seq,AA (o 4).rep.why,.bool (o 4).rep.fd,.string (o 4).rep.val,AA (o 4).rep.ver,pv 4,
  AA (o 5).seq,AA (o 5).rep.why,.bool (o 5).rep.fd,.string (o 5).rep.val,AA (o 5).rep.ver,pv 5,
  AA (o 6).seq,AA (o 6).rep.why,.bool (o 6).rep.fd,.string (o 6).rep.val,AA (o 6).rep.ver,pv 6,
  AA (o 7).seq,AA (o 7).rep.why,.bool (o 7).rep.fd,.string (o 7).rep.val,AA (o 7).rep.ver,pv 7,
  AA (d 0),AA (d 1),AA (d 2),AA (d 3),AA (d 4),AA (d 5),AA (d 6),
  AA (kp 0),AA (kp 1),AA (kp 2),AA (kp 3),AA (kp 4),AA (kp 5),AA (kp 6),
  AA since,AA tk,waits,out,ans,.bool false]
theorem Vt(n me gd gw gc gfr:Nat)(P:Value)(o:Nat->Ow)(pv:Nat->Value)(d kp:Nat->Int)(since tk:Int)(waits out ans:Value)(x:Int):(Ar n me gd gw gc gfr P o pv d kp since tk waits out ans).set 69 (AA x)=(Ar n me gd gw gc gfr P o pv d kp x tk waits out ans):=rfl
theorem Vu(n me gd gw gc gfr:Nat)(P:Value)(o:Nat->Ow)(pv:Nat->Value)(d kp:Nat->Int)(since tk:Int)(waits out ans:Value)(P2:Value)(o2:Nat->Ow)(pv2:Nat->Value):splice (Ar n me gd gw gc gfr P o pv d kp since tk waits out ans) 6 (Gx P2 o2 pv2)=(Ar n me gd gw gc gfr P2 o2 pv2 d kp since tk waits out ans):=rfl
theorem Xi(n me gd gw gc gfr:Nat)(P:Value)(o:Nat->Ow)(pv:Nat->Value)(d kp:Nat->Int)(since tk:Int)(waits out ans:Value)(k2:Nat->Int):splice (Ar n me gd gw gc gfr P o pv d kp since tk waits out ans) 62 (Cj k2)=(Ar n me gd gw gc gfr P o pv d k2 since tk waits out ans):=rfl
def oJ(d:Nat->Int)(q:Nat)(x:Int)(r:Nat):Int:=if r=q then x else d r
theorem Xh(n me gd gw gc gfr:Nat)(P:Value)(o:Nat->Ow)(pv:Nat->Value)(d kp:Nat->Int)(since tk:Int)(waits out ans:Value)(q:Nat)(x:Int)(hq:q<7):(Ar n me gd gw gc gfr P o pv d kp since tk waits out ans).set (55+q) (AA x)=(Ar n me gd gw gc gfr P o pv (oJ d q x) kp since tk waits out ans):=by rcases(show q=0\/q=1\/q=2\/q=3\/q=4\/q=5\/q=6 by omega) with rfl|rfl|rfl|rfl|rfl|rfl|rfl<;>rfl
theorem FT(n me gd gw gc gfr:Nat)(P:Value)(o:Nat->Ow)(pv:Nat->Value)(d kp:Nat->Int)(since tk:Int)(waits out ans:Value)(q:Nat)(hq:q<7):(Ar n me gd gw gc gfr P o pv d kp since tk waits out ans)[55+q]?=some (AA (d q)):=by rcases(show q=0\/q=1\/q=2\/q=3\/q=4\/q=5\/q=6 by omega) with rfl|rfl|rfl|rfl|rfl|rfl|rfl<;>rfl
theorem Ou(n me gd gw gc gfr:Nat)(P:Value)(o:Nat->Ow)(pv:Nat->Value)(d kp:Nat->Int)(since tk:Int)(waits out ans:Value):∀(j:Nat) u,(Gx P o pv)[j]?=some u->(Ar n me gd gw gc gfr P o pv d kp since tk waits out ans)[6+j]?=some u:=by
 intro j u h;have a:j<49:=(List.getElem?_eq_some_iff.1 h).1;have e:(Ar n me gd gw gc gfr P o pv d kp since tk waits out ans)[6+j]?=(Gx P o pv)[j]?:=by have:(Gx P o pv)=((Ar n me gd gw gc gfr P o pv d kp since tk waits out ans).drop 6).take 49:=rfl;rw[this,List.getElem?_take_of_lt a,List.getElem?_drop]
 rw[e];exact h
theorem OD(n me gd gw gc gfr:Nat)(P:Value)(o:Nat->Ow)(pv:Nat->Value)(d kp:Nat->Int)(since tk:Int)(waits out ans:Value):∀(j:Nat) u,(Cj d)[j]?=some u->(Ar n me gd gw gc gfr P o pv d kp since tk waits out ans)[55+j]?=some u:=by
 intro j u h;have a:j<7:=(List.getElem?_eq_some_iff.1 h).1;have e:(Ar n me gd gw gc gfr P o pv d kp since tk waits out ans)[55+j]?=(Cj d)[j]?:=by have:(Cj d)=((Ar n me gd gw gc gfr P o pv d kp since tk waits out ans).drop 55).take 7:=rfl;rw[this,List.getElem?_take_of_lt a,List.getElem?_drop]
 rw[e];exact h
theorem iw(n me gd gw gc gfr:Nat)(P:Value)(o:Nat->Ow)(pv:Nat->Value)(d kp:Nat->Int)(since tk:Int)(waits out ans:Value):∀(j:Nat) u,(Cj kp)[j]?=some u->(Ar n me gd gw gc gfr P o pv d kp since tk waits out ans)[62+j]?=some u:=by
 intro j u h;have a:j<7:=(List.getElem?_eq_some_iff.1 h).1;have e:(Ar n me gd gw gc gfr P o pv d kp since tk waits out ans)[62+j]?=(Cj kp)[j]?:=by have:(Cj kp)=((Ar n me gd gw gc gfr P o pv d kp since tk waits out ans).drop 62).take 7:=rfl;rw[this,List.getElem?_take_of_lt a,List.getElem?_drop]
 rw[e];exact h
theorem Vs(n me gd gw gc gfr:Nat)(P:Value)(o:Nat->Ow)(pv:Nat->Value)(d kp:Nat->Int)(since tk:Int)(waits out ans:Value)(k:Nat)(hk:k<8):∀(j:Nat) u,(Je (o k) (pv k))[j]?=some u->(Ar n me gd gw gc gfr P o pv d kp since tk waits out ans)[7+k*6+j]?=some u:=by intro j u h;have:=Ou n me gd gw gc gfr P o pv d kp since tk waits out ans (1+k*6+j) u (nY o pv k hk P j u h);rw[show 7+k*6+j=6+(1+k*6+j) by omega];exact this
def Tn(w:World)(F:Ap)(T:List TypeId)(k:Nat):Prop:=¬F k\/∃t L,Holds w k t L/\t∉T
theorem Tn.ne{w:World}{F:Ap}{T:List TypeId}{k a:Nat}{t:TypeId}{L:List Value}(h:Tn w F T k)(ha:Holds w a t L)(hf:F a)(ht:t∈T):k≠a:=by
 rintro rfl;rcases h with h|⟨d,c,h,b⟩
 .exact h hf
 .exact absurd rfl (h.ne_of ha (λe=>b (e▸ht)))
def DN(w:World)(F:Ap)(T:List TypeId)(k:Nat):Prop:=Tn w F T k\/IP w k
theorem DN.ne{w:World}{F:Ap}{T:List TypeId}{k a:Nat}{t:TypeId}{L:List Value}(h:DN w F T k)(ha:Holds w a t L)(hf:F a)(ht:t∈T):k≠a:=by
 rcases h with h|b
 .exact h.ne ha hf ht
 .exact(Du b ha).symm
theorem Tn.ig{w:World}{F:Ap}{T:List TypeId}{k b:Nat}(h:Tn w F T k)(hm:IP w b)(hf:F b):k≠b:=by
 rintro rfl;rcases h with h|⟨d,a,h,c⟩
 .exact h hf
 .exact absurd rfl (Du hm h)
theorem AV.away{w w':World}{F G:Ap}{T:List TypeId}{v:Value}{ob:Option Nat}{e:TypeId}{s n:Nat}{xs:List Value}(h:AV w v ob e s n xs)(hF:∀g,ob=some g->F g)(hm:Mv G w w')(hG:∀k,G k->k<w.heap.size->DN w F T k)(he:e∈T):AV w' v ob e s n xs:=by
 rcases h.cases with⟨rfl,rfl,rfl,rfl⟩|⟨g,d,m,rfl,rfl,i,j,a,l⟩
 .exact AV.nil _ _ _
 .exact h.mv hm λf c b=>by cases c;exact(hG g b a.lt).ne a (hF g rfl) he rfl
theorem Holds.away{w w':World}{F G:Ap}{T:List TypeId}{a:Nat}{t:TypeId}{L:List Value}(h:Holds w a t L)(hf:F a)(hm:Mv G w w')(hG:∀k,G k->k<w.heap.size->DN w F T k)(he:t∈T):Holds w' a t L:=
 h.mv hm λb=>(hG a b h.lt).ne h hf he rfl
def IE(w:World)(F:Ap)(T:List TypeId):Ap:=λk=>F k/\∃t L,Holds w k t L/\t∈T
theorem IE.ne{w:World}{F:Ap}{T:List TypeId}{k a:Nat}{t:TypeId}{L:List Value}(h:IE w F T k)(ha:Holds w a t L)(ht:t∉T):k≠a:=by rintro rfl;obtain⟨_,f,d,b,c⟩:=h;exact b.ne_of ha (λe=>ht (e▸c)) rfl
theorem IE.Ey{w:World}{F:Ap}{T:List TypeId}{v:Value}{ob:Option Nat}{e:TypeId}{s n:Nat}{xs:List Value}(h:AV w v ob e s n xs)(he:e∉T):∀g,ob=some g->¬IE w F T g:=λg a c=>by
 rcases h.cases with⟨_,b,_⟩|⟨f,_,_,_,b,_,_,d,_⟩
 .rw[b] at a;cases a
 .rw[b] at a;cases a;exact c.ne d he rfl
theorem IE.not{w:World}{F:Ap}{T:List TypeId}{a:Nat}{t:TypeId}{L:List Value}(ha:Holds w a t L)(ht:t∉T):¬IE w F T a:=λh=>h.ne ha ht rfl
def DZ:List TypeId:=[125,129,208]
def GN:List TypeId:=[125,129,208,5]
def Dw(w:World)(F:Ap)(gd gw mb:Nat):Prop:=
 ∃fs of im sg k,BP w gd fs of (im++sg)/\BV im sg k mb/\1<=k/\Holds w gw 208 (IC gd 1 (k:Int))/\F gd/\F gw/\(∀g,of=some g->F g)/\(∀x∈im++sg,∀g,x.ob=some g->F g)
theorem Dw.bel{w w':World}{F:Ap}{gd gw mb:Nat}(h:Dw w F gd gw mb)(hb:Below w.heap.size w w'):Dw w' F gd gw mb:=by obtain⟨a,j,i,l,k,b,c,d,f,g⟩:=h;exact⟨a,j,i,l,k,b.bel hb,c,d,f.bel hb,g⟩
instance {w w':World}{F:Ap}{gd gw mb:Nat}:Bl w w' (Dw w F gd gw mb) (Dw w' F gd gw mb):=⟨λhb h=>Dw.bel h hb⟩
theorem Gf.lt{w:World}{x:Fl}(h:Gf w x):∀g,x.ob=some g->g<w.heap.size:=by obtain⟨_,a,_⟩:=h;exact AV.lt a
theorem Dw.foot{w:World}{F F':Ap}{gd gw mb:Nat}(h:Dw w F gd gw mb)(hF:∀k,F k->k<w.heap.size->F' k):Dw w F' gd gw mb:=by obtain⟨l,t,s,u,k,c,m,n,i,o,p,q,r⟩:=h;exact⟨l,t,s,u,k,c,m,n,i,hF _ o c.d.lt,hF _ p i.lt,λg a=>hF g (q g a) (AV.lt c.f g a),λx j g a=>hF g (r x j g a) ((c.b x j).lt g a)⟩
theorem Dw.away{w w':World}{F G:Ap}{T:List TypeId}{gd gw mb:Nat}(h:Dw w F gd gw mb)(hm:Mv G w w')(hG:∀k,G k->k<w.heap.size->DN w F T k)(hT:∀t∈GN,t∈T):Dw w' F gd gw mb:=by obtain⟨n,v,u,y,k,a,o,p,q,c,g,i,j⟩:=h;refine⟨n,v,u,y,k,⟨a.d.away c hm hG (hT _ Iz),AV.away a.f i hm hG (hT _ Iz),λx l=>?_⟩,o,p,q.away g hm hG (hT _ Iz),c,g,i,j⟩;obtain⟨m,r,s⟩:=a.b x l;exact⟨m,r.away (j x l) hm hG (hT _ Iz),s⟩
theorem xZ(gw gd gl c m M:Nat)(F:Ap)(r:Value)(rest:List Value)(w:World)(h:Dw w F gd gw M)(hM:M<=28000)(hg:Holds w gl 127 (r :: rest))(hr:Be w r m)(h1:1<=m)(h2:m<=1000) :Calls prog 161 #[AP gw,.slice (Ac gl) 1 c] w λe w'=>e=.returned (AA 0)/\Dw w' (grow F w w') gd gw (M+(m+6))/\Mv (IE w F DZ) w w':=by
 obtain⟨H,L,u,O,k,i,v,z,n,o,p,q,A⟩:=h;refine Ah (xe gw gd gl c m k M H L u O r rest w n i v z hM hg hr h1 h2) ?_;rintro w' ⟨I,N,P,K,j,B,C,D,E,G,s⟩;have R:=s.size;refine⟨rfl,⟨I,N,u,P,K,j,B,C,G,.inl o,.inl p,λg hg=>?_,λx t g hg=>?_⟩,s.more λk a=>?_⟩
 .rcases D with e|⟨g',e,h⟩
  .exact .inl (q g (e▸hg))
  .rw[e] at hg;cases hg;exact .inr ⟨h,AV.lt j.f _ e⟩
 .rcases E x t with⟨y,hy,e⟩|h
  .exact .inl (A y hy g (e▸hg))
  .exact .inr ⟨h g hg,(j.b x t).lt g hg⟩
 .rcases a with rfl|a|rfl
  .exact⟨o,_,_,i.d,Iz⟩
  .refine⟨q k a,?_⟩;rcases AV.cases i.f with⟨_,l,_⟩|⟨Q,_,_,_,l,_,_,J,_⟩
   .rw[l] at a;cases a
   .rw[l] at a;cases a;exact⟨_,_,J,Iz⟩
  .exact⟨p,_,_,n,Iz⟩
theorem qF(gw gd M:Nat)(F:Ap)(w:World)(h:Dw w F gd gw M) :Calls prog 161 #[AP gw,AL] w λe w'=>e=.returned (AA 0)/\Below w.heap.size w w':=by obtain⟨l,n,m,o,k,b,c,d,a,f,g,i,j⟩:=h;exact ut gw gd k w a
theorem IE.back{w W:World}{F G:Ap}{T:List TypeId}(hm:Mv G w W)(hG:∀k,G k->¬IE W F T k):∀k,IE W F T k->IE w F T k\/w.heap.size<=k:=λk h=>by
 by_cases b:k<w.heap.size
 .obtain⟨hf,t,L,hh,ht⟩:=h;refine .inl ⟨hf,t,L,?_,ht⟩;have:=hm.block k b λa=>hG k a ⟨hf,t,L,hh,ht⟩;unfold Holds at *;rw[<-this];exact hh
 .exact .inr BJ
theorem Dw.next{w W W':World}{F:Ap}{gd gw mb:Nat}(h:Dw W' (grow F W W') gd gw mb)(h1:w.heap.size<=W.heap.size):Dw W' (grow F w W') gd gw mb:=h.foot λk c _=>c.imp id λ⟨a,b⟩=>⟨BJ,b⟩
theorem kW(v:Value)(m:Nat)(w:World)(h:Be w v m)(h1:1<=m)(hm:m<=1000000) :Calls prog 160 #[v] w λe w'=>∃v',e=.returned v'/\Au w' w.heap.size v' (1+m)/\Below w.heap.size w w':=by
 obtain⟨b,G,c,d,rfl,q,E,a⟩:=h.some h1;have hl:=a.len;have B:=a.2.2.1;obtain⟨A,z⟩:=WZ a (show AV (w.alloc (.cells #[.int .u8 2] 5)) (.slice (Ac w.heap.size) 1 1) (Option.some w.heap.size) 5 1 1 (Ak [2]) from⟨World.ownsRow_lit (size:=1) w #[.int .u8 2] 1 BJ (by unfold maxLen;omega) rfl,rfl⟩);have f:Below w.heap.size w (w.alloc (.cells #[.int .u8 2] 5)):=by go_grown
 have n:=qh f;have C:=f.size;clear a f h;go_in;go_wp2_with (first|(at_builtin;refine aS (.int .u8 0) 1 1 z.o (Ak d) (A.reads.below n.o) ?_ (Dp _) (hl:=by rw[BU,hl,Nat.mul_one]) (hm0:=BJ);intro H D I s t r));obtain⟨u,y⟩:=WZ s (n.trans (r.below C (λk j=>by cases j;exact Nat.le_refl _)));have i:∃g,D=Option.some g/\w.heap.size<=g:=by
  rcases t with q|⟨k,j,F⟩
  .exact⟨_,q,Ve⟩
  .exact⟨k,j,BJ⟩
 obtain⟨g,rfl,i⟩:=i;clear s r t;go_ret;have p:=u.o;rw[show Ak [2]++Ak d=Ak (2 :: d) from rfl] at p;exact⟨_,rfl,p.nX (by intro x l;rcases List.mem_cons.1 l with rfl|l;decide;exact B x l) i BJ,y.o⟩
theorem xw(k:Nat)(hk:k<7):∀W:World,(Instr.index 41 (.agg #[AA 0,AA 0,AA 0,AA 0,AA 0,AA 0,AA 0]) (AA k)).run prog W=.ok (AA 0) W:=by intro W;rcases(show k=0\/k=1\/k=2\/k=3\/k=4\/k=5\/k=6 by omega) with rfl|rfl|rfl|rfl|rfl|rfl|rfl<;>kernel_rfl
theorem rZ(w:World) :Calls prog 68 #[.agg #[.int .i64 0,.int .i64 0,.int .i64 0,.int .i64 0,.int .i64 0,.int .i64 0,.int .i64 0]] w λe w'=>∃v' m,e=.returned v'/\(1<=m/\m<=71)/\Au w' w.heap.size v' m/\Below w.heap.size w w':=by
 have q:=qh (λv a W (h:Be W v a) (u:a<=1000000)=>FU v a 0 W h u (by omega));go_in;go_wp2_with fail;go_loopw [8,3] (λg A wr=>∃i a:Nat,g=.int .i64 (i:Int)/\i<=7/\i+1<=a/\a<=1+10*i/\Au wr w.heap.size A a/\Below w.heap.size w wr) (λg _ _=>7 - (intOf g).toNat);case atStart=>
  have k:(w.alloc (.cells #[.int .i64 0,.int .i64 0,.int .i64 0,.int .i64 0,.int .i64 0,.int .i64 0,.int .i64 0] 41)).heap.size=w.heap.size+1:=by simp
  have f:=World.ownsRow_lit (e:=5) (size:=1) (base:=0) (w.alloc (.cells #[.int .i64 0,.int .i64 0,.int .i64 0,.int .i64 0,.int .i64 0,.int .i64 0,.int .i64 0] 41)) #[.int .u8 1] 1 (Nat.zero_le _) (by unfold maxLen;omega) rfl;rw[k] at f;have r:AV _ (.slice (Option.some ⟨w.heap.size+1,0,none⟩) 1 1) (Option.some (w.heap.size+1)) 5 1 1 (Ak [1]):=⟨f,rfl⟩;exact⟨0,1,rfl,by omega,by omega,by omega,Au.mono (AV.nX r (by intro x y;simp at y;omega) (Nat.le_refl _) (by omega)) (by omega),by go_grown⟩
 case round=>
  obtain⟨i,a,rfl,B,C,D,c,b⟩:=hrel;have j:=qh c;have d:=qh b;clear c b;by_cases s:i=7
  .subst s;go_wp2_with fail;go_ret;exact⟨_,a,rfl,by omega,j.o,d.o⟩
  .have hi7:(i:Int)<7:=by omega
   have t:=xw i (by omega);go_wp2_with fail;refine(q.o _ _ _ j.ET (by omega)).mono ?_;rintro e E ⟨v',z,rfl,k,f,c,b⟩;have l:=d.size;have p:=qh (Au.mono (B':=w.heap.size) c l);have n:=qh (d.trans (b.mono l));clear c b t;go_wp2_with fail;go_roundw;case rel=>exact⟨i+1,z,by simp,by omega,by omega,by omega,p.o,n.o⟩
   case measure=>simp[intOf];omega
def P6(mm:Nat)(out:Value):Prop:=mm=0->out=AL
theorem Au.wH{w w':World}{F:Ap}{B n:Nat}{v:Value}(h:Au w B v n)(hm:Mv F w w')(hF:∀k L,F k->¬Holds w k 5 L):Au w' B v n:=by obtain⟨d,j,l,m,o⟩:=h;exact⟨d,j,l,m,o.imp id λ⟨b,f,c,g,i,a,r⟩=>⟨b,f,c,g,i,(hm.block b (Array.getElem?_eq_some_iff.1 a).1 (λp=>hF b c.toList p a)).trans a,r⟩⟩
theorem nD[CO](g n me gd mb gw gc gl gi gfr gr cr m B mm:Nat)(F:Ap)(leads cout:Value)(obc:Option Nat)(xs:List Value)(rv:Value)(rest:List Value)(P:Value)(o:Nat->Ow)(pv:Nat->Value)(d kp:Nat->Int)(since tk:Int)(waits ans:Value)(w:World) (nd:Holds w g 102 (Ar n me gd gw gc gfr P o pv d kp since tk waits AL ans)) (dk:Dw w F gd gw mb) (hc:Holds w gc 163 (BG n me gl gi leads (.slice (Ac gr) 1 cr) cout)) (hr:Holds w gr 127 (rv :: rest)) (hrv:Au w B rv m) (hm:1<=m/\m<=480) (hco:AV w cout obc 47 51 mm xs) (h1:∀u∈xs,u.oneCell'=true) (hmb:mb<=28000) (hmm:mm<=100) (hc0:mm=0->cout=AL) :Calls prog 90 #[AP g] w λe w'=>e=.returned (.bool true)/\∃out ob,Holds w' g 102 (Ar n me gd gw gc gfr P o pv d kp since tk waits out ans)/\Dw w' (grow F w w') gd gw (mb+(m+7)) /\Holds w' gc 163 (BG n me gl gi leads AL AL)/\AV w' out ob 47 51 mm xs/\(∀k,ob=some k->w.heap.size<=k)/\P6 mm out/\Mv (λk=>k=g\/k=gc\/k=gr\/IE w F DZ k) w w':=by
 have J:gc≠g:=hc.ne_of nd Iz;have K:gr≠g/\gr≠gc:=⟨hr.ne_of nd Iz,hr.ne_of hc Iz⟩;have e5:∀k,obc=some k->k≠g/\k≠gc/\k≠gr:=by
  intro k c;rcases hco.cases with⟨_,t,_⟩|⟨g1,_,_,_,t,_,_,Q,_⟩
  .rw[t] at c;cases c
  .rw[t] at c;cases c;exact⟨Q.ne_of nd Iz,Q.ne_of hc Iz,Q.ne_of hr Iz⟩
 obtain⟨Y,KC,KA,i,I⟩:=dD (λW (h:Holds W gc 163 (BG n me gl gi leads (.slice (Ac gr) 1 cr) cout))=>Og gc n me gl gi leads _ _ W h) (λW (h:Be W rv m)=>kW rv m W h hm.1 BJ) (λr W h hg hr=>xZ gw gd gr cr (1+m) mb F r rest W h hmb hg hr BJ BJ) hr hrv;have ap:∀L,¬Holds w gc 5 L:=λL hL=>hc.ne_of hL Iz rfl;have a3:=hr.lt;obtain⟨f,s,V,l⟩:=bY nd dk hc hco;have a4:g<w.heap.size/\gc<w.heap.size:=⟨nd.lt,hc.lt⟩;have a6:=hco.lt;have a5:(mm:Int)<=100:=BJ
 have aa:∀k,k=gc->k<w.heap.size->DN w F GN k:=λk c _=>c▸.inl (.inr ⟨_,_,hc,Iz⟩);have an:∀z,Mv (λk=>k=g\/k=gc\/k=gr) w z->Holds z g 102 (Ar n me gd gw gc gfr P o pv d kp since tk waits AL ans)->Holds z gc 163 (BG n me gl gi leads AL AL)->(∃D,Holds z gr 127 (D :: rest))->∀k,IE z F DZ k->IE w F DZ k\/w.heap.size<=k:=λz hm hn ao ax=>IE.back hm (λk c=>by
  rcases c with rfl|rfl|rfl
  .exact IE.not hn Iz
  .exact IE.not ao Iz
  .exact IE.not ax.choose_spec Iz)
 clear nd dk hc hco hr hrv;have j:=qh (Mv.refl (λk=>k=g\/k=gc\/k=gr) w);go_in;have n4:=Am f.o 4;go_wp2_with fail;refine(Y.o _ V.o).mono ?_;clear V Y;rintro e w1 ⟨rfl,ac,af⟩;have x:Mv (λk=>k=gc) w w1:=Mv.AZ af rfl;obtain⟨q,f,s,l,j,i,I⟩:=oC ac (f.mv x (Ne.symm J)) (s.away x aa (λ_ h=>h)) (l.mv x (λk c=>(e5 k c).2.1)) (j.mv x (λk c=>.inl (.inr (.inl c)))) (i.mv x K.2) (I.wH x (λk L c=>by rw[c];exact ap L));clear ac af x n4 aa;go_wp2_with fail;go_loopw [17] (λH wr=>(H=AA 0/\wr=w1)\/(H=AA 1/\∃D,Holds wr gr 127 (D :: rest)/\Be wr D (1+m)/\Mv (λk=>k=gr) w1 wr)) (λH _=>1 - (intOf H).toNat);case atStart=>exact .inl ⟨rfl,rfl⟩
 case round=>
  rcases hrel with⟨rfl,rfl⟩|⟨rfl,D,hr,A,hm⟩
  .have r0:=i.cell 0;simp only[yA,yB] at r0;go_wp2_with fail;refine(KC.o _ I.ET).mono ?_;rintro e w2 ⟨v',rfl,S,A⟩;have aq:=i.lt;have i:=D9 A i;obtain⟨HV,ai⟩:=WZ S (Mv.of_below (F:=λk=>k=gr) A);obtain⟨pv,Z,rfl⟩:=S.shape;have a2:=i.lt;clear S A r0;go_wp2_with (first|(refine sC 0 i.o (.slice pv (1+m:Nat) Z) ?_;intro w3 ar ag;obtain⟨al,am,aj⟩:=bP (show Holds w3 gr 127 (.slice pv (1+m:Nat) Z :: rest) from ar) (HV.touch ag aq).ET (ai.touch ag (.inl rfl))));go_roundw;case rel=>exact .inr ⟨rfl,_,al.o,am.o,aj.o⟩
   case measure=>simp[intOf]
  .have hAr:∀k,k=gr->k<w1.heap.size->DN w1 F GN k:=λk c _=>c▸.inl (.inr ⟨_,_,i.o,Iz⟩);obtain⟨f,s,q,l,j,i,U⟩:=oC (f.mv hm (Ne.symm K.1)) (s.away hm hAr (λ_ h=>h)) (q.mv hm (Ne.symm K.2)) (l.mv hm (λk c=>(e5 k c).2.2)) (j.mv hm (λk c=>.inl (.inr (.inr c)))) hr A;clear hr A hm hAr;have n3:=Am f.o 3;go_wp2_with fail;refine Ah (KA.o _ _ s.o i.o U.o) ?_;rintro y ⟨O,C⟩;have ab:=an _ j.o f.o q.o ⟨_,i.o⟩;have ay:=j.size;have au:mb+(1+m+6)=mb+(m+7):=BJ
   rw[au] at O;obtain⟨s,j,l,f,q⟩:=dD (O.next ay) ((j.more (G:=λk=>k=g\/k=gc\/k=gr\/IE w F DZ k) (λk c=>by rcases c with h|h|h;exact .inl h;exact .inr (.inl h);exact .inr (.inr (.inl h)))).mv C (λk c=>(ab k c).imp (λh=>.inr (.inr (.inr h))) id)) (l.mv C (IE.Ey l.o Iz)) (f.mv C (IE.not f.o Iz)) (q.mv C (IE.not q.o Iz));have az:=j.size;clear O C n3 i U ab;have a7:=Am f.o 72;rcases Nat.eq_zero_or_pos mm with t|t
   .subst t;have N:=l.o;obtain⟨rfl,rfl,a1⟩:cout=AL/\obc=none/\xs=[]:=by have hr:=hc0 rfl;refine⟨hr,by rw[<-N.ob,hr];rfl,List.eq_nil_of_length_eq_zero (by have:=N.len;omega)⟩
    subst a1;clear N;go_wp2_with (first|(at_builtin;refine Dn rfl (.tmp 41) (.tmp 42) 34 rfl 47 (.agg EX.toArray) 51 480 rfl ND _ none 0 [] rfl (AV.nil _ _ _) rfl ?_)|(refine sC 72 f.o AL ?_;intro w7 R T));have p:Mv (λk=>k=g) y w7:=Mv.AZ T rfl;have M:∀k,k=g->k<y.heap.size->DN y (grow F w y) GN k:=λk c _=>c▸.inl (.inr ⟨_,_,f.o,Iz⟩);go_ret;exact⟨rfl,AL,none,R,(s.away p M (λ_ h=>h)).foot (λk c _=>c.imp id λ⟨a,b⟩=>⟨a,Nat.lt_of_lt_of_le b p.size⟩),q.mv p J,AV.nil _ _ _,Vj,λ_=>rfl,j.mv p (λk c=>.inl (.inl c))⟩
   .obtain⟨go,co,ro,rfl,rfl,hco1,hco2,hgo,hgl⟩:=l.blk t;go_wp2_with (first|(at_builtin;refine aS (.agg EX.toArray) 51 480 (AV.nil _ _ _) xs l.reads ?_ h1 (hl:=l.len) (hm0:=t);intro v6 ah w6 ae av v;obtain⟨E,X,ak⟩:=bP ae (f.bel (v.below Ve Vj)) v;have aw:=av;clear ae v)|(refine sC 72 X.o v6 ?_ (hu:=E.c1) (h1:=E.c2);intro w7 R T));have p:Mv (λk=>k=g) w6 w7:=Mv.AZ T rfl;have v:Mv (λ_=>False) y w6:=ak.more (λk c=>by cases c);have a0:=v.size;have M:∀k,k=g->k<w6.heap.size->DN w6 (grow F w y) GN k:=λk c _=>c▸.inl (.inr ⟨_,_,X.o,Iz⟩);have ad:∀k,ah=some k->y.heap.size<=k:=by
     intro k c;rcases aw with h|⟨k2,h,h2⟩
     .rw[h] at c;cases c
     .rw[h] at c;cases c;exact h2
    go_ret;rw[Nat.zero_add,List.nil_append] at E;exact⟨rfl,v6,ah,R,((s.away v (λk c=>c.elim) (λ_ h=>h)).away p M (λ_ h=>h)).foot (λk c _=>c.imp id λ⟨a,b⟩=>⟨a,Nat.lt_of_lt_of_le (Nat.lt_of_lt_of_le b a0) p.size⟩),(q.mv v id).mv p J,E.mv p (λk c h=>by have:=ad k c;have:=f.lt;omega),λk c=>Nat.le_trans az (ad k c),λh=>BJ,(j.mv v (λk c=>c.elim)).mv p (λk c=>.inl (.inl c))⟩
theorem nC[CO](g n me gd mb gw gc gl gi gfr mm:Nat)(F:Ap)(leads cout:Value)(obc:Option Nat)(xs:List Value)(P:Value)(o:Nat->Ow)(pv:Nat->Value)(d kp:Nat->Int)(since tk:Int)(waits ans:Value)(w:World) (nd:Holds w g 102 (Ar n me gd gw gc gfr P o pv d kp since tk waits AL ans)) (dk:Dw w F gd gw mb) (hc:Holds w gc 163 (BG n me gl gi leads AL cout)) (hco:AV w cout obc 47 51 mm xs) (h1:∀u∈xs,u.oneCell'=true) (hmb:mb<=28000) (hmm:mm<=100) (hc0:mm=0->cout=AL) :Calls prog 90 #[AP g] w λe w'=>e=.returned (.bool true)/\∃out ob,Holds w' g 102 (Ar n me gd gw gc gfr P o pv d kp since tk waits out ans)/\Dw w' (grow F w w') gd gw mb /\Holds w' gc 163 (BG n me gl gi leads AL AL)/\AV w' out ob 47 51 mm xs/\(∀k,ob=some k->w.heap.size<=k)/\P6 mm out/\Mv (λk=>k=g\/k=gc\/IE w F DZ k) w w':=by
 have y:gc≠g:=hc.ne_of nd Iz;have X:∀k,obc=some k->k≠g/\k≠gc:=by
  intro k c;rcases hco.cases with⟨_,p,_⟩|⟨g1,_,_,_,p,_,_,L,_⟩
  .rw[p] at c;cases c
  .rw[p] at c;cases c;exact⟨L.ne_of nd Iz,L.ne_of hc Iz⟩
 obtain⟨H,V,f,j,D,m⟩:=mG (λW (h:Holds W gc 163 (BG n me gl gi leads AL cout))=>Og gc n me gl gi leads _ _ W h) (λW h=>qF gw gd mb F W h) nd dk hc hco;have ag:g<w.heap.size/\gc<w.heap.size:=⟨nd.lt,hc.lt⟩;have ai:=hco.lt;have ah:(mm:Int)<=100:=BJ
 have I:∀k,k=gc->k<w.heap.size->DN w F GN k:=λk c _=>c▸.inl (.inr ⟨_,_,hc,Iz⟩);have af:∀s,Mv (λk=>k=g\/k=gc) w s->Holds s g 102 (Ar n me gd gw gc gfr P o pv d kp since tk waits AL ans)->Holds s gc 163 (BG n me gl gi leads AL AL)->∀k,IE s F DZ k->IE w F DZ k\/w.heap.size<=k:=λs hm hn Z=>IE.back hm (λk c=>by
  rcases c with rfl|rfl
  .exact IE.not hn Iz
  .exact IE.not Z Iz)
 clear nd dk hc hco;have l:=qh (Mv.refl (λk=>k=g\/k=gc) w);go_in;have n4:=Am f.o 4;go_wp2_with fail;refine(H.o _ D.o).mono ?_;clear D H;rintro e w1 ⟨rfl,K,Q⟩;have t:Mv (λk=>k=gc) w w1:=Mv.AZ Q rfl;obtain⟨v,f,j,m,l⟩:=dD K (f.mv t (Ne.symm y)) (j.away t I (λ_ h=>h)) (m.mv t (λk c=>(X k c).2)) (l.mv t (λk c=>.inl (.inr c)));clear K Q t n4 I;go_wp2_with fail;go_loopw [17] (λT wr=>T=AA 0/\w1=wr) (λT _=>0);case atStart=>exact⟨rfl,rfl⟩
 case round=>
  obtain⟨rfl,rfl⟩:=hrel;have n3:=Am f.o 3;go_wp2_with fail;refine Ah (V.o _ j.o) ?_;rintro r J;obtain⟨f,v,l,m,j⟩:=Gj J f v l m j;have ac:=l.size;obtain⟨j,l⟩:=WZ (j.foot (F':=grow F w r) λk c _=>.inl c) (l.more (G:=λk=>k=g\/k=gc\/IE w F DZ k) (λk c=>c.imp id .inl));clear J n3;have aj:=Am f.o 72;rcases Nat.eq_zero_or_pos mm with p|p
  .subst p;have A:=m.o;obtain⟨rfl,rfl,ae⟩:cout=AL/\obc=none/\xs=[]:=by have O:=hc0 rfl;refine⟨O,by rw[<-A.ob,O];rfl,List.eq_nil_of_length_eq_zero (by have:=A.len;omega)⟩
   subst ae;clear A;go_wp2_with (first|(at_builtin;refine Dn rfl (.tmp 41) (.tmp 42) 34 rfl 47 (.agg EX.toArray) 51 480 rfl ND _ none 0 [] rfl (AV.nil _ _ _) rfl ?_)|(refine sC 72 f.o AL ?_;intro w7 B C));have i:Mv (λk=>k=g) r w7:=Mv.AZ C rfl;have z:∀k,k=g->k<r.heap.size->DN r (grow F w r) GN k:=λk c _=>c▸.inl (.inr ⟨_,_,f.o,Iz⟩);go_ret;exact⟨rfl,AL,none,B,(j.away i z (λ_ h=>h)).foot (λk c _=>c.imp id λ⟨a,b⟩=>⟨a,Nat.lt_of_lt_of_le b i.size⟩),v.mv i y,AV.nil _ _ _,Vj,λ_=>rfl,l.mv i (λk c=>.inl (.inl c))⟩
  .obtain⟨go,co,ro,rfl,rfl,hco1,hco2,hgo,hgl⟩:=m.blk p;go_wp2_with (first|(at_builtin;refine aS (.agg EX.toArray) 51 480 (AV.nil _ _ _) xs m.reads ?_ h1 (hl:=m.len) (hm0:=p);intro S R w6 N aa q;obtain⟨x,E,U⟩:=bP N (f.bel (q.below Ve Vj)) q;have ab:=aa;clear N q)|(refine sC 72 E.o S ?_ (hu:=x.c1) (h1:=x.c2);intro w7 B C));have i:Mv (λk=>k=g) w6 w7:=Mv.AZ C rfl;have q:Mv (λ_=>False) r w6:=U.more (λk c=>by cases c);have ad:=q.size;have z:∀k,k=g->k<w6.heap.size->DN w6 (grow F w r) GN k:=λk c _=>c▸.inl (.inr ⟨_,_,E.o,Iz⟩);have M:∀k,R=some k->r.heap.size<=k:=by
    intro k c;rcases ab with h|⟨k2,h,Y⟩
    .rw[h] at c;cases c
    .rw[h] at c;cases c;exact Y
   go_ret;rw[Nat.zero_add,List.nil_append] at x;exact⟨rfl,S,R,B,((j.away q (λk c=>c.elim) (λ_ h=>h)).away i z (λ_ h=>h)).foot (λk c _=>c.imp id λ⟨a,b⟩=>⟨a,Nat.lt_of_lt_of_le (Nat.lt_of_lt_of_le b ad) i.size⟩),(v.mv q id).mv i y,x.mv i (λk c h=>by have:=M k c;have:=f.lt;omega),λk c=>Nat.le_trans ac (M k c),λh=>BJ,(l.mv q (λk c=>c.elim)).mv i (λk c=>.inl (.inl c))⟩
section
def xf:List Value:=[AA 0,AA 0,AA 0,.bool false,AU,AA 0,AL]
def Nq(k:Nat)(s:Int)(r:Rep)(v:Value):List Value:=AA ((k:Int)+1) :: AA s :: Bq r v
theorem VA(k:Nat)(s:Int)(r:Rep){v:Value}(h:CZ v):∀u∈Nq k s r v,u.oneCell'=true:=by obtain⟨p,n,c,rfl⟩:=h;simp[Nq,Bq,Value.oneCell']
variable [In]
theorem eQ[CO](gc n me gl gm nl gi:Nat)(L:List A7)(leads recs cout:Value)(w:World)(h:Holds w gc 163 (BG n me gl gi leads recs cout))(hl:BF w gl gm nl L) :Calls prog 173 #[AP gc] w λe w'=>e=.returned (.agg CJ.toArray)/\Below w.heap.size w w':=by obtain⟨j,c,b⟩:=bP (λW (h:BF W gl gm nl L)=>iE gl gm nl L W h) h hl;clear h hl;go_in;go_upto_region 1 with(fail);go_name_world W i;obtain⟨d,g,p⟩:=GI 41 (CJ) i;clear i;have a:=qh g;obtain⟨c,b⟩:=Ce g c b;clear g;have m:=Am c.o 2;go_upto_region 1 with(fail);go_wp2_with fail;refine Ah (j.o _ b.o) ?_;rintro q f;have d:=D9 f d;have a:=qh (a.trans (f.mono a.size));clear f m c b;go_wp2_with (first|(refine sW CJ d.o ?_ Jd;intro wc k l));exact bC k.Af ⟨rfl,a.trans (l.below Ve a.size)⟩
def NZ(me:Nat)(kp:Nat->Int):FrontP.Fr:=λr j=>if r=me/\j<7 then kp j else 0
theorem fF(me:Nat):NZ me (λ_=>0)=λ_ _=>0:=by funext r j;unfold NZ;split<;>rfl
theorem Yc(x:Int)(h:0<=x):FrontP.mn x 0=0/\FrontP.mn 0 x=0:=by unfold FrontP.mn;constructor<;>split<;>omega
theorem PK(F:FrontP.Fr)(a:Nat->Int)(i:Nat)(hF:∀r,0<=F r i)(ha:0<=a i):∀m,0<=FrontP.C9 F a m i
 | 0=>ha
 | m+1=>by have h1:=PK F a i hF ha m;have b:=hF m;show 0<=FrontP.mn _ _;unfold FrontP.mn;split<;>assumption
theorem N7(F:FrontP.Fr)(a:Nat->Int)(i:Nat)(hF:∀r,0<=F r i)(ha:0<=a i):∀m,(∃r,r<m/\F r i=0)->FrontP.C9 F a m i=0
 | 0,h=>by obtain⟨r,h,_⟩:=h;omega
 | m+1,h=>by
  obtain⟨r,d,b⟩:=h;show FrontP.mn (FrontP.C9 F a m i) (F m i)=0;by_cases c:r=m
  .rw[<-c,b];exact(Yc _ (PK F a i hF ha _)).1
  .rw[N7 F a i hF ha m ⟨r,BJ,b⟩];exact(Yc _ (hF m)).2
theorem oP(me n:Nat)(kp:Nat->Int)(hn:2<=n)(hme:me<n)(hk:∀j,0<=kp j)(i:Nat):FrontP.stable (NZ me kp) n me i=0:=by
 have a:∀r,0<=NZ me kp r i:=λr=>by
  unfold NZ;split
  .exact hk i
  .exact Int.le_refl _
 refine N7 _ _ i a (a me) n ?_;by_cases b:me=0
 .exact⟨1,BJ,by unfold NZ;rw[if_neg BJ]⟩
 .exact⟨0,BJ,by unfold NZ;rw[if_neg BJ]⟩
theorem oO(g n me:Nat)(kp:Nat->Int)(w:World)(h:A8 w g 197 n me (NZ me kp))(hn:2<=n)(hme:me<n)(hk:∀j,0<=kp j) :Calls prog 172 #[AP g] w λe w'=>e=.returned (.agg CJ.toArray)/\Below w.heap.size w w':=by have:=Xw g n me (NZ me kp) w h hme;rw[show FrontP.stable (NZ me kp) n me=(λ_=>0) from funext λi=>oP me n kp hn hme hk i] at this;exact this
theorem vz(g n me:Nat)(kp k2:Nat->Int)(w:World)(h:A8 w g 197 n me (NZ me kp))(hme:me<n)(hle:∀j,kp j<=k2 j)(hk:∀j,0<=k2 j/\k2 j<=1000) :Calls prog 69 #[AP g,AA me,.agg (Cj k2).toArray] w λe w'=>e=.returned (.bool true)/\A8 w' g 197 n me (NZ me k2)/\Touch g w w':=by
 have d:FrontP.right k2=true:=by unfold FrontP.right;rw[List.all_eq_true];intro i _;have:=hk i;simp;omega
 have c:FrontP.takes n (me:Int) k2=true:=by unfold FrontP.takes;simp[d];omega
 refine Ah (QO g n me (me:Int) (NZ me kp) k2 w h) ?_;rintro w' ⟨b,f⟩;rw[c];refine⟨rfl,?_,f⟩;have:FrontP.heard (NZ me kp) n (me:Int) k2=NZ me k2:=by
  unfold FrontP.heard;rw[c,if_pos rfl,Int.toNat_natCast]
  funext q i
  unfold FrontP.hear FrontP.Hr NZ;have k:=hle i;by_cases a:q=me/\i<7
  .rw[if_pos a,if_pos a,if_pos a];unfold FrontP.mx;split<;>omega
  .rw[if_neg a,if_neg a,if_neg a]
 rw[this] at b;exact b
theorem aX[CO](g n me gd gw gc gl gm nl gi gfr:Nat)(L:List A7)(leads recs cout:Value)(P:Value)(o:Nat->Ow)(pv:Nat->Value)(d kp:Nat->Int)(since tk:Int)(waits out ans:Value)(w:World) (nd:Holds w g 102 (Ar n me gd gw gc gfr P o pv d kp since tk waits out ans)) (h:Holds w gc 163 (BG n me gl gi leads recs cout)) (hl:BF w gl gm nl L) (hf:A8 w gfr 197 n me (NZ me kp)) (hn2:2<=n) (hme:me<n) (hk:∀j,0<=kp j) :Calls prog 95 #[AP g] w λe w'=>e=.returned (.tuple #[])/\Below w.heap.size w w':=by
 obtain⟨E,D,l,c,k,f,m⟩:=oC (λW (h:A8 W gfr 197 n me (NZ me kp))=>oO gfr n me kp W h hn2 hme hk) (λW (h:Holds W gc 163 (BG n me gl gi leads recs cout)) hl=>eQ gc n me gl gm nl gi L leads recs cout W h hl) nd h hl hf.h (Base.start w);have K:=hf.n7;clear nd h hl hf hk;go_in;go_upto_region 0 with(fail);refine' CU [⟨10,12,2,15,41,CJ,CJ⟩,⟨11,13,3,20,41,CJ,CJ⟩] ND ND ND ?z11 ?z21 ?bd1 _ ?h1 ?val1 ?fin1;case z11=>
  intro x a;simp only[List.mem_cons,List.not_mem_nil,or_false] at a;rcases a with rfl|rfl
  .exact⟨.agg (CJ:List Value).toArray,ND,rfl⟩
  .exact⟨.agg (CJ:List Value).toArray,ND,rfl⟩
 case z21=>
  intro x a;simp only[List.mem_cons,List.not_mem_nil,or_false] at a;rcases a with rfl|rfl
  .exact⟨ND,rfl,Jd⟩
  .exact⟨ND,rfl,Jd⟩
 case bd1=>
  intro x a;simp only[List.mem_cons,List.not_mem_nil,or_false] at a;rcases a with rfl|rfl
  .simp
  .simp
 case h1=>
  intro O I;obtain⟨l,c,k,f,m⟩:=Gj I l c k f m;obtain⟨Q,R⟩:=JO l.o 4 5;simp only[List.map_cons,List.map_nil,BI];repeat go_big_quiet_step (first|(go_at_call 172;with_reducible exact AQ λu r=>E.o u (A8.mk (f.o.bel r) K))|(go_at_call 173;with_reducible exact AQ λu r=>D.o u (c.o.bel r) (k.o.bel r)))
  refine wpQuiet_nil ?_;intro w' _;exact rfl
 case val1=>
  intro x a;simp only[List.mem_cons,List.not_mem_nil,or_false] at a;rcases a with rfl|rfl
  .rfl
  .rfl
 intro β s b a M;have p:=a _ List.mem_cons_self;have q:=a _ (List.mem_cons_of_mem _ List.mem_cons_self);clear a M;simp only[] at p q;simp only[D7,List.foldl,Act.put,List.setIfInBounds_toArray,List.set_cons_zero,List.set_cons_succ];obtain⟨l,c,k,f,m⟩:=Gj b l c k f m;generalize β 2=S at p |-;have z:=qh p.2;have U:=p.1;clear p;generalize β 3=T at q |-;have A:=qh q.2;have V:=q.1;clear q;clear b;clear l c k f;go_wp2_with fail;go_loopw [21,4] (λv N wr=>∃i:Nat,v=AA (i:Int)/\i<=7/\N=AA 0/\Below s.heap.size s wr) (λv _ _=>7 - (intOf v).toNat);case atStart=>exact⟨0,rfl,BJ,rfl,Below.refl _ _⟩
 case round=>
  obtain⟨i,rfl,X,rfl,b⟩:=hrel;obtain⟨B,C,t,y⟩:=bY (z.bel b) (A.bel b) (m.bel b) b;clear b;by_cases H:i=7
  .subst H;go_wp2_with fail;exact bQ ⟨rfl,t.below⟩
  .have hi7:(i:Int)<7:=BJ
   go_upto_region 5 with(fail);have F:=B.cell i;have G:=C.cell i;rw[WW i BJ] at F G;go_quiet (fail);have t:=D9 (Bg _ wr nq) t;have J:Below s.heap.size s (wr.drewN nq):=y.trans ((Bg _ _ nq).mono y.size);go_wp2_with fail;go_roundw;case rel=>exact⟨i+1,Vj,BJ,rfl,J⟩
   case measure=>simp[intOf];omega
theorem fU(k:Nat)(s:Int):∀u∈([AA ((k:Int)+1),AA s]:List Value),u.oneCell'=true:=by simp[Value.oneCell']
end
end Go.Proofs.YtimdpiifpibgfaaGreatDoor
