/- A part of the proof of TopReads. -/
import Derived.Test.YtimdpiifpibgfaaGreatDoorQr35
set_option linter.all false
set_option maxRecDepth 20000
set_option maxHeartbeats 16000000
open Go.RowKit Go.Maps
namespace Go.Proofs.YtimdpiifpibgfaaGreatDoor
open Tryz
def UA(L:List A7):Prop:=∀e∈L,∃st:Int,e.L[0]?=some (AA st)
theorem nU[CO](gc n me gl gm nl gi gx ni r:Nat)(s:Int)(L:List A7)(E:List CY)(leads recs out:Value)(w:World)(h:BB w gc n me gl gm nl gi gx ni L E leads recs out)(hL:UA L)(hr:r<n)(hn:n<=7)(hs:1<=s/\s<=1000) :Calls prog 86 #[AP gc,.agg #[AA r,AA s]] w λe w'=>(∃b,e=.returned (.bool b))/\Below w.heap.size w w':=by
 letI:In:=I0
 have z:Cc (r:Int) s=true:=by unfold Cc;simp;omega
 obtain⟨N,O,M⟩:=bP (λW=>by have:=E5 (r:Int) s W;rw[z] at this;exact this) (λW h=>one_any gc n me gl gi r leads recs out W h hr) (λW (h:BF W gl gm nl L)=>Ha gl gm nl L r s W h z);obtain⟨V,b,C,T,p,S,q⟩:∃(V:List Value) (b:Bool),V.length=21/\V.toArray.all (·.oneCell')=true/\∃p:Int,V[0]?=some (AA p)/\∀W,BF W gl gm nl L->Calls prog 82 #[AP gl,.agg #[AA r,AA s]] W λe w'=>e=.returned (.tuple #[.agg V.toArray,.bool b])/\Below W.heap.size W w':=by
  have H:(Lit.int .i64 (r:Int)).wf=true:=WalkArith.wf_i64 BJ;have I:(Lit.int .i64 s).wf=true:=WalkArith.wf_i64 BJ;cases j:Et L r s with
  | false=>
   refine⟨zero21,false,rfl,NW,0,rfl,λW k=>(JX gl gm nl L r s W k H I).mono ?_⟩;rintro e w' ⟨v,h1,i,A,B,rfl,t⟩;rw[B j,j];exact⟨rfl,t⟩
  | true=>
   obtain⟨m,u,y⟩:=List.any_eq_true.1 j;simp only[Bool.and_eq_true,beq_iff_eq] at y;obtain⟨p,Z⟩:=hL m u;have G:=h.lg.rows m u;refine⟨m.L,true,G.1,G.2,p,Z,λW k=>(JX gl gm nl L r s W k H I).mono ?_⟩;rintro e w' ⟨v,h1,i,A,B,rfl,t⟩;rw[A m u y.1 y.2,j];exact⟨rfl,t⟩
 obtain⟨q,c,d,f⟩:=bY q h.hc h.lg (Base.start w);clear h z hL;go_in;go_upto_region 1 with(fail);go_name_world W k;obtain⟨g,F,Y⟩:=GI 37 ([AA r,AA s]) k;clear k;obtain⟨c,d,f⟩:=D5 F c d f;clear F Y;generalize R:w.heap.size=gX at g f |-;obtain⟨x0,x1⟩:=JO g.o 0 1;have Q:=MK c.o 2;refine wp_region_quiet_below ND ND ?_;repeat(go_big_quiet_step (first|(go_at_call 134;with_reducible exact AQ λW _=>N.o W)|(go_at_call 139;with_reducible exact AQ λW i=>O.o W (c.o.bel i))|(go_at_call 140;with_reducible exact AQ λW i=>M.o W (d.o.bel i))))
 refine wpQuiet_nil ?_;intro w3 J;have D:=Aa J;obtain⟨c,d,f,g⟩:=En D c d f g;clear J D x0 x1 Q;go_upto_region 3 with(fail);refine' CU [⟨9,10,5,32,45,zero21,V⟩] ND ND ND ?z11 ?z21 ?bd1 _ ?h1 ?val1 ?fin1;case z11=>
  intro x a;simp only[List.mem_cons,List.not_mem_nil,or_false] at a;subst a
  .exact⟨.agg (zero21:List Value).toArray,ND,rfl⟩
 case z21=>
  intro x a;simp only[List.mem_cons,List.not_mem_nil,or_false] at a;subst a
  .exact⟨by show _=some V.length;rw[C];kernel_rfl,C.symm,T⟩
 case bd1=>
  intro x a;simp only[List.mem_cons,List.not_mem_nil,or_false] at a;subst a
  .simp
 case h1=>
  intro W0 U;obtain⟨c,d,f,g⟩:=En U c d f g;have aa:=MK c.o 2;obtain⟨ab,ac⟩:=JO g.o 0 1;simp only[List.map_cons,List.map_nil,BI];repeat go_big_quiet_step (first|(go_at_call 82;with_reducible exact AQ λP i=>q.o P (d.o.bel i)))
  refine wpQuiet_nil ?_;intro w' _;exact rfl
 case val1=>
  intro x a;simp only[List.mem_cons,List.not_mem_nil,or_false] at a;subst a
  .rfl
 intro β w4 j a X;have l:=a _ List.mem_cons_self;clear a X;simp only[] at l;simp only[D7,List.foldl,Act.put,List.setIfInBounds_toArray,List.set_cons_zero,List.set_cons_succ];obtain⟨c,d,f,g⟩:=En j c d f g;generalize β 5=g5 at l |-;have K:=qh l.2;have ad:=l.1;clear l;clear j;have y0:=K.cell 0;rw[S] at y0;clear c d g;go_wp2_with fail;go_ret;exact⟨⟨_,rfl⟩,R▸f.below⟩
def MW(w:World)(V:Value)(ob:Option Nat)(ws:List Wx):Prop:=AV w V ob 177 1 ws.length (ws.map Wx.ptr)/\∀x∈ws,Holds w x.g 179 x.cells
theorem MW.bel{w w':World}{V:Value}{ob:Option Nat}{ws:List Wx}(h:MW w V ob ws)(hb:Below w.heap.size w w'):MW w' V ob ws:=⟨h.1.bel hb,λx a=>(h.2 x a).bel hb⟩
instance {w w':World}{V:Value}{ob:Option Nat}{ws:List Wx}:Bl w w' (MW w V ob ws) (MW w' V ob ws):=⟨λhb h=>MW.bel h hb⟩
theorem MW.mv{F:Ap}{w w':World}{V:Value}{ob:Option Nat}{ws:List Wx}(h:MW w V ob ws)(hm:Mv F w w')(h1:∀k,ob=some k->¬F k)(h2:∀x∈ws,¬F x.g):MW w' V ob ws:=⟨h.1.mv hm h1,λx a=>(h.2 x a).mv hm (h2 x a)⟩
theorem ax(gc n me gl gi c m:Nat)(p:Option Addr)(leads recs out:Value)(ob:Option Nat)(ws:List Wx)(q s:Int)(w:World)(h:Holds w gc 163 (@BG ⟨p,m,c⟩ n me gl gi leads recs out))(hm:m=ws.length)(hl:MW w (.slice p m c) ob ws)(hlen:ws.length<=1000) :Calls prog 152 #[AP gc,.agg #[AA q,AA s]] w λe w'=>(∃a,e=.returned (.pointer a))/\Below w.heap.size w w':=by
 subst hm;obtain⟨r,b⟩:=WZ h hl;clear h hl;go_in;go_upto_region 1 with(fail);go_name_world W C;obtain⟨j,D,L⟩:=GI 37 ([AA q,AA s]) C;clear C;have d:=qh (Base.start w);obtain⟨r,d,b⟩:=D5 D r d b;clear D L;generalize A:w.heap.size=B at j d |-;have I:=Am r.o 5;go_wp2_with fail;clear I;go_loopw [12] (λx wr=>∃i:Nat,x=AA (i:Int)/\i<=ws.length/\Below W.heap.size W wr) (λx _=>ws.length - (intOf x).toNat);case atStart=>exact⟨0,rfl,Nat.zero_le _,Below.refl _ _⟩
 case round=>
  obtain⟨i,rfl,T,u⟩:=hrel;have f:=qh u;obtain⟨b,j⟩:=Ce u b j;clear u;by_cases J:i=ws.length
  .subst J;go_wp2_with fail;go_ret;exact⟨⟨_,rfl⟩,A▸(d.bel f.o).below⟩
  .have hi2:i<ws.length:=BJ
   obtain⟨g,Q,Y,M,_,R,S,E,_⟩:=b.1.blk BJ;cases M;have v:wr.cell? ⟨g,i,none⟩=some (Wx.ptr ws[i]):=by rw[E.cell,List.getElem?_append_left (by simpa using hi2),List.getElem?_map,List.getElem?_eq_getElem hi2];rfl
   have z:=qh (b.2 _ (List.getElem_mem hi2));clear E;generalize ws[i]=l at v z;obtain⟨F,G⟩:=Cf z.o 0 1;obtain⟨N,O⟩:=Cf j.o 0 1;have U:(i:Int)<(ws.length:Int):=BJ
   obtain⟨X,k,H,V⟩:=l;simp only[Wx.ptr] at v F G;by_cases hm:k=q/\H=s
   .obtain⟨rfl,rfl⟩:=hm;go_wp2_with fail;go_quiet (fail);go_wp2_with fail;go_ret;exact⟨⟨_,rfl⟩,A▸(d.bel f.o).below.trans (Bg _ _ _)⟩
   .have hcase:(k==q)=false\/(k=q/\(H==s)=false):=by
     by_cases t:k=q
     .exact .inr ⟨t,by simp;exact λh=>hm ⟨t,h⟩⟩
     .exact .inl (by simp[t])
    clear hm;rcases hcase with K|⟨rfl,K⟩;all_goals
     go_wp2_with fail;go_quiet (fail);clear F G N O v;have y:=qh (f.trans ((Bg _ wr nq).mono f.size));generalize wr.drewN nq=P at y |-;go_wp2_with fail;go_roundw;case rel=>exact⟨i+1,by go_num,BJ,y.o⟩
     case measure=>simp[intOf];omega
def LQ(r s:Int):List Value:=[AA r,AA s,AA 0,AA 0,AA 0]
def Wanted(gc n me gl gm nl gi gx ni:Nat)(L:List A7)(E:List CY)(leads recs out:Value)(ob:Option Nat)(ws:List Wx)(w w':World):Prop:=
 ∃p m c ob' ws',@BB ⟨p,m,c⟩ w' gc n me gl gm nl gi gx ni L E leads recs out/\m=ws'.length/\MW w' (.slice p m c) ob' ws'/\ws'.length<=256/\(ob'=ob\/∃k,ob'=some k/\w.heap.size<=k)/\(∀x∈ws',x∈ws\/w.heap.size<=x.g)/\Mv (λk=>k=gc\/ob=some k) w w'
theorem Yg{w:World}{v:Value}{ob:Option Nat}{e:TypeId}{s n b:Nat}{xs:List Value}(h:AV w v ob e s n xs)(hb:IP w b):∀k,ob=some k->k≠b:=λk a=>by
 rcases h.cases with⟨_,c,_⟩|⟨f,_,_,_,c,_,_,d,_⟩
 .rw[c] at a;cases a
 .rw[c] at a;cases a;exact Du hb d
theorem WU(ws:List Wx):∀u∈ws.map Wx.ptr,u.oneCell'=true:=λu a=>by
 obtain⟨x,_,rfl⟩:=List.mem_map.1 a
 rfl
theorem jq{w w':World}{V v':Value}{ob ob':Option Nat}{ws:List Wx}{i gw:Nat}{r s:Int}(h:MW w V ob ws)(ho:AV w' v' ob' 177 1 (ws.length+1) ((ws.map Wx.ptr).take i++([AP gw]++(ws.map Wx.ptr).drop i)))(hg:Holds w' gw 179 (LQ r s))(hm:Mv (λk=>ob=some k) w w')(hi:i<=ws.length) :MW w' v' ob' (ws.take i++⟨gw,r,s,[AA 0,AA 0,AA 0]⟩ :: ws.drop i):=by
 have b:(ws.take i++(⟨gw,r,s,[AA 0,AA 0,AA 0]⟩:Wx) :: ws.drop i).length=ws.length+1:=by simp;omega
 refine⟨?_,λx a=>?_⟩
 .rw[b];have:(ws.take i++(⟨gw,r,s,[AA 0,AA 0,AA 0]⟩:Wx) :: ws.drop i).map Wx.ptr=(ws.map Wx.ptr).take i++([AP gw]++(ws.map Wx.ptr).drop i):=by simp[Wx.ptr,List.map_take,List.map_drop]
  rw[this];exact ho
 .have hk:∀x∈ws,Holds w' x.g 179 x.cells:=λx a=>(h.2 x a).mv hm λe=>h.1.Hw (h.2 x a) Iz _ e rfl;rcases List.mem_append.1 a with a|a
  .exact hk x (List.mem_of_mem_take a)
  .rcases List.mem_cons.1 a with rfl|a
   .exact hg
   .exact hk x (List.mem_of_mem_drop a)
theorem mX(x y:Int × Int)(W:World):Calls prog 151 #[.agg #[AA x.1,AA x.2],.agg #[AA y.1,AA y.2]] W λe w'=>e=.returned (.bool (Ec x y))/\Below W.heap.size W w':=by
 letI:In:=I0
 letI:CO:=⟨none,0,0⟩
 exact iH x y W
theorem jl(gc n me gl gm nl gi gx ni r m c:Nat)(p:Option Addr)(s:Int)(L:List A7)(E:List CY)(leads recs out:Value)(ob:Option Nat)(ws:List Wx)(w:World)(h:@BB ⟨p,m,c⟩ w gc n me gl gm nl gi gx ni L E leads recs out)(hm:m=ws.length)(hws:MW w (.slice p m c) ob ws)(hlen:ws.length<=256)(hL:UA L)(hr:r<n)(hn:n<=7)(hs:1<=s/\s<=1000) :Calls prog 84 #[AP gc,.agg #[AA r,AA s]] w λe w'=>(∃b,e=.returned (.bool b))/\Wanted gc n me gl gm nl gi gx ni L E leads recs out ob ws w w':=by
 letI:In:=I0
 letI:CO:=⟨p,m,c⟩
 obtain⟨KO,KW,KI,KS,j,f,q⟩:=oC (λW (h:@BB ⟨p,m,c⟩ W gc n me gl gm nl gi gx ni L E leads recs out)=>nU gc n me gl gm nl gi gx ni r s L E leads recs out W h hL hr hn hs) (λW h hl=>ax gc n me gl gi c m p leads recs out ob ws r s W h hm hl BJ) (λV bf nV LV i bs x W h h1 h2 h3 h4 h5 h6=>UU V bf nV LV i bs x W h h1 h2 h3 h4 h5 h6) mX h hws (Base.start w);have bb:=h.lt;have J:=qh h.ne;have H:∀k,ob=some k->k≠gc/\k≠gl/\k≠gm/\k≠gi/\k≠gx:=λk C=>⟨hws.1.Hw h.hc Iz k C,hws.1.Hw h.lg.ix Iz k C,Yg hws.1 h.lg.isMap k C,hws.1.Hw h.ix.ix Iz k C,Yg hws.1 h.ix.isMap k C⟩;have bd:=hws.1.lt;have bi:∀x∈ws,x.g≠gc/\ob≠some x.g:=λx u=>⟨(hws.2 x u).ne_of h.hc Iz,λe=>hws.1.Hw (hws.2 x u) Iz _ e rfl⟩;clear h hws hL;subst hm;go_in;go_upto_region 1 with(fail);go_name_world W hW;obtain⟨t,a3,be⟩:=GI 37 ([AA r,AA s]) hW;clear hW;obtain⟨j,q,f⟩:=D5 a3 j q f;clear a3 be;generalize aw:w.heap.size=gX at t q bb bd |-;have a5:∀W',Base gX w W'->@BB ⟨p,ws.length,c⟩ W' gc n me gl gm nl gi gx ni L E leads recs out->MW W' (.slice p ws.length c) ob ws->Wanted gc n me gl gm nl gi gx ni L E leads recs out ob ws w W':=λW' B h1 h2=>⟨p,ws.length,c,ob,ws,h1,rfl,h2,hlen,.inl rfl,λx u=>.inl u,Mv.of_below (aw▸B.below)⟩;have au:=qh a5;clear a5;obtain⟨x0,x1⟩:=Cf t.o 0 1;go_wp2_with fail;refine(KO.o _ j.o).mono ?_;rintro e w1 ⟨⟨b,rfl⟩,B⟩;obtain⟨j,q,t,f⟩:=En B j q t f;clear B x0 x1;cases b with
 | false=>
  go_wp2_with fail;go_ret;exact⟨⟨_,rfl⟩,au.o _ q.o j.o f.o⟩
 | true=>
  obtain⟨x0,x1⟩:=Cf t.o 0 1;go_wp2_with fail;refine(KW.o _ j.hc f.o).mono ?_;rintro e w2 ⟨⟨a,rfl⟩,B⟩;obtain⟨q,j,t,f⟩:=En B q j t f;clear B x0 x1;cases a with
  | some a=>
   go_wp2_with fail;go_ret;exact⟨⟨_,rfl⟩,au.o _ q.o j.o f.o⟩
  | none=>
   have d5:w2.cell? ⟨gc,5,none⟩=some (.slice p ws.length c):=j.hc.cell 5;by_cases bh:ws.length=256
   .have hm2:¬(ws.length:Int)<256:=BJ
    have a4:(256:Int)<=(ws.length:Int):=BJ
    go_wp2_with fail;go_ret;exact⟨⟨_,rfl⟩,au.o _ q.o j.o f.o⟩
   .have hm2:(ws.length:Int)<256:=BJ
    have a4:¬(256:Int)<=(ws.length:Int):=BJ
    go_wp2_with fail;clear d5 hm2 a4;go_loopw [5] (λvi wr=>∃i:Nat,vi=AA (i:Int)/\i<=ws.length/\Below w2.heap.size w2 wr) (λvi _=>ws.length - (intOf vi).toNat);case atStart=>exact⟨0,rfl,Nat.zero_le _,Below.refl _ _⟩
    case round=>
     obtain⟨i,rfl,hi,B⟩:=hrel;have y:=qh j.hc;obtain⟨q,j,t,f,y⟩:=Gj B q j t f y;have an:=qh B;clear B;have d5:=MK y.o 5;obtain⟨x0,x1⟩:=JO t.o 0 1;have a7:i=ws.length\/(∃h:i<ws.length,Ec (ws[i].r,ws[i].s) ((r:Int),s)=false)\/∃h:i<ws.length,Ec (ws[i].r,ws[i].s) ((r:Int),s)=true:=by
      by_cases e:i=ws.length
      .exact .inl e
      .have h:i<ws.length:=BJ
       cases B:Ec (ws[i].r,ws[i].s) ((r:Int),s) with
       | false=>exact .inr (.inl ⟨h,B⟩)
       | true=>exact .inr (.inr ⟨h,B⟩)
     rcases a7 with rfl|⟨ac,aj⟩|⟨ac,aj⟩
     .skip
      go_upto_region 4 with(fail);refine wp_region_quiet_below ND ND ?_;repeat go_big_quiet_step (first|fail)
      refine wpQuiet_nil ?_;intro w5 R;have Q:=Aa R;obtain⟨q,j,t,f⟩:=En Q q j t f;clear R Q d5 x0 x1;clear y an;go_upto_region 6 with(fail);have y:=qh j.hc;obtain⟨j,y,q,t,f⟩:=Gj (AY _ w5) j y q t f;refine Ed [10,13] 14 (λhSn=>?_);generalize w5.drew=z at j y q t f hSn |-;simp only[List.replicate];refine J9 0 ?_;refine BO 4 [10,11,12,13] (λw Z=>Am (y.bel Z) 5) ?_;refine CW 5 ?_;refine BO 6 [7,8,9,10,11,12,13] (λw Z=>Cf (t.bel Z) 0 1) ?_;refine CW 7 ?_;refine BN 8 rfl (λK v=>?_);have aa:=λo=>Below.alloc hSn hSn.size o;change K (Act.put _ (some 55) _) _;refine v.out _ _ (λ_=>aa _) ?_;have hSn:=aa (.cells (LQ r s).toArray 179);have A:=qh (AC z 179 (LQ r s));clear aa;change wpAnyL _ _ _ _ _ _ _ _ _ (z.alloc (.cells (LQ r s).toArray 179));have ay:=A.lt;have ba:gX<=z.heap.size:=q.le;generalize z.alloc (.cells (LQ r s).toArray 179)=wa at hSn A ay |-;clear v;try simp only[Act.put,zA,zB,zC]
      refine BN 9 rfl (λK v=>?_);refine tU 177 (AP z.heap.size) [AP z.heap.size] ?_;intro wb ak ab;have hSn:=AO hSn ab;have A:=D9 ab A;have X:=qh ak;clear ak ab;change K (Act.put _ (some 56) _) _;refine BR v ?_;clear v;refine BN 10 rfl (λK v=>?_);go_simp;have N:=qh (f.bel hSn);have bc:=X.lt;have a1:=f.1.lt;refine(KI.o _ ob ws.length (ws.map Wx.ptr) ws.length wa.heap.size (AP z.heap.size) _ N.1 (WU ws) rfl X.o (λe=>by have:=a1 _ e;omega) Ve BJ).mono ?_;rintro e am ⟨v5,af,rfl,ae,al,D⟩;have ag:=qh (show Holds am z.heap.size 179 (LQ r s) from A.mv D (λh=>N.1.Hw A.o Iz _ h rfl));obtain⟨I,M,S,ah⟩:=bY (jq (r:=r) (s:=s) N.o ae ag.o D Ve) ((y.bel hSn).mv D (λh=>(H _ h).1 rfl)) ((j.bel hSn).mv D (λh=>(H _ h).1 rfl) (λh=>(H _ h).2.1 rfl) (λh=>(H _ h).2.2.1 rfl) (λh=>(H _ h).2.2.2.1 rfl) (λh=>(H _ h).2.2.2.2 rfl)) ((Mv.of_below (F:=λk=>k=gc\/ob=some k) (aw▸(q.bel hSn).below)).mv D (λk C=>.inl (.inr C)));have a0:af=ob\/∃k,af=some k/\w.heap.size<=k:=al.imp id (λ⟨k,h,h2⟩=>⟨k,h,by have:=hSn.size;omega⟩);obtain⟨G,c5,rfl⟩:∃G c5,v5=.slice G (ws.length+1:Nat) c5:=by
       rcases ae.cases with⟨_,_,h0,_⟩|⟨g1,av,_,hv,_⟩
       .omega
       .exact⟨_,av,hv⟩
      clear ae al D;refine BR v ?_;clear v;refine F9 11 ?_ (hS:=JI);refine BN 13 rfl (λK v=>?_);refine tC 5 M.o (.slice G (ws.length+1:Nat) c5) ?_;intro w6 ai P;have ao:=qh (show Holds w6 gc 163 (@BG ⟨G,ws.length+1,c5⟩ n me gl gi leads recs out) from ai);have ad:Mv (λk=>k=gc) am w6:=Mv.AZ P rfl;obtain⟨I,aq,ap,ar⟩:=bY (I.mv ad (I.1.Hw M.o Iz) (λx u=>(I.2 x u).ne_of M.o Iz)) (S.lg.touch P (Ne.symm J.1) (Ne.symm J.2.1)) (S.ix.touch P (Ne.symm J.2.2.1) (Ne.symm J.2.2.2.1)) (ah.mv ad (λk C=>.inl (.inl C)));clear ai P ad;refine BR v ?_;clear v;refine BA ?_;clear hSn y t j X M S ah f N A ag KO KW KI;go_wp2_with fail;go_ret;exact⟨⟨_,rfl⟩,G,ws.length+1,c5,af,_,@BB.mk ⟨G,ws.length+1,c5⟩ _ _ _ _ _ _ _ _ _ _ _ _ _ _ _ ao.o aq.o ap.o J.o,(by simp<;>omega),I.o,(by simp<;>omega),a0,λx u=>by
       rcases List.mem_append.1 u with u|u
       .exact .inl (List.mem_of_mem_take u)
       .rcases List.mem_cons.1 u with rfl|u
        .exact .inr (by show w.heap.size<=z.heap.size;omega)
        .exact .inl (List.mem_of_mem_drop u),ar.o⟩
     .skip
      obtain⟨g,cc,bg,hv,_,a8,a9,hh,_⟩:=f.1.blk BJ;cases hv;have O:=λd os=>hh.grown d os i;rw[List.getElem?_append_left (by simpa using ac),List.getElem?_map,List.getElem?_eq_getElem ac] at O;obtain⟨U,T⟩:=WZ (f.2 _ (List.getElem_mem ac)) aj;clear aj hh;generalize ws[i]=l at U O T;obtain⟨lg,lr,a2,lL⟩:=l;simp only[Option.map,Wx.ptr] at O;obtain⟨l0,l1⟩:=JO U.o 0 1;have Y:=qh (λW=>KS.o (lr,a2) ((r:Int),s) W);rw[T.o] at Y;have az:(i:Int)<(ws.length:Int):=BJ
      go_upto_region 4 with(fail);refine wp_region_quiet_below ND ND ?_;repeat go_big_quiet_step (first|(go_at_call 151;with_reducible exact AQ λW _=>Y.o W))
      refine wpQuiet_nil ?_;intro w5 R;have Q:=Aa R;obtain⟨q,j,t,f⟩:=En Q q j t f;clear R Q d5 x0 x1 l0 l1 O U T Y az;clear y an;go_upto_region 6 with(fail);have y:=qh j.hc;obtain⟨j,y,q,t,f⟩:=Gj (AY _ w5) j y q t f;refine Ed [10,13] 14 (λhSn=>?_);generalize w5.drew=z at j y q t f hSn |-;simp only[List.replicate];refine J9 0 ?_;refine BO 4 [10,11,12,13] (λw Z=>Am (y.bel Z) 5) ?_;refine CW 5 ?_;refine BO 6 [7,8,9,10,11,12,13] (λw Z=>Cf (t.bel Z) 0 1) ?_;refine CW 7 ?_;refine BN 8 rfl (λK v=>?_);have aa:=λo=>Below.alloc hSn hSn.size o;change K (Act.put _ (some 55) _) _;refine v.out _ _ (λ_=>aa _) ?_;have hSn:=aa (.cells (LQ r s).toArray 179);have A:=qh (AC z 179 (LQ r s));clear aa;change wpAnyL _ _ _ _ _ _ _ _ _ (z.alloc (.cells (LQ r s).toArray 179));have ay:=A.lt;have ba:gX<=z.heap.size:=q.le;generalize z.alloc (.cells (LQ r s).toArray 179)=wa at hSn A ay |-;clear v;try simp only[Act.put,zA,zB,zC]
      refine BN 9 rfl (λK v=>?_);refine tU 177 (AP z.heap.size) [AP z.heap.size] ?_;intro wb ak ab;have hSn:=AO hSn ab;have A:=D9 ab A;have X:=qh ak;clear ak ab;change K (Act.put _ (some 56) _) _;refine BR v ?_;clear v;refine BN 10 rfl (λK v=>?_);go_simp;have N:=qh (f.bel hSn);have bc:=X.lt;have a1:=f.1.lt;refine(KI.o _ ob ws.length (ws.map Wx.ptr) i wa.heap.size (AP z.heap.size) _ N.1 (WU ws) rfl X.o (λe=>by have:=a1 _ e;omega) hi BJ).mono ?_;rintro e am ⟨v5,af,rfl,ae,al,D⟩;have ag:=qh (show Holds am z.heap.size 179 (LQ r s) from A.mv D (λh=>N.1.Hw A.o Iz _ h rfl));obtain⟨I,M,S,ah⟩:=bY (jq (r:=r) (s:=s) N.o ae ag.o D hi) ((y.bel hSn).mv D (λh=>(H _ h).1 rfl)) ((j.bel hSn).mv D (λh=>(H _ h).1 rfl) (λh=>(H _ h).2.1 rfl) (λh=>(H _ h).2.2.1 rfl) (λh=>(H _ h).2.2.2.1 rfl) (λh=>(H _ h).2.2.2.2 rfl)) ((Mv.of_below (F:=λk=>k=gc\/ob=some k) (aw▸(q.bel hSn).below)).mv D (λk C=>.inl (.inr C)));have a0:af=ob\/∃k,af=some k/\w.heap.size<=k:=al.imp id (λ⟨k,h,h2⟩=>⟨k,h,by have:=hSn.size;omega⟩);obtain⟨G,c5,rfl⟩:∃G c5,v5=.slice G (ws.length+1:Nat) c5:=by
       rcases ae.cases with⟨_,_,h0,_⟩|⟨g1,av,_,hv,_⟩
       .omega
       .exact⟨_,av,hv⟩
      clear ae al D;refine BR v ?_;clear v;refine F9 11 ?_ (hS:=JI);refine BN 13 rfl (λK v=>?_);refine tC 5 M.o (.slice G (ws.length+1:Nat) c5) ?_;intro w6 ai P;have ao:=qh (show Holds w6 gc 163 (@BG ⟨G,ws.length+1,c5⟩ n me gl gi leads recs out) from ai);have ad:Mv (λk=>k=gc) am w6:=Mv.AZ P rfl;obtain⟨I,aq,ap,ar⟩:=bY (I.mv ad (I.1.Hw M.o Iz) (λx u=>(I.2 x u).ne_of M.o Iz)) (S.lg.touch P (Ne.symm J.1) (Ne.symm J.2.1)) (S.ix.touch P (Ne.symm J.2.2.1) (Ne.symm J.2.2.2.1)) (ah.mv ad (λk C=>.inl (.inl C)));clear ai P ad;refine BR v ?_;clear v;refine BA ?_;clear hSn y t j X M S ah f N A ag KO KW KI;go_wp2_with fail;go_ret;exact⟨⟨_,rfl⟩,G,ws.length+1,c5,af,_,@BB.mk ⟨G,ws.length+1,c5⟩ _ _ _ _ _ _ _ _ _ _ _ _ _ _ _ ao.o aq.o ap.o J.o,(by simp<;>omega),I.o,(by simp<;>omega),a0,λx u=>by
       rcases List.mem_append.1 u with u|u
       .exact .inl (List.mem_of_mem_take u)
       .rcases List.mem_cons.1 u with rfl|u
        .exact .inr (by show w.heap.size<=z.heap.size;omega)
        .exact .inl (List.mem_of_mem_drop u),ar.o⟩
     .skip
      obtain⟨g,cc,bg,hv,_,a8,a9,hh,_⟩:=f.1.blk BJ;cases hv;have O:=λd os=>hh.grown d os i;rw[List.getElem?_append_left (by simpa using ac),List.getElem?_map,List.getElem?_eq_getElem ac] at O;obtain⟨U,T⟩:=WZ (f.2 _ (List.getElem_mem ac)) aj;clear aj hh;generalize ws[i]=l at U O T;obtain⟨lg,lr,a2,lL⟩:=l;simp only[Option.map,Wx.ptr] at O;obtain⟨l0,l1⟩:=JO U.o 0 1;have Y:=qh (λW=>KS.o (lr,a2) ((r:Int),s) W);rw[T.o] at Y;have az:(i:Int)<(ws.length:Int):=BJ
      go_upto_region 4 with(fail);refine wp_region_quiet_below ND ND ?_;repeat go_big_quiet_step (first|(go_at_call 151;with_reducible exact AQ λW _=>Y.o W))
      refine wpQuiet_nil ?_;intro w5 R;have Q:=Aa R;have a6:=qh (AO an.o Q);clear R Q d5 x0 x1 l0 l1 O U T Y az;go_wp2_with fail;go_roundw;case rel=>exact⟨i+1,by go_num,BJ,a6.o⟩
      case measure=>simp[intOf];omega
theorem qW(g n me gd gw gc gfr r:Nat)(P:Value)(o:Nat->Ow)(pv:Nat->Value)(d kp:Nat->Int)(since tk:Int)(waits out ans:Value)(k:Int)(R:World->Prop)(w:World)(nd:Holds w g 102 (Ar n me gd gw gc gfr P o pv d kp since tk waits out ans))(hr:r<7)(hd:0<=d r/\d r<=1000)(hk:0<=k/\k<=d r+1) (hR0:k<=d r->∀W,Below w.heap.size w W->R W) (KW:k=d r+1->∀W,Below w.heap.size w W->Calls prog 84 #[AP gc,.agg #[AA r,AA (d r+1)]] W λe w'=>(∃b,e=.returned (.bool b))/\R w'/\Holds w' g 102 (Ar n me gd gw gc gfr P o pv d kp since tk waits out ans)) (hRb:∀W W',R W->Below W.heap.size W W'->R W') :Calls prog 137 #[AP g,AA r,AA k] w λe w'=>e=.returned (.tuple #[])/\R w':=by
 obtain⟨a,q,KW,C⟩:=bY nd hR0 KW hRb;have m:=FT n me gd gw gc gfr P o pv d kp since tk waits out ans r hr;have i:=qh m;obtain⟨x,u⟩:∃x,x=d r:=⟨_,rfl⟩;rw[<-u] at hd hk m q KW i;have F:IntKind.i64.wrap (x+1)=x+1:=by rw[IntKind.wrap_i64];omega
 have G:IntKind.i64.wrap (x+32)=x+32:=by rw[IntKind.wrap_i64];omega
 have B:IntKind.i64.wrap (x+1+1)=x+1+1:=by rw[IntKind.wrap_i64];omega
 have E:(r:Int)<7:=BJ
 clear nd hR0 hRb u m;go_in;have c:=a.cell (55+r);rw[i.o] at c;have p:=Am a.o 4;go_wp2_with fail;clear c p;go_loopw [6] (λj wr=>(j=AA (x+1)/\Below w.heap.size w wr)\/(j=AA (x+1+1)/\k=x+1/\R wr/\Holds wr g 102 (Ar n me gd gw gc gfr P o pv d kp since tk waits out ans))) (λj _=>(x+2-intOf j).toNat);case atStart=>exact .inl ⟨rfl,Below.refl _ _⟩
 case round=>
  rcases hrel with⟨rfl,s⟩|⟨rfl,z,h,f⟩
  .obtain⟨a,HB⟩:=WZ (a.bel s) s;have c:=a.cell (55+r);rw[i.o] at c;have p:=Am a.o 4;by_cases y:k<=x
   .have t:min k (x+32)=k:=BJ
    have A:¬x+1<=k:=BJ
    have D:k<x+1:=BJ
    go_wp2_with fail;exact bE ⟨rfl,q.o y _ HB.o⟩
   .obtain rfl:k=x+1:=BJ
    have t:min (x+1) (x+32)=x+1:=BJ
    go_wp2_with fail;refine(KW.o (by first|rfl|trivial) _ HB.o).mono ?_;rintro e H ⟨⟨b,rfl⟩,h,f⟩;obtain⟨l,v⟩:=WZ h f;clear h f c p HB a;go_wp2_with fail;go_roundw;case rel=>exact .inr ⟨by simp[B],by first|rfl|trivial,l.o,v.o⟩
    case measure=>simp[intOf];omega
  .subst z;obtain⟨a,l⟩:=WZ f h;clear h f;have c:=a.cell (55+r);rw[i.o] at c;have t:min (x+1) (x+32)=x+1:=BJ
   have A:¬x+1+1<=x+1:=BJ
   go_wp2_with fail;exact bE ⟨rfl,l.o⟩
section
variable [In]
theorem Wv(bb:Bool)(g b n:Nat)(d:Nat->Int)(O:Value)(l:List A7)(q t:Int)(w:World)(h:BL w g b n d O l)(hbb:bb=true ↔ ∃e∈l,e.r=q/\t<e.s) :Calls prog 274 #[AP g,.agg #[AA q,AA t]] w λe w'=>e=.returned (.bool bb)/\Below w.heap.size w w':=by
 obtain⟨m,T⟩:=WZ h hbb;clear hbb h;go_in;go_upto_region 1 with(fail);go_name_world W Z;obtain⟨c,ab,aq⟩:=GI 37 ([AA q,AA t]) Z;clear Z;have a:=qh (Base.start w);obtain⟨a,m⟩:=Ce ab a m;clear ab aq;have Y:w.heap.size<W.heap.size:=c.lt;generalize X:w.heap.size=B at c a Y |-;obtain⟨D,af,hl⟩:=m.map;have N:=qh hl;clear hl;have m0:=Am m.ix 7;obtain⟨F,aj⟩:=WZ m.wf m.lt.2;go_wp2_with (first|(at_range;refine wpList_range_own _ rfl _ 246 rfl 37 45 CV underlying246 BZ b n D rfl af ?_;intro w0 ag C ap)|fail)
 go_frame
 have aa:Below W.heap.size W w0:=⟨C.os,C.tape,C.output,C.size,λk L=>C.block k L Vj⟩;obtain⟨c,a⟩:=Ce aa c a;have i:=qh ag;clear ag C ap af m0 aa m;have al:=aj.o;generalize W.heap.size=R at i al Y |-;go_loopw [] (λwr=>∃(left:Lit->Bool) (V:Nat),wr.ranges prog 37 BZ b R n D left V/\(∀e∈l,left e.key=false->¬(e.r=q/\t<e.s))/\Holds wr B 37 [AA q,AA t]/\Base B w wr) (λwr=>wr.rangeLeft b R);case atStart=>exact⟨_,_,i.o,λe u f=>(by rw[show _=true from Maps.has_true_of_atKey (N.at_ e u)] at f;cases f),c.o,a.o⟩
 case round=>
  clear i a c;obtain⟨left,V,G,ae,hx,hb⟩:=hrel;obtain⟨a,c,Q⟩:=bP hb hx ae;clear hb hx ae;go_wp2_with (first|(at_next;refine wpList_next_ranges _ rfl _ rfl 37 CV BZ (λp:Int × Int=>Dz p.1 p.2) (λv:Value=>v) (λar kl L=>by obtain⟨r,s,rfl,_⟩:=Jo L;exact⟨(r,s),rfl⟩) (λv y _=>⟨v,rfl⟩) b R n D _ _ rfl G ?_ ?_)|fail)
  .intro hc0 hl0;have am:bb=false:=by
    cases hbb:bb with
    | false=>rfl
    | true=>
     obtain⟨e,u,I⟩:=T.1 hbb;exact absurd I (Q.o e u (hl0 _))
   subst am;clear G hl0 hc0;go_wp2_with fail;go_ret;exact⟨rfl,X▸a.below⟩
  .intro pr ps cv kl yd yp E cnt1 hkey hlk x hat hrg1 hlt hg1 hs1 hen;have hy:yd=.held cv:=by unfold BZ at x;injection x with x;injection x with x _;exact x.symm
   rw[hy] at hat;obtain⟨e,u,ad⟩:=Ph N.o F.o hat;have ao:pr=e.r/\ps=e.s:=by have hw:=F.o e u;rw[<-ad] at hkey;have:=CV.inj hkey (DX e.r e.s hw.1 hw.2);simp only[Dz,Value.agg.injEq,Array.mk.injEq,List.cons.injEq,Value.int.injEq,true_and,and_true] at this;exact this
   obtain⟨I,h2⟩:=ao;subst I;subst h2;subst ad;have ak:=qh u;have U:=qh (λ(hn:¬(e.r=q/\t<e.s)) (j:A7) (ac:j∈l) (f:(left j.key&&!j.key.sameKey e.key)=false)=>show ¬(j.r=q/\t<j.s) from by
    have E:=F.o e u;have w2:=F.o j ac;rw[show j.key.sameKey e.key=(j.r==e.r&&j.s==e.s) from Di w2.1 w2.2 E.1 E.2] at f;simp only[Bool.and_eq_false_iff,Bool.not_eq_false',Bool.and_eq_true,beq_iff_eq] at f;rcases f with f|f
    .exact Q.o j ac f
    .rw[f.1,f.2];exact hn)
   have an:B≠R:=BJ
   have M:=BM hg1;obtain⟨c,a,i,S,P⟩:=dD (c.touch M an) (a.touch M BJ) hrg1 hlt G.left_eq;clear hrg1 G hlt hg1 hs1 x hy hat hkey hlk u M;simp only[Dz] at hen |-;go_upto_region 4 with(fail);go_name_world W2 A;have A:Bo E [.cells ([AA e.r,AA e.s]:List Value).toArray 37]=W2:=A;have m:=qh (show Holds W2 (E.heap.size) 37 ([AA e.r,AA e.s]) from Ae _ A 0 rfl);have J:=Aq _ A;have ah:=Bd _ A;simp only[List.length_cons,List.length_nil] at ah;clear A;obtain⟨c,a⟩:=Ce J c a;have i:=qh (i.kept (XN J) Vj Vj);clear J ah hen;obtain⟨x0,x1⟩:=Cf c.o 0 1;obtain⟨i0,i1⟩:=Cf m.o 0 1;by_cases z:e.r=q
   .have hq2:(e.r==q)=true:=by simp[z]
    by_cases ai:t<e.s
    .have hbt:bb=true:=T.2 ⟨e,ak.o,z,ai⟩;subst hbt;clear z;go_wp2_with fail;go_ret;exact⟨rfl,X▸a.below⟩
    .have H:=qh (U.o λK=>ai K.2);clear z;go_wp2_with fail;clear x0 x1 i0 i1 hq2;go_roundw;case rel=>exact⟨_,_,i.o,H.o,c.o,a.o⟩
     case measure=>rw[i.left_eq,P.o];exact S.o
   .have hq2:(e.r==q)=false:=by simp[z]
    have H:=qh (U.o λK=>z K.1);clear z;go_wp2_with fail;clear x0 x1 i0 i1 hq2;go_roundw;case rel=>exact⟨_,_,i.o,H.o,c.o,a.o⟩
    case measure=>rw[i.left_eq,P.o];exact S.o
end
section
variable [In]
theorem kz(d:Nat->Int)(m:Nat)(hm:m<7)(x y:Value):(DT d++[x,y])[m]?=some (AA (d m)):=by rcases(show m=0\/m=1\/m=2\/m=3\/m=4\/m=5\/m=6 by omega) with rfl|rfl|rfl|rfl|rfl|rfl|rfl<;>rfl
theorem BL.vS{w:World}{g b n:Nat}{d:Nat->Int}{O:Value}{l:List A7}(h:BL w g b n d O l)(j:Nat)(hj:j<7):w.cell? ⟨g,j,none⟩=some (AA (d j)):=(h.ix.cell j).trans (kz d j hj _ _)
end
end Go.Proofs.YtimdpiifpibgfaaGreatDoor
