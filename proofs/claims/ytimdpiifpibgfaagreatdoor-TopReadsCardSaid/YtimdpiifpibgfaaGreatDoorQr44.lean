/- A part of the proof of TopReads. -/
import Derived.Test.YtimdpiifpibgfaaGreatDoorQr43
set_option linter.all false
set_option maxRecDepth 20000
set_option maxHeartbeats 16000000
open Go.RowKit Go.Maps
namespace Go.Proofs.YtimdpiifpibgfaaGreatDoor
open Tryz
section
variable [In]
theorem lS(r s r2 s2:Int)(h:¬(r=r2/\s=s2))(W:World):(binOp .eql 37 (.agg #[AA r,AA s]) (.agg #[AA r2,AA s2])).run prog W=.ok (.bool false) W:=by
 go_simp;by_cases a:r=r2
 .have h2:¬s=s2:=λe=>h ⟨a,e⟩;simp[a,h2]
 .simp[a]
theorem jv(ws:List (Nat × Int))(rs:List Value)(i:Nat)(hi:i<ws.length):(LY ws++rs)[i*2]?=some (AA ((ws[i].1:Int)+1))/\(LY ws++rs)[i*2+1]?=some (AA ws[i].2):=by have h:=Uy ws i hi rs;exact⟨h 0 _ rfl,h 1 _ rfl⟩
theorem Zb(V:Value)(ob:Option Nat)(ws:List (Nat × Int))(k:Nat)(s:Int)(w:World)(ho:AV w V ob 37 2 ws.length (LY ws))(hlen:ws.length<=1000)(hn:∀x∈ws,¬(x.1=k/\x.2=s)) :Calls prog 210 #[V,.agg #[AA ((k:Int)+1),AA s]] w λe w'=>e=.returned (AA (-1))/\Below w.heap.size w w':=by
 obtain⟨z,b⟩:=WZ hn ho;clear hn;obtain⟨T,N,rfl⟩:∃p c,V=.slice p (ws.length:Nat) c:=by
  rcases ho.cases with⟨r,_,G,_⟩|⟨_,_,_,r,_⟩
  .rw[r,G];exact⟨_,_,rfl⟩
  .exact⟨_,_,r⟩
 clear ho;have a:=qh (Base.start w);go_in;go_upto_region 1 with(fail);go_name_world W v;obtain⟨d,y,E⟩:=GI 37 ([AA ((k:Int)+1),AA s]) v;clear v;obtain⟨b,a⟩:=Ce y b a;clear y E;generalize A:w.heap.size=B at a d |-;go_wp2_with fail;go_loopw [8] (λu wr=>∃i:Nat,u=AA (i:Int)/\i<=ws.length/\Base W.heap.size W wr) (λu _=>ws.length - (intOf u).toNat);case atStart=>exact⟨0,rfl,Nat.zero_le _,Base.start _⟩
 case round=>
  obtain⟨i,rfl,S,f⟩:=hrel;obtain⟨g,b,a,d⟩:=bY f (b.bel f.below) (a.bel f.below) (d.bel f.below);clear f;by_cases C:i=ws.length
  .subst C;go_wp2_with fail;go_ret;exact⟨rfl,A▸a.below⟩
  .have hi2:i<ws.length:=BJ
   obtain⟨P,O,H,F,rfl,Q,R,q,_⟩:=b.blk BJ;cases F;have t:=z.o _ (List.getElem_mem hi2);obtain⟨m,n⟩:=jv ws H i hi2;have j:=q.cell (i*2);have l:=q.cell (i*2+1);rw[m] at j;rw[n] at l;generalize ws[i].1=K at t m j;generalize ws[i].2=L at t n l;clear m n q;have D:=lS ((k:Int)+1) s ((K:Int)+1) L (λh=>t ⟨BJ,h.2.symm⟩);obtain⟨I,J⟩:=Cf d.o 0 1;go_upto_region 4 with(fail);go_quiet (fail);obtain⟨g,a⟩:=Ce (Bg _ wr nq) g a;clear j l I J D d b;generalize wr.drewN nq=M at g a |-;go_wp2_with fail;go_roundw;case rel=>exact⟨i+1,by go_num,BJ,g.o⟩
   case measure=>simp[intOf];omega
theorem UI(V:Value)(ob:Option Nat)(ws:List (Nat × Int))(k:Nat)(s:Int)(w:World)(ho:AV w V ob 37 2 ws.length (LY ws))(hlen:ws.length<=1000)(hn:∀x∈ws,¬(x.1=k/\x.2=s)) :Calls prog 130 #[V,.agg #[AA ((k:Int)+1),AA s]] w λe w'=>e=.returned (.bool false)/\Below w.heap.size w w':=by obtain⟨h,b⟩:=WZ (λW ho=>Zb V ob ws k s W ho hlen hn) ho;clear ho hn;go_in;go_upto_region 1 with(fail);go_name_world W f;obtain⟨d,c,i⟩:=GI 37 ([AA ((k:Int)+1),AA s]) f;clear f;have a:=qh c;have b:=D9 c b;clear c;obtain⟨j,l⟩:=Cf d.o 0 1;go_wp2_with fail;refine Ah (h.o _ b.o) ?_;rintro m g;have a:=qh (a.trans (g.mono a.size));clear g j l d i;go_wp2_with fail;go_ret;exact⟨rfl,a.o⟩
theorem pF[CO](g n me gd gw gc gl gm nl gi gx ni gfr:Nat)(cl sq2:Int)(L:List A7)(E:List CY)(leads recs cout:Value)(P:Value)(o:Nat->Ow)(pv:Nat->Value)(d kp:Nat->Int)(since tk:Int)(waits out ans:Value)(w:World) (nd:Holds w g 102 (Ar n me gd gw gc gfr P o pv d kp since tk waits out ans)) (hc:BB w gc n me gl gm nl gi gx ni L E leads recs cout) (hl:L.length<=1000) (hall:∀e∈L,∃c2 s2,e.L[6]?=some (AA c2)/\e.L[7]?=some (AA s2)/\(e.s<=d e.r.toNat\/¬(c2=cl/\s2=sq2))) :Calls prog 128 #[AP g,.agg #[AA cl,AA sq2]] w λe w'=>e=.returned (.bool false)/\Below w.heap.size w w':=by
 obtain⟨KC,J,f,I,l,m,HA,aj⟩:=ed (λW hc=>SE gc n me gl gm nl gi gx ni L E leads recs cout W hc hl) (λe (q:e∈L) W (h:Holds W gc 163 (BG n me gl gi leads recs cout)) hl=>SI gc n me gl gm nl gi e.r e.s e.L L leads recs cout W h hl q) nd hc hc.hc hc.lg hall hc.lg.good;obtain⟨aa,a⟩:=WZ hc.lg.rows (Base.start w);clear nd hc hall;go_in;go_upto_region 1 with(fail);go_name_world W hW;obtain⟨j,ae,av⟩:=GI 37 ([AA cl,AA sq2]) hW;clear hW;obtain⟨f,l,m,a,I⟩:=Gj ae f l m a I;clear ae av;generalize ak:w.heap.size=B at a j |-;have n4:=Am f.o 4;go_wp2_with fail;refine(KC.o _ I.o).mono ?_;rintro e w1 ⟨v1,rfl,⟨p1,c1,u,a5,rfl,ag,au,X⟩,ac⟩;obtain⟨R,HK⟩:=WZ ag X;have az:u.length<=L.length:=X.len;obtain⟨f,l,m,a,j⟩:=Gj ac f l m a j;clear ag au X ac KC n4 I;go_wp2_with fail;go_loopw [15] (λY wr=>∃i:Nat,i<=u.length/\Y=AA i/\Base w1.heap.size w1 wr) (λY _=>u.length - (intOf Y).toNat);case atStart=>exact⟨0,BJ,rfl,Base.start _⟩
 case round=>
  obtain⟨i,hi,rfl,p⟩:=hrel;obtain⟨b,f,l,m,R,a,j⟩:=oC p (f.bel p.below) (l.bel p.below) (m.bel p.below) (R.bel p.below) (a.bel p.below) (j.bel p.below);clear p;by_cases h1:i<u.length
  .obtain⟨gs,cs,rs,hv1,rfl,hcs1,hcs2,hgs,_⟩:=R.blk BJ;cases hv1;obtain⟨r,s,c⟩:∃r s,u[i]=(r,s):=⟨_,_,rfl⟩;obtain⟨⟨er,D,V⟩,q,af⟩:=(HK.o.mem (r,s)).1 (c▸List.getElem_mem h1);have an:=aj.o _ q;simp only[Prod.mk.injEq] at af an;obtain⟨rfl,rfl⟩:=af;obtain⟨k,rfl⟩:∃k:Nat,er=k:=⟨er.toNat,BJ⟩;have ao:k<7:=BJ
   obtain⟨Z,J⟩:=WZ (show wr.rangeAt gs (i*2) [AA k,AA D] from hgs.CB (i*2) (Nu u rs i h1 k D c)) (show ∀W,Holds W gc 163 (BG n me gl gi leads recs cout)->BF W gl gm nl L->_ from J.o _ q);obtain⟨c2,s2,ah,ai,S⟩:=HA.o _ q;simp only[Int.toNat_natCast] at S ah ai;have ab:V.length=21:=(aa.o _ q).1;have al:V.toArray.all (·.oneCell')=true:=(aa.o _ q).2;simp only at J;clear hgs c q;go_upto_region 4 with(first|(refine lM (i*2) Z.o ?_)|(refine Ai rfl 37 _ _ rfl rfl _ _ ([AA k,AA D]:List Value).toArray rfl rfl ND ND (by simp[Value.oneCell']) ?_));go_name_world W0 z;have y:=qh (show Holds W0 wr.heap.size 37 [AA k,AA D] by rw[<-z];exact AC wr _ _);have ad:Below wr.heap.size wr W0:=by rw[<-z];exact(Below.refl _ _).alloc Ve _
   obtain⟨f,l,m,b,a,j⟩:=Ef ad f l m b a j;clear z Z ad;refine' CU [⟨9,10,7,26,45,zero21,V⟩] ND ND ND ?z11 ?z21 ?bd1 _ ?h1 ?val1 ?fin1;case z11=>
    intro x c;simp only[List.mem_cons,List.not_mem_nil,or_false] at c;subst c
    .exact⟨.agg (zero21:List Value).toArray,ND,rfl⟩
   case z21=>
    intro x c;simp only[List.mem_cons,List.not_mem_nil,or_false] at c;subst c
    .exact⟨by show _=some V.length;rw[ab];kernel_rfl,ab.symm,al⟩
   case bd1=>
    intro x c;simp only[List.mem_cons,List.not_mem_nil,or_false] at c;subst c
    .simp
   case h1=>
    intro W0 z;obtain⟨f,l,m,y,b,a⟩:=Ef z f l m y b a;have j:=D9 z j;have aw:=MK f.o 4;obtain⟨ax,ay⟩:=JO y.o 0 1;simp only[List.map_cons,List.map_nil,BI];repeat go_big_quiet_step (first|(go_at_call 176;with_reducible exact AQ λC h2=>J.o C (l.o.bel h2) (m.o.bel h2)))
    refine wpQuiet_nil ?_;intro w' _;exact rfl
   case val1=>
    intro x c;simp only[List.mem_cons,List.not_mem_nil,or_false] at c;subst c
    .rfl
   intro β t T c ar;have F:=c _ List.mem_cons_self;clear c ar;simp only[] at F;simp only[D7,List.foldl,Act.put,List.setIfInBounds_toArray,List.set_cons_zero,List.set_cons_succ];obtain⟨f,l,m,y,b,a⟩:=Ef T f l m y b a;have j:=D9 T j;generalize β 7=g7 at F |-;have v:=qh F.2;have a0:=F.1;clear F;clear T;go_upto_region 5 with(fail);have A:=f.cell (55+k);rw[FT _ _ _ _ _ _ _ _ _ _ _ _ _ _ _ _ k ao] at A;obtain⟨K,M⟩:=Cf y.o 0 1;obtain⟨O,Q⟩:=Cf j.o 0 1;have N:=Am f.o 1;have G:=v.cell 6;have H:=v.cell 7;rw[ah] at G;rw[ai] at H;have a2:(k:Int)<7:=BJ
   generalize d k=dk at S A;by_cases ap:k=me
   .subst ap;have aq:((k:Int)==(k:Int))=true:=Vj
    by_cases a1:dk<D
    .have hor:¬(c2=cl/\s2=sq2):=S.resolve_left BJ;by_cases U:c2=cl
     .have hs2:¬s2=sq2:=λh=>hor ⟨U,h⟩;subst U;have am:(c2==c2)=true:=Vj
      have a4:(s2==sq2)=false:=by simp[hs2]
      go_quiet (fail);obtain⟨b,a⟩:=Ce (Bg _ t nq) b a;clear A K M N O Q G H j v;generalize t.drewN nq=C at b a |-;go_wp2_with fail;go_roundw;case rel=>exact⟨i+1,BJ,by go_num,b.o⟩
      case measure=>simp[intOf];omega
     .have am:(c2==cl)=false:=by simp[U]
      go_quiet (fail);obtain⟨b,a⟩:=Ce (Bg _ t nq) b a;clear A K M N O Q G H j v;generalize t.drewN nq=C at b a |-;go_wp2_with fail;go_roundw;case rel=>exact⟨i+1,BJ,by go_num,b.o⟩
      case measure=>simp[intOf];omega
    .go_quiet (fail);obtain⟨b,a⟩:=Ce (Bg _ t nq) b a;clear A K M N O Q G H j v;generalize t.drewN nq=C at b a |-;go_wp2_with fail;go_roundw;case rel=>exact⟨i+1,BJ,by go_num,b.o⟩
     case measure=>simp[intOf];omega
   .have aq:((k:Int)==(me:Int))=false:=by simp;omega
    have a3:¬(k:Int)=(me:Int):=BJ
    go_quiet (fail);obtain⟨b,a⟩:=Ce (Bg _ t nq) b a;clear A K M N O Q G H j v;generalize t.drewN nq=C at b a |-;go_wp2_with fail;go_roundw;case rel=>exact⟨i+1,BJ,by go_num,b.o⟩
    case measure=>simp[intOf];omega
  .obtain rfl:i=u.length:=BJ
   go_wp2_with fail;go_ret;exact⟨rfl,ak▸a.below⟩
def bJ(w W W1 Wf:World)(b:Nat):Prop:=Below w.heap.size w W/\Touch b W1 Wf/\w.heap.size<=b/\((b<W.heap.size/\∃L,Holds W b 37 L)\/W1.heap.size<=b)
theorem xy(g n me gd gw gc gfr:Nat)(c:Cm)(P:Value)(o:Nat->Ow)(pv:Nat->Value)(d kp:Nat->Int)(since tk:Int)(k:Nat)(s sq:Int)(W0 out ans:Value)(obW:Option Nat)(ws:List (Nat × Int))(RP:World->World->Prop)(RQ RS R3:World->Prop)(w:World) (nd:Holds w g 102 (Ar n me gd gw gc gfr P o pv d kp since tk W0 out ans)) (hk:c.k≠0) (hk8:k<8) (hsq:(o k).seq=sq) (hlt:sq<s) (hW:AV w W0 obW 37 2 ws.length (LY ws)) (hlen:ws.length<=100) (hnw:∀x∈ws,¬(x.1=k/\x.2=s)) (KR:∀W,Calls prog 70 #[.agg #[AA c.k,AA ((k:Int)+1),AA s,.string c.a,.string c.b,.string c.o,.string c.v]] W λe w'=>e=.returned (.bool true)/\Below W.heap.size W w') (KW:∀W,Below w.heap.size w W->Calls prog 128 #[AP g,.agg #[AA ((k:Int)+1),AA s]] W λe w'=>e=.returned (.bool false)/\Below W.heap.size W w') (KP:∀W,Below w.heap.size w W->Calls prog 129 #[AP gc,.agg #[AA c.k,AA ((k:Int)+1),AA s,.string c.a,.string c.b,.string c.o,.string c.v]] W λe w'=>e=.returned (.tuple #[.agg #[AA me,AA In.sl],.bool true])/\RP W w') (hI:∀W W1,RP W W1->W.heap.size<=W1.heap.size/\∀k L,Holds W k 37 L->Holds W1 k 37 L) (hQ:∀W W1 Wf b,RP W W1->bJ w W W1 Wf b->RQ Wf/\Holds Wf g 102 (Ar n me gd gw gc gfr P o pv d kp since tk W0 out ans)/\AV Wf W0 obW 37 2 ws.length (LY ws)) (hS:∀Wf Wn v' ob,RQ Wf->w.heap.size<=Wf.heap.size->Holds Wn g 102 (Ar n me gd gw gc gfr P o pv d kp since tk v' out ans)->AV Wn v' ob 37 2 (ws.length+1) (LY (ws++[(k,s)]))->(ob=obW\/∃k,ob=some k/\Wf.heap.size<=k)->Mv (λx=>x=g\/obW=some x) Wf Wn->RS Wn) (KS:∀W,RS W->Calls prog 53 #[AP g] W λe w'=>e=.returned (.tuple #[])/\R3 w') :Calls prog 71 #[AP g,.agg #[AA c.k,AA ((k:Int)+1),AA s,.string c.a,.string c.b,.string c.o,.string c.v]] w λe w'=>e=.returned (AA 0)/\R3 w':=by
 obtain⟨KR,KW,KP,KS,hI,hQ,hS,KC⟩:=ed KR KW KP KS hI hQ hS (λW ho=>UI W0 obW ws k s W ho BJ hnw);obtain⟨pW,cW,rfl⟩:∃p c,W0=.slice p (ws.length:Nat) c:=by
  rcases hW.cases with⟨r,_,r2,_⟩|⟨_,_,_,r,_⟩
  .rw[r,r2];exact⟨_,_,rfl⟩
  .exact⟨_,_,r⟩
 have ay:=hW.Hw nd Iz;clear hnw hW;have bi:(c.k==0)=false:=by simp[hk]
 obtain⟨a5,ah,a4⟩:=bP (show IntKind.i64.wrap ((k:Int)+1-1)=(k:Int) by rw[show (k:Int)+1-1=k by omega];exact IntWalk.i64_in _ BJ) hk8 hsq;have bm:¬s<sq:=BJ
 have bn:sq<s:=hlt;obtain⟨f,l⟩:=WZ nd (Base.start w);have bl:=nd.lt;clear nd hk hk8 hsq hlt;go_in;go_upto_region 1 with(fail);go_name_world W hW;obtain⟨q,ao,bd⟩:=GI 23 ([AA c.k,AA ((k:Int)+1),AA s,.string c.a,.string c.b,.string c.o,.string c.v]) hW;clear hW;obtain⟨f,l⟩:=Ce ao f l;clear ao;generalize ab:w.heap.size=B at q l KW KP hQ hS bd |-;have bj:B<W.heap.size:=BJ
 have bh:=Am f.o 74;obtain⟨V,X,N,x3,x4,x5,x6⟩:=Gl q.o 0 1 2 3 4 5 6;go_wp2_with fail;refine Ah (KR.o _) ?_;rintro w1 R;obtain⟨f,q,l⟩:=D5 R f q l;clear R bh V X N x3 x4 x5 x6;have n7:=f.cell (7+k*6);rw[show (Ar n me gd gw gc gfr P o pv d kp since tk (.slice pW (ws.length:Nat) cW) out ans)[7+k*6]?=some (AA (o k).seq) from Vs n me gd gw gc gfr P o pv d kp since tk (.slice pW (ws.length:Nat) cW) out ans k ah.o 0 _ rfl,a4.o] at n7;have bf:=a5.o;have a9:(0:Int)<=(k:Int):=BJ
 have ba:(k:Int)<8:=by have:=ah.o;omega
 obtain⟨V,X,N⟩:=Yz q.o 0 1 2;go_upto_region 5 with(fail);go_quiet (fail);have am:Below w1.heap.size w1 (w1.drewN nq):=Bg _ _ _;obtain⟨f,q,l⟩:=D5 am f q l;clear am n7 V X N bf a9 ba;generalize w1.drewN nq=U at f q l |-;obtain⟨V,X,N⟩:=Yz q.o 0 1 2;go_upto_region 9 with(first|(refine sW [AA ((k:Int)+1),AA s] (AC U _ _) ?_;intro w3 ar a0));have G:Below U.heap.size U w3:=Below.trans ((Below.refl _ _).alloc Ve _) (a0.below Ve Vj);have m:=qh ar;have a6:B<=U.heap.size:=l.le;obtain⟨f,q,l⟩:=D5 G f q l;clear G ar a0 V X N;generalize U.heap.size=gI at m a6 |-;have N:=Am q.o 2;obtain⟨i0,i1⟩:=Cf m.o 0 1;go_wp2_with fail;refine Ah (KW.o _ l.below) ?_;rintro w4 R;obtain⟨f,q,l,m⟩:=En R f q l m;clear R N i0 i1;go_upto_region 10 with(fail);go_cut [7,8] from 50 to 59 (λx y wx=>∃W W1 b,y=.bool true/\RP W W1/\bJ w W W1 wx b/\Holds wx gI 37 [AA ((k:Int)+1),AA s]);case first=>
  obtain⟨f,q,l,m⟩:=En (AY _ w4) f q l m;refine Ed [5,10] 12 (λhSn=>?_);generalize w4.drew=z at f q l m hSn |-;simp only[List.replicate];refine ES 0 ?_;refine BO 3 [5,6,7,8,10,11] (λw J=>Am (f.bel J) 4) ?_;refine BO 4 [5,6,7,8,10,11] (λw J=>Gl (q.bel J) 0 1 2 3 4 5 6) ?_;refine rdA [5,9] (BD.cons rfl (λK i=>?_) (BD.cons rfl (λK i=>?_) (BD.nil)))
  .skip
   go_simp;have ac:=hSn;refine Ah (KP.o _ (l.bel hSn).below) ?_;rintro t u;have Q:=qh u;have be:=(hI.out _ _ u).1;try(have H:=qh ((hI.out _ _ u).2 _ _ D.o))
   have O:=qh ((hI.out _ _ u).2 _ _ (m.bel hSn));clear u;refine BR i ?_;clear i;refine ES 6 ?_ (hS:=JI);refine BN 9 rfl (λK i=>?_);go_simp;have G:=λo=>Below.alloc hSn hSn.size o;first|(refine i.out _ _ (λ_=>G _) ?_;have hSn:=G (.cells #[AA 0,AA 0] 37);have D:=qh (AC z 37 [AA 0,AA 0]);change wpAnyL _ _ _ _ _ _ _ _ _ (z.alloc (.cells #[AA 0,AA 0] 37));generalize S:z.alloc (.cells #[AA 0,AA 0] 37)=wc at hSn D |-;have ad:z.heap.size<wc.heap.size:=D.lt)|(refine i.out _ _ JI ?_;have H:=qh (AC t 37 [AA 0,AA 0]);have M:=(Below.refl t.heap.size t).alloc Ve (.cells #[AA 0,AA 0] 37);change wpAnyL _ _ _ _ _ _ _ _ _ (t.alloc (.cells #[AA 0,AA 0] 37));generalize S:t.alloc (.cells #[AA 0,AA 0] 37)=wc at H M |-)
   clear i;try simp only[Act.put,zA,zB,zC]
   refine BN 10 rfl (λK i=>?_);refine tB [AA me,AA In.sl] H.o ?_;intro wf a8 E;refine BR i ?_;clear i;refine CW 11 ?_ (hS:=JI);refine BA ?_;go_wp2_with fail
   go_meet
   subst ab;have ae:=l.le;have a7:=m.lt;first|exact⟨z,t,t.heap.size,rfl,Q.o,⟨l.below,(Touch.bel (Touch.refl _ t) M).trans E,BJ,.inr Ve⟩,(O.bel M).touch E BJ⟩|exact⟨wc,t,z.heap.size,rfl,Q.o,⟨(l.bel ac).below,E,ae,.inl ⟨ad,_,D.o⟩⟩,O.touch E BJ⟩
  .skip
   go_simp;have G:=λo=>Below.alloc hSn hSn.size o;first|(refine i.out _ _ (λ_=>G _) ?_;have hSn:=G (.cells #[AA 0,AA 0] 37);have D:=qh (AC z 37 [AA 0,AA 0]);change wpAnyL _ _ _ _ _ _ _ _ _ (z.alloc (.cells #[AA 0,AA 0] 37));generalize S:z.alloc (.cells #[AA 0,AA 0] 37)=wc at hSn D |-;have ad:z.heap.size<wc.heap.size:=D.lt)|(refine i.out _ _ JI ?_;have H:=qh (AC t 37 [AA 0,AA 0]);have M:=(Below.refl t.heap.size t).alloc Ve (.cells #[AA 0,AA 0] 37);change wpAnyL _ _ _ _ _ _ _ _ _ (t.alloc (.cells #[AA 0,AA 0] 37));generalize S:t.alloc (.cells #[AA 0,AA 0] 37)=wc at H M |-)
   clear i;try simp only[Act.put,zA,zB,zC]
   refine BN 5 rfl (λK i=>?_);go_simp;have ac:=hSn;refine Ah (KP.o _ (l.bel hSn).below) ?_;rintro t u;have Q:=qh u;have be:=(hI.out _ _ u).1;try(have H:=qh ((hI.out _ _ u).2 _ _ D.o))
   have O:=qh ((hI.out _ _ u).2 _ _ (m.bel hSn));clear u;refine BR i ?_;clear i;refine ES 6 ?_ (hS:=JI);refine BN 10 rfl (λK i=>?_);refine tB [AA me,AA In.sl] H.o ?_;intro wf a8 E;refine BR i ?_;clear i;refine CW 11 ?_ (hS:=JI);refine BA ?_;go_wp2_with fail
   go_meet
   subst ab;have ae:=l.le;have a7:=m.lt;first|exact⟨z,t,t.heap.size,rfl,Q.o,⟨l.below,(Touch.bel (Touch.refl _ t) M).trans E,BJ,.inr Ve⟩,(O.bel M).touch E BJ⟩|exact⟨wc,t,z.heap.size,rfl,Q.o,⟨(l.bel ac).below,E,ae,.inl ⟨ad,_,D.o⟩⟩,O.touch E BJ⟩
 case rest=>
  obtain⟨W,W1,b,rfl,u,Z,hi⟩:=hcut;obtain⟨az,hn,a2⟩:=hQ.out W W1 wc b u Z;have C:=qh a2;clear a2;have S:w.heap.size<=wc.heap.size:=Nat.le_trans Z.1.size (Nat.le_trans (hI.out _ _ u).1 Z.2.1.size);obtain⟨ak,f,m,A⟩:=bY az hn hi (Base.start wc);have bk:g<wc.heap.size:=hn.lt;clear az hn hi u Z hQ hI q l KP KW KR;have bg:=MK f.o 71;obtain⟨i0,i1⟩:=JO m.o 0 1;go_upto_region 13 with(fail);refine wp_region_quiet_below ND ND ?_;repeat go_big_quiet_step (first|(go_at_call 130;with_reducible exact AQ λW2 I=>KC.o W2 (C.o.bel I)))
  refine wpQuiet_nil ?_;intro w5 a1;have an:=Aa a1;obtain⟨f,m,A,C⟩:=En an f m A C;clear a1 an bg i0 i1 KC;go_upto_region 14 with(fail);obtain⟨f,m,A,C⟩:=En (AY _ w5) f m A C;refine Ed [7,10] 11 (λhSn=>?_);generalize w5.drew=z at f m A C hSn |-;simp only[List.replicate];refine J9 0 ?_;refine BO 4 [7,8,9,10] (λw J=>Am (f.bel J) 71) ?_;refine BO 5 [6,7,8,9,10] (λw J=>Cf (m.bel J) 0 1) ?_;refine BN 6 rfl (λK i=>?_);refine tU 37 (.agg #[AA ((k:Int)+1),AA s]) [AA ((k:Int)+1),AA s] ?_;intro wa au ap;have hSn:=AO hSn ap;have aa:=qh au;generalize z.heap.size=gn at aa |-;obtain⟨f,A,C⟩:=D5 hSn f A C;clear au ap;change K (Act.put _ (some 74) _) _;refine BR i ?_;clear i;refine BN 7 rfl (λK i=>?_);refine tS (.agg #[AA 0,AA 0]) 2 16 C.o [AA ((k:Int)+1),AA s] (aa.reads 0 _ (λj v hv=>by rw[Nat.zero_add];exact hv)) ?_ (fU k s);intro v9 T w9 av ax af;obtain⟨Y,aj,ai⟩:=bP (show AV w9 v9 T 37 2 (ws.length+1) (LY (ws++[(k,s)])) from by rw[Tm];exact av) (f.mv af (λh=>ay _ h rfl)) ((Mv.of_below (F:=λx=>obW=some x) A.below).mv af (λk hk=>.inl hk));have bb:=A.le;have aw:T=obW\/∃k,T=some k/\wc.heap.size<=k:=ax.imp id (λ⟨k,h,I⟩=>⟨k,h,Nat.le_trans bb I⟩);have bc:∀k,T=some k->k≠g:=(λk hk=>by rcases aw with h|⟨k2,h,I⟩<;>rw[h] at hk;exact ay k hk;cases hk;omega);clear av ax af;change K (Act.put _ (some 75) _) _;refine BR i ?_;clear i;refine F9 8 ?_ (hS:=JI);refine BN 10 rfl (λK i=>?_);refine tC 71 aj.o v9 ?_ (hu:=Y.c1) (h1:=Y.c2);intro a3 aq ag;have al:=qh (hS.out wc a3 v9 T ak.o (ab▸S) (show Holds a3 g 102 (Ar n me gd gw gc gfr P o pv d kp since tk v9 out ans) from aq) (Y.mv (Mv.AZ (F:=λk=>k=g) ag rfl) bc) aw ((show Mv (λx=>x=g\/obW=some x) wc w9 from ai.more (λk hk=>.inr hk)).mv (Mv.AZ (F:=λk=>k=g) ag rfl) (λk hk=>.inl (.inl hk))));clear aq ag;refine BR i ?_;clear i;refine BA ?_;clear hSn f m A aj Y ai aa ak C;go_wp2_with fail;refine Ah (KS.o _ al.o) ?_;rintro w6 I;have H2:=qh I;clear I al;go_wp2_with fail;go_ret;exact⟨rfl,H2.o⟩
end
section
open Rz (zn zN zp zK)
variable [Rz]
theorem dP(c:Cm)(hc:JB c):xJ c=.agg #[AA c.k,AA ((cK c:Int)+1),AA c.s,.string c.a,.string c.b,.string c.o,.string c.v]:=by
 have:=hc.cc;rw[show ((cK c:Nat):Int)+1=c.c by unfold cK;omega]
 rfl
theorem qM{i j:Nat}(hi:i<zN)(hj:j<zN)(hij:i≠j):¬(cK (zK i).c=cK (zK j).c/\(zK i).c.s=(zK j).c.s):=λh=>by obtain⟨a,b⟩:=Kt hi hj hij h.1;have d:=(Rz.ck0 i a).2;have f:=(Rz.ck0 j b).2;have:=h.2;omega
theorem Tv.wH{w w':World}{F:Ap}{B r:Nat}{recs:Value}(h:Tv w B r recs)(hm:Mv F w w')(h1:∀k L,F k->¬Holds w k 5 L)(h2:∀k L,F k->¬Holds w k 127 L):Tv w' B r recs:=by
 rcases h with h|⟨rfl,g,f,m,l,j,rfl,a,b,c,d⟩
 .exact .inl h
 .exact .inr ⟨rfl,g,f,m,l,j,rfl,a.mv hm λi=>h2 _ _ i a,b.wH hm h1,c,d⟩
theorem iy(w:World)(F:Ap)(g:Nat)(p:Nat->Pz)(d:Nat->Int)(lt tk:Int)(wz:Bool)(dv:Nat->Nat->Int)(j:Nat)(h:CP w F g (zK j).m p d lt tk wz dv [] [])(hFw:∀k,F k->k<w.heap.size)(hD:Ko p d)(hR:Ij p d)(hj:j<zN)(hlt:0<=lt) (hown:∀i,i<j->(zK i).m=(zK j).m->Jm (p i)=false) (hnew:∀i,j<=i->i<zN->p i=.fresh) (hdn:∀i,i<zp->i<j->Dc d i=true) (hg:wz=true\/j<zp) :Calls prog 71 #[AP g,xJ (zK j).c] w λe w'=>e=.returned (AA 0)/\Wh F g (zK j).m (CE p j (.lead [])) d lt tk wz dv (DF zn (zK j).m j) w w':=by
 obtain⟨Y,mb,gw,O,Z,P,pv,sc,kp,ae,ab,X,h⟩:=h;have aq:=pg j;have M:=Rz.c j hj;have al:cK (zK j).c<8:=by have:=M.cc;unfold cK;omega
 have aa:=hnew j Ve hj;have ag:Dc d j=false:=by
  cases y:Dc d j with
  | false=>rfl
  | true=>have:=hD.com j hj y;rw[aa] at this;cases this
 have ap:∀i,i<zN->Jm (p i)=false->i<j:=λi C G=>Decidable.byContradiction λhn=>by rw[hnew i BJ C] at G;cases G
 have av:=Qs (D:=Dc d) hj ag λa4 i a3 C=>by
  cases y:Dc d i with
  | false=>rfl
  | true=>have:=hD.com i C y;rw[hnew i BJ C] at this;cases this
 have ax:CQ (CE p j (.lead [])) d (zK j).m=CQ p d (zK j).m++[j]:=ji hj rfl (λi q A=>by rw[hnew i q A];rfl) ag;have af:=IG (x:=.lead []) hj (p:=p);rw[aa] at af;simp only[cst] at af;have a0:=FO (CE p j (.lead []));have az:=FO p;have ao:(DF zn (zK j).m j).length<=100:=by have:=(Pn dv 1 (zK j).m j rfl (.inl rfl)).1;have J:=uo;unfold DF;omega
 obtain⟨obW,U,aj⟩:=h.wa;have aw:(Ih (CQ p d (zK j).m)).length<=100:=by unfold Ih;rw[List.length_map];have:=Tf p d (zK j).m;omega
 letI:In:=(zK j).I
 have nd:=h.nd;rw[dP _ M];refine xy g zn (zK j).m Y gw O Z (zK j).c P _ pv d kp sc tk (cK (zK j).c) (zK j).c.s _ ae ab X obW (Ih (CQ p d (zK j).m))
  (λW n=>GK F O (zK j).m (CE p j (.lead [])) lt wz 1 (DF zn (zK j).m j).length (FQ dv (DF zn (zK j).m j)) W n)
  (λWf=>∃W n z u,w.heap.size<=W.heap.size/\W.heap.size<=n.heap.size/\n.heap.size<=Wf.heap.size/\Dx Wf (grow F W n) g (zK j).m (CE p j (.lead [])) d lt tk wz z u dv [] (CQ p d (zK j).m) [] (200+500*EI p) true Y mb gw O Z P pv sc kp ae ab X/\Tv Wf W.heap.size 1 z/\Fh Wf (grow F W n) u (DF zn (zK j).m j).length (FQ dv (DF zn (zK j).m j))/\Mv F w Wf)
  (λB=>∃W z u,w.heap.size<=W.heap.size/\W.heap.size<=B.heap.size/\Mv F w B/\EC B (grow F W B) g (zK j).m (CE p j (.lead [])) d lt tk wz z u dv [] (CQ (CE p j (.lead [])) d (zK j).m) [] (200+500*EI p) true/\Tv B W.heap.size 1 z/\Fh B (grow F W B) u (DF zn (zK j).m j).length (FQ dv (DF zn (zK j).m j)))
  _ w nd (by have:=M.kk;omega) al rfl av U aw (λx N=>?_) ?_ ?_ ?_ ?_ ?_ ?_ ?_
 .obtain⟨i,C,rfl⟩:=List.mem_map.1 N;obtain⟨q,_,A,_⟩:=L8.1 C;exact qM q hj (by have:=ap i q A;omega)
 .intro W;have:=Eg (zK j).c.k (zK j).c.c (zK j).c.s (zK j).c.a (zK j).c.b (zK j).c.o (zK j).c.v W;rw[M.right] at this;have e:=dP _ M;unfold xJ at e;rw[<-e];exact this
 .intro W y;obtain⟨wi,gl,gm,nl,gi,gx,ni,L,E,ay,a8,xs,ws,ac⟩:=h.co;have a6:=ac.ln;refine pF g zn (zK j).m Y gw O gl gm nl gi gx ni Z _ _ L E ay _ _ P _ pv d kp sc tk ae ab X W (nd.bel y) (ac.co.bel y) BJ λe he=>?_;obtain⟨i,C,J⟩:=(ac.lg e).1 he;have au:i≠j:=λe=>by rw[e,aa] at J;cases J
  have am:=qM C hj au;have a1:=(Rz.c i C).cc;have N:¬((zK i).c.c=((cK (zK j).c:Nat):Int)+1/\(zK i).c.s=(zK j).c.s):=λN=>am ⟨by unfold cK at N |-;omega,N.2⟩;refine⟨(zK i).c.c,(zK i).c.s,?_,?_,.inr N⟩;all_goals cases hp:p i<;>rw[hp] at J<;>simp only[JQ,Option.some.injEq] at J<;>first|(cases J;done)|(subst J;rfl)
 .intro W y;have:=UJ dv (h.bel y).co hD hR hj hlt rfl hown hnew hdn;rw[dP _ M] at this;exact this
 .rintro W n ⟨z,u,c1,c2,c3,c4⟩;refine⟨c4.size,λk L r=>r.mv c4 λG=>?_⟩;rcases G.2 with⟨t,L',h',R⟩|ar
  .exact absurd (Eu r h'▸R) Iz
  .exact Du ar r rfl
 .rintro W n Wf b ⟨z,u,c1,c2,c3,c4⟩ ⟨y,htf,hbw,hbb⟩;have ak:=(h.bel y).qI c4 c1;have Q:Mv (λk=>k=b) n Wf:=Mv.AZ htf rfl;have ai:¬grow F W n b:=by
   rintro(G|⟨h3,h4⟩)
   .have:=hFw b G;omega
   .rcases hbb with⟨h5,_⟩|h5<;>omega
  have S:∀t L,t≠37->¬Holds n b t L:=by
   intro t L R r;rcases hbb with⟨h5,L5,h6⟩|h5
   .have h7:Holds n b 37 L5:=h6.mv c4 λG=>by have:=hFw b G.1;omega
    exact R (Eu r h7)
   .have:=r.lt;omega
  have K:=ak.mv Q (λk l _=>l▸ai);obtain⟨V,H,_⟩:=K.wa;have ad:V=obW:=by first|exact H.2.trans U.2.symm|exact H.2.symm.trans U.2
  exact⟨⟨W,n,z,u,y.size,c4.size,Q.size,K,c2.wH Q (λk L l=>l▸S _ L Iz) (λk L l=>l▸S _ L Iz),c3.mv (T:=[47]) Q (λk l _=>.inl (.inl (l▸ai))) Iz,((Mv.of_below y).mv c4 λk l=>.inl l.1).mv Q λk l=>.inr (l▸hbw)⟩,K.nd,ad▸H⟩
 .rintro Wf B v' ob ⟨W,n,z,u,s1,s2,s3,hI,hRc,r,hM⟩ _ hn' ho hob hmv;have a7:=hmv.size;obtain⟨V,H,a2⟩:=hI.wa;have ad:V=obW:=by first|exact H.2.trans U.2.symm|exact H.2.symm.trans U.2
  subst ad;have hG:∀k,(k=g\/V=some k)->k<Wf.heap.size->∃t L,Holds Wf k t L/\t∈[102,37]:=by
   rintro k (rfl|l) _
   .exact⟨_,_,hI.nd,Vj⟩
   .obtain⟨L,r⟩:=IL H k l;exact⟨_,_,r,Vj⟩
  have S:∀t L k,t∉[102,37]->(k=g\/V=some k)->¬Holds Wf k t L:=λt L k R l r=>by obtain⟨t',L',q,A⟩:=hG k l r.lt;exact R (Eu r q▸A)
  have hF:∀k,grow F W n k->k<Wf.heap.size->grow F W B k:=λk l _=>l.imp id λ⟨a,b⟩=>⟨a,BJ⟩;have K:=hI.foot hF;obtain⟨q1,q2,q3,q4,q5,q6,q7,q8⟩:=K.part [102,37] hmv (λk l hl=>.inl (hG k l hl));refine⟨W,z,u,s1,BJ,hM.mv hmv λk l=>?_,⟨Y,mb,gw,O,Z,P,pv,sc,kp,v',ab,X,hn',q2 Iz,h.lm,q3 hG Iz,q4 Iz,q5 Iz,⟨ob,?_,λk l=>?_⟩,q7 Iz,q8 Iz,K.f,h.kp,h.rs⟩,hRc.wH hmv (λk L l=>S _ L k Iz l) (λk L l=>S _ L k Iz l),(r.foot hF).mv (T:=[47]) hmv (λk l hl=>?_) Iz⟩
  .rcases l with rfl|l
   .exact .inl h.f.1
   .exact .inl (aj k l)
  .rw[ax];have e:Ih (CQ p d (zK j).m++[j])=Ih (CQ p d (zK j).m)++[(cK (zK j).c,(zK j).c.s)]:=by simp[Ih]
   rw[e,List.length_append];exact ho
  .rcases hob with q|⟨k2,q,A⟩
   .exact .inl (aj k (q▸l))
   .rw[q] at l;cases l;exact .inr ⟨BJ,ho.lt _ q⟩
  .obtain⟨t',L',q,A⟩:=hG k l hl;exact Ep q ((show ∀t∈[102,37],t∉[47] by decide) _ A)
 .rintro n ⟨W,z,u,r1,r2,r3,r4,r5,r6⟩;refine Ah (WM n (grow F W n) W.heap.size g (zK j).m (CE p j (.lead [])) d lt tk wz z u dv (DF zn (zK j).m j) (200+500*EI p) 1 aq.2 r4 r5 r6 ao (λk l an=>.inr ⟨l,an⟩) BJ BJ (Yh hD λh=>by rw[aa] at h;cases h) (Po hR hdn) (UQ (F8 (hg.imp id λh=>⟨h,λi q A=>by rw[hnew i BJ A];rfl⟩)) (Po hR hdn) hD.nn)) ?_;rintro w' ⟨d',t1,t2,hn,ah⟩;have hs:=ah.size;refine⟨rfl,d',t1,t2,(EC.yM hn BJ).foot λk l a5=>?_,r3.mv ah λk l=>l.imp id λ⟨a,_⟩=>Nat.le_trans r1 a⟩;rcases grow_step r2 hs l with h|⟨a,b⟩
  .exact .inl h
  .exact .inr ⟨Nat.le_trans r1 a,b⟩
end
section
open Rz (zn zN zp zK)
theorem uV{CA cs:List Value}{o:Nat}(ho:o+cs.length<=CA.length):(splice CA o cs).length=CA.length/\(∀(j:Nat) v,cs[j]?=some v->(splice CA o cs)[o+j]?=some v)/\∀i:Nat,(i<o\/o+cs.length<=i)->(splice CA o cs)[i]?=CA[i]?:=by
 have c:(List.take o CA).length=o:=by rw[List.length_take];omega
 refine⟨by unfold splice;simp;omega,λj v b=>?_,λi a=>?_⟩
 .have hj:j<cs.length:=(List.getElem?_eq_some_iff.1 b).1;unfold splice;rw[List.getElem?_append_right BJ,c,show o+j-o=j by omega,List.getElem?_append_left hj];exact b
 .unfold splice;rcases a with a|a
  .rw[List.getElem?_append_left BJ,List.getElem?_take_of_lt a]
  .rw[List.getElem?_append_right BJ,List.getElem?_append_right BJ,List.getElem?_drop]
   congr 1
   omega
variable [Rz]
theorem dE(w:World)(own:Nat->Nat)(gC:Nat)(s:Mz)(ev:List Ev)(lt:Nat->Int)(tk:Nat->Nat)(wz:Bool)(x:Cm)(h:Fg w own gC s ev lt tk wz)(hM:JC s)(hE:O8 s ev)(hJ:s.J<zN)(k:Nat)(hk:k=cK (zK s.J).c)(hx:(zK s.J).c=Fe k (MZ k s.J).s x) (hr:∀i,i<zp->i<s.J->∀r,r<zn->Dc (s.D r) i=true) (hg:wz=true\/s.J<zp) (hlt:0<=lt (zK s.J).m) (hw:s.wt<=800) :Calls prog 11 #[AP gC,.agg (Gi ((k:Int)+1) (zK s.J).m x).toArray] w λe w'=>e=.returned (.bool true)/\∃own' ev',Fg w' own' gC s.call ev' lt tk wz/\O8 s.call ev'/\Stepped w own w' own':=by
 have I:=Rz.c s.J hJ;have a6:=I.cc;have be:=I.ss;have K:k<8:=by rw[hk];unfold cK;omega
 have aq:(zK s.J).c.c=(k:Int)+1:=by rw[hk];unfold cK;omega
 have au:=Xg hJ;rw[<-hk] at au;have bd:(zK s.J).c.s<=16:=by
  have hp:=Rz.hp;by_cases l:s.J<zp
  .rw[(Rz.ck0 _ l).2];omega
  .rw[(Rz.ck1 _ BJ hJ).2];decide
 have ap:fits (zK s.J).c:=⟨I.right,by have:=I.kk;omega⟩;have ay:OV s k=false:=by rw[hk];exact oz hM hJ hr
 have h7:zn=3\/zn=5\/zn=7:=Rz.n7;have f:=Rz.m s.J;have a8:=hE.len;have a7:=QF s;have a5:zN<=15:=Rz.hN;have ba:s.lets.length<=s.wt:=Nat.le_trans (MG s.lets) (Nat.le_add_right _ _);have bc:(DF zn (zK s.J).m s.J).length<=7:=by unfold DF;have:=List.length_filter_le (λr=>r != (zK s.J).m) (List.range zn);rw[List.length_map];rw[List.length_range] at this;omega
 have al:=hM.call hJ hr;have V:MZ k s.call.J=(zK s.J).c:=if_pos hk.symm;have X:∀j,j≠k->MZ j s.call.J=MZ j s.J:=λj a=>if_neg (by rw[<-hk];exact a.symm);have O:=λj=>WV hM hJ j;rw[<-hk] at O;refine(dF gC ((k:Int)+1) (zK s.J).m x (λb w'=>(b=true/\∃own' ev',Fg w' own' gC s.call ev' lt tk wz/\O8 s.call ev'/\Stepped w own w' own')) w λW y=>?_).mono ?_
 .obtain⟨dvv,gN,cN,gCl,cCl,gCa,lv,hvv,gs,gcl,hB,hN⟩:=NY.bel h y;have bf:=y.size;have av:=hB.lt;obtain⟨rC,am⟩:=hB.cp;obtain⟨rN,ah⟩:=hB.np;obtain⟨CA,R,S,an⟩:=hB.calls;obtain⟨a3,a4,T⟩:=hB.cs k K;rw[ay] at T;obtain⟨U,az,bg,p,ad,ae⟩:=hB.his
  letI:In:=I0
  refine(vJ gC gCl cCl gCa zn (zK s.J).m k K gcl rC CA (MZ k s.J).s BJ x (MZ k s.J) (zK s.J).c hx a3 a4 hvv U ev.length (flat 14 ev.length (JF ev az)) BJ dvv _ lv (λw'=>∃own' ev',Fg w' own' gC s.call ev' lt tk wz/\O8 s.call ev'/\Stepped w own w' own') W hB.cl am T R S p.1 f BJ λd hC=>?_).mono ?_
  .obtain⟨hv1,obh1,c1,c2,c3,c4,c5,_,c7⟩:=hC;have ax:=c7.size;have F:kJ own W (λz=>z=gC\/z=gCa\/z=gcl k\/U=some z) [85,23,132,55]:=by
    rintro z (rfl|rfl|rfl|hz) _
    .exact .inr ⟨_,_,hB.cl,Vj⟩
    .exact .inr ⟨_,_,R,Vj⟩
    .exact .inr ⟨_,_,(show Holds W _ 132 _ from T),Vj⟩
    .obtain⟨L,hL⟩:=IL p.1 z hz;exact .inr ⟨_,_,hL,Vj⟩
   have Y:∀z,(z=gC\/z=gCa\/z=gcl k\/U=some z)->own z=1:=by
    rintro z (rfl|rfl|rfl|h)
    .exact hB.ow.1
    .exact hB.ow.2.2.2
    .exact hB.clo k K
    .exact ad z h
   have B:∀k,k<W.heap.size->Cb own W d 1 k=own k:=λk hk=>Ez _ _ _ _ _ hk;obtain⟨a0,a1,a2⟩:=uV (CA:=CA) (cs:=(zK s.J).c.cells) (o:=k*7) (by rw[S];simp[Cm.cells];omega);have ao:=Gz.snoc (e:=MO k (zK s.J).c) c2 (λi q=>(p.2 i q).mv c7 (F.o (p.2 i q) (ae i q) Iz)) (Ad.nil _);have C:U6 d (Cb own W d 1) gC (λj=>MZ j s.call.J) (OV s.call) s.lets s.dv (ev++[MO k (zK s.J).c]) dvv gN cN gCl cCl gCa lv hv1 gs gcl:=by
    refine hB.turn c7 F B Iz (JZ av ax) c1 (λj a=>?_) ⟨_,c4,by rw[a0,S],λj a i v E=>?_⟩ (hB.qP c7 F B Iz) ⟨obh1,_,_,ao,λg hg=>?_,λi q g hg=>?_⟩
    .by_cases hjk:j=k
     .subst hjk;refine⟨(zK s.J).m,0,?_⟩;show OY d (gcl j) _ (MZ j s.call.J).s (MZ j s.call.J) (OV s.call j) _ _;rw[V,O,if_pos rfl,<-aq];exact c5
     .obtain⟨tg,tk,h3⟩:=hB.cs j a;refine⟨tg,tk,?_⟩;show OY d (gcl j) _ (MZ j s.call.J).s (MZ j s.call.J) (OV s.call j) _ _;rw[X j hjk,O,if_neg hjk];refine Holds.mv h3 c7 λhg=>?_;rcases hg with hg|hg|hg|hg
      .exact(Holds.ne_of h3 hB.cl Iz) hg
      .exact(Holds.ne_of h3 R Iz) hg
      .exact hB.cs.ne a K hjk hg
      .exact AV.ne_of p.1 h3 Iz _ hg rfl
    .by_cases hjk:j=k
     .subst hjk;rw[V] at E;exact a1 i v E
     .rw[X j hjk] at E;have a9:i<7:=(List.getElem?_eq_some_iff.1 E).1;have ar:(zK s.J).c.cells.length=7:=rfl;rw[a2 _ (by rw[ar];omega)];exact an j a i v E
    .rcases c3 with c3|⟨z,c3,c3'⟩
     .have:=ad g (c3▸hg);rw[B g (AV.lt p.1 g (c3▸hg)),this]
     .rw[c3] at hg;cases hg;exact Fv _ _ _ _ _ c3' (c2.lt _ c3)
    .rw[List.length_append,List.length_singleton] at q;by_cases af:i=ev.length
     .subst af;rw[D8] at hg;cases hg
     .rw[Dv _ _ _ _ af] at hg;rw[B g (AV.lt (p.2 i BJ) g hg)];exact ae i BJ g hg
   have Z:Ej d (Cb own W d 1) s lt tk wz gs (λ_=>[]) (λ_=>[]):=hN.mv c7 (λk hk _=>by rw[Y k hk];decide) B;have ac:Stepped w own d (Cb own W d 1):=(Stepped.wL own y).trans ⟨B,c7.more λk hk=>by rw[Y k hk];decide⟩;have aj:=C.lt;generalize bb:Cb own W d 1=t at C Z ac aj;refine rG gC (zK s.J).m (gs (zK s.J).m) (zK s.J).c (λu=>∃N,NY u N gC { s.call with lets:=s.lets } (λj=>MZ j s.call.J) (OV s.call) (ev++[MO k (zK s.J).c]) lt tk wz (λj=>if j=(zK s.J).m then DF zn (zK s.J).m s.J else []) (λj=>if j=(zK s.J).m then [] else [])/\Stepped w own u N) _ d (λW y=>YK gC zn gN cN _ gs rN dvv _ _ lv hv1 W (C.cl.bel y) ?_ f) (λn H=>?_) (λn hR=>?_)
   .obtain⟨rN2,hnp2⟩:=C.np;exact(ah.mv c7 (F.h ah hB.ow.2.1 Iz)).bel y
   .have hsz2:=H.size;have M:∀k,t k≠0->k<n.heap.size:=λk hk=>Nat.lt_of_lt_of_le (aj k hk) hsz2;have ak:=C.mv (G:=λ_=>False) (own':=t) (.of_below H) (λ_ h=>h.elim) (λ_ _=>rfl) M;have aa:Ej n t s lt tk wz gs (λ_=>[]) (λ_=>[]):=Z.mv (G:=λ_=>False) (.of_below H) (λ_ h=>h.elim) (λ_ _=>rfl);refine(iy n (λk=>t k=2+(zK s.J).m) (gs (zK s.J).m) _ _ _ _ wz s.dv s.J (aa _ f) (λk hk=>M k BJ) (hM.dok _ f) (hM.oD f) hJ hlt (λi q ag=>?_) (λi l Q=>hM.new i l Q _ f) (λi l Q=>hr i l Q _ f) hg).mono ?_
    .rcases(hM.inv i q).row with⟨A,ha,_⟩|⟨ha,_⟩
     .rw[ag] at ha;rw[ha];rfl
     .rw[ag] at ha;rw[ha];rfl
    .rintro e u ⟨rfl,d',hd,hle,hnc,hm'⟩;have aw:=hm'.size;have ai:∀k,k<n.heap.size->Cb t n u (2+(zK s.J).m) k=t k:=λk hk=>Ez _ _ _ _ _ hk;have ab:s.call.P (zK s.J).m=CE (s.P (zK s.J).m) s.J (.lead []):=if_pos rfl;obtain rfl:d'=s.D (zK s.J).m:=by have l:=al.dok _ f;rw[ab] at l;exact l.uniq hd hle
     rw[O5] at hnc;refine⟨rfl,Cb t n u (2+(zK s.J).m),⟨dvv,gN,cN,gCl,cCl,gCa,lv,hv1,gs,gcl,ak.mv hm' (λk hk _=>BJ) ai (JZ M aw),?_⟩,(ac.bel H).trans ⟨ai,hm'.more λk hk=>BJ⟩⟩;exact Ej.step (s':={ s.call with lets:=s.lets }) aa M hm' (show CP u _ _ _ (s.call.P (zK s.J).m) (s.D (zK s.J).m) _ _ _ _ _ _ by rw[ab];exact hnc) λj a=>⟨if_neg a,rfl,rfl,rfl⟩
   .obtain⟨N,hG,hsp⟩:=hR;refine(Ye n N gC (zK s.J).m _ (λj=>MZ j s.call.J) (OV s.call) (ev++[MO k (zK s.J).c]) lt tk wz _ _ hG f (λj a=>if_neg a) (λj a=>if_neg a) (λj a=>?_) ?_ ?_ ?_ ?_).mono ?_
    .simp at a
    .simp
    .simp;omega
    .simp only[if_true];exact λm f=>(I4.1 f).2.2.2.1
    .simp only[if_true];show s.lets.length+_<=1000;omega
    .rintro e w' ⟨rfl,own',h5,h6⟩;refine⟨rfl,own',ev++[MO k (zK s.J).c],?_,hE.call k _,hsp.trans h6⟩;simp only[if_true,List.map_nil,List.append_nil,List.any_nil,Bool.not_false,Bool.and_true] at h5;exact h5
  .rintro e w' (⟨rfl,l⟩|⟨rfl,_,hnr⟩)
   .exact⟨true,rfl,rfl,l⟩
   .exact absurd ap hnr
 .rintro e w' ⟨b,rfl,rfl,h9⟩;exact⟨rfl,h9⟩
end
end Go.Proofs.YtimdpiifpibgfaaGreatDoor
