/- A part of the proof of TopReads. -/
import Derived.Test.YtimdpiifpibgfaaGreatDoorQr44
import Derived.Test.YtimdpiifpibgfaaGreatDoorQr46
set_option linter.all false
set_option maxRecDepth 20000
set_option maxHeartbeats 16000000
open Go.RowKit Go.Maps
namespace Go.Proofs.YtimdpiifpibgfaaGreatDoor
open Tryz
section
open Rz (zn zN zp zK)
section
variable (m:Nat->Nat) (cm:Nat->Cm)
def WN(j:Nat):Int:=(IB m j (m j):Int)+1
def PV:Nat->List CY
 | 0=>[]
 | j+1=>PV j++[⟨(m j:Int),WN m j,cm j,Em (PV j) (m j) (WN m j) (cm j)⟩]
def IR(x:Int):Int:=max 0 (min x 1000)
theorem VG(x:Int):0<=IR x/\IR x<=1000:=by unfold IR;omega
theorem VF{x:Int}(h0:0<=x)(h1:x<=1000):IR x=x:=by unfold IR;omega
@[reducible] def Sm (j:Nat):In where
 sl:=max 1 (min (WN m j) 1000)
 aq:=IR (Em (PV m cm j) (m j) (WN m j) (cm j))
 ad:=λr=>IR (CG (PV m cm j) (λ_=>0) (m j) (WN m j) (cm j) r)
 hsl:=BJ
 haq:=VG _
 had:=λ_=>VG _
def xK(j:Nat):Kn:=⟨Sm m cm j,m j,cm j⟩
theorem Xu{j:Nat}(hj:j<=15):1<=WN m j/\WN m j<=16:=by have:=Ul m (m j) j;unfold WN;omega
theorem XG:∀j,j<=15->∀e∈PV m cm j,e.q+1<=j/\1<=e.s/\e.s<=16
 | 0,_,e,he=>by cases he
 | j+1,hj,e,he=>by
  have ih:=XG j BJ;rcases List.mem_append.1 he with he|he
  .have:=ih e he;omega
  .obtain rfl:=List.mem_singleton.1 he;have a:=Xu m (j:=j) BJ;have b:Em (PV m cm j) (m j) (WN m j) (cm j)<=j:=Iu (λe=>e.q+1) j BJ _ _ λe he=>(ih e he).1;simp only;omega
theorem VD{j:Nat}(hj:j<=15):IR (Em (PV m cm j) (m j) (WN m j) (cm j))=Em (PV m cm j) (m j) (WN m j) (cm j):=by have b:Em (PV m cm j) (m j) (WN m j) (cm j)<=j:=Iu (λe=>e.q+1) j BJ _ _ λe a=>(XG m cm j hj e a).1;exact VF (Eb (λe=>e.q+1) _ _) BJ
theorem Yo{j:Nat}(hj:j<=15):(Sm m cm j).sl=WN m j:=by have:=Xu m hj;show max 1 (min (WN m j) 1000)=_;omega
theorem UN:∀j,j<=15->(List.range j).map (λi=>(xK m cm i).en)=PV m cm j
 | 0,_=>rfl
 | j+1,hj=>by rw[List.range_succ,List.map_append,UN j BJ];show _++[(xK m cm j).en]=_++[_];have h1:(xK m cm j).en=⟨(m j:Int),(Sm m cm j).sl,cm j,(Sm m cm j).aq⟩:=rfl;rw[h1,Yo m cm BJ];show _++[(⟨(m j:Int),WN m j,cm j,IR _⟩:CY)]=_;rw[VD m cm BJ]
theorem ru{j:Nat}(hj:j<=15)(vis:CY->Bool)(r:Int):0<=Bz (PV m cm j) vis r/\Bz (PV m cm j) vis r<=16:=
 ⟨Eb (λe=>e.s) _ (λe=>vis e&&e.r==r),Iu (λe=>e.s) 16 Iz _ (λe=>vis e&&e.r==r) λe a=>(XG m cm j hj e a).2.2⟩
@[reducible] def wR (n N p:Nat) (h7:n=3\/n=5\/n=7) (hN:N<=15) (hp:p<=8/\p<=N) (hm:∀j,m j<n) (hc:∀j,j<N->JB (cm j)) (put:∀j,j<p->(cm j).k=2) (get:∀j,p<=j->j<N->(cm j).k=1)
  (ck0:∀j,j<p->cK (cm j)=0/\(cm j).s=(j:Int)+1) (ck1:∀j,p<=j->j<N->cK (cm j)=j-p+1/\(cm j).s=1):Rz where
 zn:=n
 zN:=N
 zp:=p
 zK:=xK m cm
 n7:=h7
 hN:=hN
 hp:=hp
 m:=hm
 c:=hc
 put:=put
 get:=get
 sl:=λj hj=>Yo m cm BJ
 aq:=λj hj=>by rw[UN m cm j BJ];show Em _ (m j:Int) (Sm m cm j).sl (cm j)=IR _;rw[VD m cm BJ,Yo m cm BJ]
 ad:=λj hj r hr=>by
  rw[UN m cm j BJ];show CG _ _ (m j:Int) (Sm m cm j).sl (cm j) r=IR (CG _ _ (m j:Int) (WN m j) (cm j) r);rw[Yo m cm BJ];have h1:=ru m cm (j:=j) BJ (takes (m j) (WN m j) (cm j)) r;have h2:=Xu m (j:=j) BJ;symm;refine VF ?_ ?_;all_goals
   unfold CG;simp only
   repeat' split
   all_goals omega
 cl:=λj j' hj hj' h1 h2 hne=>by
  have e1:=get j h1 hj;have e2:=get j' h2 hj';have c1:=(ck1 j h1 hj).1;have c2:=(ck1 j' h2 hj').1;have hcc:((cm j').c==(cm j).c)=false:=by rw[beq_eq_false_iff_ne];intro h;unfold cK at c1 c2;omega
  show IU (cm j') (cm j)=false;unfold IU FI;rw[e1,e2,hcc];simp
 ck0:=ck0
 ck1:=ck1
end
def kv(l:List Pr)(b:ByteArray):ByteArray × Bool:=((LG l b).1.v,(LG l b).2)
theorem QS(p:Pr)(r:List Pr)(b:ByteArray):DY (p :: r) b=if SpanP.lt p.k b then ((DY r b).1+1,(DY r b).2) else (0,SpanP.same p.k b):=rfl
theorem Gs(p:Pr)(r:List Pr)(b:ByteArray):LG (p :: r) b=if SpanP.lt p.k b then LG r b else if SpanP.same p.k b then (p,true) else (.zero,false):=by
 unfold LG;rw[QS];by_cases h:SpanP.lt p.k b=true
 .simp[h]
 .cases h2:SpanP.same p.k b<;>simp[h]
theorem Zg(p:Pr)(r:List Pr)(a v:ByteArray):Jp (p :: r) a v=if SpanP.lt p.k a then p :: Jp r a v else if SpanP.same p.k a then p.put v :: r else ⟨a,v,1⟩ :: p :: r:=by
 unfold Jp;rw[QS];by_cases h:SpanP.lt p.k a=true
 .simp only[h,if_true];split<;>simp
 .cases h2:SpanP.same p.k a<;>simp[h]
theorem same_iff{a b:ByteArray}:SpanP.same a b=true ↔ a.toList=b.toList:=by simp[SpanP.same]
theorem OB{a b c:ByteArray}(h:a.toList=b.toList):SpanP.lt c a=SpanP.lt c b/\SpanP.lt a c=SpanP.lt b c:=by rw[SpanP.PL,SpanP.PL,SpanP.PL,SpanP.PL,h];exact⟨rfl,rfl⟩
theorem iD(a v b:ByteArray):∀l:List Pr,kv (Jp l a v) b=if SpanP.same a b then (v,true) else kv l b
 | []=>by
  have e:Jp [] a v=[⟨a,v,1⟩]:=rfl;rw[e];unfold kv;rw[Gs];cases i:SpanP.same a b with
  | true=>
   have d:=(OB (c:=a) (same_iff.1 i)).1;rw[SpanP.lt_irrefl] at d;simp[<-d]
  | false=>simp only[Bool.false_eq_true,if_false];split<;>rfl
 | p :: r=>by
  have q:=iD a v b r;rw[Zg];by_cases d:SpanP.lt p.k a=true
  .rw[if_pos d];unfold kv at q |-;rw[Gs,Gs];by_cases g:SpanP.lt p.k b=true
   .rw[if_pos g,if_pos g];exact q
   .rw[if_neg g,if_neg g];have i:SpanP.same a b=false:=by
     cases i:SpanP.same a b with
     | false=>rfl
     | true=>rw[(OB (c:=p.k) (same_iff.1 i)).1] at d;exact absurd d g
    rw[i]
    rfl
  .rw[if_neg d];cases g:SpanP.same p.k a with
   | true=>
    rw[if_pos rfl];unfold kv;rw[Gs,Gs];show ((if SpanP.lt p.k b then _ else if SpanP.same p.k b then (p.put v,true) else _:Pr × Bool).1.v,(if SpanP.lt p.k b then _ else if SpanP.same p.k b then (p.put v,true) else _:Pr × Bool).2)=_;have o:SpanP.same a b=SpanP.same p.k b:=by unfold SpanP.same;rw[same_iff.1 g]
    rw[o];cases j:SpanP.same p.k b with
    | true=>
     have f:=(OB (c:=p.k) (same_iff.1 j)).1;rw[SpanP.lt_irrefl] at f;rw[<-f]
     rfl
    | false=>rfl
   | false=>
    rw[if_neg Iz];have o:SpanP.lt a p.k=true:=by
     rcases SpanP.tri p.k a with h|h|h
     .exact absurd h d
     .rw[g] at h;cases h
     .exact h
    unfold kv;rw[Gs];show ((if SpanP.lt a b then _ else if SpanP.same a b then _ else _:Pr × Bool).1.v,(if SpanP.lt a b then _ else if SpanP.same a b then _ else _:Pr × Bool).2)=_;cases i:SpanP.same a b with
    | true=>
     have f:=(OB (c:=a) (same_iff.1 i)).1;rw[SpanP.lt_irrefl] at f;rw[<-f]
     rfl
    | false=>
     by_cases j:SpanP.lt a b=true
     .rw[if_pos j]
      rfl
     .rw[if_neg j];have f:SpanP.lt b a=true:=by
       rcases SpanP.tri a b with h|h|h
       .exact absurd h j
       .rw[i] at h;cases h
       .exact h
      have m:SpanP.lt p.k b=false:=by
       cases m:SpanP.lt p.k b with
       | false=>rfl
       | true=>exact absurd (SpanP.lt_trans m f) d
      have n:SpanP.same p.k b=false:=by
       cases n:SpanP.same p.k b with
       | false=>rfl
       | true=>
        rw[<-(OB (c:=a) (same_iff.1 n)).2] at f;exact absurd f d
      rw[Gs,m,n]
      rfl
section
variable [Rz]
def Su(b:ByteArray):Nat->ByteArray × Bool
 | 0=>(⟨#[]⟩,false)
 | J+1=>if SpanP.same (zK J).c.a b then ((zK J).c.v,true) else Su b J
theorem V8(b:ByteArray):∀J,J<=zp->kv (Yj J) b=Su b J
 | 0,_=>rfl
 | J+1,hJ=>by
  have ih:=V8 b J BJ;show kv (Dy (Yj J) (zK J).c).1 b=_;have a:=Rz.put J BJ;unfold Dy;rw[if_neg (by rw[a];decide),if_pos a];show kv (Jp _ _ _) b=_;rw[iD,ih]
  rfl
theorem V7:∀J,zp<=J->J<=zN->Yj J=Yj zp
 | 0,h,_=>by rw[Nat.le_zero.1 h]
 | J+1,h,hJ=>by
  by_cases e:zp=J+1
  .rw[e]
  .show (Dy (Yj J) (zK J).c).1=_;rw[QG (Rz.get J BJ BJ)];exact V7 J BJ BJ
theorem oG{j:Nat}(h1:zp<=j)(h2:j<zN):(Js j).fd=(Su (zK j).c.a zp).2/\(Js j).val=(Su (zK j).c.a zp).1:=by rw[<-V8 _ _ Ve];unfold Js;rw[V7 j h1 BJ];unfold Dy;rw[if_pos (Rz.get j h1 h2)];exact⟨rfl,rfl⟩
end
end
section
open Rz (zn zN zp zK)
variable [Rz]
section
variable {w:World} {own:Nat->Nat} {gC:Nat} {s:Mz} {ev:List Ev} {lt:Nat->Int} {tk:Nat->Nat} {wz:Bool}
theorem Ue(h:Fg w own gC s ev lt tk wz) :Calls prog 9 #[AP gC] w λe w'=>e=.returned (AA zn)/\Below w.heap.size w w':=by obtain⟨a,k,g,j,f,i,d,c,m,l,b,n⟩:=h;exact rW gC zn a _ _ _ d c w b.cl
theorem Vr(h:Fg w own gC s ev lt tk wz){i:Nat}(hi:i<zn) :Calls prog 17 #[AP gC,AA i] w λe w'=>∃g,e=.returned (AP g)/\(∃F,CP w' F g i (s.P i) (s.D i) (lt i) (tk i) wz s.dv [] [])/\Below w.heap.size w w':=by obtain⟨d,f,c,r,p,q,n,m,j,t,a,k⟩:=h;obtain⟨o,l⟩:=a.np;refine Ah (YK gC zn f c i j o d _ _ n m w a.cl l hi) ?_;rintro w' b;exact⟨_,rfl,⟨_,(k i hi).mv (G:=λ_=>False) (.of_below b) (λ_ h=>h.elim)⟩,b⟩
theorem Zl(h:Fg w own gC s ev lt tk wz)(hl:s.lets.length<=1000) :Calls prog 13 #[AP gC] w (Px s.lets.length w):=by obtain⟨b,m,j,l,i,k,f,d,o,n,a,p⟩:=h;obtain⟨g,c,_⟩:=a.lts;exact dM gC zn s.lets.length b _ _ _ f d g _ w a.cl c (QY s.dv s.lets _) hl
theorem Ut(h:Fg w own gC s ev lt tk wz){j:Nat}(hj:j<8) :Calls prog 15 #[AP gC,AA ((j:Int)+1)] w λe w'=>e=.returned (.bool (OV s j))/\Below w.heap.size w w':=by obtain⟨c,q,o,d,b,p,l,k,r,f,a,t⟩:=h;obtain⟨m,i⟩:=a.cp;obtain⟨n,tk,g⟩:=a.cs j hj;exact lD gC zn d b j f m c _ _ l k _ _ _ _ n tk w a.cl i hj g
theorem fO(h:Fg w own gC s ev lt tk wz)(hE:O8 s ev)(hJ:s.J<=zN)(h0:0<s.J) :Calls prog 14 #[AP gC] w (Kq ev w):=by
 obtain⟨b,r,o,q,n,p,i,g,u,t,a,y⟩:=h;obtain⟨k,m,l,c,_⟩:=a.his;have z:=hE.len;have v:=QF s;have x:zN<=15:=Rz.hN;refine dL gC zn b _ _ _ i g k _ m l w a.cl c (λh=>BJ) BJ λe d=>?_;rcases hE.ok e d with⟨_,h⟩|⟨j,f,rfl⟩
 .rw[h];decide
 .show (Js j).ps.length<=1000;rw[jQ f];decide
theorem lh(h:Fg w own gC s ev lt tk wz)(hl:s.lets=[]) :Calls prog 11 #[AP gC,.agg (Ee 2 (0:Nat)).toArray] w λe w'=>e=.returned (.bool false)/\Below w.heap.size w w':=by
 obtain⟨d,n,k,m,j,l,i,g,q,o,c,t⟩:=h;obtain⟨u,b,_⟩:=c.lts;rw[hl] at b;obtain⟨p,cap,rfl⟩:∃p cap,i=.slice p 0 cap:=by
  rcases b.cases with⟨r,_⟩|⟨_,_,_,r,_⟩
  .exact⟨_,_,r⟩
  .exact⟨_,_,r⟩
 refine VE gC 0 false (λw'=>Below w.heap.size w w') w λW a=>?_;refine Ah (ZC gC zn d _ _ _ g p cap W (c.cl.bel a)) ?_;rintro w' f;exact⟨rfl,a.trans (f.mono a.size)⟩
theorem NY.yV{w':World}{G:Ap}{cm:Nat->Cm}{wt:Nat->Bool}{ol:Nat->List Lz}{al:Nat->List Nat}(h:NY w own gC s cm wt ev lt tk wz ol al)(hm:Mv G w w')(hG:∀k,G k->k<w.heap.size->own k=0):NY w' own gC s cm wt ev lt tk wz ol al:=by obtain⟨i,m,g,l,f,j,u,t,o,n,c,p⟩:=h;have r:=hm.size;exact⟨i,m,g,l,f,j,u,t,o,n,c.mv hm (λk a b d=>by rw[hG k a b] at d;cases d) (λ_ _=>rfl) (λk q=>Nat.lt_of_lt_of_le (c.lt k q) r),p.mv hm (λk a b=>by rw[hG k a b];decide) (λ_ _=>rfl)⟩
theorem Fg.calm{lt':Nat->Int}{wz':Bool}(h:Fg w own gC s ev lt tk wz)(hp:∀r,r<zn->∀j,j<zN->tH (s.P r j)=false)(hwz:wz'=false->wz=false):Fg w own gC s ev lt' tk wz':=by obtain⟨d,k,c,g,b,f,q,p,m,l,n,o⟩:=h;exact⟨d,k,c,g,b,f,q,p,m,l,n,λi a=>(o i a).calm (hp i a) hwz⟩
end
structure Rest(s:Mz)(i:Nat):Prop where
 ok:JC s
 J:s.J=i
 l:s.lets=[]
theorem Rest.com{s:Mz}{i:Nat}(h:Rest s i){j:Nat}(hj:j<i){r:Nat}(hr:r<zn):isC (s.P r j)=true/\Dc (s.D r) j=true:=h.ok.last h.l (h.J▸hj) hr
theorem Rest.led{s:Mz}{i:Nat}(h:Rest s i){r:Nat}(hr:r<zn){j:Nat}(hj:j<zN):tH (s.P r j)=false:=by
 by_cases e:j<i
 .have:=(h.com e hr).1;cases a:s.P r j<;>rw[a] at this<;>first|rfl|cases this
 .rw[h.ok.new j (by have:=h.J;omega) hj r hr]
  rfl
theorem Rest.yL{s:Mz}{i:Nat}(h:Rest s i):∀J,J<=i->Pi s J=0
 | 0,_=>rfl
 | J+1,hJ=>by show Pi s J+UZ zn (s.P (zK J).m J)=0;rw[h.yL J BJ];have:=(h.com (show J<i by omega) (Rz.m J)).1;cases a:s.P (zK J).m J<;>rw[a] at this<;>first|rfl|cases this
theorem Rest.wt{s:Mz}{i:Nat}(h:Rest s i):s.wt=0:=by
 show Ii s.lets+Pi s s.J=0;rw[h.l,h.yL _ (by rw[h.J];exact Nat.le_refl _)]
 rfl
theorem Rest.wait{s:Mz}{i:Nat}(h:Rest s i)(k:Nat):OV s k=false:=by rw[<-Bool.not_eq_true,OW];rintro⟨j,b,_,a⟩;rw[(h.com (h.J▸b) (Rz.m j)).2] at a;cases a
theorem Rest.dn{s:Mz}{i:Nat}(h:Rest s i)(hi:i<=zN){r:Nat}(hr:r<zn){j:Nat}(hj:j<zN):Dc (s.D r) j=decide (j<i):=by
 by_cases e:j<i
 .rw[(h.com e hr).2];simp[e]
 .cases hd:Dc (s.D r) j with
  | false=>simp[e]
  | true=>exact absurd (VO h.ok hj hr hd) (by have:=h.J;omega)
structure Flight(s:Mz)(i t:Nat):Prop where
 ok:JC s
 J:s.J=i+1
 hi:i<zp
 c:∀r,r<zn->∀j,j<i->isC (s.P r j)=true
 f:∀r,r<zn->isC (s.P r i)=false/\s.P r i≠.pre
 l:∀m∈s.lets,m.k=11->m.f<t
 wt:s.wt<=21+12*t
theorem Flight.start{s:Mz}{i:Nat}(h:Rest s i)(hi:i<zp):Flight s.call i 0:=by
 have g:=h.J;have k:zp<=8/\zp<=zN:=Rz.hp;have a:∀i,i<zp->i<s.J->∀r,r<zn->Dc (s.D r) i=true:=λj _ c r a=>(h.com BJ a).2;refine⟨h.ok.call BJ a,by show s.J+1=_;omega,hi,λr a j c=>?_,λr a=>?_,λm b d=>?_,?_⟩
 .show isC ((if r=(zK s.J).m then CE (s.P r) s.J (.lead []) else s.P r) j)=true;split
  .rw[Bi BJ];exact(h.com c a).1
  .exact(h.com c a).1
 .show isC ((if r=(zK s.J).m then CE (s.P r) s.J (.lead []) else s.P r) i)=false/\(if r=(zK s.J).m then CE (s.P r) s.J (.lead []) else s.P r) i≠.pre;have f:=h.ok.new i BJ BJ r a;split
  .rw[g,DU];exact⟨rfl,λh=>by cases h⟩
  .rw[f];exact⟨rfl,λh=>by cases h⟩
 .have b:m∈s.lets++DF zn (zK s.J).m s.J:=b;rw[h.l,List.nil_append] at b;rw[(I4.1 b).1] at d;cases d
 .have:=h.ok.YJ BJ;rw[h.wt] at this;omega
section
variable {s:Mz} {i t:Nat}
theorem Flight.pre(h:Flight s i t){r:Nat}(hr:r<zn){j:Nat}(hj:j<zN):s.P r j≠.pre:=by
 by_cases e:j<i
 .intro hp;have:=h.c r hr j e;rw[hp] at this;cases this
 .by_cases e2:j=i
  .rw[e2];exact(h.f r hr).2
  .rw[h.ok.new j (by have:=h.J;omega) hj r hr];exact λh=>by cases h
theorem Flight.few(h:Flight s i t){r:Nat}(hr:r<zn):UH (s.D r)<8:=by
 have k:zp<=8/\zp<=zN:=Rz.hp;have j:=h.hi;have c:∀N,N<=zN->((List.range N).filter (Dc (s.D r))).length<=min N i:=by
  intro N;induction N with
  | zero=>intro _;exact Nat.zero_le _
  | succ N ih=>
   intro g;rw[List.range_succ,List.filter_append,List.length_append];have:=ih BJ;by_cases e:N<i
   .have:([N].filter (Dc (s.D r))).length<=1:=List.length_filter_le ..;omega
   .have a:Dc (s.D r) N=false:=by
     cases a:Dc (s.D r) N with
     | false=>rfl
     | true=>
      have d:=VO h.ok BJ hr a;have b:=(h.ok.dok r hr).com N BJ a;have:N=i:=by have:=h.J;omega
      rw[this,(h.f r hr).1] at b;cases b
    simp[a];omega
 have:=c zN Ve;show ((List.range zN).filter (Dc (s.D r))).length<8;omega
theorem Flight.same(h:Flight s i t){r r':Nat}(hr:r<zn)(hr':r'<zn)(x:Nat):s.D r x<=s.D r' x:=by
 have o:zp<=8/\zp<=zN:=Rz.hp;have m:=h.hi;have k:=(h.ok.dok r' hr').nn x;by_cases e:0<s.D r x
 .obtain⟨j,hj,hm,hs⟩:=(h.ok.dok r hr).hi x e;have d:Dc (s.D r) j=true:=Vh.2 (by rw[hm,hs];exact Int.le_refl _);have l:=VO h.ok hj hr d;have g:j<i:=by
   have a:=(h.ok.dok r hr).com j hj d;refine Decidable.byContradiction λn=>?_;have:j=i:=by have:=h.J;omega
   rw[this,(h.f r hr).1] at a;cases a
  have b:=Vh.1 ((h.ok.dok r' hr').all (J:=i) BJ (h.c r' hr') g);rw[hm,hs] at b;exact b
 .omega
theorem Flight.tick(h:Flight s i t)(k:Nat)(ht:t<zn):Flight (s.tick t k) i (t+1):=by
 have q:=h.ok.tick (t:=k) ht λ_=>⟨λm b g=>by have:=h.l m b g;omega,λr u x=>h.same ht u x⟩;have w:zn=3\/zn=5\/zn=7:=Rz.n7;have y:=h.wt;have n:(s.tick t k).J=s.J/\(s.tick t k).P=s.P:=by unfold Mz.tick;split<;>exact⟨rfl,rfl⟩
 refine⟨q,by rw[n.1];exact h.J,h.hi,by rw[n.2];exact h.c,by rw[n.2];exact h.f,λm b g=>?_,?_⟩
 .unfold Mz.tick at b;split at b
  .rcases List.mem_append.1 b with b|b
   .have:=h.l m b g;omega
   .have:=(JY ht b).2.2.1;omega
  .have:=h.l m b g;omega
 .have h2:Ii (Dj zn t)<=12:=by
   have:∀l:List Lz,(∀m∈l,m.k≠1)->Ii l=l.length:=by
    intro l;induction l with
    | nil=>intro _;rfl
    | cons a l ih=>
     intro o;have e:Ii (a :: l)=(if a.k=1 then 2 else 1)+Ii l:=by simp[Ii]
     rw[e,ih λm b=>o m (List.mem_cons_of_mem _ b),if_neg (o a (List.mem_cons_self ..)),List.length_cons];omega
   rw[this _ λm b=>by rcases(JY ht b).2.1 with h|h<;>omega,Q8];omega
  have p:∀d:Mz,d.P=s.P->∀J,Pi d J=Pi s J:=λd v J=>by
   induction J with
   | zero=>rfl
   | succ J ih=>
    show Pi d J+UZ zn (d.P (zK J).m J)=_;rw[ih,v]
    rfl
  unfold Mz.tick;split
  .show Ii (s.lets++Dj zn t)+Pi { s with lets:=s.lets++Dj zn t,dv:=λj=>if j=t then s.D t else s.dv j } s.J<=_;rw[Uw,p { s with lets:=s.lets++Dj zn t,dv:=λj=>if j=t then s.D t else s.dv j } rfl];have:s.wt=Ii s.lets+Pi s s.J:=rfl;omega
  .omega
end
def OwnB(B:Nat)(w0:World)(own:Nat->Nat)(w:World):Prop:=Base B w0 w/\∀k,own k≠0->B<=k
theorem OwnB.step{B:Nat}{w0 w w':World}{own own':Nat->Nat}(h:OwnB B w0 own w)(hs:Stepped w own w' own'):OwnB B w0 own' w':=by
 refine⟨h.1.mv hs.2 h.2,λk a=>?_⟩;by_cases b:k<w.heap.size
 .exact h.2 k (by rwa [hs.1 k b] at a)
 .have:=h.1.le;omega
theorem OwnB.bel{B:Nat}{w0 w w':World}{own:Nat->Nat}(h:OwnB B w0 own w)(hb:Below w.heap.size w w'):OwnB B w0 own w':=⟨h.1.bel hb,h.2⟩
instance {B:Nat}{w0 w w':World}{own:Nat->Nat}:Bl w w' (OwnB B w0 own w) (OwnB B w0 own w'):=⟨λhb h=>OwnB.bel h hb⟩
def AtR(i:Nat)(gC:Nat)(own:Nat->Nat)(W:World):Prop:=∃s ev lt tk,Fg W own gC s ev lt tk false/\Rest s i/\O8 s ev/\∀r,r<zn->lt r=0/\tk r=i
def Y1(i:Nat)(gC:Nat)(own:Nat->Nat)(W:World):Prop:=∃s ev lt tk,Fg W own gC s ev lt tk false/\Flight s i 0/\O8 s ev/\OV s 0=true/\∀r,r<zn->lt r=0/\tk r=i
theorem qY{w:World}{own:Nat->Nat}{gC i:Nat}(x:Cm)(h:AtR i gC own w)(hi:i<zp)(hx:(zK i).c=Fe 0 (MZ 0 i).s x) :Calls prog 11 #[AP gC,.agg (Gi (((0:Nat):Int)+1) (zK i).m x).toArray] w λe w'=>e=.returned (.bool true)/\∃own',Y1 i gC own' w'/\Stepped w own w' own':=by obtain⟨s,k,f,g,q,a,t,d⟩:=h;have y:zp<=8/\zp<=zN:=Rz.hp;obtain rfl:=a.J;have b:=(Rz.ck0 _ hi).1;refine Ah (dE w own gC s k f g false x q a.ok t BJ 0 b.symm hx (λj _ u r v=>(a.com u v).2) (.inr hi) (by rw[(d _ (Rz.m _)).1];exact Int.le_refl _) (by rw[a.wt];decide)) ?_;rintro w' ⟨own',l,n,o,p⟩;exact⟨rfl,own',⟨s.call,l,f,g,n,Flight.start a hi,o,by rw[WV a.ok BJ,if_pos b.symm],d⟩,p⟩
theorem Ym{w:World}{own:Nat->Nat}{gC i:Nat}(h:Y1 i gC own w) :Calls prog 16 #[AP gC] w λe w'=>e=.returned (.tuple #[])/\∃own',AtR (i+1) gC own' w'/\Stepped w own w' own':=by
 obtain⟨s,ev,b,a,c,f,d,V,g⟩:=h;have N:zn=3\/zn=5\/zn=7:=Rz.n7;have U:zp<=8/\zp<=zN:=Rz.hp;have Q:zN<=15:=Rz.hN;refine(rY gC zn (λt W=>∃own' s ev b a,Fg W own' gC s ev b a false/\Flight s i t/\O8 s ev/\(∀r,r<zn->b r=(if r<t then 1 else 0)/\a r=if r<t then i+1 else i)/\Stepped w own W own')
  (λk W=>∃own' s ev b a,Fg W own' gC s ev b a false/\JC s/\s.J=i+1/\O8 s ev/\(∀r,r<zn->a r=i+1)/\k+s.wt<=200/\Stepped w own W own')
  (λW=>∃own' s ev b a,Fg W own' gC s ev b a false/\Rest s (i+1)/\O8 s ev/\(∀r,r<zn->a r=i+1)/\Stepped w own W own') w ?_ ?_ ?_ ?_ ?_ ?_ BJ).mono ?_
 .refine Ah (Ue c) ?_;rintro w' o;exact⟨rfl,own,s,ev,b,a,NY.bel c o,f,d,λr n=>by simpa using g r n,Stepped.wL own o⟩
 .rintro t ht W ⟨own',s,ev,b,a,c,f,d,g,hs⟩;have x:=g t ht;rw[if_neg BJ,if_neg BJ] at x;have H:=f.wt;have T:s.lets.length<=s.wt:=Nat.le_trans (MG s.lets) (Nat.le_add_right _ _);have S:=d.len;have R:=QF s;have O:=f.J;have P:=f.hi;refine Ah (ug W own' gC t s ev b a c f.ok ht x.1 (λj p=>f.pre ht p) BJ BJ (λ_=>⟨f.few ht,λm G B=>by have:=f.l m G B;omega⟩) BJ BJ) ?_;rintro w' ⟨y,u,v⟩;have F:O8 (s.tick t (a t)) ev:=by
   refine⟨d.ok,?_⟩;have z:(s.tick t (a t)).J=s.J/\(s.tick t (a t)).D=s.D:=by unfold Mz.tick;split<;>exact⟨rfl,rfl⟩
   unfold fA;rw[z.1,z.2];exact d.len
  refine⟨rfl,y,_,ev,_,_,u,f.tick _ ht,F,λr n=>?_,hs.trans v⟩;unfold Qv;by_cases e:r=t
  .subst e;rw[if_pos rfl,if_pos rfl,if_pos BJ,if_pos BJ,x.2];exact⟨rfl,rfl⟩
  .rw[if_neg e,if_neg e];have:=g r n;by_cases q:r<t
   .rw[if_pos q,if_pos q] at this;rw[if_pos BJ,if_pos BJ];exact this
   .rw[if_neg q,if_neg q] at this;rw[if_neg BJ,if_neg BJ];exact this
 .rintro k W ⟨own',s,ev,b,a,c,hM,hJ,d,g,hk,hs⟩;by_cases e:s.lets=[]
  .refine Ah (lh c e) ?_;rintro w' o;exact .inr ⟨rfl,own',s,ev,b,a,NY.bel c o,⟨hM,hJ,by assumption⟩,d,g,hs.bel o⟩
  .have hi:=f.hi;refine Ah (SQ W own' gC 0 s ev b a false c hM d (List.length_pos_iff.2 e) BJ (.inr BJ)) ?_;rintro w' ⟨y,I,A,u,v,C,K,L,M,E⟩;exact .inl ⟨rfl,y,I,A,b,a,u,v,BJ,C,g,BJ,hs.trans E⟩
 .rintro j p W ⟨own',s,ev,b,a,c,hR,d,g,hs⟩;refine Ah (uh W own' gC j s ev b a false c (hR.wait j) p) ?_;rintro w' o;exact⟨rfl,own',s,ev,b,a,NY.bel c o,hR,d,g,hs.bel o⟩
 .rintro W ⟨own',s,ev,b,a,c,f,d,g,hs⟩;have H:=f.wt;exact⟨own',s,ev,b,a,c,f.ok,f.J,d,λr n=>by have:=(g r n).2;rwa [if_pos n] at this,BJ,hs⟩
 .rintro k W ⟨own',s,ev,b,a,c,hM,hJ,d,g,hk,hs⟩;omega
 .rintro e w' ⟨rfl,own',s,ev,b,a,c,hR,d,g,hs⟩;refine⟨rfl,own',⟨s,ev,λ_=>0,a,c.calm (λr n j p=>hR.led n p) (λ_=>rfl),hR,d,λr n=>⟨rfl,g r n⟩⟩,hs⟩
def U4(i:Nat)(gC:Nat)(own:Nat->Nat)(W:World):Prop:=∃s ev lt tk,Fg W own gC s ev lt tk true/\JC s/\O8 s ev/\s.J=zp+i/\(∀r,0<=lt r)/\(∀j,j<zp->∀r,r<zn->Dc (s.D r) j=true)/\s.wt<=21*i
def Uz(k m:Nat)(gC:Nat)(own:Nat->Nat)(W:World):Prop:=∃s ev lt tk,Fg W own gC s ev lt tk true/\JC s/\O8 s ev/\s.J=zN/\s.lets.length=m/\k+s.wt<=200
theorem AtR.get{i gC:Nat}{own:Nat->Nat}{W:World}(h:AtR i gC own W)(hi:i=zp):U4 0 gC own W:=by obtain⟨s,d,m,k,f,a,g,l⟩:=h;subst hi;exact⟨s,d,λ_=>0,k,f.calm (λr c j b=>a.led c b) (λh=>by cases h),a.ok,g,a.J,λ_=>Int.le_refl _,λj b r c=>(a.com b c).2,by rw[a.wt];omega⟩
theorem U4.last{i gC:Nat}{own:Nat->Nat}{W:World}(h:U4 i gC own W)(hi:zp+i=zN)(h7:i<=7):∃m,Uz 0 m gC own W:=by obtain⟨s,a,f,g,b,d,c,j,l,k,n⟩:=h;exact⟨_,s,a,f,g,b,d,c,BJ,rfl,BJ⟩
theorem vY{w:World}{own:Nat->Nat}{gC i k:Nat}(x:Cm)(h:U4 i gC own w)(hi:zp+i<zN)(h7:i<=7)(hk:k=cK (zK (zp+i)).c)(hx:(zK (zp+i)).c=Fe k (MZ k (zp+i)).s x) :Calls prog 11 #[AP gC,.agg (Gi ((k:Int)+1) (zK (zp+i)).m x).toArray] w λe w'=>e=.returned (.bool true)/\∃own',U4 (i+1) gC own' w'/\Stepped w own w' own':=by obtain⟨s,n,g,l,u,b,v,y,f,d,B⟩:=h;rw[<-y] at hi hk hx |-;have a:∀j,j<zp->j<s.J->∀r,r<zn->Dc (s.D r) j=true:=λj z _ r a=>d j z r a;have A:=b.YJ hi;refine Ah (dE w own gC s n g l true x u b v hi k hk hx a (.inl rfl) (f _) BJ) ?_;rintro w' ⟨own',o,p,q,t⟩;exact⟨rfl,own',⟨s.call,o,g,l,p,b.call hi a,q,by show s.J+1=_;omega,f,d,BJ⟩,t⟩
theorem sN{w:World}{own:Nat->Nat}{gC i m k:Nat}(h:Uz i m gC own w)(hk:k<m) :Calls prog 11 #[AP gC,.agg (Ee 2 k).toArray] w λe w'=>e=.returned (.bool true)/\∃own' m',Uz (i+1) m' gC own' w'/\Stepped w own w' own':=by obtain⟨s,c,a,b,n,p,o,v,rfl,x⟩:=h;refine Ah (SQ w own gC k s c a b true n p o hk BJ (.inl rfl)) ?_;rintro w' ⟨own',q,d,f,g,j,r,t,u,l⟩;exact⟨rfl,own',_,⟨q,d,a,b,f,g,j,BJ,rfl,BJ⟩,l⟩
theorem Uz.wG{i m gC:Nat}{own:Nat->Nat}{W:World}(h:Uz i m gC own W):i+m<=200:=by obtain⟨s,a,k,l,b,f,c,d,rfl,j⟩:=h;have g:s.lets.length<=s.wt:=Nat.le_trans (MG s.lets) (Nat.le_add_right _ _);omega
end
section
def Mc(d:Nat):ByteArray:=⟨#[UInt8.ofNat (48+d)]⟩
def Ik(d:Nat):ByteArray:=(⟨#[107]⟩:ByteArray)++Mc d
def uM(k d:Nat):Cm:=⟨2,0,0,Ik k,⟨#[]⟩,⟨#[]⟩,Mc d⟩
def fH(k:Nat):Cm:=⟨1,0,0,Ik k,⟨#[]⟩,⟨#[]⟩,⟨#[]⟩⟩
theorem YX(d:Nat)(w:World):(Op.stringOp .add ⟨#[107]⟩ (Mc d)).run prog w=.ok (.string (Ik d)) w:=run_string_add_sum _ _ _ (show 1+1<=_ by decide)
theorem oM(d:Nat)(hd:d<10)(w:World):Calls prog 99 #[AA d] w λe w'=>e=.returned (.string (Mc d))/\Below w.heap.size w w':=by
 rcases(show d=0\/d=1\/d=2\/d=3\/d=4\/d=5\/d=6\/d=7\/d=8\/d=9 by omega) with rfl|rfl|rfl|rfl|rfl|rfl|rfl|rfl|rfl|rfl;all_goals
  go_in;go_wp2_with fail;go_ret;exact⟨rfl,Below.refl _ _⟩
theorem UV(d:Nat)(hd:d<10)(w:World):Calls prog 20 #[AA d] w λe w'=>e=.returned (.string (Mc d))/\Below w.heap.size w w':=by
 have g:=qh (λW=>oM d hd W);have h:(0:Int)<=d:=BJ
 have i:(d:Int)<100:=BJ
 have c:∀W,Calls prog 59 #[AA d,AA 10] W λe w'=>e=.returned (.string (Mc d))/\Below W.heap.size W w':=by intro W;go_in;go_wp2_with fail;refine Ah (g.o _) ?_;rintro w' a;have b:=qh a;clear a;go_wp2_with fail;go_ret;exact⟨rfl,b.o⟩
 have c:=qh c;have f:∀W,Calls prog 40 #[AA d] W λe w'=>e=.returned (.string (Mc d))/\Below W.heap.size W w':=by intro W;go_in;go_wp2_with fail;refine Ah (c.out _) ?_;rintro w' a;have b:=qh a;clear a;go_wp2_with fail;go_ret;exact⟨rfl,b.o⟩
 have f:=qh f;clear g c;go_in;go_wp2_with fail;refine Ah (f.out _) ?_;rintro w' a;have b:=qh a;clear a;go_wp2_with fail;go_ret;exact⟨rfl,b.o⟩
def JW(K:Nat->Nat)(b:ByteArray):Nat->ByteArray × Bool
 | 0=>(⟨#[]⟩,false)
 | k+1=>if (Ik (K k)).toList==b.toList then (Mc k,true) else JW K b k
def wants(K:Nat->Nat)(n:Nat):List Value:=(List.range n).map λi=>.string (Ik (K i))
theorem ai(K:Nat->Nat)(n:Nat):(wants K n).length=n:=by simp[wants]
theorem X4(K:Nat->Nat)(n:Nat):wants K n++[.string (Ik (K n))]=wants K (n+1):=by simp[wants,List.range_succ]
theorem jm(K:Nat->Nat)(n i:Nat)(hi:i<n)(rest:List Value):(wants K n++rest)[i]?=some (.string (Ik (K i))):=by rw[List.getElem?_append_left (by rw[ai];exact hi)];simp[wants,hi]
def Wt(w0:World)(K:Nat->Nat)(n:Nat)(v:Value)(ob:Option Nat)(own:Nat->Nat)(W:World):Prop:=
 AV W v ob 9 1 n (wants K n)/\(∀g,ob=some g->own g=0/\w0.heap.size<=g)/\OwnB w0.heap.size w0 own W
variable [Rz]
section
variable {w0 W W':World} {K:Nat->Nat} {n:Nat} {v:Value} {ob:Option Nat} {own own':Nat->Nat}
theorem Wt.step(h:Wt w0 K n v ob own W)(hs:Stepped W own W' own'):Wt w0 K n v ob own' W':=by obtain⟨c,b,d⟩:=h;exact⟨c.mv hs.2 λg a f=>f (b g a).1,λg a=>⟨by rw[hs.1 g (c.lt g a)];exact(b g a).1,(b g a).2⟩,d.step hs⟩
theorem Wt.bel(h:Wt w0 K n v ob own W)(hb:Below W.heap.size W W'):Wt w0 K n v ob own W':=h.step (Stepped.wL own hb)
instance:Bl W W' (Wt w0 K n v ob own W) (Wt w0 K n v ob own W'):=⟨λhb h=>Wt.bel h hb⟩
theorem Wt.app{v':Value}{ob':Option Nat}(h:Wt w0 K n v ob own W)(ho:AV W' v' ob' 9 1 (n+1) (wants K n++[.string (Ik (K n))]))(hob:ob'=ob\/∃k,ob'=some k/\W.heap.size<=k)(hm:Mv (λk=>ob=some k) W W')(hlt:∀k,own k≠0->k<W.heap.size):Wt w0 K (n+1) v' ob' own W':=by
 obtain⟨j,c,a⟩:=h;refine⟨X4 K n▸ho,λg b=>?_,a.1.mv hm λk d=>(c k d).2,a.2⟩;rcases hob with e|⟨k,e,i⟩
 .exact c g (e▸b)
 .rw[e] at b;cases b;have:=a.1.le;refine⟨Decidable.byContradiction λf=>?_,BJ⟩;have:=hlt _ f;omega
end
section
variable {i m gC:Nat} {own:Nat->Nat} {W W':World} {G:Ap}
theorem AtR.mv(h:AtR i gC own W)(hm:Mv G W W')(hG:∀k,G k->k<W.heap.size->own k=0):AtR i gC own W':=by obtain⟨s,a,c,d,b,h⟩:=h;exact⟨s,a,c,d,b.yV hm hG,h⟩
theorem AtR.bel(h:AtR i gC own W)(hb:Below W.heap.size W W'):AtR i gC own W':=h.mv (G:=λ_=>False) (.of_below hb) λ_ h=>h.elim
instance:Bl W W' (AtR i gC own W) (AtR i gC own W'):=⟨λhb h=>AtR.bel h hb⟩
theorem AtR.lt(h:AtR i gC own W):∀k,own k≠0->k<W.heap.size:=by obtain⟨s,b,lt,c,a,h⟩:=h;exact a.lt'
theorem Y1.bel(h:Y1 i gC own W)(hb:Below W.heap.size W W'):Y1 i gC own W':=by obtain⟨s,a,c,d,b,h⟩:=h;exact⟨s,a,c,d,NY.bel b hb,h⟩
instance:Bl W W' (Y1 i gC own W) (Y1 i gC own W'):=⟨λhb h=>Y1.bel h hb⟩
theorem U4.bel(h:U4 i gC own W)(hb:Below W.heap.size W W'):U4 i gC own W':=by obtain⟨s,a,c,d,b,h⟩:=h;exact⟨s,a,c,d,NY.bel b hb,h⟩
instance:Bl W W' (U4 i gC own W) (U4 i gC own W'):=⟨λhb h=>U4.bel h hb⟩
theorem Uz.bel(h:Uz i m gC own W)(hb:Below W.heap.size W W'):Uz i m gC own W':=by obtain⟨s,a,c,d,b,h⟩:=h;exact⟨s,a,c,d,NY.bel b hb,h⟩
instance:Bl W W' (Uz i m gC own W) (Uz i m gC own W'):=⟨λhb h=>Uz.bel h hb⟩
theorem AtR.nodes(h:AtR i gC own W):Calls prog 9 #[AP gC] W λe w'=>e=.returned (AA Rz.zn)/\Below W.heap.size W w':=by obtain⟨s,b,c,d,a,h⟩:=h;exact Ue a
theorem U4.nodes(h:U4 i gC own W):Calls prog 9 #[AP gC] W λe w'=>e=.returned (AA Rz.zn)/\Below W.heap.size W w':=by obtain⟨s,b,c,d,a,h⟩:=h;exact Ue a
theorem Y1.waits(h:Y1 i gC own W):Calls prog 15 #[AP gC,AA 1] W λe w'=>e=.returned (.bool true)/\Below W.heap.size W w':=by obtain⟨s,c,d,f,a,_,_,b,_⟩:=h;have:=Ut a (j:=0) Iz;rw[b] at this;exact this
theorem AtR.waits(h:AtR i gC own W):Calls prog 15 #[AP gC,AA 1] W λe w'=>e=.returned (.bool false)/\Below W.heap.size W w':=by obtain⟨s,c,d,f,a,b,_⟩:=h;have:=Ut a (j:=0) Iz;rw[b.wait] at this;exact this
theorem Uz.letters(h:Uz i m gC own W):Calls prog 13 #[AP gC] W (Px m W):=by have g:=h.wG;obtain⟨s,b,k,l,a,f,c,d,rfl,j⟩:=h;exact Zl a BJ
theorem Uz.waiting(h:Uz i 0 gC own W):Calls prog 18 #[AP gC] W λe w'=>e=.returned (AA 0)/\Below W.heap.size W w':=by obtain⟨s,n,r,t,c,d,o,p,l,q⟩:=h;have f:Rest s s.J:=⟨d,rfl,List.length_eq_zero_iff.1 l⟩;refine(eU gC (λb=>Below W.heap.size W b) W Vk λj k m a=>?_);have:=Ut (NY.bel c a) k;rw[f.wait] at this;refine this.mono ?_;rintro e w' ⟨rfl,g⟩;exact⟨rfl,a.trans (g.mono a.size)⟩
theorem Uz.hist(h:Uz i m gC own W)(h0:0<Rz.zN):∃ev:List Ev,ev.length<=1000/\(∀e∈ev,e.kd=1\/∃j,j<Rz.zN/\e=Oz j)/\Calls prog 14 #[AP gC] W (Kq ev W):=by obtain⟨s,ev,p,q,b,k,a,g,n,o⟩:=h;have d:=QF s;have f:Rz.zN<=15:=Rz.hN;have l:=a.len;exact⟨ev,BJ,λe c=>(a.ok e c).imp (·.1) id,fO b a BJ BJ⟩
end
end
end Go.Proofs.YtimdpiifpibgfaaGreatDoor
