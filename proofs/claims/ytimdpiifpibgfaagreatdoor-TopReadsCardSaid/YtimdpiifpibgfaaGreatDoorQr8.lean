/- A part of the proof of TopReads. -/
import Derived.BigRegion
import Derived.Test.YtimdpiifpibgfaaGreatDoorQr7
set_option linter.all false
set_option maxRecDepth 20000
set_option maxHeartbeats 16000000
open Go.RowKit Go.Maps
namespace Go.Proofs.YtimdpiifpibgfaaGreatDoor
open Tryz
def GH:Nat->Nat->List Nat
 | 0,_=>[]
 | n+1,u=>u % 256 :: GH n (u / 256)
theorem WA(n u:Nat):(GH n u).length=n:=by
 induction n generalizing u with
 | zero=>rfl
 | succ n ih=>simp[GH,ih]
theorem OJ(n u:Nat):∀x∈GH n u,x<256:=by
 induction n generalizing u with
 | zero=>intro x a;simp[GH] at a
 | succ n ih=>
  intro x a;simp only[GH,List.mem_cons] at a;rcases a with rfl|a
  .omega
  .exact ih _ x a
theorem TR(n u:Nat):GH (n+1) u=GH n u++[u / 256 ^ n % 256]:=by
 induction n generalizing u with
 | zero=>simp[GH]
 | succ n ih=>
  rw[GH,ih,GH,List.cons_append,Nat.div_div_eq_div_mul,Nat.pow_succ,Nat.mul_comm 256]
def J7(n:Int):Nat:=min n.toNat 8
theorem made_owns{w:World}{g cap:Nat}{e:TypeId}{z:Value}(base:Nat)(hb:base<=g)(hg:Holds w g e (List.replicate cap z))(hm:cap<=maxLen):w.ownsRow base e 1 (.slice (Ac g) 0 cap) 0 []:=
 ⟨rfl,.inr ⟨g,cap,(List.replicate cap z).toArray,rfl,hb,hg,Nat.zero_le _,hm,Vj,Vj⟩⟩
theorem DK{w w':World}{base size n:Nat}{e:TypeId}{v:Value}{xs:List Value}(h:w.ownsRow base e size v n xs)(hb:Below w.heap.size w w'):w'.ownsRow base e size v n xs:=by
 obtain⟨f,a⟩:=h;refine⟨f,?_⟩;rcases a with a|⟨g,c,d,k,i,b,j⟩
 .exact .inl a
 .have:g<w.heap.size:=(Array.getElem?_eq_some_iff.1 b).1;exact .inr ⟨g,c,d,k,i,by rw[hb.block g this];exact b,j⟩
theorem IM{w:World}{base n:Nat}{e:TypeId}{v:Value}{xs:List Value}(h:w.ownsRow base e 1 v n xs)(hn:n<=281474976710656) :∃p c,v=.slice p n c/\n<=c/\c<=maxLen/\(p=none->c=0)/\∀l:List Nat,xs=Ak l->(∀x∈l,x<256)->CX w p n l:=by
 obtain⟨a,b⟩:=h;rcases b with⟨rfl,rfl⟩|⟨g,m,o,rfl,u,d,r,t,y,k⟩
 .refine⟨none,0,rfl,Ve,Nat.zero_le _,λ_=>rfl,?_⟩;rintro l rfl _;have:l=[]:=by simpa[Ak] using a
  subst this;exact CX.nil _ _
 .refine⟨some ⟨g,0,none⟩,m,rfl,r,t,(by intro h;cases h),?_⟩;rintro l rfl q;rw[Nat.mul_one] at a k;have j:l.length=n:=by simpa[Ak] using a
  have s:g<w.heap.size:=(Array.getElem?_eq_some_iff.1 d).1;refine⟨j,hn,q,λ_=>⟨g,0,rfl,s,λi f=>?_⟩⟩;have b:o[i]?=(Ak l)[i]?:=by rw[<-k,List.getElem?_take_of_lt f,Array.getElem?_toList]
  unfold World.cell?;simp only[d,Nat.zero_add];rw[b];simp[Ak,j,f]
theorem put_any(a:Option Addr)(len cap:Nat)(bs:List Nat)(n:Int)(u:Nat)(w:World)(hb:CX w a len bs)(hnil:a=none->cap=0)(_hu:u<18446744073709551616)(hl:len<=140737488351232) :Calls prog 170 #[.slice a len cap,AA n,.int .u64 u] w λe w'=>∃p c,e=.returned (.slice p (len+J7 n) c)/\len+J7 n<=c/\c<=maxLen/\CX w' p (len+J7 n) (bs++GH (J7 n) u)/\(p=none->c=0)/\Below w.heap.size w w'/\w'.ownsRow w.heap.size 5 1 (.slice p (len+J7 n) c) (len+J7 n) (Ak (bs++GH (J7 n) u)):=by
 have T:(n<0/\J7 n=0)\/(8<n/\J7 n=8)\/∃m:Nat,n=m/\m<=8/\J7 n=m:=by
  unfold J7;rcases(show n<0\/8<n\/(0<=n/\n<=8) by omega) with h|h|h
  .exact .inl ⟨h,BJ⟩
  .exact .inr (.inl ⟨h,BJ⟩)
  .exact .inr (.inr ⟨n.toNat,BJ,BJ,BJ⟩)
 generalize J7 n=M at T |-;have X:=hb.len;obtain⟨H,W⟩:=WZ hb hnil;clear hb hnil;rcases T with⟨Y,rfl⟩|⟨Y,rfl⟩|⟨m,rfl,ab,rfl⟩;all_goals
  go_in;go_upto_region 1 with(fail);go_wp2_with (first|(at_make;refine GZ w rfl (.const (AA 0)) (.tmp 10) 127 rfl 5 (.int .u8 0) 1 rfl ND rfl .i64 .i64 _ _ 0 (len+8) rfl rfl rfl (by push_cast;rfl) BJ BJ (by unfold maxLen;omega) ?_;intro w1 J r R;have I:=qh (made_owns w.heap.size Ve J (by unfold maxLen;omega)))|(at_builtin;refine Ag rfl (.tmp 11) (.tmp 12) 127 rfl w.heap.size 5 (.int .u8 0) 1 1 rfl ND rfl Iz _ 0 [] rfl I.o a len cap (Ak bs) rfl (by rw[BU,X,Nat.mul_one]) (H.reads.below r) W.o (Dp bs) (by unfold maxLen;omega) BJ BJ ?_;intro v2 w2 U t _;have s:=qh U;clear U))
 .go_loopw [2,7,17] (λG F i wr=>∃j:Nat,j<=0/\i=AA j/\G=.int .u64 ((u / 256 ^ j:Nat):Int)/\wr.ownsRow w.heap.size 5 1 F (len+j) (Ak (bs++GH j u))/\Below w.heap.size w wr) (λ_ _ i _=>0 - (intOf i).toNat);case atStart=>exact⟨0,BJ,rfl,Vj,by have:=s.o;simpa[GH] using this,r.trans t⟩
  case round=>
   obtain⟨j,K,rfl,rfl,d,f⟩:=hrel;clear s I J r t R;by_cases Q:j<0
   .exact absurd Q (Nat.not_lt_zero _)
   .have hjM:j=0:=BJ
    subst hjM;obtain⟨p,c,rfl,B,C,k,l⟩:=IM d BJ;have z:=qh (l _ rfl (λx b=>by
     rcases List.mem_append.1 b with b|b
     .exact H.2.2.1 x b
     .exact OJ _ _ x b))
    obtain⟨g,y,A⟩:=bP f k d;clear l k f d
    go_wp2
    go_ret;exact⟨p,c,rfl,B,C,z.o,y.o,g.o,A.o⟩
 .go_loopw [2,7,17] (λG F i wr=>∃j:Nat,j<=8/\i=AA j/\G=.int .u64 ((u / 256 ^ j:Nat):Int)/\wr.ownsRow w.heap.size 5 1 F (len+j) (Ak (bs++GH j u))/\Below w.heap.size w wr) (λ_ _ i _=>8 - (intOf i).toNat);case atStart=>exact⟨0,BJ,rfl,Vj,by have:=s.o;simpa[GH] using this,r.trans t⟩
  case round=>
   obtain⟨j,K,rfl,rfl,d,f⟩:=hrel;clear s I J r t R;by_cases Q:j<8
   .have HS:=qh (TR j u);have Z:u / 256 ^ j<18446744073709551616:=Nat.lt_of_le_of_lt (Nat.div_le_self _ _) _hu;have E:u / 256 ^ (j+1)=u / 256 ^ j / 256:=by rw[Nat.pow_succ,Nat.div_div_eq_div_mul]
    have O:=qh E;clear E;generalize u / 256 ^ j=q at *;have N:=qh d;clear d;have aa:=f.size;obtain⟨g,V⟩:=WZ f K;clear f;go_upto_region 4 with(fail);go_wp2_with (at_builtin;refine Ag rfl (.tmp 19) (.tmp 22) 127 rfl w.heap.size 5 (.int .u8 0) 1 1 rfl ND rfl Iz _ (len+j) (Ak (bs++GH j u)) rfl (DK N.o (by go_grown)) (Ac wr.heap.size) 1 1 [.int .u8 ((q:Int) % 256)] rfl rfl ((AC wr _ _).reads 0 _ (λj v S=>by simpa using S)) (by intro h;cases h) (by simp[Value.oneCell']) (by unfold maxLen;omega) BJ (by simp;omega) ?_;intro v3 w3 D P _;have L:=qh D;clear D);go_roundw;case rel=>
     refine⟨j+1,BJ,by go_num,by rw[O.o,Int.natCast_ediv];rfl,?_,g.trans ((show Below w.heap.size wr _ by go_grown).trans P)⟩;have:=L.o;rw[HS.o,<-List.append_assoc];simpa[Ak,Nat.add_assoc] using this
    case measure=>simp[intOf];omega
   .have hjM:j=8:=BJ
    subst hjM;obtain⟨p,c,rfl,B,C,k,l⟩:=IM d BJ;have z:=qh (l _ rfl (λx b=>by
     rcases List.mem_append.1 b with b|b
     .exact H.2.2.1 x b
     .exact OJ _ _ x b))
    obtain⟨g,y,A⟩:=bP f k d;clear l k f d
    go_wp2
    go_ret;exact⟨p,c,rfl,B,C,z.o,y.o,g.o,A.o⟩
 .go_loopw [2,7,17] (λG F i wr=>∃j:Nat,j<=M/\i=AA j/\G=.int .u64 ((u / 256 ^ j:Nat):Int)/\wr.ownsRow w.heap.size 5 1 F (len+j) (Ak (bs++GH j u))/\Below w.heap.size w wr) (λ_ _ i _=>M - (intOf i).toNat);case atStart=>exact⟨0,BJ,rfl,Vj,by have:=s.o;simpa[GH] using this,r.trans t⟩
  case round=>
   obtain⟨j,K,rfl,rfl,d,f⟩:=hrel;clear s I J r t R;by_cases Q:j<M
   .have HS:=qh (TR j u);have Z:u / 256 ^ j<18446744073709551616:=Nat.lt_of_le_of_lt (Nat.div_le_self _ _) _hu;have E:u / 256 ^ (j+1)=u / 256 ^ j / 256:=by rw[Nat.pow_succ,Nat.div_div_eq_div_mul]
    have O:=qh E;clear E;generalize u / 256 ^ j=q at *;have N:=qh d;clear d;have aa:=f.size;obtain⟨g,V⟩:=WZ f K;clear f;go_upto_region 4 with(fail);go_wp2_with (at_builtin;refine Ag rfl (.tmp 19) (.tmp 22) 127 rfl w.heap.size 5 (.int .u8 0) 1 1 rfl ND rfl Iz _ (len+j) (Ak (bs++GH j u)) rfl (DK N.o (by go_grown)) (Ac wr.heap.size) 1 1 [.int .u8 ((q:Int) % 256)] rfl rfl ((AC wr _ _).reads 0 _ (λj v S=>by simpa using S)) (by intro h;cases h) (by simp[Value.oneCell']) (by unfold maxLen;omega) BJ (by simp;omega) ?_;intro v3 w3 D P _;have L:=qh D;clear D);go_roundw;case rel=>
     refine⟨j+1,BJ,by go_num,by rw[O.o,Int.natCast_ediv];rfl,?_,g.trans ((show Below w.heap.size wr _ by go_grown).trans P)⟩;have:=L.o;rw[HS.o,<-List.append_assoc];simpa[Ak,Nat.add_assoc] using this
    case measure=>simp[intOf];omega
   .have hjM:j=M:=BJ
    subst hjM;obtain⟨p,c,rfl,B,C,k,l⟩:=IM d BJ;have z:=qh (l _ rfl (λx b=>by
     rcases List.mem_append.1 b with b|b
     .exact H.2.2.1 x b
     .exact OJ _ _ x b))
    obtain⟨g,y,A⟩:=bP f k d;clear l k f d
    go_wp2
    go_ret;exact⟨p,c,rfl,B,C,z.o,y.o,g.o,A.o⟩
theorem pX(n:Int)(w:World)(hn:-9223372036854775808<=n/\n<=9223372036854775807) :Calls prog 256 #[AA n] w λe w'=>e=.returned (.int .u64 (WordP.zig n))/\Below w.heap.size w w':=by
 go_in
 go_wp2
 go_ret;exact⟨Jt (WordP.pY n hn),by go_grown⟩
end Go.Proofs.YtimdpiifpibgfaaGreatDoor
namespace FrontP
abbrev Fr:=Nat->Nat->Int
def mx(a b:Int):Int:=if a<b then b else a
def mn(a b:Int):Int:=if b<a then b else a
def Hr(F:Fr)(r:Nat)(d:Nat->Int)(k:Nat):Fr:=λq i=>if q=r/\i<k then mx (F q i) (d i) else F q i
def hear(F:Fr)(r:Nat)(d:Nat->Int):Fr:=Hr F r d 7
def right(d:Nat->Int):Bool:=(List.range 7).all λi=>decide (0<=d i)&&decide (d i<=1073741824)
def Pq(d:Nat->Int)(k:Nat):Bool:=(List.range k).all λi=>decide (0<=d i)&&decide (d i<=1073741824)
theorem Uj(d:Nat->Int)(k:Nat):Pq d (k+1)=(Pq d k&&(decide (0<=d k)&&decide (d k<=1073741824))):=by simp[Pq,List.range_succ,List.all_append]
theorem WF(d:Nat->Int)(k:Nat)(hk:k<7)(h:d k<0\/1073741824<d k):right d=false:=by unfold right;rw[List.all_eq_false];exact⟨k,by simp[hk],by simp;omega⟩
theorem Va(F:Fr)(r:Nat)(d:Nat->Int):Hr F r d 0=F:=by
 funext q i;simp[Hr]
theorem VZ(F:Fr)(r:Nat)(d:Nat->Int)(k:Nat):Hr F r d (k+1)=λq i=>if q=r/\i=k then mx (F r k) (d k) else Hr F r d k q i:=by
 funext q i
 simp only[Hr];by_cases a:q=r
 .by_cases h2:i<k
  .simp[a,h2,show i<k+1 by omega,show ¬i=k by omega]
  .by_cases h3:i=k
   .simp[a,h3]
   .simp[a,h2,h3,show ¬i<k+1 by omega]
 .simp[a]
theorem ZZ(F:Fr)(r:Nat)(d:Nat->Int)(k:Nat):Hr F r d k r k=F r k:=by simp[Hr]
def takes(n:Nat)(r:Int)(d:Nat->Int):Bool:=(decide (0<=r)&&decide (r<(n:Int)))&&right d
def heard(F:Fr)(n:Nat)(r:Int)(d:Nat->Int):Fr:=if takes n r d=true then hear F r.toNat d else F
def C9(F:Fr)(a:Nat->Int):Nat->Nat->Int
 | 0,i=>a i
 | m+1,i=>mn (C9 F a m i) (F m i)
def stable(F:Fr)(n me:Nat):Nat->Int:=C9 F (F me) n
def Hz(F:Fr)(a:Nat->Int)(m k:Nat):Nat->Int:=λi=>if i<k then C9 F a (m+1) i else C9 F a m i
theorem Ub(F:Fr)(a:Nat->Int)(m:Nat):Hz F a m 0=C9 F a m:=by funext i;simp[Hz]
theorem Ua(F:Fr)(a:Nat->Int)(m k:Nat):Hz F a m (k+1)=λi=>if i=k then mn (C9 F a m k) (F m k) else Hz F a m k i:=by
 funext i
 simp only[Hz];by_cases h:i=k
 .subst h;simp[C9]
 .by_cases h2:i<k
  .simp[h,h2,show i<k+1 by omega]
  .simp[h,h2,show ¬i<k+1 by omega]
theorem XZ(F:Fr)(a:Nat->Int)(m k:Nat):Hz F a m k k=C9 F a m k:=by simp[Hz]
end FrontP
namespace Go.Proofs.YtimdpiifpibgfaaGreatDoor
open Tryz
def Fq(n me:Nat)(F:FrontP.Fr):List Value:=AA n :: AA me :: (List.range 49).map λj=>AA (F (j / 7) (j % 7))
theorem Rj(n me:Nat)(F:FrontP.Fr)(r i:Nat)(hr:r<7)(hi:i<7):(Fq n me F)[2+r*7+i]?=some (AA (F r i)):=by
 have a:(r*7+i) / 7=r:=BJ
 have b:(r*7+i) % 7=i:=BJ
 rw[show 2+r*7+i=(r*7+i)+1+1 from BJ,Fq,List.getElem?_cons_succ,List.getElem?_cons_succ,List.getElem?_map,List.getElem?_range BJ];simp[a,b]
theorem aJ(n me:Nat)(F:FrontP.Fr)(r i:Nat)(v:Int)(_hr:r<7)(hi:i<7) :(Fq n me F).set (2+r*7+i) (AA v)=Fq n me (λq j=>if q=r/\j=i then v else F q j):=by
 rw[show 2+r*7+i=(r*7+i)+1+1 from BJ,Fq,List.set_cons_succ,List.set_cons_succ,Fq]
 congr 2
 apply List.ext_getElem?;intro j;rw[List.getElem?_set,List.getElem?_map];by_cases d:j<49
 .rw[List.getElem?_map,List.getElem?_range d];by_cases a:r*7+i=j
  .subst a;rw[if_pos rfl,if_pos (by simp;omega)];have b:(r*7+i) / 7=r:=BJ
   have c:(r*7+i) % 7=i:=BJ
   simp[b,c]
  .rw[if_neg a];have:¬(j / 7=r/\j % 7=i):=BJ
   simp[this]
 .rw[List.getElem?_map,List.getElem?_eq_none (by simp;omega)];split
  .rw[if_neg (by simp;omega)];rfl
  .rfl
def qJ(d:Nat->Int):Value:=.agg #[AA (d 0),AA (d 1),AA (d 2),AA (d 3),AA (d 4),AA (d 5),AA (d 6)]
def Dt(d:Nat->Int):List Value:=[AA (d 0),AA (d 1),AA (d 2),AA (d 3),AA (d 4),AA (d 5),AA (d 6)]
theorem UR(d:Nat->Int)(k:Nat)(hk:k<7):(Dt d)[k]?=some (AA (d k)):=by rcases(show k=0\/k=1\/k=2\/k=3\/k=4\/k=5\/k=6 by omega) with rfl|rfl|rfl|rfl|rfl|rfl|rfl<;>rfl
theorem jU(d:Nat->Int)(k:Nat)(v:Int)(hk:k<7):(Dt d).set k (AA v)=Dt λi=>if i=k then v else d i:=by rcases(show k=0\/k=1\/k=2\/k=3\/k=4\/k=5\/k=6 by omega) with rfl|rfl|rfl|rfl|rfl|rfl|rfl<;>simp[Dt]
theorem PI{w:World}{g g' e:Nat}{L:List Value}(h:Holds w g' e L)(hg:g'≠g)(i:Nat)(v:Value):Holds (w.setCell ⟨g,i,none⟩ v) g' e L:=by unfold Holds at *;rw[Below.heap_setCell _ _ _ _ hg];exact h
structure A8(w:World)(g e n me:Nat)(F:FrontP.Fr):Prop where
 h:Holds w g e (Fq n me F)
 n7:n<=7
theorem A8.n0{w:World}{g e n me:Nat}{F:FrontP.Fr}(h:A8 w g e n me F):w.cell? ⟨g,0,none⟩=some (AA n):=h.h.cell 0
theorem A8.yU{w:World}{g e n me:Nat}{F:FrontP.Fr}(h:A8 w g e n me F):w.cell? ⟨g,1,none⟩=some (AA me):=h.h.cell 1
theorem A8.at{w:World}{g e n me:Nat}{F:FrontP.Fr}(h:A8 w g e n me F)(r i:Nat)(hr:r<7)(hi:i<7):w.cell? ⟨g,2+r*7+i,none⟩=some (AA (F r i)):=by rw[h.h.cell];exact Rj n me F r i hr hi
theorem A8.lt{w:World}{g e n me:Nat}{F:FrontP.Fr}(h:A8 w g e n me F):g<w.heap.size:=h.h.lt
theorem A8.below{w w':World}{g e n me B:Nat}{F:FrontP.Fr}(h:A8 w g e n me F)(hb:Below B w w')(hg:g<B):A8 w' g e n me F:=⟨h.h.below hb hg,h.n7⟩
theorem Ky(s:Int)(d:Nat->Int)(w:World)(hs:s=0) :Calls prog 115 #[.agg #[AA s,AA (d 0),AA (d 1),AA (d 2),AA (d 3),AA (d 4),AA (d 5),AA (d 6)]] w λe w'=>e=.returned (.bool (FrontP.right d))/\Below w.heap.size w w':=by
 subst hs;go_in
 go_wp2
 go_loop [7] (λi=>∃k:Nat,k<=7/\i=AA k/\FrontP.Pq d k=true) (λi=>7 - (intOf i).toNat)
 case atStart=>exact⟨0,BJ,rfl,rfl⟩
 case round=>
  obtain⟨k,l,rfl,h⟩:=hrel;have b:=qh h;clear h;by_cases g:k<7
  .have hidx:=Ew d k g;have hs:=FrontP.Uj d k;have f:=FrontP.WF d k g;obtain⟨c,a⟩:=WZ hs f;clear hs f;generalize d k=x at hidx c a
   go_wp2
   .go_ret;exact⟨BX (by rw[a.o ‹_›]),by go_grown⟩
   .go_round
    case rel=>exact⟨k+1,BJ,by go_num,by rw[c.o,b.o];simp;omega⟩
    case measure=>simp[intOf];omega
   .go_ret;exact⟨BX (by rw[a.o (.inl ‹_›)]),by go_grown⟩
  .have hk7:k=7:=BJ
   subst hk7;have j:=qh (show FrontP.right d=true from b.o)
   go_wp2
   go_ret;exact⟨BX (by rw[j.o]),by go_grown⟩
theorem lu(g n me r:Nat)(F:FrontP.Fr)(d:Nat->Int)(w:World)(h:A8 w g 197 n me F)(hr:r<n)(hd:FrontP.right d=true) :Calls prog 69 #[AP g,AA r,.agg #[AA (d 0),AA (d 1),AA (d 2),AA (d 3),AA (d 4),AA (d 5),AA (d 6)]] w λe w'=> e=.returned (.bool true)/\A8 w' g 197 n me (FrontP.hear F r d)/\Touch g w w':=by
 have A:=h.n7;have D:=h.n0;have z:=h.lt;obtain⟨p,R⟩:=WZ h (λW=>Ky 0 d W rfl);rw[hd] at R;go_in;go_wp2_with fail;refine Ah (R.out _) ?_;rintro w1 b;have y:=p.below (AO (by go_grown) b) z;have B:Touch g w w1:=.of_below (AO (by go_grown) b);obtain⟨u,C⟩:=dB b
 go_wp2
 go_loopw [26] (λi wr=>∃k:Nat,k<=7/\i=AA k/\A8 wr g 197 n me (FrontP.Hr F r d k)/\Touch g w wr) (λi _=>7 - (intOf i).toNat);case atStart=>exact⟨0,BJ,rfl,by rw[FrontP.Va];exact y,B⟩
 case round=>
  obtain⟨k,G,rfl,a,m⟩:=hrel;clear u C b;by_cases c:k<7
  .have hidx:=Ew d k c;have x:=a.at r k BJ c;rw[FrontP.ZZ] at x;have E:=a.h.free (2+r*7+k);have j:=FrontP.VZ F r d k;have s:=qh j;clear j;have l:=λv=>a.h.set (2+r*7+k) (AA v);have t:=qh l;clear l;go_upto_region 6 with(fail);go_region
   go_wp2
   go_roundw;case rel=>
    refine⟨k+1,BJ,by go_num,⟨?_,A⟩,(m.setCell _ _).drew⟩;have f:=t.o (FrontP.mx (F r k) (d k));rw[aJ _ _ _ r k _ BJ c,<-s.o,show FrontP.mx (F r k) (d k)=max (F r k) (d k) from by unfold FrontP.mx;split<;>omega] at f;exact f
   case measure=>simp[intOf];omega
  .have hk7:k=7:=BJ
   subst hk7;have q:=qh (show A8 wr g 197 n me (FrontP.hear F r d) from a);clear a
   go_wp2
   go_ret;exact⟨rfl,q.o,m⟩
theorem fM(g n me:Nat)(r:Int)(F:FrontP.Fr)(d:Nat->Int)(w:World)(h:A8 w g 197 n me F)(hr:r<0\/(n:Int)<=r) :Calls prog 69 #[AP g,AA r,.agg #[AA (d 0),AA (d 1),AA (d 2),AA (d 3),AA (d 4),AA (d 5),AA (d 6)]] w λe w'=> e=.returned (.bool false)/\Below w.heap.size w w':=by
 have a:=h.n0;have b:=h.lt;by_cases c:r<0
 .go_in;go_wp2_with fail;go_ret;exact⟨rfl,by go_grown⟩
 .have hr1:(n:Int)<=r:=BJ
  go_in;go_wp2_with fail;go_ret;exact⟨rfl,by go_grown⟩
theorem XO(g n me r:Nat)(F:FrontP.Fr)(d:Nat->Int)(w:World)(h:A8 w g 197 n me F)(hr:r<n)(hd:FrontP.right d=false) :Calls prog 69 #[AP g,AA r,.agg #[AA (d 0),AA (d 1),AA (d 2),AA (d 3),AA (d 4),AA (d 5),AA (d 6)]] w λe w'=> e=.returned (.bool false)/\Below w.heap.size w w':=by
 have c:=h.n0;have f:=h.lt;have R:=qh (λW=>Ky 0 d W rfl);rw[hd] at R;go_in;go_wp2_with fail;refine Ah (R.out _) ?_;rintro w1 b;have a:Below w.heap.size w w1:=AO (by go_grown) b
 go_wp2
 go_ret;exact⟨rfl,a⟩
theorem QO(g n me:Nat)(r:Int)(F:FrontP.Fr)(d:Nat->Int)(w:World)(h:A8 w g 197 n me F) :Calls prog 69 #[AP g,AA r,.agg #[AA (d 0),AA (d 1),AA (d 2),AA (d 3),AA (d 4),AA (d 5),AA (d 6)]] w λe w'=> e=.returned (.bool (FrontP.takes n r d))/\A8 w' g 197 n me (FrontP.heard F n r d)/\Touch g w w':=by
 unfold FrontP.takes FrontP.heard FrontP.takes;by_cases i:0<=r/\r<n
 .obtain⟨q,rfl⟩:=Int.eq_ofNat_of_zero_le i.1;cases b:FrontP.right d
  .refine Ah (XO g n me q F d w h BJ b) ?_;rintro w' a;exact⟨BX Vj,by simpa using h.below a h.lt,.of_below a⟩
  .refine Ah (lu g n me q F d w h BJ b) ?_;rintro w' ⟨f,j⟩;have c:q<n:=BJ
   exact⟨BX (by simp[c]),by simpa[c] using f,j⟩
 .refine Ah (fM g n me r F d w h BJ) ?_;rintro w' a;have:(decide (0<=r)&&decide (r<(n:Int)))=false:=by simp;omega
  exact⟨BX (by simp[this]),by simpa[this] using h.below a h.lt,.of_below a⟩
theorem Xw(g n me:Nat)(F:FrontP.Fr)(w:World)(h:A8 w g 197 n me F)(hme:me<n) :Calls prog 172 #[AP g] w λe w'=>e=.returned (qJ (FrontP.stable F n me))/\Below w.heap.size w w':=by
 have N:=h.n7;have K:=h.n0;have hm:=h.yU;have M:=h.lt;have l:=h.at me 0 BJ BJ;have s:=h.at me 1 BJ BJ;have t:=h.at me 2 BJ BJ;have u:=h.at me 3 BJ BJ;have x:=h.at me 4 BJ BJ;have y:=h.at me 5 BJ BJ;have z:=h.at me 6 BJ BJ;rw[Nat.add_zero] at l;have H:=qh h;clear h;go_in;go_upto_region 1 with(fail);go_region;go_upto_region 2 with(fail);go_name_world W q;have d:Holds W (w.heap.size+1) 41 (Dt (F me)):=by rw[<-q];exact NC (by simpa[Dt] using AC (w.alloc (.cells #[AA 0,AA 0,AA 0,AA 0,AA 0,AA 0,AA 0] 41)) 41 (Dt (F me)))
 have a:Holds W w.heap.size 41 (Dt λ_=>0):=by rw[<-q];exact(show Holds _ _ _ _ from Aw (AC w 41 (Dt λ_=>0)) _)
 have c:Below w.heap.size w W:=by rw[<-q];go_grown
 have m:=H.below c M;clear q l s t u x y z;have K:=m.n0;have X:=m.lt;have p:=qh (And.intro d (And.intro a (And.intro c m)));clear d a c m
 go_wp2
 go_loopw [20] (λi wr=>∃r:Nat,r<=n/\i=AA r/\Holds wr (w.heap.size+1) 41 (Dt (FrontP.C9 F (F me) r))/\Holds wr w.heap.size 41 (Dt λ_=>0)/\A8 wr g 197 n me F/\Below w.heap.size w wr) (λi _=>n - (intOf i).toNat);case atStart=>exact⟨0,BJ,rfl,p.1,p.2.1,p.2.2.2,p.2.2.1⟩
 case round=>
  obtain⟨r,hr,rfl,d,a,b,c⟩:=hrel;by_cases Z:r<n
  .have l:=b.at r 0 BJ BJ;have s:=b.at r 1 BJ BJ;have t:=b.at r 2 BJ BJ;have u:=b.at r 3 BJ BJ;have x:=b.at r 4 BJ BJ;have y:=b.at r 5 BJ BJ;have z:=b.at r 6 BJ BJ;rw[Nat.add_zero] at l;have j:=qh (And.intro d (And.intro a (And.intro c b)));clear d a c b
   go_wp2
   clear l s t u x y z;obtain⟨E,D⟩:∃E:World,E=wr:=⟨_,rfl⟩;rw[<-D] at j |-;clear D;go_loopw [29] (λi wr=>∃k:Nat,k<=7/\i=AA k/\Holds wr (w.heap.size+1) 41 (Dt (FrontP.Hz F (F me) r k))/\Holds wr w.heap.size 41 (Dt λ_=>0)/\A8 wr g 197 n me F/\Below w.heap.size w wr) (λi _=>7 - (intOf i).toNat);case atStart=>exact⟨0,BJ,rfl,by rw[FrontP.Ub];exact j.1,j.2.1,j.2.2.2,j.2.2.1⟩
   case round=>
    obtain⟨k,Y,rfl,d,a,b,c⟩:=hrel;clear j;by_cases A:k<7
    .have hidx:=Ew (F r) k A;have L:=d.cell k;rw[UR _ k A,FrontP.XZ] at L;have V:=d.free k;have C:=λv=>d.set k (AA v);obtain⟨J,I,f⟩:=bP C (FrontP.Ua F (F me) r k) (And.intro a (And.intro c b));clear C d a c b
     go_wp2
     go_roundw;case rel=>
      refine⟨k+1,BJ,by go_num,?_,PI f.o.1 BJ _ _,⟨PI f.o.2.2.h BJ _ _,N⟩,f.o.2.1.setCell Vj _⟩;have B:=J.o (FrontP.mn (FrontP.C9 F (F me) r k) (F r k));rw[jU _ k _ A,<-I.o,show FrontP.mn (FrontP.C9 F (F me) r k) (F r k)=min (FrontP.C9 F (F me) r k) (F r k) from by unfold FrontP.mn;split<;>omega] at B;exact B
     case measure=>simp[intOf];omega
    .have hk7:k=7:=BJ
     subst hk7;have f:=qh (And.intro d (And.intro a (And.intro c b)));clear d a c b
     go_wp2
     go_roundw;case rel=>exact⟨r+1,BJ,by go_num,by have:=f.o.1;simpa[Dt,FrontP.Hz] using this,f.o.2.1,f.o.2.2.2,f.o.2.2.1⟩
     case measure=>simp[intOf];omega
  .have hrn:r=n:=BJ
   subst hrn;obtain⟨o0,o1,o2,o3,o4,o5,o6⟩:=Gl d 0 1 2 3 4 5 6;obtain⟨r0,r1,r2,r3,r4,r5,r6⟩:=Gl a 0 1 2 3 4 5 6;have O:=a.free 0;have P:=a.free 1;have Q:=a.free 2;have R:=a.free 3;have S:=a.free 4;have T:=a.free 5;have U:=a.free 6;have f:=qh (And.intro a c);clear d a c b
   go_wp2
   have G:=((((((f.o.1.set 0 (AA (FrontP.C9 F (F me) r 0))).set 1 (AA (FrontP.C9 F (F me) r 1))).set 2 (AA (FrontP.C9 F (F me) r 2))).set 3 (AA (FrontP.C9 F (F me) r 3))).set 4 (AA (FrontP.C9 F (F me) r 4))).set 5 (AA (FrontP.C9 F (F me) r 5))).set 6 (AA (FrontP.C9 F (F me) r 6));have c:=f.o.2;exact bodyPost_ret (v:=qJ (FrontP.stable F r me)) (results_cell_row rfl _ _ w.heap.size 41 (Dt (FrontP.C9 F (F me) r)).toArray (0,0) _ rfl G underlying41 rfl ND) rfl ⟨rfl,by go_grown⟩
end Go.Proofs.YtimdpiifpibgfaaGreatDoor
namespace SumP
def sh(c:Nat):Nat:=if c % 2=1 then (c / 2) ^^^ 3988292384 else c / 2
def oK:Nat->Nat->Nat
 | 0,c=>c
 | n+1,c=>oK n (sh c)
def feed(c x:Nat):Nat:=oK 8 (c ^^^ x)
def crc(c:Nat)(l:List Nat):Nat:=l.foldl feed c
def inv(c:Nat):Nat:=4294967295-c
def on(c:Nat)(l:List Nat):Nat:=inv (crc (inv c) l)
theorem wW{c:Nat}(h:c<2 ^ 32):sh c<2 ^ 32:=by
 unfold sh;split
 .exact Nat.xor_lt_two_pow (by omega) (by decide)
 .omega
theorem jV{n c:Nat}(h:c<2 ^ 32):oK n c<2 ^ 32:=by
 induction n generalizing c with
 | zero=>exact h
 | succ n ih=>exact ih (wW h)
theorem jW(n c:Nat):oK (n+1) c=sh (oK n c):=by
 induction n generalizing c with
 | zero=>rfl
 | succ n ih=>exact ih (sh c)
theorem dX(c:Nat)(l:List Nat)(x:Nat):crc c (l++[x])=feed (crc c l) x:=by simp[crc]
theorem dY(c:Nat)(l:List Nat)(k:Nat)(hk:k<l.length):crc c (l.take (k+1))=feed (crc c (l.take k)) (l.getD k 0):=by
 rw[List.take_succ_eq_append_getElem hk,dX]
 congr 1
 simp[hk]
theorem getD_mem{l:List Nat}{k:Nat}(hk:k<l.length):l.getD k 0∈l:=by simp[hk]
theorem lV{c x:Nat}(h:c<2 ^ 32)(hx:x<256):feed c x<2 ^ 32:=
 jV (Nat.xor_lt_two_pow h (by omega))
theorem rX{l:List Nat}{c:Nat}(h:c<2 ^ 32)(hl:∀x∈l,x<256):crc c l<2 ^ 32:=by
 induction l generalizing c with
 | nil=>exact h
 | cons x l ih=>exact ih (lV h (hl x (by simp))) (λy a=>hl y (by simp[a]))
theorem fV{c:Nat}:inv c<2 ^ 32:=by unfold inv;omega
theorem qX(c:Nat)(l:List Nat):on c l<4294967296:=fV
end SumP
namespace Go.Proofs.YtimdpiifpibgfaaGreatDoor
open Tryz
theorem Yy(c:Nat)(hc:c<4294967296):bits BinOp.xor IntKind.u32 IntKind.u32.max (c:Int)=((SumP.inv c:Nat):Int):=by
 have e:IntKind.u32.max=((4294967295:Nat):Int):=Iz
 rw[e,u32_xor_nat _ _ Iz hc];unfold SumP.inv
 congr 1
 apply Nat.eq_of_testBit_eq;intro i;have:=Nat.testBit_two_pow_sub_succ (n:=32) hc i;rw[Nat.testBit_xor,show (4294967295:Nat) - c=2 ^ 32 - (c+1) from BJ,this,show (4294967295:Nat)=2 ^ 32-1 from rfl,Nat.testBit_two_pow_sub_one];by_cases a:i<32
 .simp[a]
 .have:c.testBit i=false:=Nat.testBit_lt_two_pow (Nat.lt_of_lt_of_le hc (Nat.pow_le_pow_right (n:=2) Iz (by omega:32<=i)));simp[a,this]
theorem jg(c x:Nat)(hc:c<4294967296)(hx:x<256):bits BinOp.xor IntKind.u32 (c:Int) (x:Int)=((c ^^^ x:Nat):Int):=u32_xor_nat c x hc BJ
theorem uT(d:Nat)(hd:d<4294967296)(h:(bits BinOp.and IntKind.u32 (d:Int) 1==1)=true):bits BinOp.xor IntKind.u32 ((d:Int) / 2) 3988292384=((SumP.sh d:Nat):Int):=by
 have e:=u32_and_nat d 1 hd Iz;rw[show ((1:Nat):Int)=1 from rfl] at e;rw[e,nat_mask1] at h;have a:d % 2=1:=by have:=eq_of_beq h;omega
 rw[show ((d:Int) / 2)=((d / 2:Nat):Int) from BJ,show (3988292384:Int)=((3988292384:Nat):Int) from rfl,u32_xor_nat _ _ BJ Iz];rw[SumP.sh,if_pos a]
theorem oL(d:Nat)(hd:d<4294967296)(h:(bits BinOp.and IntKind.u32 (d:Int) 1==1)=false):((d:Int) / 2)=((SumP.sh d:Nat):Int):=by
 have e:=u32_and_nat d 1 hd Iz;rw[show ((1:Nat):Int)=1 from rfl] at e;rw[e,nat_mask1] at h;have a:¬d % 2=1:=by intro a;rw[a] at h;simp at h
 rw[SumP.sh,if_neg a];omega
theorem on_any(c:Nat)(a:Option Addr)(len cap:Nat)(bs:List Nat)(w:World)(hc:c<4294967296)(hb:CX w a len bs) :Calls prog 233 #[.int .u32 c,.slice a len cap] w λe w'=>e=.returned (.int .u32 (SumP.on c bs:Nat))/\w=w':=by
 have hinv:=Yy c hc;obtain⟨C,M,B,g⟩:=hb;obtain⟨q,A,E,H⟩:=bY C B g hinv;clear C B g hinv;go_in
 go_wp2
 go_loop [0,12] (λt i=>∃k:Nat,k<=len/\i=AA k/\t=.int .u32 (SumP.crc (SumP.inv c) (bs.take k):Nat)) (λ_ i=>len - (intOf i).toNat)
 case atStart=>exact⟨0,BJ,rfl,by rw[H.o];rfl⟩
 case round=>
  obtain⟨k,L,rfl,rfl⟩:=hrel;have z:¬k<len->SumP.on c bs=SumP.inv (SumP.crc (SumP.inv c) (bs.take k)):=λh=>by rw[List.take_of_length_le (by rw[q.o];omega)];rfl
  have m:SumP.crc (SumP.inv c) (bs.take k)<4294967296:=SumP.rX SumP.fV (λy J=>A.o y (List.mem_of_mem_take J));obtain⟨f,u⟩:∃f,f=SumP.crc (SumP.inv c) (bs.take k):=⟨_,rfl⟩;rw[<-u] at m z |-;obtain⟨G,F⟩:=WZ z u;clear z u;by_cases p:k<len
  .obtain⟨b,off,rfl,_,g⟩:=E.o BJ;have I:=g k p;clear g;have D:bs.getD k 0<256:=A.o _ (SumP.getD_mem (by rw[q.o];exact p));have s:=qh (SumP.dY (SumP.inv c) bs k (by rw[q.o];exact p));generalize bs.getD k 0=x at I D s;rw[<-F.o] at s
   go_wp2
   go_loop [0,20] (λt i=>∃j:Nat,j<=8/\i=AA j/\t=.int .u32 (SumP.oK j (f ^^^ x):Nat)) (λ_ i=>8 - (intOf i).toNat)
   case atStart=>exact⟨0,BJ,rfl,by rw[jg f x m D];rfl⟩
   case round=>
    obtain⟨j,K,rfl,rfl⟩:=hrel;have v:SumP.oK j (f ^^^ x)<4294967296:=SumP.jV (Nat.xor_lt_two_pow (n:=32) m BJ);have r:=qh (SumP.jW j (f ^^^ x));have l:j=8->SumP.oK j (f ^^^ x)=SumP.feed f x:=λh=>by subst h;rfl
    have l:=qh l;generalize SumP.oK j (f ^^^ x)=d at v r l
    go_wp2
    .go_round
     case rel=>exact⟨j+1,BJ,by go_num,by rw[r.o,uT d v ‹_›]⟩
     case measure=>simp[intOf];omega
    .go_round
     case rel=>exact⟨j+1,BJ,by go_num,by rw[r.o,oL d v ‹_›]⟩
     case measure=>simp[intOf];omega
    .go_round
     case rel=>exact⟨k+1,BJ,by go_num,by rw[s.o,l.o BJ]⟩
     case measure=>simp[intOf];omega
  .have e2:=Yy f m
   go_wp2
   go_ret;exact⟨Jt (by rw[G.o p]),rfl⟩
theorem WB(a:Option Addr)(len cap:Nat)(bs:List Nat)(w:World)(hb:CX w a len bs) :Calls prog 171 #[.slice a len cap] w λe w'=>e=.returned (.int .u32 (SumP.on 0 bs:Nat))/\w=w':=by go_in;go_wp2_with (first|(go_at_call 233;refine(on_any 0 a len cap bs _ BJ hb).mono ?_;rintro e b ⟨rfl,rfl⟩));go_ret;exact⟨rfl,rfl⟩
structure A7 where
 r:Int
 s:Int
 L:List Value
def A7.key(e:A7):Lit:=Ia e.r e.s
def A7.val(e:A7):Value:=.agg e.L.toArray
structure GL(D:DataW Value)(l:List A7):Prop where
 tidy:Tidy D
 size:Maps.size D=l.length
 apart:l.Pairwise λx y=>¬(x.r=y.r/\x.s=y.s)
 has:∀k,Maps.has D k=l.any λe=>e.key.sameKey k
 at_:∀e∈l,∀z,D.atKey e.key z=.held e.val
theorem GL.empty:GL (.map []) []:=⟨tidy_empty,rfl,List.Pairwise.nil,λk=>rfl,λe a=>by cases a⟩
def Ci(l:List A7)(e:A7):List A7:=if l.any (λx=>x.r==e.r&&x.s==e.s) then l.map (λx=>if x.r=e.r/\x.s=e.s then e else x) else l++[e]
def RX(l:List A7):Prop:=∀e∈l,(Lit.int .i64 e.r).wf=true/\(Lit.int .i64 e.s).wf=true
theorem iP{l:List A7}(h:RX l){e:A7}(he:(Lit.int .i64 e.r).wf=true/\(Lit.int .i64 e.s).wf=true):RX (Ci l e):=by
 unfold Ci;split
 .intro x a;obtain⟨y,b,rfl⟩:=List.mem_map.1 a;split
  .exact he
  .exact h y b
 .intro x a;rcases List.mem_append.1 a with a|a
  .exact h x a
  .rw[List.mem_singleton.1 a];exact he
theorem GL.JU{D:DataW Value}{l:List A7}(h:GL D l)(hw:RX l)(r s:Int)(hr:(Lit.int .i64 r).wf=true)(hs:(Lit.int .i64 s).wf=true):Maps.has D (Ia r s)=l.any λx=>x.r==r&&x.s==s:=by
 rw[h.has];rw[Bool.eq_iff_iff,List.any_eq_true,List.any_eq_true];constructor
 .rintro⟨x,hx,hk⟩;exact⟨x,hx,by rw[<-Di (hw x hx).1 (hw x hx).2 hr hs];exact hk⟩
 .rintro⟨x,hx,hk⟩;exact⟨x,hx,by rw[A7.key,Di (hw x hx).1 (hw x hx).2 hr hs];exact hk⟩
theorem GL.put{D:DataW Value}{l:List A7}(h:GL D l)(hw:RX l)(e:A7)(he:(Lit.int .i64 e.r).wf=true/\(Lit.int .i64 e.s).wf=true):GL (D.put e.key (.held e.val)) (Ci l e):=by
 have m:IsMap D:=h.tidy.isMap;have f:WideAt.IsKeyLit e.key:=Jn _ _;have t:=h.JU hw e.r e.s he.1 he.2;refine⟨h.tidy.put f _,?_,?_,λk=>?_,?_⟩
 .rw[Maps.size_put h.tidy,show Maps.has D e.key=_ from t,h.size];unfold Ci;split<;>simp
 .unfold Ci;split
  .rw[List.pairwise_map];refine h.apart.imp fun {x y} q=>?_;split<;>split<;>rename_i g i
   .exact λ_=>q ⟨g.1.trans i.1.symm,g.2.trans i.2.symm⟩
   .exact λa=>i ⟨a.1.symm,a.2.symm⟩
   .exact λa=>g a
   .exact q
  .rename_i d;refine List.pairwise_append.2 ⟨h.apart,List.pairwise_singleton _ _,λx b y o a=>?_⟩;rw[List.mem_singleton.1 o] at a;exact d (List.any_eq_true.2 ⟨x,b,by simp[a.1,a.2]⟩)
 .by_cases hke:k=e.key
  .rw[hke,Maps.has_put_same m f];symm;rw[List.any_eq_true];refine⟨e,?_,WideAt.sameKey_self f⟩;unfold Ci;split
   .rename_i ha;obtain⟨x,b,c⟩:=List.any_eq_true.1 ha;simp only[Bool.and_eq_true,beq_iff_eq] at c;exact List.mem_map.2 ⟨x,b,if_pos c⟩
   .simp
  .rw[Maps.has_put_other hke,h.has];have j:e.key.sameKey k=false:=Maps.sameKey_ne (λa=>hke a.symm);unfold Ci;split
   .rw[List.any_map];rw[Bool.eq_iff_iff,List.any_eq_true,List.any_eq_true];refine⟨?_,?_⟩;all_goals
     rintro⟨x,b,c⟩;refine⟨x,b,?_⟩
    .simp only[Function.comp];rw[if_neg]
     .exact c
     .intro a;have:x.key=e.key:=by unfold A7.key;rw[a.1,a.2]
      rw[this,j] at c;cases c
    .simp only[Function.comp] at c;split at c
     .rw[j] at c;cases c
     .exact c
   .simp[j]
 .intro x b z;unfold Ci at b;have p:x∈l->¬(x.r=e.r/\x.s=e.s)->(D.put e.key (.held e.val)).atKey x.key z=.held x.val:=λn d=>by rw[Maps.atKey_put_other,h.at_ x n];intro a;exact d (LD (hw x n).1 (hw x n).2 he.1 he.2 a)
  split at b
  .obtain⟨y,o,rfl⟩:=List.mem_map.1 b;split
   .exact Maps.atKey_put_same m f _ _
   .rename_i d;rw[if_neg d] at p;exact p o d
  .rename_i d;rcases List.mem_append.1 b with b|b
   .exact p b λa=>d (List.any_eq_true.2 ⟨x,b,by simp[a.1,a.2]⟩)
   .rw[List.mem_singleton.1 b];exact Maps.atKey_put_same m f _ _
def Jh(l:List A7):Prop:=∀e∈l,(0<=e.r/\e.r<7)/\(1<=e.s/\e.s<=1073741824)
theorem Jh.wf{l:List A7}(h:Jh l):RX l:=λe a=>⟨WalkArith.wf_i64 (by have:=(h e a).1;omega),WalkArith.wf_i64 (by have:=(h e a).2;omega)⟩
theorem Qa{l:List A7}(h:Jh l){e:A7}(he:(0<=e.r/\e.r<7)/\(1<=e.s/\e.s<=1073741824)):Jh (Ci l e):=by
 unfold Ci;split
 .intro x a;obtain⟨y,b,rfl⟩:=List.mem_map.1 a;split
  .exact he
  .exact h y b
 .intro x a;rcases List.mem_append.1 a with a|a
  .exact h x a
  .rw[List.mem_singleton.1 a];exact he
end Go.Proofs.YtimdpiifpibgfaaGreatDoor
