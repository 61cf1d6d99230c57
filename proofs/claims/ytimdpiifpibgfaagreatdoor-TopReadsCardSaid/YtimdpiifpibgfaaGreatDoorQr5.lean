/- A part of the proof of TopReads. -/
import Derived.Laws.AppendOwnNone
import Derived.Deep.WholeRow
import Derived.Test.YtimdpiifpibgfaaGreatDoorQr4
set_option linter.all false
set_option maxRecDepth 20000
set_option maxHeartbeats 16000000
open Go.RowKit
namespace Go.Proofs.YtimdpiifpibgfaaGreatDoor
open Tryz
structure At where
 q:Int
 d:Nat->Int
def At.cells(a:At):List Value:=[AA a.q,AA (a.d 0),AA (a.d 1),AA (a.d 2),AA (a.d 3),AA (a.d 4),AA (a.d 5),AA (a.d 6)]
def At.of(k:Int):At:=⟨k,λ_=>0⟩
def At.ul(a b:At):Bool:=a.q==b.q&&(a.d 0==b.d 0&&(a.d 1==b.d 1&&(a.d 2==b.d 2&&(a.d 3==b.d 3&&(a.d 4==b.d 4&&(a.d 5==b.d 5&&a.d 6==b.d 6))))))
structure Sd where
 r:Int
 st:Int
 pe:Int
 pr:Int
 ve:Int
 vr:Int
 x:Cm
 a:At
 same:Bool
def below(e1 r1 e2 r2:Int):Bool:=decide (e1<e2)||(e1==e2&&decide (r1<r2))
def Vp(a b:Int):Int:=if b > a then b else a
def At.join(a b:At):At:=⟨Vp a.q b.q,λi=>Vp (a.d i) (b.d i)⟩
def DI(S:Nat->At):Nat->At
 | 0=>S 0
 | k+1=>(DI S k).join (S (k+1))
def IZ(a b:At)(k:Nat):At:=⟨Vp a.q b.q,λi=>if i<k then Vp (a.d i) (b.d i) else a.d i⟩
theorem UW(a b:At):(IZ a b 7).cells=(a.join b).cells:=by simp[At.cells,IZ,At.join]
theorem Vd(a b:At):(IZ a b 0).cells=a.cells.set 0 (AA (Vp a.q b.q)):=by simp[At.cells,IZ]
theorem XV(a b:At)(k:Nat)(hk:k<7):(IZ a b k).cells[1+k]?=some (AA (a.d k)):=by rcases(show k=0\/k=1\/k=2\/k=3\/k=4\/k=5\/k=6 by omega) with rfl|rfl|rfl|rfl|rfl|rfl|rfl<;>rfl
theorem XW(a b:At)(k:Nat)(hk:k<7):(IZ a b k).cells.set (1+k) (AA (Vp (a.d k) (b.d k)))=(IZ a b (k+1)).cells:=by rcases(show k=0\/k=1\/k=2\/k=3\/k=4\/k=5\/k=6 by omega) with rfl|rfl|rfl|rfl|rfl|rfl|rfl<;>simp[At.cells,IZ]
theorem At.cells_one(s:At):s.cells.toArray.all (·.oneCell')=true:=by simp[At.cells,Value.oneCell']
def I8(own:At)(R:Nat->At):Nat->Nat
 | 0=>0
 | k+1=>I8 own R k+if (R k).ul own=true then 1 else 0
theorem jT(own:At)(R:Nat->At)(k:Nat):I8 own R k<=k:=by
 induction k with
 | zero=>exact Nat.le_refl _
 | succ k ih=>unfold I8;split<;>omega
def IV(own:At)(R:Nat->At):Nat->At
 | 0=>own
 | k+1=>R k
def Vz(K:Nat)(first:Bool)(own:At)(R:Nat->At)(len:Nat)(late:Bool):Int × At:=
 if first=true/\K<=I8 own R len+2 then (1,own)
 else if len<K / 2\/(first=true/\late=false/\len<I8 own R len+2) then (0,At.of 0)
 else (2,DI (IV own R) len)
theorem Ag{P:Program}{w:World}{ops:Array Oper}{rest:List Oper}{o:Oper}{a:Act}{Q:Exit->Act->World->Prop}(hgd:o.guard=none)(s x:Operand)(t:TypeId) (ho:o.op=.call { callee:=.builtin .append,args:=#[s,x],argTypes:=#[t,t] }) (base:Nat) (e:TypeId) (z:Value) (size bytes:Nat) (ht:P.underlying t=some (.slice e)) (hi:(P.info? e).map (λi=>(i.zero,i.size,i.bytes))=some (some z,size,bytes)) (hzs:z.cells.size=size) (hsz:0<size) (v:Value) (n:Nat) (xs:List Value) (hs:a.eval s=v) (hown:w.ownsRow base e size v n xs) (sp:Option Addr) (m c:Nat) (news:List Value) (hx:a.eval x=.slice sp m c) (hl:news.length=m*size) (hsrc:Reads w sp news) (hnil:sp=none->c=0) (h1:∀u∈news,u.oneCell'=true) (h63:n+m<=maxLen) (hbytes:(n+m)*bytes<=140737488355328) (hbase:base<=w.heap.size) (h:∀v' w',w'.ownsRow base e size v' (n+m) (xs++news)->Below base w w'->w.grownBy w' v.ownBlock->wpList P ops Q rest (a.put o.dst v') w'):wpList P ops Q (o :: rest) a w:=by
 obtain⟨i,g,C,B,l⟩:=info_parts hi;cases sp with
 | none=>
  obtain rfl:=hnil rfl;have y:news=[]:=by
   by_cases f:0<news.length
   .obtain⟨b,D,d,_⟩:=hsrc f;cases d
   .exact List.eq_nil_of_length_eq_zero BJ
  subst y;have A:m=0:=by
   have r:m*size=0:=by simpa using hl.symm
   rcases Nat.mul_eq_zero.1 r with h|h<;>omega
  subst A;refine wpList_append_own_none hgd s x t ho base e i size ht g v n xs hs hown hx ?_;exact h v w (by simpa using hown) Vk ⟨rfl,rfl,rfl,Ve,λ_ _ _=>rfl⟩
 | some ad=>
  refine wpList_append_own w hgd s x t ho base e i z size bytes ht g C B l hzs hsz v n xs hs hown ad m c news hx hl ?_ h1 h63 hbytes hbase ?_
  .intro j u hu;have f:0<news.length:=by have:=(List.getElem?_eq_some_iff.1 hu).1;omega
   obtain⟨b,D,d,_,p⟩:=hsrc f;simp only[Option.some.injEq] at d;subst d;rw[JE];exact p j u hu
  .intro v' w' ho' hg _;exact h v' w' ho' ((Below.refl _ _).grown hg hbase λk q=>(hown.lt k q).1) hg
theorem QN(l:List Nat)(i:Nat)(h:i<l.length):(Ak l)[i]?=some (.int .u8 ((l.getD i 0:Nat):Int)):=by simp[Ak,h]
theorem NQ(n m:Int)(h0:0<m):n % m=(if n.tmod m<0 then n.tmod m+m else n.tmod m)/\-m<n.tmod m/\n.tmod m<m:=by
 have e:=Int.tmod_eq_emod (a:=n) (b:=m);have d:=Int.emod_nonneg n (show m≠0 by omega);have f:=Int.emod_lt_of_pos n h0;by_cases c:0<=n\/m ∣ n
 .rw[if_pos c] at e;simp only[Int.natCast_zero,Int.sub_zero] at e;rw[if_neg BJ];omega
 .rw[if_neg c] at e;have g:n % m≠0:=λh=>c (.inr (Int.dvd_of_emod_eq_zero h));rw[if_pos BJ];omega
theorem ay(n lo hi:Int)(h:lo<=hi):-(hi-lo)<=n.tmod (hi-lo+1)/\n.tmod (hi-lo+1)<=hi-lo:=by have:=NQ n (hi-lo+1) BJ;omega
theorem X6{n lo hi:Int}(h:lo<=hi)(ht:n.tmod (hi-lo+1)<0):n.tmod (hi-lo+1)+hi-lo+1=n % (hi-lo+1):=by have:=NQ n (hi-lo+1) BJ;rw[if_pos ht] at this;omega
theorem X7{n lo hi:Int}(h:lo<=hi)(ht:0<=n.tmod (hi-lo+1)):n.tmod (hi-lo+1)=n % (hi-lo+1):=by have:=NQ n (hi-lo+1) BJ;rw[if_neg BJ] at this;omega
theorem NS(n lo hi:Int)(w:World)(_hn:-9223372036854775808<=n/\n<=9223372036854775807)(h:lo<=hi)(hlo:-1000000000000000000<=lo)(hhi:hi<=1000000000000000000) :Calls prog 10 #[AA n,AA lo,AA hi] w λe w'=>e=.returned (AA (lo+n % (hi-lo+1)))/\w=w':=by
 have a:=ay n lo hi h;go_in
 go_wp2
 .go_ret;exact⟨Jt (by rw[<-X6 h ‹_›]),rfl⟩
 .go_ret;exact⟨Jt (by rw[<-X7 h ‹_›]),rfl⟩
theorem wf64{n:Int}(h:(Lit.int .i64 n).wf=true):-9223372036854775808<=n/\n<=9223372036854775807:=by simp[Lit.wf,IntKind.min,IntKind.max,IntKind.signed,IntKind.bits] at h;omega
theorem Ai{P:Program}{ops:Array Oper}{rest:List Oper}{op:Oper}{a:Act}{Q:Exit->Act->World->Prop}(hgd:op.guard=none)(ty:TypeId)(x y:Operand)(ho:op.op=.store ty x y)(hd:op.dst=none) (w:World) (c cells:Array Value) (hx:a.eval x=AP w.heap.size) (hy:a.eval y=.agg cells) (hi:(P.info? ty).map (·.size)=some cells.size) (hc:c.size=cells.size) (h1:cells.all (·.oneCell')=true) (h:wpList P ops Q rest a (w.alloc (.cells cells ty))):wpList P ops Q (op :: rest) a (w.alloc (.cells c ty)):=
 wpList_plain hgd λ_ b=>by unfold Oper.wp execOp;simp only[ho,hx,hy,Instr.storeAt,Instr.sureAddr,Sem.run_bind,Sem.run_pure,Result.andThen_ok,run_storeVar_new w ty c cells hi hc h1];refine b _ _ ?_;rw[hd];exact h
theorem PZ{P:Program}{ops:Array Oper}{rest:List Oper}{op:Oper}{a:Act}{Q:Exit->Act->World->Prop}(hgd:op.guard=none)(ty:TypeId)(x y:Operand)(ho:op.op=.store ty x y)(hd:op.dst=none) (w:World) (c cells:Array Value) (g:Nat) (hg:w.heap.size=g) (hx:a.eval x=AP g) (hy:a.eval y=.agg cells) (hi:(P.info? ty).map (·.size)=some cells.size) (hc:c.size=cells.size) (h1:cells.all (·.oneCell')=true) (h:wpList P ops Q rest a (w.alloc (.cells cells ty))):wpList P ops Q (op :: rest) a (w.alloc (.cells c ty)):=
 Ai hgd ty x y ho hd w c cells (by rw[hg];exact hx) hy hi hc h1 h
theorem Bj.spot{w:World}{a:Option Addr}{len n:Nat}{V:Nat->List Value}(h:Bj w a len n V)(h0:0<len):∃b off,a=some ⟨b,off,none⟩/\b<w.heap.size:=by obtain⟨b,off,c,d,_⟩:=h.2.2 h0;exact⟨b,off,c,d⟩
theorem Bj.at{w W:World}{b off len n:Nat}{V:Nat->List Value}(h:Bj w (some ⟨b,off,none⟩) len n V)(hbl:Below w.heap.size w W){k:Nat}(hk:k<len)(j:Nat)(hj:j<n):W.cell? ⟨b,off+k*n+j,none⟩=(V k)[j]?:=by obtain⟨f,g,a,d,c⟩:=h.2.2 BJ;simp only[Option.some.injEq,Addr.mk.injEq] at a;obtain⟨rfl,rfl,_⟩:=a;rw[hbl.cell (p:=⟨b,_,none⟩) d];exact c k hk j hj
theorem Bj.range{w W:World}{b off len n:Nat}{V:Nat->List Value}(h:Bj w (some ⟨b,off,none⟩) len n V)(hbl:Below w.heap.size w W){k:Nat}(hk:k<len):W.rangeAt b (off+k*n) (V k):=λj v a=>by
 have c:j<n:=by have:=(List.getElem?_eq_some_iff.1 a).1;rw[h.2.1 k hk] at this;exact this
 rw[h.at hbl hk j c];exact a
theorem slow_any(K:Nat)(w:World)(hK:K<=1000):Calls prog 213 #[AA K] w λe w'=>e=.returned (AA ((K / 2+1:Nat):Int))/\Below w.heap.size w w':=by go_in;go_wp2_with fail;go_ret;exact⟨Jt BJ,by go_grown⟩
theorem VT(K:Nat)(w:World)(hK:K<=1000):Calls prog 215 #[AA K] w λe w'=>e=.returned (AA ((K:Int) - 1))/\Below w.heap.size w w':=by go_in;go_wp2_with fail;go_ret;exact⟨Jt BJ,by go_grown⟩
section
structure Jx(w W:World)(g2 g3:Nat)(a:At):Prop where
 bel:Below w.heap.size w W
 z:Holds W g2 43 (At.of 0).cells
 a:Holds W g3 43 a.cells
 ge:w.heap.size<=g2
 ge2:w.heap.size<=g3
 ne:g2≠g3
theorem Jx.below{w W W':World}{g2 g3:Nat}{a:At}(h:Jx w W g2 g3 a)(hb:Below W.heap.size W W'):Jx w W' g2 g3 a:=
 ⟨h.bel.trans (hb.mono h.bel.size),h.z.below hb h.z.lt,h.a.below hb h.a.lt,h.ge,h.ge2,h.ne⟩
theorem Jx.set{w W:World}{g2 g3:Nat}{a a':At}(h:Jx w W g2 g3 a)(i:Nat)(v:Value)(hs:a.cells.set i v=a'.cells):Jx w (W.setCell ⟨g3,i,none⟩ v) g2 g3 a':=by have t:=(Touch.refl g3 W).setCell i v;exact⟨h.bel.trans (t.below h.ge2 h.bel.size),h.z.touch t h.ne,by rw[<-hs];exact h.a.set i v,h.ge,h.ge2,h.ne⟩
theorem Jx.MH{w W:World}{g2 g3:Nat}{a a':At}(h:Jx w W g2 g3 a)(he:a.cells=a'.cells):Jx w W g2 g3 a':=⟨h.bel,h.z,by rw[<-he];exact h.a,h.ge,h.ge2,h.ne⟩
set_option maxRecDepth 4000 in
theorem Nw(b off len cap:Nat)(S:Nat->At)(w:World)(hS:Bj w (some ⟨b,off,none⟩) len 8 λi=>(S i).cells)(hl:1<=len)(hlc:len<=cap)(hcm:cap<=9223372036854775807) :Calls prog 216 #[.slice (some ⟨b,off,none⟩) len cap] w λe w'=>e=.returned (.agg (DI S (len-1)).cells.toArray)/\Below w.heap.size w w':=by
 have HV:=qh hS;obtain⟨_,_,he,ao⟩:=hS.spot BJ;simp only[Option.some.injEq,Addr.mk.injEq] at he;obtain⟨rfl,rfl,_⟩:=he;clear hS;have ad:=qh (λW (hb:Below w.heap.size w W)=>by have:=HV.range hb (show 0<len by omega);simpa using this);obtain⟨R,hR⟩:∃R,R=DI S (len-1):=⟨_,rfl⟩;rw[<-hR];have Y:=qh hR;clear hR;go_in;go_upto_region 4 with(first|(refine wpList_load_mid rfl 43 _ rfl b off rfl _ _ (ad.o _ (by go_grown)) underlying43 rfl ND ?_)|(refine PZ rfl 43 _ _ rfl rfl _ _ (S 0).cells.toArray (w.heap.size+1) Vj rfl rfl ND ND (At.cells_one _) ?_));have ac:Jx w ((w.alloc (.cells #[AA 0,AA 0,AA 0,AA 0,AA 0,AA 0,AA 0,AA 0] 43)).alloc (.cells (S 0).cells.toArray 43)) w.heap.size (w.heap.size+1) (S 0):=by refine⟨by go_grown,Aw (AC w _ (At.of 0).cells) _,?_,Ve,BJ,BJ⟩;have:=AC (w.alloc (.cells (At.of 0).cells.toArray 43)) 43 (S 0).cells;rw[World.size_alloc] at this;exact this
 go_name_world W hW;rw[hW] at ac;clear hW ad;have f:=qh ac;clear ac;generalize w.heap.size=g at f;generalize g+1=g3 at f |-;by_cases h1:len=1
 .subst h1;by_cases ag:cap=1
  .subst ag;go_wp2_with fail;go_loopw [18] (λi wr=>i=AA 0/\Jx w wr g g3 (S 0)) (λ_ _=>0);case atStart=>exact⟨rfl,f.o⟩
   case round=>clear f;obtain⟨rfl,c⟩:=hrel;have f:=qh (show Jx w wr g g3 (DI S (1-1)) from c);clear c;have E:∃A:At,A=DI S (1-1)/\Jx w wr g g3 A:=⟨_,rfl,f.o⟩;clear f;obtain⟨A,m,c⟩:=E;have p:=qh (show R=A by rw[Y.o,m]);clear m;obtain⟨n,s,t,u,x,y,C,D⟩:=EE c.a 0 1 2 3 4 5 6 7;obtain⟨u0,u1,u2,u3,u4,u5,u6,u7⟩:=EE c.z 0 1 2 3 4 5 6 7;have H:=λi=>c.z.free i;have ai:=c.ne;have f:=qh c;clear c;go_wp2_with fail;clear n s t u x y C D u0 u1 u2 u3 u4 u5 u6 u7 H;have G:=((((((((Touch.refl g wr).setCell 0 (AA A.q)).setCell 1 (AA (A.d 0))).setCell 2 (AA (A.d 1))).setCell 3 (AA (A.d 2))).setCell 4 (AA (A.d 3))).setCell 5 (AA (A.d 4))).setCell 6 (AA (A.d 5))).setCell 7 (AA (A.d 6));have l:=((((((((f.z).set 0 (AA A.q)).set 1 (AA (A.d 0))).set 2 (AA (A.d 1))).set 3 (AA (A.d 2))).set 4 (AA (A.d 3))).set 5 (AA (A.d 4))).set 6 (AA (A.d 5))).set 7 (AA (A.d 6));simp only[At.cells,At.of,List.set_cons_succ,List.set_cons_zero] at l;have j:=f.bel.trans (G.below f.ge f.bel.size);generalize ((((((((wr.setCell ⟨g,0,none⟩ (AA A.q)).setCell ⟨g,1,none⟩ (AA (A.d 0))).setCell ⟨g,2,none⟩ (AA (A.d 1))).setCell ⟨g,3,none⟩ (AA (A.d 2))).setCell ⟨g,4,none⟩ (AA (A.d 3))).setCell ⟨g,5,none⟩ (AA (A.d 4))).setCell ⟨g,6,none⟩ (AA (A.d 5))).setCell ⟨g,7,none⟩ (AA (A.d 6)))=W3 at l j |-;obtain⟨I,J,K,L,M,N,O,P⟩:=EE l 0 1 2 3 4 5 6 7;exact bodyPost_ret (v:=.agg A.cells.toArray) (by simp[results,results216,go_sem,I,J,K,L,M,N,O,P,At.cells]) rfl ⟨by rw[p.o],j⟩
  .go_wp2_with fail;go_loopw [18] (λi wr=>i=AA 0/\Jx w wr g g3 (S 0)) (λ_ _=>0);case atStart=>exact⟨rfl,f.o⟩
   case round=>clear f;obtain⟨rfl,c⟩:=hrel;have f:=qh (show Jx w wr g g3 (DI S (1-1)) from c);clear c;have E:∃A:At,A=DI S (1-1)/\Jx w wr g g3 A:=⟨_,rfl,f.o⟩;clear f;obtain⟨A,m,c⟩:=E;have p:=qh (show R=A by rw[Y.o,m]);clear m;obtain⟨n,s,t,u,x,y,C,D⟩:=EE c.a 0 1 2 3 4 5 6 7;obtain⟨u0,u1,u2,u3,u4,u5,u6,u7⟩:=EE c.z 0 1 2 3 4 5 6 7;have H:=λi=>c.z.free i;have ai:=c.ne;have f:=qh c;clear c;go_wp2_with fail;clear n s t u x y C D u0 u1 u2 u3 u4 u5 u6 u7 H;have G:=((((((((Touch.refl g wr).setCell 0 (AA A.q)).setCell 1 (AA (A.d 0))).setCell 2 (AA (A.d 1))).setCell 3 (AA (A.d 2))).setCell 4 (AA (A.d 3))).setCell 5 (AA (A.d 4))).setCell 6 (AA (A.d 5))).setCell 7 (AA (A.d 6));have l:=((((((((f.z).set 0 (AA A.q)).set 1 (AA (A.d 0))).set 2 (AA (A.d 1))).set 3 (AA (A.d 2))).set 4 (AA (A.d 3))).set 5 (AA (A.d 4))).set 6 (AA (A.d 5))).set 7 (AA (A.d 6));simp only[At.cells,At.of,List.set_cons_succ,List.set_cons_zero] at l;have j:=f.bel.trans (G.below f.ge f.bel.size);generalize ((((((((wr.setCell ⟨g,0,none⟩ (AA A.q)).setCell ⟨g,1,none⟩ (AA (A.d 0))).setCell ⟨g,2,none⟩ (AA (A.d 1))).setCell ⟨g,3,none⟩ (AA (A.d 2))).setCell ⟨g,4,none⟩ (AA (A.d 3))).setCell ⟨g,5,none⟩ (AA (A.d 4))).setCell ⟨g,6,none⟩ (AA (A.d 5))).setCell ⟨g,7,none⟩ (AA (A.d 6)))=W3 at l j |-;obtain⟨I,J,K,L,M,N,O,P⟩:=EE l 0 1 2 3 4 5 6 7;exact bodyPost_ret (v:=.agg A.cells.toArray) (by simp[results,results216,go_sem,I,J,K,L,M,N,O,P,At.cells]) rfl ⟨by rw[p.o],j⟩
 .have ag:¬cap=1:=BJ
  go_wp2_with fail;go_loopw [18] (λi wr=>∃k:Nat,k<=len-1/\i=AA k/\Jx w wr g g3 (DI S k)) (λi _=>(len-1) - (intOf i).toNat);case atStart=>exact⟨0,BJ,rfl,f.o⟩
  case round=>
   clear f;obtain⟨k,hk,rfl,c⟩:=hrel;by_cases h2:k<len-1
   .have HJN:=qh (show DI S (k+1)=(DI S k).join (S (k+1)) from rfl);generalize DI S k=A at c HJN;have V:=HV.range c.bel (show k+1<len by omega);rw[show off+(k+1)*8=off+8+k*8 by omega] at V;generalize S (k+1)=B at V HJN;obtain⟨HR,f⟩:=WZ V c;clear V c;go_upto_region 7 with(first|(refine wpList_load_mid rfl 43 _ rfl b (off+8+k*8) rfl _ _ HR.o underlying43 rfl ND ?_)|(refine Ai rfl 43 _ _ rfl rfl _ _ B.cells.toArray rfl rfl ND ND (At.cells_one _) ?_));have T:=AC wr 43 B.cells;have F:Jx w (wr.alloc (.cells B.cells.toArray 43)) g g3 A:=f.below (by go_grown);have ah:¬wr.heap.size=g3:=by have:=f.a.lt;omega
    have am:¬g3=wr.heap.size:=λh=>ah h.symm;go_name_world W2 ae;rw[ae] at T F;clear ae HR f;generalize wr.heap.size=gb at T ah am |-;obtain⟨b0,j,b2,b3,b4,b5,b6,b7⟩:=EE T 0 1 2 3 4 5 6 7;have n:=Am F.a 0;have af:=F.a.free 0;have X:=qh (F.set (a':=IZ A B 0) 0 (AA (Vp A.q B.q)) (Vd A B).symm);clear F;have aa:=λq U W=>Ew B.d q U W;generalize aj:B.d 0=d0,hB1:B.d 1=d1,hB2:B.d 2=d2,hB3:B.d 3=d3,hB4:B.d 4=d4,hB5:B.d 5=d5,hB6:B.d 6=d6 at j b2 b3 b4 b5 b6 b7 aa;clear aj hB1 hB2 hB3 hB4 hB5 hB6;have HI:=qh aa;clear aa T;have al:(A.q<B.q/\Vp A.q B.q=B.q)\/(¬A.q<B.q/\Vp A.q B.q=A.q):=by
     by_cases h:A.q<B.q
     .exact .inl ⟨h,if_pos h⟩
     .exact .inr ⟨h,if_neg h⟩
    rcases al with⟨U,hm⟩|⟨U,hm⟩;all_goals
     rw[show Vp A.q B.q=max A.q B.q from by unfold Vp;split<;>omega] at X;clear hm;go_wp2_with fail;clear b0 j b2 b3 b4 b5 b6 b7 n af;go_loopw [30] (λr w4=>∃q:Nat,q<=7/\r=AA q/\Jx w w4 g g3 (IZ A B q)) (λr _=>7 - (intOf r).toNat);case atStart=>exact⟨0,BJ,rfl,X.o⟩
     case round=>
      clear X;obtain⟨q,U,rfl,c⟩:=hrel;by_cases Z:q<7
      .have hix:=HI.o q Z;have ak:=c.a.cell (1+q);rw[XV A B q Z] at ak;have an:=c.a.free (1+q);have Q:=qh (c.set (a':=IZ A B (q+1)) (1+q) (AA (Vp (A.d q) (B.d q))) (XW A B q Z));clear c;by_cases h4:A.d q<B.d q
       .rw[show Vp (A.d q) (B.d q)=max (A.d q) (B.d q) from by unfold Vp;split<;>omega] at Q;go_wp2_with fail;go_roundw;case rel=>exact⟨q+1,BJ,by go_num,Q.o⟩
        case measure=>simp[intOf];omega
       .rw[show Vp (A.d q) (B.d q)=max (A.d q) (B.d q) from by unfold Vp;split<;>omega] at Q;go_wp2_with fail;go_roundw;case rel=>exact⟨q+1,BJ,by go_num,Q.o⟩
        case measure=>simp[intOf];omega
      .have hq7:q=7:=BJ
       subst hq7;have ab:=c.MH (UW A B);rw[<-HJN.o] at ab;have f:=qh ab;clear ab;clear c;go_wp2_with fail;go_roundw;case rel=>exact⟨k+1,BJ,by go_num,f.o⟩
       case measure=>simp[intOf];omega
   .have hkl:k=len-1:=BJ
    subst hkl;have f:=qh c;clear c;have E:∃A:At,A=DI S (len-1)/\Jx w wr g g3 A:=⟨_,rfl,f.o⟩;clear f;obtain⟨A,m,c⟩:=E;have p:=qh (show R=A by rw[Y.o,m]);clear m;obtain⟨n,s,t,u,x,y,C,D⟩:=EE c.a 0 1 2 3 4 5 6 7;obtain⟨u0,u1,u2,u3,u4,u5,u6,u7⟩:=EE c.z 0 1 2 3 4 5 6 7;have H:=λi=>c.z.free i;have ai:=c.ne;have f:=qh c;clear c;go_wp2_with fail;clear n s t u x y C D u0 u1 u2 u3 u4 u5 u6 u7 H;have G:=((((((((Touch.refl g wr).setCell 0 (AA A.q)).setCell 1 (AA (A.d 0))).setCell 2 (AA (A.d 1))).setCell 3 (AA (A.d 2))).setCell 4 (AA (A.d 3))).setCell 5 (AA (A.d 4))).setCell 6 (AA (A.d 5))).setCell 7 (AA (A.d 6));have l:=((((((((f.z).set 0 (AA A.q)).set 1 (AA (A.d 0))).set 2 (AA (A.d 1))).set 3 (AA (A.d 2))).set 4 (AA (A.d 3))).set 5 (AA (A.d 4))).set 6 (AA (A.d 5))).set 7 (AA (A.d 6));simp only[At.cells,At.of,List.set_cons_succ,List.set_cons_zero] at l;have j:=f.bel.trans (G.below f.ge f.bel.size);generalize ((((((((wr.setCell ⟨g,0,none⟩ (AA A.q)).setCell ⟨g,1,none⟩ (AA (A.d 0))).setCell ⟨g,2,none⟩ (AA (A.d 1))).setCell ⟨g,3,none⟩ (AA (A.d 2))).setCell ⟨g,4,none⟩ (AA (A.d 3))).setCell ⟨g,5,none⟩ (AA (A.d 4))).setCell ⟨g,6,none⟩ (AA (A.d 5))).setCell ⟨g,7,none⟩ (AA (A.d 6)))=W3 at l j |-;obtain⟨I,J,K,L,M,N,O,P⟩:=EE l 0 1 2 3 4 5 6 7;exact bodyPost_ret (v:=.agg A.cells.toArray) (by simp[results,results216,go_sem,I,J,K,L,M,N,O,P,At.cells]) rfl ⟨by rw[p.o],j⟩
end
end Go.Proofs.YtimdpiifpibgfaaGreatDoor
