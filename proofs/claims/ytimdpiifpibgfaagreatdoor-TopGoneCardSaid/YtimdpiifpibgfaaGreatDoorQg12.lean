/- A part of the proof that the law TopGone returns true for every input. -/
import Derived.Deep.DeepMust
import Derived.Lib.AppendStr
import Derived.Test.YtimdpiifpibgfaaGreatDoorQg9
set_option linter.all false
set_option maxRecDepth 20000
set_option maxHeartbeats 16000000
open Go.RowKit
namespace Go.Proofs.YtimdpiifpibgfaaGreatDoor
open Tryz
inductive Ph where
 | fresh|lead (A:List Nat) (tk:Nat)|pre (k:Nat)|prom (p:Nat)|prep (S:List Nat)|accl (A:List Nat)|acc|com|gone
 deriving DecidableEq
def bnd:Ph→Nat
 | .fresh=>0
 | .lead _ _=>1
 | .pre _=>1
 | .prom _=>2
 | .prep _=>2
 | .accl _=>3
 | .acc=>3
 | .com=>4
 | .gone=>0
def BG:Ph→Bool
 | .com=>true
 | _=>false
def Cb:Ph→Bool
 | .lead _ _=>true
 | _=>false
def CW:Ph→Nat
 | .fresh=>300
 | .lead _ _=>800
 | .pre _=>800
 | .prom _=>1300
 | .prep _=>1300
 | .accl _=>1800
 | .acc=>1800
 | .com=>2300
 | .gone=>0
abbrev Lt:=Nat × Nat × Nat
structure Cs where
 phs:List Ph
 tks:List Nat
 lets:List Lt
 hist:Nat
 wait:Bool
 tg:Nat
 ct:Nat
 deriving DecidableEq
def Dv(n q:Nat):List Nat:=(List.range (n-1)).map λi=>if i<q then i else i+1
def Bq(k n q:Nat):List Lt:=(Dv n q).map λr=>(k,q,r)
def far(n q i:Nat):Nat:=(i+n-q) % n
def DK(n:Nat):Cs:=⟨List.replicate n .fresh,List.replicate n 0,[],0,false,0,0⟩
def G5(n q:Nat):Cs:=⟨(List.replicate n Ph.fresh).set q (.lead [] 0),List.replicate n 0,Bq 1 n q,1,true,q,0⟩
def Kr(n q:Nat)(ph:Ph)(m:Lt):Option (Ph × List Lt × Bool):=
 if m.2.1=m.2.2∨n≤m.2.1∨n≤m.2.2 then none else
 match m.1,ph with
 | 1,.fresh=>if m.2.1=q then some (.pre 0,[(2,m.2.2,q)],false) else none
 | 2,.lead A tk=>if m.2.1∈A∨5<A.length then none else if n≤A.length+3 then some (.com,Bq 5 n q,true) else some (.lead (m.2.1 :: A) tk,[],false)
 | 2,.com=>if m.2.2=q then some (.com,[],false) else none
 | 5,.pre _=>some (.com,[],false)
 | 5,.acc=>some (.com,[],false)
 | 6,.pre (k+1)=>some (.prom m.2.1,[(7,m.2.2,m.2.1)],false)
 | 7,.prep S=>if m.2.1∈S∨5<S.length∨m.2.1=q then none else if S.length+2<n / 2+1 then some (.prep (m.2.1 :: S),[],false) else some (.accl [],Bq 3 n m.2.2,false)
 | 7,.accl A=>if m.2.1∈A then none else some (.accl A,[],false)
 | 7,.com=>some (.com,[],false)
 | 3,.prom p=>if m.2.1=p then some (.acc,[(4,m.2.2,p)],false) else none
 | 4,.accl A=>if m.2.1∈A∨5<A.length then none else if A.length+2<n / 2+1 then some (.accl (m.2.1 :: A),[],false) else some (.com,Bq 5 n m.2.2,false)
 | 4,.com=>some (.com,[],false)
 | 9,.pre k=>some (.pre k,[],false)
 | 9,.com=>some (.com,[],false)
 | 11,.pre k=>some (.pre k,[],false)
 | 11,.com=>some (.com,[],false)
 | 12,.com=>some (.com,[],false)
 | _,_=>none
def L9(s:Cs)(rest:List Lt)(i:Nat)(ph:Ph)(out:List Lt)(an:Bool):Option Cs:=
 if 1000≤rest.length+out.length then none else
 if an then (if s.wait=true∧s.hist=1 then some { s with phs:=s.phs.set i ph,lets:=rest++out,hist:=2,wait:=false } else none)
 else some { s with phs:=s.phs.set i ph,lets:=rest++out }
def IR(n q:Nat)(s:Cs):Option Cs:=
 match s.lets with
 | []=>none
 | m :: rest=>if s.phs.getD m.2.2 .fresh=.gone then (if m.2.2<n then some { s with lets:=rest } else none)
  else (Kr n q (s.phs.getD m.2.2 .fresh) m).bind λr=>L9 s rest m.2.2 r.1 r.2.1 r.2.2
def fronts(n i:Nat)(dn:Bool):List Lt:=(Dv n i).flatMap λr=>[(9,i,r),(if dn then 12 else 11,i,r)]
def Iu(n q i:Nat)(ph:Ph)(tk:Nat):Option (Ph × List Lt):=
 match ph with
 | .fresh=>if tk=7 then none else some (.fresh,[])
 | .lead A 0=>if tk=7 then none else some (.lead A 1,[])
 | .pre 0=>if tk=7 then none else some (.pre 1,[])
 | .pre (k+1)=>if k+2<12+6*far n q i then some (.pre (k+2),if tk=7 then fronts n i false else []) else if tk=7∨i=q∨90<k then none else some (.prep [],Bq 6 n i)
 | .com=>some (.com,if tk=7 then fronts n i true else [])
 | _=>none
def QD(n q i:Nat)(s:Cs):Option Cs:=
 if s.phs.getD i .fresh=.gone then some s else
 (Iu n q i (s.phs.getD i .fresh) (s.tks.getD i 0)).bind λr=>
  L9 { s with tks:=s.tks.set i ((s.tks.getD i 0+1) % 8) } s.lets i r.1 r.2 false
def J3(q:Nat)(s:Cs):Cs:={ s with phs:=s.phs.set q .gone }
def QE(n:Nat)(s:Cs):Option Cs:=
 if s.wait=false then some s
 else if (s.ct+1) % 20=0 then
  (match s.phs.getD ((s.tg+1) % n) .fresh with
   | .gone=>some { s with ct:=s.ct+1,tg:=(s.tg+1) % n }
   | .com=>if s.hist=1 then some { s with ct:=s.ct+1,tg:=(s.tg+1) % n,hist:=2,wait:=false } else none
   | _=>none)
 else some { s with ct:=s.ct+1 }
def E8(n q:Nat):Nat→Cs→Option Cs
 | 0,s=>some s
 | k+1,s=>(E8 n q k s).bind (QD n q k)
def ML(n q:Nat):Nat→Cs→Option Cs
 | 0,s=>if s.lets=[] then some s else none
 | k+1,s=>if s.lets=[] then some s else (IR n q s).bind (ML n q k)
def Ko(n q:Nat)(s:Cs):Option Cs:=((E8 n q n s).bind (ML n q 400)).bind (QE n)
def Cf(n q:Nat):Nat→Cs→Option Cs
 | 0,s=>some s
 | k+1,s=>(Cf n q k s).bind (Ko n q)
def giveUp(n q:Nat):Nat→Cs→Option Cs
 | 0,s=>some s
 | k+1,s=>(giveUp n q k s).bind λs=>if s.lets=[] then some s else IR n q s
def Aw(w:World)(B:Nat)(v:Value)(n:Nat):Prop:=∃bs:List Nat,bs.length=n∧((∀x∈bs,x<256)∧n≤281474976710656)∧w.ownsRow B 5 1 v n (Ah bs)
def CO(w:World)(v:Value)(n:Nat):Prop:=∃p c bs,v=.slice p n c∧(p=none→c=0)∧n≤c∧c≤maxLen∧Bo w p n bs
theorem CO.below{w w':World}{v:Value}{n:Nat}(h:CO w v n)(hb:Below w.heap.size w w'):CO w' v n:=by obtain⟨p,c,bs,rfl,h1,h2,h3,h4⟩:=h;exact⟨p,c,bs,rfl,h1,h2,h3,h4.below hb⟩
theorem Aw.below{w w':World}{B:Nat}{v:Value}{n:Nat}(h:Aw w B v n)(hb:Below w.heap.size w w'):Aw w' B v n:=by obtain⟨bs,h1,h2,h3⟩:=h;exact⟨bs,h1,h2,Dq h3 hb⟩
theorem Aw.mono{w:World}{B B':Nat}{v:Value}{n:Nat}(h:Aw w B v n)(hb:B'≤B):Aw w B' v n:=by obtain⟨bs,h1,h2,h3,h4⟩:=h;exact⟨bs,h1,h2,h3,h4.imp id λ⟨g,cap,cur,e1,e2,e3⟩=>⟨g,cap,cur,e1,Nat.le_trans hb e2,e3⟩⟩
theorem Aw.Gj{w:World}{B:Nat}{v:Value}{n:Nat}(h:Aw w B v n):CO w v n:=by
 obtain⟨bs,h1,⟨h2,h48⟩,h3,h4⟩:=h;rcases h4 with⟨rfl,rfl⟩|⟨g,cap,cur,rfl,hg,hh,hc,hm,hs,ht⟩
 ·exact⟨none,0,[],rfl,λ_=>rfl,Nat.le_refl _,Nat.zero_le _,Bo.nil _ _⟩
 ·refine⟨_,cap,bs,rfl,(λh=>by cases h),hc,hm,h1,h48,h2,λ_=>⟨g,0,rfl,(Array.getElem?_eq_some_iff.1 hh).1,λi hi=>?_⟩⟩;have hcell:w.cell? ⟨g,0+i,none⟩=cur.toList[i]?:=by rw[Nat.zero_add];have:Holds w g 5 cur.toList:=hh;exact this.cell i
  have h5:cur.toList[i]?=(Ah bs)[i]?:=by rw[←ht,List.getElem?_take_of_lt (by omega)]
  rw[hcell,h5,FX bs i (by omega)]
theorem CO.nil(w:World):CO w (.slice none 0 0) 0:=⟨none,0,[],rfl,λ_=>rfl,Nat.le_refl _,Nat.zero_le _,Bo.nil _ _⟩
theorem CO.shape{w:World}{v:Value}{n:Nat}(h:CO w v n):∃p c,v=.slice p n c:=by obtain⟨p,c,_,rfl,_⟩:=h;exact⟨p,c,rfl⟩
theorem Aw.shape{w:World}{B:Nat}{v:Value}{n:Nat}(h:Aw w B v n):∃p c,v=.slice p n c:=h.Gj.shape
theorem MM(v:Value)(len n:Nat)(w:World)(h:CO w v len)(hl:len≤1000000000)(hn:n≤1000000) :Calls prog 200 #[v,.int .i64 n] w λe w'=>∃v',e=.returned v'∧Aw w' w.heap.size v' len∧Below w.heap.size w w':=by obtain⟨a,cap,bs,rfl,hnil,hc,hm,hb⟩:=h;have hlen:=hb.len;have HBS:=qh hb;clear hb;have HNIL:=qh hnil;clear hnil;unfold maxLen at hm;go_in;go_upto_region 1 with(fail);go_wp2_with (first|(at_make;refine Fg w rfl (.const (.int .i64 0)) (.tmp 8) 127 rfl 5 (.int .u8 0) 1 rfl (by kernel_rfl) rfl .i64 .i64 _ _ 0 (len+n) rfl rfl rfl (by push_cast;rfl) (by omega) (by omega) (by unfold maxLen;omega) ?_;intro w1 hh1 hb1 hs1;have HO1:=qh (made_owns w.heap.size (Nat.le_refl _) hh1 (by unfold maxLen;omega)))|(at_builtin;refine Ak rfl (.tmp 9) (.tmp 10) 127 rfl w.heap.size 5 (.int .u8 0) 1 1 rfl (by kernel_rfl) rfl (by decide) _ 0 [] rfl HO1.o a len cap (Ah bs) rfl (by rw[BO,hlen,Nat.mul_one]) (HBS.reads.below hb1) HNIL.o (EK bs) (by unfold maxLen;omega) (by omega) (by omega) ?_;intro v2 w2 ho2 hb2 _;have HO2:=qh ho2;clear ho2));have HB:=qh (hb1.trans hb2);clear hh1 hb1 hs1 hb2 HO1;go_ret;have h1:=HO2.o;rw[Nat.zero_add,List.nil_append] at h1;exact⟨_,rfl,⟨bs,hlen,⟨HBS.2.2.1,by omega⟩,h1⟩,HB.o⟩
theorem iM(q:Nat):∃x:Nat,x<256∧bits BinOp.or IntKind.u8 ((q:Int) % 256) 128=(x:Int):=by
 refine⟨(q % 256) ||| 128,Nat.or_lt_two_pow (n:=8) (by omega) (by omega),?_⟩;rw[←u8_or_nat (q % 256) 128 (by omega) (by omega)];push_cast
 rfl
theorem U9(B:Nat)(v:Value)(len:Nat)(n:Int)(w:World)(h:Aw w B v len)(hB:B≤w.heap.size)(hl:len≤1000000000)(hn:-9223372036854775808≤n∧n≤9223372036854775807) :Calls prog 207 #[v,.int .i64 n] w λe w'=>∃v' m,e=.returned v'∧len+1≤m∧m≤len+10∧Aw w' B v' m∧Below B w w':=by
 have HO:=qh h;clear h;have HZ:=qh (λW=>aQ n W hn);have hz:WordP.zig n<2 ^ 64:=by unfold WordP.zig;split<;>omega
 generalize WordP.zig n=z at HZ hz;go_in;go_wp2_with fail;refine AY (HZ.o _) ?_;rintro w1 hb1;have HO:=qh (HO.below hb1);have HB1:=qh (show Below B w w1 from hb1.mono hB);have hB1:B≤w1.heap.size:=Nat.le_trans hB hb1.size;clear HZ hb1;go_wp2_with fail;go_loopw [0,5] (λvb vu wr=>∃(j q:Nat),j≤9∧vu=.int .u64 q∧q<2 ^ (64-7*j)∧Aw wr B vb (len+j)∧Below B w wr∧B≤wr.heap.size) (λ_ vu _=>(intOf vu).toNat);case atStart=>exact⟨0,z,by omega,rfl,hz,HO.o,HB1.o,hB1⟩
 case round=>
  clear HO HB1 hB1 hz;obtain⟨j,q,hj,rfl,hq,ho,hbe,hBr⟩:=hrel;have HBE:=qh hbe;clear hbe;obtain⟨bs,hbl,⟨hb8,_⟩,hown⟩:=ho;have HO:=qh hown;have HB8:=qh hb8;have HBL:=qh hbl;clear hown hb8 hbl;have HQ:=qh hq;clear hq;by_cases h128:128≤q
  ·obtain⟨x,hx,hxo⟩:=iM q;have HX:=qh hx;clear hx;go_upto_region 3 with(fail);go_wp2_with (at_builtin;refine Ak rfl (.tmp 10) (.tmp 14) 127 rfl B 5 (.int .u8 0) 1 1 rfl (by kernel_rfl) rfl (by decide) _ (len+j) (Ah bs) rfl (Dq HO.o (by go_grown)) (some ⟨wr.heap.size,0,none⟩) 1 1 [.int .u8 (x:Int)] rfl rfl ((AA wr _ _).reads 0 _ (λj v hv=>by simpa using hv)) (by intro h;cases h) (by simp[Value.oneCell']) (by unfold maxLen;omega) (by omega) (by simp;omega) ?_;intro v3 w3 ho3 hb3 _;have HO3:=qh ho3;clear ho3);go_roundw;case rel=>
    have hq:=HQ.o;have hj8:j≤8:=by
     by_cases h9:j=9
     ·subst h9;simp at hq;omega
     ·omega
    refine⟨j+1,q / 128,by omega,by simp,?_,⟨bs++[x],by have:=HBL.o;simp;omega,⟨λy hy=>?_,by omega⟩,?_⟩,HBE.trans ((show Below B wr _ from(show Below wr.heap.size wr _ by go_grown).mono hBr).trans hb3),?_⟩
    ·have he:2 ^ (64-7*j)=2 ^ (64-7*(j+1))*128:=by rw[show 64-7*j=64-7*(j+1)+7 by omega,Nat.pow_add]
     rw[he] at hq;exact Nat.div_lt_of_lt_mul (by rw[Nat.mul_comm];exact hq)
    ·rcases List.mem_append.1 hy with hy|hy
     ·exact HB8.o y hy
     ·rw[List.mem_singleton.1 hy];exact HX.o
    ·have:=HO3.o;simpa[Ah,Nat.add_assoc] using this
    ·have:=hb3.size;simp at this;omega
   case measure=>simp[intOf];omega
  ·go_upto_region 5 with(fail);go_wp2_with (at_builtin;refine Ak rfl (.tmp 18) (.tmp 21) 127 rfl B 5 (.int .u8 0) 1 1 rfl (by kernel_rfl) rfl (by decide) _ (len+j) (Ah bs) rfl (Dq HO.o (by go_grown)) (some ⟨wr.heap.size,0,none⟩) 1 1 [.int .u8 (q:Int)] rfl rfl ((AA wr _ _).reads 0 _ (λj v hv=>by simpa using hv)) (by intro h;cases h) (by simp[Value.oneCell']) (by unfold maxLen;omega) (by omega) (by simp;omega) ?_;intro v3 w3 ho3 hb3 _;have HO3:=qh ho3;clear ho3);go_ret;refine⟨_,len+j+1,rfl,by omega,by omega,⟨bs++[q],by have:=HBL.o;simp;omega,⟨λy hy=>?_,by omega⟩,?_⟩,HBE.trans ((show Below B wr _ from(show Below wr.heap.size wr _ by go_grown).mono hBr).trans hb3)⟩
   ·rcases List.mem_append.1 hy with hy|hy
    ·exact HB8.o y hy
    ·rw[List.mem_singleton.1 hy];omega
   ·have:=HO3.o;simpa[Ah,Nat.add_assoc] using this
theorem Ho(v:Value)(len:Nat)(n:Int)(w:World)(h:CO w v len)(hl:len≤1000000)(hn:-9223372036854775808≤n∧n≤9223372036854775807) :Calls prog 124 #[v,.int .i64 n] w λe w'=>∃v' m,e=.returned v'∧len+1≤m∧m≤len+10∧Aw w' w.heap.size v' m∧Below w.heap.size w w':=by have HG:=qh (MM v len 10 w h (by omega) (by omega));have HN:=qh (λv' W (h:Aw W w.heap.size v' len) hB=>U9 w.heap.size v' len n W h hB (by omega) hn);clear h;go_in;go_wp2_with fail;refine HG.mono ?_;rintro e w1 ⟨v1,rfl,ho1,hb1⟩;have HO:=qh ho1;have HB:=qh hb1;clear ho1 hb1;go_wp2_with fail;refine(HN.o _ _ HO.o HB.size).mono ?_;rintro e w2 ⟨v2,m,rfl,h1,h2,ho2,hb2⟩;have HO:=qh ho2;have HB:=qh (HB.trans hb2);clear ho2 hb2;go_wp2_with fail;go_ret;exact⟨_,m,rfl,h1,h2,HO.o,HB.o⟩
theorem WU(v:Value)(len:Nat)(t:ByteArray)(w:World)(h:CO w v len)(hl:len≤1000000)(ht:t.size≤1000) :Calls prog 232 #[v,.string t] w λe w'=>∃v' m,e=.returned v'∧len+1≤m∧m≤len+10+t.size∧Aw w' w.heap.size v' m∧Below w.heap.size w w':=by
 have HG:=qh (MM v len (10+t.size) w h (by omega) (by omega));have HN:=qh (λv' W (h:Aw W w.heap.size v' len) hB=>U9 w.heap.size v' len (t.size:Int) W h hB (by omega) (by omega));clear h;have hw:IntKind.i64.wrap (10+(t.size:Int))=10+(t.size:Int):=IntWalk.i64_in _ (by omega);go_in;go_wp2_with fail;rw[show (10:Int)+(t.size:Int)=((10+t.size:Nat):Int) by push_cast;rfl];refine HG.mono ?_;rintro e w1 ⟨v1,rfl,ho1,hb1⟩;have HO:=qh ho1;have HB:=qh hb1;clear ho1 hb1;go_wp2_with fail;refine(HN.o _ _ HO.o HB.size).mono ?_;rintro e w2 ⟨v2,m,rfl,h1,h2,ho2,hb2⟩;have HB:=qh (HB.trans hb2);obtain⟨bs,hbl,⟨hb8,_⟩,hown⟩:=ho2;have HO:=qh hown;clear hown hb2;obtain⟨i8,hi8,hz8,hs8,hy8⟩:=info_parts (P:=prog) (e:=5) (z:=.int .u8 0) (size:=1) (bytes:=1) (by kernel_rfl);have hle:=HB.size;go_wp2_with (at_builtin;refine Lib.wpList_append_own_string w2 rfl (.tmp 12) (.tmp 13) 127 9 rfl w.heap.size 5 i8 (by kernel_rfl) (by kernel_rfl) hi8 hz8 hs8 hy8 _ m (Ah bs) rfl HO.o t rfl (by unfold maxLen;omega) (by omega) hle ?_;intro v3 w3 ho3 hg3 _);have HB3:=qh (HB.grown hg3 hle λk hk=>(HO.lt k hk).1);have HO3:=qh ho3;clear ho3 hg3;go_ret;refine⟨_,m+t.size,rfl,by omega,by omega,⟨bs++t.data.toList.map (·.toNat),by simp;omega,⟨λy hy=>?_,by omega⟩,?_⟩,HB3.o⟩
 ·rcases List.mem_append.1 hy with hy|hy
  ·exact hb8 y hy
  ·obtain⟨z,_,rfl⟩:=List.mem_map.1 hy;exact z.toNat_lt
 ·have:=HO3.o;rw[show Ah (bs++t.data.toList.map (·.toNat))=Ah bs++Lib.strCells t from by simp[Ah,Lib.strCells]];exact this
theorem WR(v:Value)(len:Nat)(b:Bool)(w:World)(h:CO w v len)(hl:len≤1000000) :Calls prog 231 #[v,.bool b] w λe w'=>∃v',e=.returned v'∧Aw w' w.heap.size v' (len+1)∧Below w.heap.size w w':=by
 have HG:=qh (MM v len 1 w h (by omega) (by omega));clear h;go_in;cases b
 ·go_wp2_with fail;refine HG.mono ?_;rintro e w1 ⟨v1,rfl,ho1,hb1⟩;obtain⟨bs,hbl,⟨hb8,_⟩,hown⟩:=ho1;have HO:=qh hown;have HB:=qh hb1;clear hown hb1;have hle:=HB.size;go_wp2_with (at_builtin;refine Ak rfl (.tmp 11) (.tmp 12) 127 rfl w.heap.size 5 (.int .u8 0) 1 1 rfl (by kernel_rfl) rfl (by decide) _ len (Ah bs) rfl (Dq HO.o (by go_grown)) (some ⟨w1.heap.size,0,none⟩) 1 1 [.int .u8 0] rfl rfl ((AA w1 _ _).reads 0 _ (λj v hv=>by simpa using hv)) (by intro h;cases h) (by simp[Value.oneCell']) (by unfold maxLen;omega) (by omega) (by simp;omega) ?_;intro v3 w3 ho3 hb3 _;have HO3:=qh ho3;clear ho3);go_ret;refine⟨_,rfl,⟨bs++[0],by simp;omega,⟨λy hy=>?_,by omega⟩,?_⟩,HB.trans ((show Below w.heap.size w1 _ from(show Below w1.heap.size w1 _ by go_grown).mono hle).trans hb3)⟩
  ·rcases List.mem_append.1 hy with hy|hy
   ·exact hb8 y hy
   ·rw[List.mem_singleton.1 hy];omega
  ·have:=HO3.o;simpa[Ah] using this
 ·go_wp2_with fail;refine HG.mono ?_;rintro e w1 ⟨v1,rfl,ho1,hb1⟩;obtain⟨bs,hbl,⟨hb8,_⟩,hown⟩:=ho1;have HO:=qh hown;have HB:=qh hb1;clear hown hb1;have hle:=HB.size;go_wp2_with (at_builtin;refine Ak rfl (.tmp 7) (.tmp 8) 127 rfl w.heap.size 5 (.int .u8 0) 1 1 rfl (by kernel_rfl) rfl (by decide) _ len (Ah bs) rfl (Dq HO.o (by go_grown)) (some ⟨w1.heap.size,0,none⟩) 1 1 [.int .u8 1] rfl rfl ((AA w1 _ _).reads 0 _ (λj v hv=>by simpa using hv)) (by intro h;cases h) (by simp[Value.oneCell']) (by unfold maxLen;omega) (by omega) (by simp;omega) ?_;intro v3 w3 ho3 hb3 _;have HO3:=qh ho3;clear ho3);go_ret;refine⟨_,rfl,⟨bs++[1],by simp;omega,⟨λy hy=>?_,by omega⟩,?_⟩,HB.trans ((show Below w.heap.size w1 _ from(show Below w1.heap.size w1 _ by go_grown).mono hle).trans hb3)⟩
  ·rcases List.mem_append.1 hy with hy|hy
   ·exact hb8 y hy
   ·rw[List.mem_singleton.1 hy];omega
  ·have:=HO3.o;simpa[Ah] using this
theorem Dx(w:World):Calls prog 135 #[.agg #[.int .i64 0,.int .i64 0]] w λe w'=>e=.returned (.bool true)∧Below w.heap.size w w':=by go_in;go_wp2_with fail;go_ret;exact⟨rfl,by go_grown⟩
theorem Jz(w:World):Calls prog 155 #[.agg #[.int .i64 0,.int .i64 0],.agg #[.int .i64 0,.int .i64 0]] w λe w'=>e=.returned (.bool false)∧Below w.heap.size w w':=by go_in;go_wp2_with fail;go_ret;exact⟨rfl,by go_grown⟩
theorem BN(w:World):Calls prog 115 #[.agg #[.int .i64 0,.int .i64 0,.int .i64 0,.int .i64 0,.int .i64 0,.int .i64 0,.int .i64 0,.int .i64 0]] w λe w'=>e=.returned (.bool true)∧Below w.heap.size w w':=by have:=GX 0 (λ_=>0) w rfl;rw[show FrontP.right (λ_=>0)=true from by decide] at this;exact this
def cellL(st:Int)(c:Cm)(sm:Bool):List Value:=[.int .i64 st,.int .i64 0,.int .i64 0,.int .i64 0,.int .i64 0,.int .i64 c.k,.int .i64 c.c,.int .i64 c.s,.string c.a,.string c.b,.string c.o,.string c.v,.int .i64 0,.int .i64 0,.int .i64 0,.int .i64 0,.int .i64 0,.int .i64 0,.int .i64 0,.int .i64 0,.bool sm]
theorem UI(w:World):(binOp .neq 39 (.agg #[.int .i64 0,.int .i64 0]) (.agg #[.int .i64 0,.int .i64 0])).run prog w=.ok (.bool false) w:=by go_simp
structure CU(c:Cm):Prop where
 right:DV c.k c.c c.s c.a c.b c.o c.v=true
 kk:1≤c.k∧c.k≤5
 cc:1≤c.c∧c.c≤8
 ss:1≤c.s∧c.s≤1099511627776
 aa:c.a.size≤64
 bb:c.b.size≤64
 oo:c.o.size≤64
 vv:c.v.size≤64
theorem Yn(v:Value)(len:Nat)(c:Cm)(w:World)(h:CO w v len)(hl:len≤500000)(hc:CU c) :Calls prog 287 #[v,.agg #[.int .i64 c.k,.int .i64 c.c,.int .i64 c.s,.string c.a,.string c.b,.string c.o,.string c.v]] w λe w'=>∃v' m,e=.returned v'∧len+1≤m∧m≤len+300∧Aw w' w.heap.size v' m∧Below w.heap.size w w':=by
 have KN:=qh (λv len n W (h:CO W v len) (hl:len≤1000000)=>Ho v len n W h hl);have KT:=qh (λv len t W (h:CO W v len) (hl:len≤1000000)=>WU v len t W h hl);have KR:=qh (λW=>by have:=EF c.k c.c c.s c.a c.b c.o c.v W;rw[hc.right] at this;exact this);obtain⟨_,⟨hk1,hk5⟩,⟨hc1,hc8⟩,⟨hs1,hs2⟩,ha,hb,ho,hv⟩:=hc;have HV:=qh h;clear h;go_in;go_wp2_with fail;have HX:=qh (show Holds (w.alloc (.cells ([.int .i64 c.k,.int .i64 c.c,.int .i64 c.s,.string c.a,.string c.b,.string c.o,.string c.v]:List Value).toArray 23)) w.heap.size 23 [.int .i64 c.k,.int .i64 c.c,.int .i64 c.s,.string c.a,.string c.b,.string c.o,.string c.v] from AA w _ _);have HB:=qh (show Below w.heap.size w (w.alloc (.cells ([.int .i64 c.k,.int .i64 c.c,.int .i64 c.s,.string c.a,.string c.b,.string c.o,.string c.v]:List Value).toArray 23)) by go_grown);refine AY (KR.o _) ?_;rintro W1 hb1;have HX:=qh (AC HX.o hb1);have HB:=qh (AB HB.o hb1);have HV:=qh (HV.below HB.o);clear hb1;have x0:=HX.cell 0;simp only[List.getElem?_cons_zero] at x0;have hk0:(c.k==0)=false:=by simp;omega
 go_wp2_with fail;refine(KN.o _ len _ _ HV.o (by omega) (by omega)).mono ?_;rintro e W ⟨v0,m0,rfl,lo0,hi0,ho0,hb0⟩;have HX:=qh (AC HX.o hb0);have HB:=qh (AB HB.o hb0);have HV:=qh ho0.Gj;clear ho0 hb0 x0;have x0:=HX.cell 0;simp only[List.getElem?_cons_zero] at x0;go_upto_region 6 with(fail);clear x0;have HX:=qh (show Holds W.drew w.heap.size 23 [.int .i64 c.k,.int .i64 c.c,.int .i64 c.s,.string c.a,.string c.b,.string c.o,.string c.v] from HX.o);have HV:=qh (show CO W.drew v0 m0 from HV.below (AP _ _));refine EC [] 11 (λhSn=>?_);simp only[List.replicate];refine FD 0 ?_;refine BA 2 [] (λw hSw=>ED (AC HX.o hSw) 0 1 2 3 4 5 6) ?_;refine CS 4 ?_;refine BA 5 [] (λw hSw=>ED (AC HX.o hSw) 0 1 2 3 4 5 6) ?_;refine CS 7 ?_;refine BA 8 [] (λw hSw=>ED (AC HX.o hSw) 0 1 2 3 4 5 6) ?_;refine BC 3 rfl (λK hK=>?_);go_simp;refine(KN.o _ m0 _ _ HV.o (by omega) (by omega)).mono ?_;rintro e w1 ⟨v1,m1,rfl,lo1,hi1,ho1,hb1⟩;have HO1:=qh (Aw.mono (B':=W.heap.size) ho1 hSn.size);have hSn:=AB hSn hb1;clear ho1 hb1;refine BJ hK ?_;clear hK;refine BC 6 rfl (λK hK=>?_);go_simp;refine(KN.o _ _ _ _ HO1.Gj (by omega) (by omega)).mono ?_;rintro e w2 ⟨v2,m2,rfl,lo2,hi2,ho2,hb2⟩;have HO2:=qh (Aw.mono (B':=W.heap.size) ho2 hSn.size);have hSn:=AB hSn hb2;clear ho2 hb2;refine BJ hK ?_;clear hK;refine BC 9 rfl (λK hK=>?_);go_simp;refine(KT.o _ _ _ _ HO2.Gj (by omega) (by omega)).mono ?_;rintro e w3 ⟨v3,m3,rfl,lo3,hi3,ho3,hb3⟩;have HO3:=qh (Aw.mono (B':=W.heap.size) ho3 hSn.size);have hSn:=AB hSn hb3;clear ho3 hb3;refine BJ hK ?_;clear hK;refine CS 10 ?_;refine DX ?_;have HX:=qh (AC HX.o hSn);have HB3:=qh (show Below w.heap.size w w3 from HB.trans ((AB (AP W.heap.size W) hSn).mono HB.size));have HO:=qh (HO3.mono (B':=w.heap.size) HB.size);clear hSn HO1 HO2 HO3 HV hk0 HB;obtain⟨x0,x4,x5,x6⟩:=eU HX.o 0 4 5 6;have hkk:c.k=2∨((c.k==2)=false∧c.k=4)∨((c.k==2)=false∧(c.k==4)=false∧c.k=5)∨((c.k==2)=false∧(c.k==4)=false∧(c.k==5)=false):=by simp only[beq_eq_false_iff_ne,ne_eq];omega
 generalize hck:c.k=ck at x0 hkk;rcases hkk with rfl|⟨h2,rfl⟩|⟨h2,h4,rfl⟩|⟨h2,h4,h5⟩
 ·go_wp2_with fail;refine(KT.o _ m3 _ _ HO.Gj (by omega) (by omega)).mono ?_;rintro e w4 ⟨v4,m4,rfl,lo4,hi4,ho4,hb4⟩;have HO:=qh (ho4.mono (B':=w.heap.size) HB3.size);have HB4:=qh (AB HB3.o hb4);clear ho4 hb4 x0 x4 x5 x6;go_wp2_with fail;go_ret;exact⟨_,m4,rfl,by omega,by omega,HO.o,HB4.o⟩
 ·go_upto_region 11 with(fail);clear x0 x4 x5 x6;have HX:=qh (show Holds w3.drew w.heap.size 23 [.int .i64 c.k,.int .i64 c.c,.int .i64 c.s,.string c.a,.string c.b,.string c.o,.string c.v] from HX.o);have HV:=qh (show CO w3.drew v3 m3 from HO.Gj.below (AP _ _));refine EC [] 8 (λhSn=>?_);simp only[List.replicate];refine FD 0 ?_;refine BA 2 [] (λw hSw=>ED (AC HX.o hSw) 0 1 2 3 4 5 6) ?_;refine CS 4 ?_;refine BA 5 [] (λw hSw=>ED (AC HX.o hSw) 0 1 2 3 4 5 6) ?_;refine BC 3 rfl (λK hK=>?_);go_simp;refine(KT.o _ m3 _ _ HV.o (by omega) (by omega)).mono ?_;rintro e w5 ⟨v5,m5,rfl,lo5,hi5,ho5,hb5⟩;have HO5:=qh (Aw.mono (B':=w3.heap.size) ho5 hSn.size);have hSn:=AB hSn hb5;clear ho5 hb5;refine BJ hK ?_;clear hK;refine BC 6 rfl (λK hK=>?_);go_simp;refine(KT.o _ _ _ _ HO5.Gj (by omega) (by omega)).mono ?_;rintro e w6 ⟨v6,m6,rfl,lo6,hi6,ho6,hb6⟩;have HO6:=qh (Aw.mono (B':=w3.heap.size) ho6 hSn.size);have hSn:=AB hSn hb6;clear ho6 hb6;refine BJ hK ?_;clear hK;refine CS 7 ?_;refine DX ?_;have HO:=qh (HO6.mono (B':=w.heap.size) HB3.size);have HB6:=qh (show Below w.heap.size w w6 from HB3.trans ((AB (AP w3.heap.size w3) hSn).mono HB3.size));clear hSn HO5 HO6 HV HX;go_wp2_with fail;go_ret;exact⟨_,m6,rfl,by omega,by omega,HO.o,HB6.o⟩
 ·go_wp2_with fail;refine(KT.o _ m3 _ _ HO.Gj (by omega) (by omega)).mono ?_;rintro e w4 ⟨v4,m4,rfl,lo4,hi4,ho4,hb4⟩;have HO:=qh (ho4.mono (B':=w.heap.size) HB3.size);have HB4:=qh (AB HB3.o hb4);clear ho4 hb4 x0 x4 x5 x6;go_wp2_with fail;go_ret;exact⟨_,m4,rfl,by omega,by omega,HO.o,HB4.o⟩
 ·go_wp2_with fail;go_ret;exact⟨_,m3,rfl,by omega,by omega,HO.o,HB3.o⟩
theorem WQ(v:Value)(len:Nat)(w:World)(h:CO w v len)(hl:len≤500000) :Calls prog 288 #[v,.agg #[.int .i64 0,.int .i64 0,.int .i64 0,.int .i64 0,.int .i64 0,.int .i64 0,.int .i64 0,.int .i64 0]] w λe w'=>∃v' m,e=.returned v'∧len+1≤m∧m≤len+80∧Aw w' w.heap.size v' m∧Below w.heap.size w w':=by
 have KN:=qh (λv len n W (h:CO W v len) (hl:len≤1000000)=>Ho v len n W h hl);have HV:=qh h;clear h;have hix:=λk hk W=>FC (λ_=>0) k hk W;have HIX:=qh hix;clear hix;go_in;go_wp2_with fail;have HX:=qh (show Holds (w.alloc (.cells ([.int .i64 0,.int .i64 0,.int .i64 0,.int .i64 0,.int .i64 0,.int .i64 0,.int .i64 0,.int .i64 0]:List Value).toArray 43)) w.heap.size 43 [.int .i64 0,.int .i64 0,.int .i64 0,.int .i64 0,.int .i64 0,.int .i64 0,.int .i64 0,.int .i64 0] from AA w _ _);have HB:=qh (show Below w.heap.size w (w.alloc (.cells ([.int .i64 0,.int .i64 0,.int .i64 0,.int .i64 0,.int .i64 0,.int .i64 0,.int .i64 0,.int .i64 0]:List Value).toArray 43)) by go_grown);have HV:=qh (HV.below HB.o);refine(KN.o _ len _ _ HV.o (by omega) (by omega)).mono ?_;rintro e W ⟨v0,m0,rfl,lo0,hi0,ho0,hb0⟩;have HX:=qh (AC HX.o hb0);have HO:=qh (ho0.mono (B':=w.heap.size) HB.size);have HB:=qh (AB HB.o hb0);clear ho0 hb0 HV;obtain⟨x0,x1,x2,x3,x4,x5,x6,x7⟩:=Cj HX.o 0 1 2 3 4 5 6 7;go_wp2_with fail;go_loopw [0,6,13] (λvb vk vi wr=>∃(k m:Nat),k≤7∧vi=.int .i64 k∧m0≤m∧m≤m0+10*k∧Aw wr w.heap.size vb m∧Below w.heap.size w wr) (λ_ _ vi _=>7 - (intOf vi).toNat);case atStart=>exact⟨0,m0,by omega,rfl,by omega,by omega,HO.o,HB.o⟩
 case round=>
  clear HO HB x0 x1 x2 x3 x4 x5 x6 x7 HX;obtain⟨k,m,hk,rfl,hm1,hm2,ho,hb⟩:=hrel;have HO:=qh ho;have HB:=qh hb;clear ho hb;by_cases hk7:k<7
  ·have hix:=HIX.o k hk7;go_wp2_with fail;refine(KN.o _ m _ _ HO.Gj (by omega) (by omega)).mono ?_;rintro e w2 ⟨v2,m2,rfl,lo2,hi2,ho2,hb2⟩;have HO:=qh (ho2.mono (B':=w.heap.size) HB.size);have HB:=qh (AB HB.o hb2);clear ho2 hb2 hix;go_wp2_with fail;go_roundw;case rel=>exact⟨k+1,m2,by omega,by go_num,by omega,by omega,HO.o,HB.o⟩
   case measure=>simp[intOf];omega
  ·go_wp2_with fail;go_ret;exact⟨_,m,rfl,by omega,by omega,HO.o,HB.o⟩
def Bc(k f t q:Int)(x:Cm):List Value:=[.int .i64 k,.int .i64 f,.int .i64 t,.int .i64 q,.int .i64 1,.int .i64 0,.int .i64 0,.int .i64 x.k,.int .i64 x.c,.int .i64 x.s,.string x.a,.string x.b,.string x.o,.string x.v,.int .i64 0,.int .i64 0,.int .i64 0,.int .i64 0,.int .i64 0,.int .i64 0,.int .i64 0,.int .i64 0,.int .i64 0,.int .i64 0,.int .i64 0,.int .i64 0,.int .i64 0,.int .i64 0,.int .i64 0,.int .i64 0,.string ⟨#[]⟩,.string ⟨#[]⟩,.string ⟨#[]⟩,.string ⟨#[]⟩,.int .i64 0,.int .i64 0,.int .i64 0,.int .i64 0,.int .i64 0,.int .i64 0,.int .i64 0,.int .i64 0,.bool false,.int .i64 0,.int .i64 0,.int .i64 0,.int .i64 0,.int .i64 0,.int .i64 0,.int .i64 0,.string ⟨#[]⟩]
theorem Yb(k f t q:Int)(x:Cm):(Bc k f t q x).length=51:=rfl
theorem Yc(k f t q:Int)(x:Cm):∀u∈Bc k f t q x,u.oneCell'=true:=by simp[Bc,Value.oneCell']
theorem Gw(k f t q:Int)(x:Cm):(Bc k f t q x).toArray.all (·.oneCell')=true:=by simp[Bc,Value.oneCell']
class Af where
 p:Option Addr
 n:Nat
 c:Nat
instance noWi:Af:=⟨none,0,0⟩
def Au[Af](n me gl gi:Nat)(leads recs out:Value):List Value:=[.int .i64 n,.int .i64 me,.pointer (some ⟨gl,0,none⟩),.pointer (some ⟨gi,0,none⟩),leads,.slice Af.p Af.n Af.c,recs,out]
def EY(q:Int)(x:Cm)(a:Nat→Int)(R:Value)(cnt tk:Int):List Value:=[.int .i64 q,.int .i64 1,.int .i64 0,.int .i64 0,.int .i64 0,.bool true,.int .i64 x.k,.int .i64 x.c,.int .i64 x.s,.string x.a,.string x.b,.string x.o,.string x.v,.int .i64 0,.int .i64 0,.int .i64 0,.int .i64 0,.int .i64 0,.int .i64 0,.int .i64 0,.int .i64 0,.int .i64 (a 0),.int .i64 (a 1),.int .i64 (a 2),.int .i64 (a 3),.int .i64 (a 4),.int .i64 (a 5),.int .i64 (a 6),R,.slice none 0 0,.int .i64 cnt,.int .i64 tk]
theorem Gv[Af](gc n me gl gi:Nat)(p:Option Addr)(c:Nat)(recs out:Value)(q s:Int)(w:World)(h:Holds w gc 163 (Au n me gl gi (.slice p 0 c) recs out)) :Calls prog 83 #[.pointer (some ⟨gc,0,none⟩),.agg #[.int .i64 q,.int .i64 s]] w λe w'=>e=.returned (.pointer none)∧Below w.heap.size w w':=by
 have HC:=qh h;clear h;go_in;go_upto_region 1 with(fail);go_name_world W hW;obtain⟨HX,hbW,hsW⟩:=Ef 37 ([.int .i64 q,.int .i64 s]) hW;clear hW;have HB:=qh (Base.start w);obtain⟨HC,HB⟩:=Bf hbW HC HB;clear hbW hsW HX;generalize hB0:w.heap.size=B at HB ⊢;have d4:=AZ HC.o 4;go_wp2_with fail
 go_loop [12] (λvi=>vi=.int .i64 0) (λ_=>0)
 case atStart=>exact rfl
 case round=>obtain rfl:=hrel;go_wp2_with fail;go_ret;exact⟨rfl,hB0▸HB.below⟩
theorem RN[Af](gc n me gl gi gb gld c:Nat)(rest:List Value)(recs out:Value)(q:Int)(x:Cm)(a:Nat→Int)(R:Value)(cnt tk:Int)(w:World)(h:Holds w gc 163 (Au n me gl gi (.slice (some ⟨gb,0,none⟩) 1 c) recs out))(hb:Holds w gb 158 (.pointer (some ⟨gld,0,none⟩) :: rest))(hl:Holds w gld 167 (EY q x a R cnt tk))(hc:1≤c) :Calls prog 83 #[.pointer (some ⟨gc,0,none⟩),.agg #[.int .i64 q,.int .i64 1]] w λe w'=>e=.returned (.pointer (some ⟨gld,0,none⟩))∧Below w.heap.size w w':=by
 have HC:=qh h;have HG:=qh hb;have HL:=qh hl;clear h hb hl;go_in;go_upto_region 1 with(fail);go_name_world W hW;obtain⟨HX,hbW,hsW⟩:=Ef 37 ([.int .i64 q,.int .i64 1]) hW;clear hW;have HB:=qh (Base.start w);obtain⟨HC,HB,HG,HL⟩:=D8 hbW HC HB HG HL;clear hbW hsW;generalize hB0:w.heap.size=B at HB HX ⊢;have d4:=AZ HC.o 4;go_wp2_with fail;clear d4;go_loopw [12] (λvi wr=>vi=.int .i64 0∧wr=W) (λ_ _=>0);case atStart=>exact⟨rfl,rfl⟩
 case round=>obtain⟨rfl,rfl⟩:=hrel;have g0:=AZ HG.o 0;obtain⟨l0,l1⟩:=BQ HL.o 0 1;obtain⟨x0,x1⟩:=BQ HX.o 0 1;go_wp2_with fail;go_quiet (fail);go_wp2_with fail;go_ret;exact⟨rfl,hB0▸HB.below.trans (BV _ _ _)⟩
theorem Vu(p:Option Addr)(c:Nat)(fv:Value)(w:World) :Calls prog 285 #[.slice p 0 c,fv] w λe w'=>e=.returned (.int .i64 (-1))∧Below w.heap.size w w':=by
 go_in;go_wp2_with fail
 go_loop [8] (λvi=>vi=.int .i64 0) (λ_=>0)
 case atStart=>exact rfl
 case round=>obtain rfl:=hrel;go_wp2_with fail;go_ret;exact⟨rfl,Below.refl _ _⟩
theorem Xp(p:Option Addr)(c:Nat)(fv:Value)(w:World) :Calls prog 235 #[.slice p 0 c,fv] w λe w'=>e=.returned (.slice p 0 c)∧Below w.heap.size w w':=by have K:=qh (Vu p c fv);go_in;go_wp2_with fail;refine AY (K.out _) ?_;rintro w1 hb;have HB:=qh hb;clear hb;go_wp2_with fail;go_ret;exact⟨rfl,HB.o⟩
theorem J7[Af](gc n me gl gi:Nat)(p:Option Addr)(c:Nat)(recs out:Value)(q:Int)(w:World)(h:Holds w gc 163 (Au n me gl gi (.slice p 0 c) recs out)) :Calls prog 211 #[.pointer (some ⟨gc,0,none⟩),.agg #[.int .i64 q,.int .i64 1]] w λe w'=>e=.returned (.tuple #[])∧Holds w' gc 163 (Au n me gl gi (.slice p 0 c) recs out)∧Touch gc w w':=by have K:=qh (λfv W=>Xp p c fv W);have HC:=qh h;have HT:=qh (Touch.refl gc w);clear h;go_in;go_upto_region 1 with(fail);go_name_world W hW;obtain⟨HX,hbW,hsW⟩:=Ef 37 ([.int .i64 q,.int .i64 1]) hW;clear hW;obtain⟨HC,HT⟩:=Bf hbW HC HT;clear hbW hsW HX;have d4:=AZ HC.o 4;go_wp2_with fail;refine AY (K.out _ _) ?_;rintro w1 hb;obtain⟨HC,HT⟩:=Bf hb HC HT;clear hb d4;go_wp2_with (first|(refine sC 4 HC.o (.slice p 0 c) ?_;intro w7 hh7 ht7));have HC:=qh (show Holds w7 gc 163 (Au n me gl gi (.slice p 0 c) recs out) from hh7);have HT:=qh (HT.trans ht7);clear hh7 ht7;go_wp2_with fail;exact bE ⟨rfl,HC.o,HT.o⟩
end Go.Proofs.YtimdpiifpibgfaaGreatDoor
