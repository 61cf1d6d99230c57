/- A part of the proof that the law TopCopies returns true for every input. -/
import Derived.Lib.AppendZeros
import Derived.Lib.Overlaps
import Derived.Deep.RegionLaw
import Derived.Test.YtimdpiifpibgfaaGreatDoorQc8
set_option linter.all false
set_option maxRecDepth 20000
set_option maxHeartbeats 16000000
open Go.RowKit Go.Maps
namespace Go.Proofs.YtimdpiifpibgfaaGreatDoor
open Tryz
section
theorem JA{P:Program}(w:World)(t tn ty e:TypeId)(i:TypeInfo)(z:Value)(k kn:IntKind)(ht:P.underlying t=some (.slice e))(htn:P.underlying tn=some (.int kn))(hi:P.info? e=some i)(hz:i.zero=some z) (b:Addr) (sLen sCap:Nat) (olds:List Value) (hlo:olds.length=sLen*i.size) (holds:∀j v,olds[j]?=some v→w.cell? (b.add j)=some v) (n:Nat) (hs:0<i.size) (h0:0<n) (hg:sCap<sLen+n) (h63:((sLen+n:Nat):Int)≤9223372036854775807) (hfit:Builtin.nextslicecap (sLen+n) sCap*i.bytes≤281474976710656) (h48:n*i.bytes≤281474976710656) :(Builtin.append_ #[t,tn] ty #[.slice (some b) sLen sCap,.int k n]).run P w = .ok (.slice (some ⟨w.heap.size,0,none⟩) (sLen+n) (grownCap w (sLen+n) sCap e)) (w.drew.alloc (.cells (olds.toArray++Builtin.zeroCells z.cells n++Builtin.zeroCells z.cells (grownCap w (sLen+n) sCap e - (sLen+n))) e)):=by
 have hn:¬(sLen+n≤sCap):=by omega
 have hn0:n≠0:=by omega
 have hw:IntKind.i64.wrap (n:Int)=n:=by rw[IntKind.wrap_i64];omega
 have h63':¬(9223372036854775807<((sLen:Int)+(n:Int))):=by omega
 have h48':¬(281474976710656<Builtin.nextslicecap (sLen+n) sCap*i.bytes):=by omega
 have h48i:¬(281474976710656<(n:Int)*(i.bytes:Int)):=by rw[←Int.natCast_mul];omega
 have hneg:¬((n:Int)<0):=by omega
 have hns:¬(n*i.size=0):=Nat.mul_ne_zero hn0 (by omega);have hfo:=run_firstCells_some (P:=P) w.drew i.size sLen b sLen sCap olds hlo (by simpa using holds);simp[Builtin.append_,run_underlying ht,run_underlying htn,sizeOf,typeInfo,zeroValue,hi,hz,asInt,asIntOf,hw,hn,hn0,hneg,hns,h63',h48',h48i,Question.forced,hfo,newRow,grownCap]
theorem SQ{P:Program}{e:TypeId}{z:Value}{s b:Nat}(h:(P.info? e).map (λi=>(i.zero,i.size,i.bytes))=some (some z,s,b)):∃i,P.info? e=some i∧i.zero=some z∧i.size=s∧i.bytes=b:=by
 cases hq:P.info? e with
 | none=>simp[hq] at h
 | some i=>simp[hq] at h;exact⟨i,rfl,h.1,h.2.1,h.2.2⟩
theorem Gh{P:Program}{ops:Array Oper}{w:World}{rest:List Oper}{o:Oper}{a:Act}{Q:Exit→Act→World→Prop}(hgd:o.guard=none)(s x:Operand)(t tn:TypeId) (ho:o.op=.call { callee:=.builtin .append,args:=#[s,x],argTypes:=#[t,tn] }) (e:TypeId) (z:Value) (size bytes:Nat) (ht:P.underlying t=some (.slice e)) (kn k:IntKind) (htn:P.underlying tn=some (.int kn)) (hi:(P.info? e).map (λi=>(i.zero,i.size,i.bytes))=some (some z,size,bytes)) (hzs:z.cells.size=size) (hsz:0<size) (g off n cap m:Nat) (hs:a.eval s=.slice (some ⟨g,off,none⟩) n cap) (hx:a.eval x=.int k m) (hm:0<m) (olds:List Value) (hl:olds.length=n*size) (holds:∀j v,olds[j]?=some v→w.cell? ⟨g,off+j,none⟩=some v) (hg:cap<n+m) (h63:n+m≤maxLen) (hb:(n+m)*bytes≤140737488355328) (h:∀w' cap' Z,Holds w' w.heap.size e (olds++Z)→(olds++Z).length=cap'*size→n+m≤cap'→cap'≤maxLen→Below w.heap.size w w'→w'.heap.size=w.heap.size+1→wpList P ops Q rest (a.put o.dst (.slice (some ⟨w.heap.size,0,none⟩) (n+m) cap')) w'):wpList P ops Q (o :: rest) a w:=by
 obtain⟨i,hi0,hz,hsi,hbi⟩:=SQ hi;subst hsi hbi;have hr:=JA (P:=P) w t tn o.type e i z k kn ht htn hi0 hz ⟨g,off,none⟩ n cap olds hl (λj v hv=>by rw[GU];exact holds j v hv) m hsz hm hg (by unfold maxLen at h63;omega) (growslice_fits hg hb) (by have:m*i.bytes≤(n+m)*i.bytes:=Nat.mul_le_mul_right _ (by omega);omega);have hc1:=grownCap_ge w (n+m) cap e;have hc2:=grownCap_le_maxLen w (n+m) cap e h63;generalize grownCap w (n+m) cap e=C at hr hc1 hc2;refine Lib.wpList_append_run w hgd s x t tn ho _ _ hs hx _ _ hr ?_;have e1:olds.toArray++Builtin.zeroCells z.cells m++Builtin.zeroCells z.cells (C - (n+m))=(olds++((Builtin.zeroCells z.cells m).toList++(Builtin.zeroCells z.cells (C - (n+m))).toList)).toArray:=by apply Array.ext';simp
 rw[e1];refine h _ C ((Builtin.zeroCells z.cells m).toList++(Builtin.zeroCells z.cells (C - (n+m))).toList) (AA w.drew e _) ?_ hc1 hc2 ((AQ _ w).alloc (Nat.le_refl _) _) (by simp);simp only[List.length_append,Array.length_toList,size_zeroCells,hl,hzs];rw[←Nat.add_mul,←Nat.add_mul]
 congr 1
 omega
theorem TV{P:Program}(w:World)(dT sT ty elem:TypeId)(g off dLen dCap:Nat)(a:Addr)(sLen sCap:Nat)(cur:Array Value)(t:TypeId)(cs:List Value)(s:Nat) (hu:P.underlying dT=some (.slice elem)) (hs:(P.info? elem).map (·.size)=some s) (hg:w.heap[g]?=some (.cells cur t (0,0))) (hn:cs.length=Nat.min sLen dLen*s) (hsrc:∀j v,cs[j]?=some v→w.cell? (a.add j)=some v) (hfit:off+cs.length≤cur.size) (h1:∀v∈cs,v.oneCell'=true) :(Builtin.copy_ #[dT,sT] ty #[.slice (some ⟨g,off,none⟩) dLen dCap,.slice (some a) sLen sCap]).run P w = .ok (goInt (Nat.min sLen dLen)) (w.setRow g (cur.toList.take off++cs++cur.toList.drop (off+cs.length)).toArray):=by
 have hl:=run_loadCells_list (P:=P) w a cs hsrc;have hst:=run_storeCells_at P g off t cs 0 cur w hg (by simpa using hfit) h1;cases hq:P.info? elem with
 | none=>simp[hq] at hs
 | some i=>
  have hi:i.size=s:=by simpa[hq] using hs
  simp[Builtin.copy_,run_underlying hu,Builtin.lenOf,Builtin.firstCells,sizeOf,typeInfo,hq,hi,←hn,hl,hst]
theorem Gt(A Z X:List Value)(k:Nat)(hk:A.length=k):splice (A++Z) k X=A++(X++Z.drop X.length):=by
 subst hk;unfold splice;rw[List.take_left',List.drop_length_add_append]
 rfl
section
variable {P:Program} {w:World} {ops:Array Oper} {rest:List Oper} {o:Oper} {a:Act} {Q:Exit→Act→World→Prop} {K:Act→World→Prop} {E:Prop}
theorem PR(d s:Operand)(dT sT:TypeId) (ho:o.op=.call { callee:=.builtin .copy,args:=#[d,s],argTypes:=#[dT,sT] }) (elem:TypeId) (hu:P.underlying dT=some (.slice elem)) (sz:Nat) (hsz:(P.info? elem).map (·.size)=some sz) (g off dLen dCap sb so sLen sCap:Nat) (hd:a.eval d=.slice (some ⟨g,off,none⟩) dLen dCap) (hs:a.eval s=.slice (some ⟨sb,so,none⟩) sLen sCap) (cur:List Value) (t:TypeId) (hg:Holds w g t cur) (cs:List Value) (hn:cs.length=Nat.min sLen dLen*sz) (hsrc:∀(j:Nat) v,cs[j]?=some v→w.cell? ⟨sb,so+j,none⟩=some v) (hfit:off+cs.length≤cur.length) (h1:∀v∈cs,v.oneCell'=true) (h:∀w',Holds w' g t (splice cur off cs)→Touch g w w'→K (a.put o.dst (goInt (Nat.min sLen dLen))) w'):Oper.wp P o a w K Q:=by have hrun:=TV (P:=P) w dT sT o.type elem g off dLen dCap ⟨sb,so,none⟩ sLen sCap cur.toArray t cs sz hu hsz hg hn (λj v hv=>by rw[GU];exact hsrc j v hv) (by simpa using hfit) h1;unfold Oper.wp;simp[execOp,ho,resolve,invoke,builtin,hd,hs,hrun,Result.andThen];refine h _ ?_ ⟨rfl,rfl,rfl,by simp[World.setRow],λk hk hne=>setRow_other w g k _ hne⟩;simpa[splice,Holds] using setRow_heap w g _ _ t _ hg
theorem FZ(hgd:o.guard=none)(d s:Operand)(dT sT:TypeId) (ho:o.op=.call { callee:=.builtin .copy,args:=#[d,s],argTypes:=#[dT,sT] }) (elem:TypeId) (hu:P.underlying dT=some (.slice elem)) (sz:Nat) (hsz:(P.info? elem).map (·.size)=some sz) (g off dLen dCap sb so sLen sCap:Nat) (hd:a.eval d=.slice (some ⟨g,off,none⟩) dLen dCap) (hs:a.eval s=.slice (some ⟨sb,so,none⟩) sLen sCap) (cur:List Value) (t:TypeId) (hg:Holds w g t cur) (cs:List Value) (hn:cs.length=Nat.min sLen dLen*sz) (hsrc:∀(j:Nat) v,cs[j]?=some v→w.cell? ⟨sb,so+j,none⟩=some v) (hfit:off+cs.length≤cur.length) (h1:∀v∈cs,v.oneCell'=true) (h:∀w',Holds w' g t (splice cur off cs)→Touch g w w'→wpList P ops Q rest (a.put o.dst (goInt (Nat.min sLen dLen))) w'):wpList P ops Q (o :: rest) a w:=
 wpList_plain hgd λK hK=>PR d s dT sT ho elem hu sz hsz g off dLen dCap sb so sLen sCap hd hs cur t hg cs hn hsrc hfit h1 λw' h2 h3=>hK _ _ (h w' h2 h3)
theorem Gm(hgd:o.guard=none)(d s:Operand)(dT sT:TypeId) (ho:o.op=.call { callee:=.builtin .copy,args:=#[d,s],argTypes:=#[dT,sT] }) (elem:TypeId) (hu:P.underlying dT=some (.slice elem)) (sz:Nat) (hsz:(P.info? elem).map (·.size)=some sz) (g off dLen dCap sb so sLen sCap:Nat) (hd:a.eval d=.slice (some ⟨g,off,none⟩) dLen dCap) (hs:a.eval s=.slice (some ⟨sb,so,none⟩) sLen sCap) (cur:List Value) (t:TypeId) (hg:Holds w g t cur) (cs:List Value) (hn:cs.length=Nat.min sLen dLen*sz) (hsrc:∀(j:Nat) v,cs[j]?=some v→w.cell? ⟨sb,so+j,none⟩=some v) (hfit:off+cs.length≤cur.length) (h1:∀v∈cs,v.oneCell'=true) (h:∀w',Holds w' g t (splice cur off cs)→Touch g w w'→K (a.put o.dst (goInt (Nat.min sLen dLen))) w'):if Region.wanted o (yielded ops a.tmps)=true then Oper.wp P o a w K Q else E:=by rw[if_pos (by simp[Region.wanted,hgd])];exact PR d s dT sT ho elem hu sz hsz g off dLen dCap sb so sLen sCap hd hs cur t hg cs hn hsrc hfit h1 h
end
section
variable {P:Program} {ops:Array Oper} {Q:Exit→Act→World→Prop}
theorem Tq{rest:List Oper}{o:Oper}{a:Act}{w:World}(hw:Region.wanted o (yielded ops a.tmps)=true)(t:TypeId)(i j:Nat)(q r:Tmp)(ho:o.op=.build t #[(i,.tmp q),(j,.tmp r)])(u v:Value)(hu:a.eval (.tmp q)=u)(hv:a.eval (.tmp r)=v) (z:Value) (hr:∀w,(Instr.build t #[(i,u),(j,v)]).run P w=.ok z w) (h:wpList P ops Q rest (a.put o.dst z) w):wpList P ops Q (o :: rest) a w:=
 wpList_step λK hK=>by rw[if_pos hw];unfold Oper.wp execOp;simp only[ho,List.map_toArray,List.map_cons,List.map_nil,hu,hv];rw[Sem.run_bind,hr];exact hK _ _ h
end
theorem Ti{w w':World}{b:Nat}(h:w.grownBy w' (some b)):Touch b w w':=⟨h.os,h.tape,h.output,h.size,λk hk hn=>h.block k hk λe=>by cases e;exact hn rfl⟩
theorem FW{P:Program}{ops:Array Oper}{w:World}{o:Oper}{a:Act}{K:Act→World→Prop}{Q:Exit→Act→World→Prop}{E:Prop}(hgd:o.guard=none)(s x:Operand)(t:TypeId) (ho:o.op=.call { callee:=.builtin .append,args:=#[s,x],argTypes:=#[t,t] }) (e:TypeId) (z:Value) (size bytes:Nat) (ht:P.underlying t=some (.slice e)) (hi:(P.info? e).map (λi=>(i.zero,i.size,i.bytes))=some (some z,size,bytes)) (g n cap:Nat) (xs:List Value) (hs:a.eval s=.slice (some ⟨g,0,none⟩) n cap) (hown:AO w (.slice (some ⟨g,0,none⟩) n cap) (some g) e size n xs) (off m c:Nat) (news:List Value) (hx:a.eval x=.slice (some ⟨g,off,none⟩) m c) (hl:news.length=m*size) (hnews:∀j u,news[j]?=some u→w.cell? ⟨g,off+j,none⟩=some u) (h1:∀u∈news,u.oneCell'=true) (hroom:n+m≤cap) (h:∀w',AO w' (.slice (some ⟨g,0,none⟩) (n+m) cap) (some g) e size (n+m) (xs++news)→Touch g w w'→K (a.put o.dst (.slice (some ⟨g,0,none⟩) (n+m) cap)) w') :if Region.wanted o (yielded ops a.tmps)=true then Oper.wp P o a w K Q else E:=by
 have hw:Region.wanted o (yielded ops a.tmps)=true:=by simp[Region.wanted,hgd]
 rw[if_pos hw];obtain⟨i,hi0,hz,hsize,hby⟩:=info_parts hi;exact wp_append_own_spare w s x t ho 0 e i size ht hi0 hsize g n cap xs hs hown.own ⟨g,off,none⟩ m c news hx hl (λj u hu=>by rw[GU];exact hnews j u hu) h1 hroom λw' h2 h3=>h w' ⟨h2,rfl⟩ (Ti h3)
end
structure Pr where
 k:ByteArray
 v:ByteArray
 n:Int
def Pr.zero:Pr:=⟨⟨#[]⟩,⟨#[]⟩,0⟩
def Pr.cells(p:Pr):List Value:=[.string p.k,.string p.v,.int .i64 p.n]
theorem Pr.one(p:Pr):∀u∈p.cells,u.oneCell'=true:=by simp[Pr.cells,Value.oneCell']
theorem Pr.one'(p:Pr):p.cells.toArray.all (·.oneCell')=true:=by simp[Pr.cells,Value.oneCell']
theorem Pr.len(p:Pr):p.cells.length=3:=rfl
def gK(l:List Pr)(i:Nat):List Value:=(l.getD i .zero).cells
theorem QG(l:List Pr)(i j:Nat)(hi:i<l.length)(hj:j<3):(l.flatMap Pr.cells)[i*3+j]?=(gK l i)[j]?:=by
 induction l generalizing i with
 | nil=>simp at hi
 | cons p r ih=>
  rw[List.flatMap_cons];cases i with
  | zero=>
   rw[List.getElem?_append_left (by rw[Pr.len];omega)];simp[gK]
  | succ i=>
   rw[List.getElem?_append_right (by rw[Pr.len];omega),Pr.len,show (i+1)*3+j-3=i*3+j by omega,ih i (by simpa using hi)];simp[gK]
def J7(l:List Pr):List Value:=l.flatMap Pr.cells
theorem Ip(l:List Pr):(J7 l).length=l.length*3:=by
 unfold J7;induction l with
 | nil=>rfl
 | cons p r ih=>rw[List.flatMap_cons,List.length_append,ih,Pr.len,List.length_cons];omega
theorem Y8(l:List Pr):flat 3 l.length (gK l)=J7 l:=by
 apply List.ext_getElem?;intro t;by_cases ht:t<l.length*3
 ·have e:t / 3*3+t % 3=t:=by omega
  have h1:=EP 3 l.length (gK l) (t / 3) (t % 3) (by omega) (by omega) rfl;have h2:=QG l (t / 3) (t % 3) (by omega) (by omega);rw[e] at h1 h2;rw[h1,←h2]
  rfl
 ·rw[List.getElem?_eq_none (by rw[BJ];omega),List.getElem?_eq_none (by rw[Ip];omega)]
theorem LG(a b:List Pr):J7 (a++b)=J7 a++J7 b:=List.flatMap_append
theorem Ic(p:Pr)(r:List Pr):J7 (p :: r)=p.cells++J7 r:=rfl
theorem O9:∀(l:List Pr) (i:Nat),(J7 l).take (i*3)=J7 (l.take i)
 | [],i=>by simp[J7]
 | p :: r,0=>by simp[J7]
 | p :: r,i+1=>by rw[Ic,List.take_succ_cons,Ic,←O9 r i,show (i+1)*3=p.cells.length+i*3 by rw[Pr.len];omega,List.take_length_add_append]
theorem O8:∀(l:List Pr) (i:Nat),(J7 l).drop (i*3)=J7 (l.drop i)
 | [],i=>by simp[J7]
 | p :: r,0=>by simp[J7]
 | p :: r,i+1=>by rw[Ic,List.drop_succ_cons,←O8 r i,show (i+1)*3=p.cells.length+i*3 by rw[Pr.len];omega,List.drop_length_add_append]
theorem Q4(l:List Pr):∀u∈J7 l,u.oneCell'=true:=λu hu=>by obtain⟨p,_,hp⟩:=List.mem_flatMap.1 hu;exact Pr.one p u hp
def AV(w:World)(v:Value)(ob:Option Nat)(l:List Pr):Prop:=AO w v ob 69 3 l.length (J7 l)
theorem AV.bel{w w':World}{v:Value}{ob:Option Nat}{l:List Pr}(h:AV w v ob l)(hb:Below w.heap.size w w'):AV w' v ob l:=AO.bel h hb
instance {w w':World}{v:Value}{ob:Option Nat}{l:List Pr}:Bl w w' (AV w v ob l) (AV w' v ob l):=⟨λhb h=>AV.bel h hb⟩
theorem AV.mv{w w':World}{F:Af}{v:Value}{ob:Option Nat}{l:List Pr}(h:AV w v ob l)(hm:Mv F w w')(hn:∀g,ob=some g→¬F g):AV w' v ob l:=AO.mv h hm hn
theorem AV.rows{w:World}{v:Value}{ob:Option Nat}{l:List Pr}(h:AV w v ob l):∃p c,v=.slice p l.length c∧l.length≤c∧c≤maxLen∧(p=none→c=0)∧Be w p l.length 3 (gK l):=AO.rows (V:=gK l) (by rw[Y8];exact h) (λ_ _=>rfl) (by decide)
theorem AV.nil(w:World):AV w (.slice none 0 0) none []:=AO.nil _ _ _
def Dq:List Pr→ByteArray→Nat × Bool
 | [],_=>(0,false)
 | p :: r,key=>if SpanP.lt p.k key then ((Dq r key).1+1,(Dq r key).2) else (0,SpanP.same p.k key)
theorem Sj:∀(l:List Pr) (key:ByteArray) (k:Nat),(∀i,i<k→SpanP.lt (l.getD i .zero).k key=true)→(k<l.length→SpanP.lt (l.getD k .zero).k key=false→Dq l key=(k,SpanP.same (l.getD k .zero).k key))∧(k=l.length→Dq l key=(k,false))
 | [],key,k,_=>⟨λh=>by simp at h,λh=>by simp at h;subst h;rfl⟩
 | p :: r,key,0,_=>⟨λ_ h=>by simp at h;simp[Dq,h],λh=>by simp at h⟩
 | p :: r,key,k+1,h=>by
  have h0:=h 0 (by omega);have ih:=Sj r key k λi hi=>by simpa using h (i+1) (by omega)
  simp only[List.getD_cons_zero] at h0;refine⟨λhk hl=>?_,λhk=>?_⟩
  ·have:=ih.1 (by simpa using hk) (by simpa using hl);simp[Dq,h0,this]
  ·have:=ih.2 (by simpa using hk);simp[Dq,h0,this]
theorem IZ(l:List Pr)(key:ByteArray):(Dq l key).1≤l.length∧((Dq l key).2=true→(Dq l key).1<l.length):=by
 induction l with
 | nil=>simp[Dq]
 | cons p r ih=>unfold Dq;split<;>simp<;>omega
def NZ(l:List Pr)(key:ByteArray):Pr × Bool:=if (Dq l key).2 then (l.getD (Dq l key).1 .zero,true) else (.zero,false)
def Pr.put(p:Pr)(v:ByteArray):Pr:=⟨p.k,v,p.n+1⟩
def MP(l:List Pr)(key v:ByteArray):List Pr:=
 let i:=(Dq l key).1
 if (Dq l key).2 then l.set i ((l.getD i .zero).put v) else (l.take i++⟨key,v,1⟩ :: l.drop i)
theorem Yp(l:List Pr)(key v:ByteArray)(i:Nat)(h:Dq l key=(i,true)):MP l key v=l.set i ((l.getD i .zero).put v):=by simp[MP,h]
theorem Yo(l:List Pr)(key v:ByteArray)(i:Nat)(hi:i≤l.length)(h:Dq l key=(i,false)):MP l key v=(l.take i++⟨key,⟨#[]⟩,0⟩ :: l.drop i).set i (((l.take i++⟨key,⟨#[]⟩,0⟩ :: l.drop i).getD i .zero).put v):=by
 have hl:(l.take i).length=i:=by rw[List.length_take];omega
 have e:(l.take i++⟨key,⟨#[]⟩,0⟩ :: l.drop i).getD i .zero=(⟨key,⟨#[]⟩,0⟩:Pr):=by
  rw[List.getD_eq_getElem?_getD,List.getElem?_append_right (by omega),hl,Nat.sub_self]
  rfl
 rw[e,List.set_append_right _ _ (by omega),hl,Nat.sub_self];simp[MP,h,Pr.put]
theorem Vk:∀(l:List Pr) (i:Nat) (v:ByteArray) (n:Int) (rest:List Value),i<l.length→((J7 l++rest).set (i*3+1) (.string v)).set (i*3+2) (.int .i64 n)=J7 (l.set i ⟨(l.getD i .zero).k,v,n⟩)++rest
 | p :: r,0,v,n,rest,_=>rfl
 | p :: r,i+1,v,n,rest,h=>by
  have ih:=Vk r i v n rest (by simpa using h);rw[List.set_cons_succ,Ic,Ic,List.append_assoc,List.append_assoc,List.getD_cons_succ,←ih];rw[List.set_append_right _ _ (by rw[Pr.len];omega),List.set_append_right _ _ (by rw[Pr.len];omega),Pr.len]
  congr 2
  ·congr 1;omega
  ·omega
theorem Y7(l:List Pr)(i:Nat)(rest:List Value)(h:i<l.length):(J7 l++rest)[i*3+2]?=some (.int .i64 (l.getD i .zero).n):=by rw[List.getElem?_append_left (by rw[Ip];omega)];exact QG l i 2 h (by omega)
def SY(l:List Pr)(key:ByteArray):List Pr:=
 let i:=(Dq l key).1
 if (Dq l key).2 then l.take i++l.drop (i+1) else l
theorem MO(v:Value)(ob:Option Nat)(l:List Pr)(key:ByteArray)(w:World)(h:AV w v ob l) :Calls prog 239 #[v,.string key] w λe w'=>e=.returned (.tuple #[.int .i64 ((Dq l key).1:Int),.bool (Dq l key).2])∧Below w.heap.size w w':=by
 obtain⟨p,c,rfl,hlc,hcm,_,hr⟩:=h.rows;have HV:=qh hr;have hm:l.length≤maxLen:=hr.1;unfold maxLen at hm;have hsp:=qh (Sj l key);generalize hF:Dq l key=F at hsp ⊢;obtain⟨Fi,Fb⟩:=F;clear hr h hF hlc hcm;go_in;go_wp2_with fail;go_loopw [10] (λi wr=>∃k:Nat,k≤l.length∧i=.int .i64 k∧Hid (∀j,j<k→SpanP.lt (l.getD j .zero).k key=true)∧Below w.heap.size w wr) (λi _=>l.length - (intOf i).toNat);case atStart=>exact⟨0,by omega,rfl,qh λj hj=>absurd hj (by omega),by go_grown⟩
 case round=>
  obtain⟨k,hk,rfl,HA,hb⟩:=hrel;have HB:=qh hb;clear hb;by_cases h1:k<l.length
  ·obtain⟨b,off,rfl,hlt⟩:=HV.spot (by omega);have HR:=qh (show wr.rangeAt b (off+k*3) (l.getD k .zero).cells from HV.range HB.o h1);have hs:=hsp.out k HA.o;obtain⟨q,hq⟩:∃q,q=l.getD k .zero:=⟨_,rfl⟩;rw[←hq] at hs HR;have HS:=qh hs;have HQ:=qh hq;clear hs hq;go_upto_region 4 with(first|(refine lM (off+k*3) HR.o ?_)|(refine Ai rfl 69 _ _ rfl rfl _ _ q.cells.toArray rfl rfl (by kernel_rfl) (by kernel_rfl) (Pr.one' _) ?_));go_name_world W hW;have hbx:Holds W wr.heap.size 69 q.cells:=by rw[←hW];exact AA wr _ _
   have hB:Below w.heap.size w W:=by rw[←hW];exact HB.alloc HB.size _
   clear hW HB HR;have HB:=qh hB;clear hB;have b0:=hbx.cell 0;have c0:=λd os=>hbx.grown d os 0;simp only[Pr.cells,yA,yB] at b0 c0;clear hbx;have hl:∃b,Op.bytesLess q.k.toList key.toList=b:=⟨_,rfl⟩;obtain⟨bl,hl⟩:=hl;have HL:=qh (show SpanP.lt q.k key=bl from hl);cases bl
   ·have he:=HS.1 h1 hl;have HE:=qh he;clear HS he;go_upto_region 5 with(fail);refine wp_region_quiet_below (by kernel_rfl) (by kernel_rfl) ?_;repeat go_big_quiet_step (fail)
    refine wpQuiet_nil ?_;intro w5 hw';have HB:=qh (AB HB.o (AP hw'));clear hw' b0 c0;go_wp2_with fail;have e:=HE.o;simp only[Prod.mk.injEq] at e;exact bodyPost_ret (v:=.tuple #[.int .i64 k,.bool (SpanP.same q.k key)]) (by simp[results,results239,go_sem,SpanP.same]) rfl ⟨by rw[e.1,e.2],HB.o⟩
   ·clear HS;go_wp2_with fail;go_roundw;case rel=>exact⟨k+1,by omega,by go_num,qh λj hj=>if hjk:j<k then HA.o j hjk else (by rw[show j=k by omega,←HQ.o];exact HL.o),HB.o⟩
    case measure=>simp[intOf];omega
  ·obtain rfl:k=l.length:=by omega
   have HE:=qh ((hsp.out _ HA.o).2 rfl);go_wp2_with fail;have e:=HE.o;simp only[Prod.mk.injEq] at e;exact b2 (v:=.tuple #[.int .i64 l.length,.bool false]) ⟨by rw[e.1,e.2],HB.o⟩
theorem E9(v:Value)(ob:Option Nat)(l:List Pr)(w:World)(h:AV w v ob l)(hl:l.length≤1000) :Calls prog 36 #[v] w λe w'=>∃v' ob',e=.returned v'∧AV w' v' ob' l∧(∀g,ob'=some g→w.heap.size≤g)∧Below w.heap.size w w':=by
 have hone:=Q4 l;unfold AV at h ⊢;have hlen:=h.len;generalize J7 l=L at h hone hlen ⊢;generalize l.length=m at h hl hlen ⊢;have H1:=qh hone;have HO1:=qh (show AO (w.alloc (.cells #[] 69)) (.slice (some ⟨w.heap.size,0,none⟩) 0 0) (some w.heap.size) 69 3 0 [] from⟨World.ownsRow_lit (size:=3) w #[] 0 (Nat.zero_le _) (by unfold maxLen;omega) (by simp),rfl⟩);have ha:Below w.heap.size w (w.alloc (.cells #[] 69)):=by go_grown
 have HA:=qh ha;have hsz:=ha.size;clear ha hone;rcases h.cases with⟨rfl,rfl,rfl,rfl⟩|⟨g,c,rest,rfl,rfl,hc1,hcm,hh,hhl⟩
 ·have he:∀W:World,(binOp .eql 51 (.slice none 0 0) (.slice none 0 0)).run prog W=.ok (.bool true) W:=λ_=>by kernel_rfl
  go_in;go_wp2_with fail;go_ret;exact⟨_,none,rfl,AO.nil _ _ _,(λ_ hg=>by cases hg),Below.refl _ _⟩
 ·have he:∀W:World,(binOp .eql 51 (.slice (some ⟨g,0,none⟩) m c) (.slice none 0 0)).run prog W=.ok (.bool false) W:=λ_=>by kernel_rfl
  rcases Nat.eq_zero_or_pos m with rfl|hm0
  ·obtain rfl:L=[]:=List.length_eq_zero_iff.1 (by omega);have hr:∀(gz:Nat) (W:World),(Builtin.append_ #[51,51] 51 #[.slice (some ⟨gz,0,none⟩) 0 0,.slice (some ⟨g,0,none⟩) 0 c]).run prog W=.ok (.slice (some ⟨gz,0,none⟩) 0 0) W:=λ_ _=>by kernel_rfl
   clear h hh;go_in;go_wp2_with (first|(at_builtin;refine wpList_append_run _ rfl (.tmp 5) (.tmp 6) 51 51 rfl _ _ rfl rfl _ _ (hr _ _) ?_));go_ret;exact⟨_,_,rfl,HO1.o,(λg hg=>by cases hg;exact Nat.le_refl _),HA.o⟩
  ·have HR:=qh (hh.reads 0 L (λj v hv=>by rw[Nat.zero_add,List.getElem?_append_left (List.getElem?_eq_some_iff.1 hv).1];exact hv));clear h hh;go_in;go_wp2_with (first|(at_builtin;refine aS (.agg #[.string ⟨#[]⟩,.string ⟨#[]⟩,.int .i64 0]) 3 40 HO1.o L (HR.below HA.o) ?_ H1.o (hl:=hlen) (hm0:=hm0);intro v2 ob2 w2 ho2 hob2 hm2));rw[List.nil_append,Nat.zero_add] at ho2;have HB:=qh (HA.trans (hm2.below hsz (λk hk=>by cases hk;exact Nat.le_refl _)));have hg:∀g,ob2=some g→w.heap.size≤g:=λg hg=>by
    rcases hob2 with hc|⟨k,hk,hk2⟩
    ·rw[hc] at hg;cases hg;exact Nat.le_refl _
    ·rw[hk] at hg;cases hg;omega
   have H2:=qh ho2;have HG:=qh hg;clear ho2 hm2 hob2 hg;go_ret;exact⟨_,_,rfl,H2.o,HG.o,HB.o⟩
theorem jc(v:Value)(ob:Option Nat)(l:List Pr)(key:ByteArray)(w:World)(h:AV w v ob l) :Calls prog 180 #[v,.string key] w λe w'=>e=.returned (.tuple #[.agg (NZ l key).1.cells.toArray,.bool (NZ l key).2])∧Below w.heap.size w w':=by
 have KF:=qh (λW hW=>MO v ob l key W hW);have H:=qh h;have hle:=IZ l key;obtain⟨p,c,rfl,hlc,hcm,_,hr⟩:=h.rows;have hm:l.length≤maxLen:=hr.1;unfold maxLen at hm;have HB:=qh (Base.start w);unfold NZ;generalize Dq l key=F at KF hle ⊢;obtain⟨i,b⟩:=F;obtain⟨q,hq⟩:∃q,q=l.getD i .zero:=⟨_,rfl⟩;simp only[←hq] at KF hle ⊢;have HQ:=qh hq;clear hq;clear h hr;go_in;go_upto_region 1 with(fail);go_name_world W hW;have hW:BR w [.cells (Pr.zero.cells:List Value).toArray 69]=W:=hW;have HX:=qh (show Holds W (w.heap.size) 69 Pr.zero.cells from AX _ hW 0 rfl);have hbW:=Ae _ hW;clear hW;obtain⟨H,HB⟩:=DC hbW H HB;clear hbW;generalize hx0:w.heap.size=gX at HX HB ⊢;go_wp2_with fail;refine Ac (KF.o _ H.o) ?_;rintro w1 hb;obtain⟨H,HX,HB⟩:=Du hb H HX HB;clear hb KF;cases b
 ·go_wp2_with (first|(refine sW Pr.zero.cells HX.o ?_ (Pr.one' _);intro w2 hh2 ht2));have HX:=qh hh2;have HB:=qh (HB.touch ht2 (Nat.le_refl _));clear hh2 ht2;exact bodyPost_ret (results_cell_tmp rfl _ _ gX Pr.zero.cells _ (.bool false) rfl rfl HX.AY underlying69 rfl (by kernel_rfl)) rfl ⟨rfl,hx0▸HB.below⟩
 ·have hi:=hle.2 rfl;obtain⟨p2,c2,hv,_,_,_,hr⟩:=H.rows;cases hv;obtain⟨b,off,rfl,hlt⟩:=hr.spot (by omega);have HR:=qh (show w1.rangeAt b (off+i*3) q.cells from HQ.o▸hr.range (Below.refl _ _) hi);clear hr;have hii:(0:Int)≤(i:Int):=by omega
  have hil:(i:Int)<(l.length:Int):=by omega
  go_wp2_with (first|(refine lM (off+i*3) HR.o ?_)|(refine sW q.cells HX.o ?_ (Pr.one' _);intro w2 hh2 ht2));have HX:=qh hh2;have HB:=qh (HB.touch ht2 (Nat.le_refl _));clear hh2 ht2;exact bodyPost_ret (results_cell_tmp rfl _ _ gX q.cells _ (.bool true) rfl rfl HX.AY underlying69 rfl (by kernel_rfl)) rfl ⟨rfl,hx0▸HB.below⟩
theorem Holds.over{P:Program}{tS tR e:TypeId}(ht:P.underlying tS=some (.slice e))(size:Nat)(hz:∀w,(Go.sizeOf e).run P w=.ok size w){w:World}{a b:Nat}{ta tb:TypeId}{La Lb:List Value}(ha:Holds w a ta La)(hb:Holds w b tb Lb)(hne:a≠b)(hl:Lb≠[])(oa ob la ca lb cb:Nat) :(Extern.SlicesOverlaps.overlaps #[tS,tS] #[tR] #[.slice (some ⟨a,oa,none⟩) la ca,.slice (some ⟨b,ob,none⟩) lb cb]).run P w=.ok (.bool false) w:=by
 have h1:w.shape? a=some (ta,La.length):=by simp[World.shape?,show w.heap[a]?=some (.cells La.toArray ta (0,0)) from ha]
 have h2:w.shape? b=some (tb,Lb.length):=by simp[World.shape?,show w.heap[b]?=some (.cells Lb.toArray tb (0,0)) from hb]
 exact Lib.run_overlaps_apart w tS tR e ht size hz ⟨a,oa,none⟩ ⟨b,ob,none⟩ la ca lb cb hne ta tb La.length Lb.length h1 h2 (by simpa using hl) (by simp[World.frozen?,show w.heap[a]?=some (.cells La.toArray ta (0,0)) from ha]) (by simp[World.frozen?,show w.heap[a]?=some (.cells La.toArray ta (0,0)) from ha])
theorem Yi(w:World)(a b:Nat)(ta tb:TypeId)(La Lb:List Value)(ha:Holds w a ta La)(hb:Holds w b tb Lb)(hne:a≠b)(hl:Lb≠[])(oa ob la ca lb cb:Nat) :(callFunc 289 #[.slice (some ⟨a,oa,none⟩) la ca,.slice (some ⟨b,ob,none⟩) lb cb]).run prog w=.ok (.value (.bool false)) w:=by
 rw[run_callFunc_extern func289 (by kernel_rfl) (by kernel_rfl) (by kernel_rfl) (e:=Extern.SlicesOverlaps.overlaps #[51,51] #[4]) (by kernel_rfl),Holds.over underlying51 3 (λw=>by kernel_rfl) ha hb hne hl oa ob la ca lb cb]
 rfl
def Nj(ob:Option Nat)(l:List Pr)(w:World)(e:Ending)(w':World):Prop:=∃v' ob',e=.returned v'∧AV w' v' ob' l∧(ob'=ob∨∃g,ob'=some g∧w.heap.size≤g)∧Mv (λk=>ob=some k) w w'
theorem Qn(v:Value)(ob:Option Nat)(l:List Pr)(i:Nat)(bs:Nat)(x:Pr)(w:World)(h:AV w v ob l)(hx:Holds w bs 69 x.cells)(hne:ob≠some bs)(hi:i≤l.length)(hl:l.length≤1000) :Calls prog 240 #[v,.int .i64 i,.slice (some ⟨bs,0,none⟩) 1 1] w (Nj ob (l.take i++x :: l.drop i) w):=by
 have hlen:=h.len;have hone:=qh (Q4 l);have hxr:=qh (show Reads w (some ⟨bs,0,none⟩) x.cells from hx.reads 0 x.cells λj v hv=>by rw[Nat.zero_add];exact hv);have HX:=qh hx;have hA:J7 (l.take i++x :: l.drop i)=(J7 l).take (i*3)++(x.cells++(J7 l).drop (i*3)):=by rw[LG,Ic,O9,O8]
 have hAl:(l.take i++x :: l.drop i).length=l.length+1:=by simp;omega
 have hP:∀e w',(∃v' ob',e=Ending.returned v'∧AO w' v' ob' 69 3 (l.length+1) ((J7 l).take (i*3)++(x.cells++(J7 l).drop (i*3)))∧(ob'=ob∨∃g,ob'=some g∧w.heap.size≤g)∧Mv (λk=>ob=some k) w w')→Nj ob (l.take i++x :: l.drop i) w e w':=by intro e w' h;unfold Nj AV;rw[hA,hAl];exact h
 unfold AV at h;generalize Nj ob (l.take i++x :: l.drop i) w=D at hP ⊢;have HP:=qh hP;clear hP;have HA:=qh (Ip l);generalize J7 l=L at h hlen hone HA HP;generalize l.length=n at h hi hl hlen HA HP;clear hA hAl;rcases Nat.lt_or_ge i n with hin|hin
 ·obtain⟨g,cap,rest,rfl,rfl,h1,h2,h3,h4⟩:=h.blk (by omega);have hgb:bs≠g:=λe=>hne (by rw[e]);have hz2:¬((i:Int)=(n:Int)):=by omega
  have H3:=qh h3;have HM:=qh (Mv.refl (λk=>some g=some k) w);by_cases hroom:n+1≤cap
  ·have hov:∀lb cb,(callFunc 289 #[.slice (some ⟨bs,0,none⟩) 1 1,.slice (some ⟨g,(i+1)*3,none⟩) lb cb]).run prog w=.ok (.value (.bool false)) w:=λlb cb=>
    Yi w bs g _ _ _ _ HX.o h3 hgb (by intro e;rw[e] at h4;simp at h4;omega) _ _ _ _ _ _
   have hgt:((cap:Int)<(n:Int)+1)=False:=by simp;omega
   have hi0:(0:Int)≤i:=by omega
   have hin':i≤n:=Nat.le_of_lt hin;have hw1:IntKind.i64.wrap ((i:Int)+1)=(i:Int)+1:=by rw[IntKind.wrap_i64];omega
   have hw2:IntKind.i64.wrap ((n:Int)+1)=(n:Int)+1:=by rw[IntKind.wrap_i64];omega
   have hb5:(0:Int)≤(i:Int)+1:=by omega
   have hb6:(i:Int)+1≤(n:Int)+1:=by omega
   have hb8:(n:Int)+1≤cap:=by omega
   have htn:((i:Int)+1).toNat=i+1:=by omega
   have htn2:((n:Int)+1).toNat=n+1:=by omega
   have hc2:(cap=i)=False:=by simp;omega
   have hc3:(cap=i+1)=False:=by simp;omega
   have hz3:(i:Int)≤(n:Int)+1:=by omega
   have hdl:=qh (show (L.drop (i*3)).length=(n-i)*3 by rw[List.length_drop];omega);have HLL:=qh h4;have hg1:g<w.heap.size:=h3.lt;have hb1:bs<w.heap.size:=HX.lt;clear h3 h;go_in;go_upto_region 15 with(simp only[hov]);obtain⟨H3,HX,HM⟩:=Du (AQ _ w) H3 HX HM;have hdr:∀(j:Nat) v,(L.drop (i*3))[j]?=some v→w.drew.cell? ⟨g,i*3+j,none⟩=some v:=λj v hj=>by rw[H3.cell];rw[List.getElem?_drop] at hj;rw[List.getElem?_append_left (List.getElem?_eq_some_iff.1 hj).1];exact hj
   have HDR:=qh hdr;clear hdr hov
   go_region_law (refine Gm rfl (.tmp 73) (.tmp 76) 51 51 rfl 69 rfl 3 (by kernel_rfl) g ((i+1)*3) (n+1 - (i+1)) (cap - (i+1)) g (i*3) (n+1-i) (cap-i) (by simp[Act.eval,Act.put]) (by simp[Act.eval,Act.put]) _ _ H3.o (L.drop (i*3)) (by rw[hdl.out,show Nat.min (n+1-i) (n+1 - (i+1))=n-i from by rw[show n+1 - (i+1)=n-i by omega];exact Nat.min_eq_right (by omega)]) HDR.o (by have:=HLL.o;have h2:=hdl.out;omega) (λu hu=>hone.out u (List.mem_of_mem_drop hu)) ?_;intro w3 hh3 ht3)
   have HX:=qh (HX.mv (Mv.AU (F:=λk=>k=g) ht3 rfl) hgb);have HM:=qh (HM.touch ht3 (.inl rfl));have HN:=qh hh3;have hls:(splice (L++rest) ((i+1)*3) (L.drop (i*3))).length=cap*3:=by rw[length_splice _ _ _ (by have:=HLL.o;have h2:=hdl.out;omega)];exact HLL.o
   have HLS:=qh hls;clear hh3 ht3 hls;go_wp2_with (first|(refine FZ rfl (.tmp 80) (.tmp 81) 51 51 rfl 69 rfl 3 (by kernel_rfl) g (i*3) (n+1-i) (cap-i) bs 0 1 1 rfl rfl _ _ HN.o x.cells (by rw[show Nat.min 1 (n+1-i)=1 from Nat.min_eq_left (by omega)];rfl) (λj v hj=>by rw[Nat.zero_add,HX.cell];exact hj) (by rw[Pr.len,HLS.o];omega) (Pr.one x) ?_;intro w4 hh4 ht4));have HM:=qh (HM.touch ht4 (.inl rfl));have h5:=hh4;have hd3:(L.drop (i*3)).length=(n-i)*3:=hdl.out;have hrl:=HLL.o;rw[List.length_append] at hrl;have e1:splice (splice (L++rest) ((i+1)*3) (L.drop (i*3))) (i*3) x.cells=(L.take (i*3)++(x.cells++L.drop (i*3)))++(L++rest).drop ((i+1)*3+(L.drop (i*3)).length):=by
    have e2:(splice (L++rest) ((i+1)*3) (L.drop (i*3))).take (i*3)=L.take (i*3):=by unfold splice;rw[List.take_append_of_le_length (by simp;omega),List.take_take,Nat.min_eq_left (by omega),List.take_append_of_le_length (by omega)]
    have e3:(splice (L++rest) ((i+1)*3) (L.drop (i*3))).drop (i*3+3)=L.drop (i*3)++(L++rest).drop ((i+1)*3+(L.drop (i*3)).length):=by unfold splice;exact List.drop_left' (by simp;omega)
    rw[show splice (splice (L++rest) ((i+1)*3) (L.drop (i*3))) (i*3) x.cells=(splice (L++rest) ((i+1)*3) (L.drop (i*3))).take (i*3)++(x.cells++(splice (L++rest) ((i+1)*3) (L.drop (i*3))).drop (i*3+3)) from rfl,e2,e3];simp only[List.append_assoc]
   rw[e1] at h5;refine HP.o _ _ ⟨_,some g,rfl,AO.mk' h5 ?_ ?_ hroom h2,.inl rfl,HM.o⟩
   ·simp only[List.length_append,List.length_take,Pr.len,hd3];omega
   ·simp only[List.length_append,List.length_take,List.length_drop,Pr.len,hd3];omega
  ·go_in;have hgt:(cap:Int)<(n:Int)+1:=by omega
   have hi0:(0:Int)≤i:=by omega
   have hie:i≤cap:=by omega
   have htk:∀(j:Nat) v,(L.take (i*3))[j]?=some v→w.cell? ⟨g,0+j,none⟩=some v:=λj v hj=>by
    rw[List.getElem?_take] at hj;split at hj
    ·rw[Nat.zero_add,H3.cell,List.getElem?_append_left (by omega)];exact hj
    ·cases hj
   have HTK:=qh htk;have htl:=qh (show (L.take (i*3)).length=i*3 by rw[List.length_take];omega);clear htk;have hz3:(i:Int)≤(n:Int)+1:=by omega
   have hz4:(0:Int)≤(n:Int)+1-i:=by omega
   go_upto_region 10 with(first|(at_builtin;refine Gh rfl (.tmp 34) (.tmp 39) 51 3 rfl 69 (.agg #[.string ⟨#[]⟩,.string ⟨#[]⟩,.int .i64 0]) 3 40 rfl .i64 .i64 rfl (by kernel_rfl) rfl (by decide) g 0 i cap (n+1-i) rfl (by show Value.int _ _=_;congr 1;omega) (by omega) (L.take (i*3)) htl.out HTK.o (by omega) (by unfold maxLen;omega) (by omega) ?_;intro w1 cap1 Z hh1 hl1 hc1 hm1 hb1 hs1));have hnn:i+(n+1-i)=n+1:=by omega
   rw[hnn] at hc1 ⊢;have HN:=qh hh1;have HB:=qh hb1;have HL:=qh hl1;clear hh1 hb1 hnn htl;have hg1:g<w.heap.size:=H3.lt;have hb1:bs<w.heap.size:=HX.lt;have H3:=qh (H3.bel HB.o);have HX:=qh (HX.bel HB.o);have hxr:=qh (hxr.below HB.o);have HM:=qh (HM.bel HB.o);generalize hG:w.heap.size=G at HN hg1 hb1 hs1 ⊢;have hc2:(cap1=i)=False:=by simp;omega
   have hc3:(cap1=i+1)=False:=by simp;omega
   go_upto_region 11 with(first|(refine FZ rfl (.tmp 43) (.tmp 44) 51 51 rfl 69 rfl 3 (by kernel_rfl) G (i*3) (n+1-i) (cap1-i) bs 0 1 1 rfl rfl _ _ HN.o x.cells (by rw[show Nat.min 1 (n+1-i)=1 from Nat.min_eq_left (by omega)];rfl) (λj v hj=>by rw[Nat.zero_add,HX.cell];exact hj) (by rw[Pr.len];have:=HL.o;omega) (Pr.one x) ?_;intro w2 hh2 ht2));rw[Gt _ _ _ _ (by rw[List.length_take];omega)] at hh2;have hw2:G<w2.heap.size:=by have:=ht2.size;omega
   have HN:=qh (hh2.bel (AQ _ w2));have H3:=qh ((H3.mv (Mv.AU (F:=λk=>k=G) ht2 rfl) (by omega)).bel (AQ _ w2));have HM:=qh ((HM.touch ht2 (.inr (by omega))).bel (AQ _ w2));clear hh2 ht2 HB hxr HX;have hdl:=qh (show (L.drop (i*3)).length=(n-i)*3 by rw[List.length_drop];omega);have hdr:∀(j:Nat) v,(L.drop (i*3))[j]?=some v→w2.drew.cell? ⟨g,i*3+j,none⟩=some v:=λj v hj=>by rw[H3.cell];rw[List.getElem?_drop] at hj;rw[List.getElem?_append_left (List.getElem?_eq_some_iff.1 hj).1];exact hj
   have HDR:=qh hdr;clear hdr;have hw1:IntKind.i64.wrap ((i:Int)+1)=(i:Int)+1:=by rw[IntKind.wrap_i64];omega
   have hb5:(0:Int)≤(i:Int)+1:=by omega
   have hb6:(i:Int)+1≤(n:Int)+1:=by omega
   have htn:((i:Int)+1).toNat=i+1:=by omega
   have hb7:(cap=i)=False:=by simp;omega
   go_region_law (refine Gm rfl (.tmp 50) (.tmp 53) 51 51 rfl 69 rfl 3 (by kernel_rfl) G ((i+1)*3) (n+1 - (i+1)) (cap1 - (i+1)) g (i*3) (n-i) (cap-i) (by simp[Act.eval,Act.put]) (by simp[Act.eval,Act.put]) _ _ HN.o (L.drop (i*3)) (by rw[hdl.out,show Nat.min (n-i) (n+1 - (i+1))=n-i from by rw[show n+1 - (i+1)=n-i by omega];exact Nat.min_self _]) HDR.o (by simp only[List.length_append,List.length_drop,List.length_take,Pr.len];have:=HL.o;simp only[List.length_append,List.length_take] at this;omega) (λu hu=>hone.out u (List.mem_of_mem_drop hu)) ?_;intro w3 hh3 ht3)
   have hd3:(L.drop (i*3)).length=(n-i)*3:=hdl.out;rw[←List.append_assoc,Gt _ _ _ _ (by rw[List.length_append,List.length_take,Pr.len];omega),List.append_assoc] at hh3;have HN:=qh hh3;have HM:=qh (HM.touch ht3 (.inr (by omega)));clear hh3 ht3;go_wp2_with fail;refine HP.o _ _ ⟨_,some G,rfl,?_,.inr ⟨G,rfl,by omega⟩,HM.o⟩;have h5:=HN.o;have hll:((L.take (i*3)).length+Z.length)=cap1*3:=by have:=HL.o;rwa [List.length_append] at this
   rw[List.length_take] at hll;refine AO.mk' (rest:=?_) (by simpa only[List.append_assoc] using h5) ?_ ?_ hc1 hm1
   ·simp only[List.length_append,List.length_take,Pr.len,hd3];omega
   ·simp only[List.length_append,List.length_take,List.length_drop,Pr.len,hd3];omega
 ·obtain rfl:i=n:=by omega
  have e1:L.take (i*3)=L:=List.take_of_length_le (by omega);have e2:L.drop (i*3)=[]:=List.drop_eq_nil_of_le (by omega);rw[e1,e2,List.append_nil] at HP;clear e1 e2;have HO:=qh h;have hn:=qh (show v.ownBlock=ob from h.ob);have hcs:v=.slice none 0 0∧i=0∨(∃g,v=.slice (some ⟨g,0,none⟩) i i)∨∃g cap,v=.slice (some ⟨g,0,none⟩) i cap∧(cap=i)=False:=by
   rcases h.cases with⟨rfl,rfl,rfl,_⟩|⟨g,cap,rest,rfl,rfl,h1,h2,h3,h4⟩
   ·exact .inl ⟨rfl,rfl⟩
   ·rcases Nat.eq_or_lt_of_le h1 with rfl|h
    ·exact .inr (.inl ⟨_,rfl⟩)
    ·exact .inr (.inr ⟨_,_,rfl,by simp;omega⟩)
  clear h hn;rcases hcs with⟨rfl,rfl⟩|⟨g,rfl⟩|⟨g,cap,rfl,hcc⟩;all_goals
   go_in;go_wp2_with (first|(at_builtin;refine aS (.agg #[.string ⟨#[]⟩,.string ⟨#[]⟩,.int .i64 0]) 3 40 HO.o x.cells hxr.out ?_ (Pr.one x);intro v2 ob2 w2 ho2 hob2 hm2));have HO:=qh ho2;have HB:=qh hob2;have HM:=qh hm2;clear ho2 hob2 hm2;exact HP.o _ _ ⟨_,_,rfl,HO.o,HB.o,HM.o⟩
end Go.Proofs.YtimdpiifpibgfaaGreatDoor
