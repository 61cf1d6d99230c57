/- A part of the proof of TopReads. -/
import Derived.Lib.AppendZeros
import Derived.Lib.Overlaps
import Derived.Deep.RegionLaw
import Derived.Test.YtimdpiifpibgfaaGreatDoorQr7
set_option linter.all false
set_option maxRecDepth 20000
set_option maxHeartbeats 16000000
open Go.RowKit Go.Maps
namespace Go.Proofs.YtimdpiifpibgfaaGreatDoor
open Tryz
section
theorem KY{P:Program}(w:World)(t tn ty e:TypeId)(i:TypeInfo)(z:Value)(k kn:IntKind)(ht:P.underlying t=some (.slice e))(htn:P.underlying tn=some (.int kn))(hi:P.info? e=some i)(hz:i.zero=some z) (b:Addr) (sLen sCap:Nat) (olds:List Value) (hlo:olds.length=sLen*i.size) (holds:∀j v,olds[j]?=some v->w.cell? (b.add j)=some v) (n:Nat) (hs:0<i.size) (h0:0<n) (hg:sCap<sLen+n) (h63:((sLen+n:Nat):Int)<=9223372036854775807) (hfit:Builtin.nextslicecap (sLen+n) sCap*i.bytes<=281474976710656) (h48:n*i.bytes<=281474976710656) :(Builtin.append_ #[t,tn] ty #[.slice (some b) sLen sCap,.int k n]).run P w = .ok (.slice (Ac w.heap.size) (sLen+n) (grownCap w (sLen+n) sCap e)) (w.drew.alloc (.cells (olds.toArray++Builtin.zeroCells z.cells n++Builtin.zeroCells z.cells (grownCap w (sLen+n) sCap e - (sLen+n))) e)):=by
 have h:¬(sLen+n<=sCap):=BJ
 have a:n≠0:=BJ
 have o:IntKind.i64.wrap (n:Int)=n:=by rw[IntKind.wrap_i64];omega
 have f:¬(9223372036854775807<((sLen:Int)+(n:Int))):=BJ
 have c:¬(281474976710656<Builtin.nextslicecap (sLen+n) sCap*i.bytes):=BJ
 have d:¬(281474976710656<(n:Int)*(i.bytes:Int)):=by rw[<-Int.natCast_mul];omega
 have l:¬((n:Int)<0):=BJ
 have m:¬(n*i.size=0):=Nat.mul_ne_zero a BJ;have g:=run_firstCells_some (P:=P) w.drew i.size sLen b sLen sCap olds hlo (by simpa using holds);simp[Builtin.append_,run_underlying ht,run_underlying htn,sizeOf,typeInfo,zeroValue,hi,hz,asInt,asIntOf,o,h,a,l,m,f,c,d,Question.forced,g,newRow,grownCap]
theorem Vb{P:Program}{e:TypeId}{z:Value}{s b:Nat}(h:(P.info? e).map (λi=>(i.zero,i.size,i.bytes))=some (some z,s,b)):∃i,P.info? e=some i/\i.zero=some z/\i.size=s/\i.bytes=b:=by
 cases a:P.info? e with
 | none=>simp[a] at h
 | some i=>simp[a] at h;exact⟨i,rfl,h.1,h.2.1,h.2.2⟩
theorem FN{P:Program}{ops:Array Oper}{w:World}{rest:List Oper}{o:Oper}{a:Act}{Q:Exit->Act->World->Prop}(hgd:o.guard=none)(s x:Operand)(t tn:TypeId) (ho:o.op=.call { callee:=.builtin .append,args:=#[s,x],argTypes:=#[t,tn] }) (e:TypeId) (z:Value) (size bytes:Nat) (ht:P.underlying t=some (.slice e)) (kn k:IntKind) (htn:P.underlying tn=some (.int kn)) (hi:(P.info? e).map (λi=>(i.zero,i.size,i.bytes))=some (some z,size,bytes)) (hzs:z.cells.size=size) (hsz:0<size) (g off n cap m:Nat) (hs:a.eval s=.slice (some ⟨g,off,none⟩) n cap) (hx:a.eval x=.int k m) (hm:0<m) (olds:List Value) (hl:olds.length=n*size) (holds:∀j v,olds[j]?=some v->w.cell? ⟨g,off+j,none⟩=some v) (hg:cap<n+m) (h63:n+m<=maxLen) (hb:(n+m)*bytes<=140737488355328) (h:∀w' cap' Z,Holds w' w.heap.size e (olds++Z)->(olds++Z).length=cap'*size->n+m<=cap'->cap'<=maxLen->Below w.heap.size w w'->w'.heap.size=w.heap.size+1->wpList P ops Q rest (a.put o.dst (.slice (Ac w.heap.size) (n+m) cap')) w'):wpList P ops Q (o :: rest) a w:=by
 obtain⟨i,p,u,q,l⟩:=Vb hi;subst q l;have d:=KY (P:=P) w t tn o.type e i z k kn ht htn p u ⟨g,off,none⟩ n cap olds hl (λj v r=>by rw[JE];exact holds j v r) m hsz hm hg (by unfold maxLen at h63;omega) (growslice_fits hg hb) (by have:m*i.bytes<=(n+m)*i.bytes:=Nat.mul_le_mul_right _ BJ;omega);have b:=grownCap_ge w (n+m) cap e;have c:=grownCap_le_maxLen w (n+m) cap e h63;generalize grownCap w (n+m) cap e=C at d b c;refine Lib.wpList_append_run w hgd s x t tn ho _ _ hs hx _ _ d ?_;have f:olds.toArray++Builtin.zeroCells z.cells m++Builtin.zeroCells z.cells (C - (n+m))=(olds++((Builtin.zeroCells z.cells m).toList++(Builtin.zeroCells z.cells (C - (n+m))).toList)).toArray:=by apply Array.ext';simp
 rw[f];refine h _ C ((Builtin.zeroCells z.cells m).toList++(Builtin.zeroCells z.cells (C - (n+m))).toList) (AC w.drew e _) ?_ b c ((AY _ w).alloc Ve _) Vj;simp only[List.length_append,Array.length_toList,size_zeroCells,hl,hzs];rw[<-Nat.add_mul,<-Nat.add_mul]
 congr 1
 omega
theorem WH{P:Program}(w:World)(dT sT ty elem:TypeId)(g off dLen dCap:Nat)(a:Addr)(sLen sCap:Nat)(cur:Array Value)(t:TypeId)(cs:List Value)(s:Nat) (hu:P.underlying dT=some (.slice elem)) (hs:(P.info? elem).map (·.size)=some s) (hg:w.heap[g]?=some (.cells cur t (0,0))) (hn:cs.length=Nat.min sLen dLen*s) (hsrc:∀j v,cs[j]?=some v->w.cell? (a.add j)=some v) (hfit:off+cs.length<=cur.size) (h1:∀v∈cs,v.oneCell'=true) :(Builtin.copy_ #[dT,sT] ty #[.slice (some ⟨g,off,none⟩) dLen dCap,.slice (some a) sLen sCap]).run P w = .ok (goInt (Nat.min sLen dLen)) (w.setRow g (cur.toList.take off++cs++cur.toList.drop (off+cs.length)).toArray):=by
 have d:=run_loadCells_list (P:=P) w a cs hsrc;have f:=run_storeCells_at P g off t cs 0 cur w hg (by simpa using hfit) h1;cases b:P.info? elem with
 | none=>simp[b] at hs
 | some i=>
  have c:i.size=s:=by simpa[b] using hs
  simp[Builtin.copy_,run_underlying hu,Builtin.lenOf,Builtin.firstCells,sizeOf,typeInfo,b,c,<-hn,d,f]
theorem FD(A Z X:List Value)(k:Nat)(hk:A.length=k):splice (A++Z) k X=A++(X++Z.drop X.length):=by
 subst hk;unfold splice;rw[List.take_left',List.drop_length_add_append]
 rfl
section
variable {P:Program} {w:World} {ops:Array Oper} {rest:List Oper} {o:Oper} {a:Act} {Q:Exit->Act->World->Prop} {K:Act->World->Prop} {E:Prop}
theorem RG(d s:Operand)(dT sT:TypeId) (ho:o.op=.call { callee:=.builtin .copy,args:=#[d,s],argTypes:=#[dT,sT] }) (elem:TypeId) (hu:P.underlying dT=some (.slice elem)) (sz:Nat) (hsz:(P.info? elem).map (·.size)=some sz) (g off dLen dCap sb so sLen sCap:Nat) (hd:a.eval d=.slice (some ⟨g,off,none⟩) dLen dCap) (hs:a.eval s=.slice (some ⟨sb,so,none⟩) sLen sCap) (cur:List Value) (t:TypeId) (hg:Holds w g t cur) (cs:List Value) (hn:cs.length=Nat.min sLen dLen*sz) (hsrc:∀(j:Nat) v,cs[j]?=some v->w.cell? ⟨sb,so+j,none⟩=some v) (hfit:off+cs.length<=cur.length) (h1:∀v∈cs,v.oneCell'=true) (h:∀w',Holds w' g t (splice cur off cs)->Touch g w w'->K (a.put o.dst (goInt (Nat.min sLen dLen))) w'):Oper.wp P o a w K Q:=by have c:=WH (P:=P) w dT sT o.type elem g off dLen dCap ⟨sb,so,none⟩ sLen sCap cur.toArray t cs sz hu hsz hg hn (λj v f=>by rw[JE];exact hsrc j v f) (by simpa using hfit) h1;unfold Oper.wp;simp[execOp,ho,resolve,invoke,builtin,hd,hs,c,Result.andThen];refine h _ ?_ ⟨rfl,rfl,rfl,by simp[World.setRow],λk i b=>setRow_other w g k _ b⟩;simpa[splice,Holds] using setRow_heap w g _ _ t _ hg
theorem ER(hgd:o.guard=none)(d s:Operand)(dT sT:TypeId) (ho:o.op=.call { callee:=.builtin .copy,args:=#[d,s],argTypes:=#[dT,sT] }) (elem:TypeId) (hu:P.underlying dT=some (.slice elem)) (sz:Nat) (hsz:(P.info? elem).map (·.size)=some sz) (g off dLen dCap sb so sLen sCap:Nat) (hd:a.eval d=.slice (some ⟨g,off,none⟩) dLen dCap) (hs:a.eval s=.slice (some ⟨sb,so,none⟩) sLen sCap) (cur:List Value) (t:TypeId) (hg:Holds w g t cur) (cs:List Value) (hn:cs.length=Nat.min sLen dLen*sz) (hsrc:∀(j:Nat) v,cs[j]?=some v->w.cell? ⟨sb,so+j,none⟩=some v) (hfit:off+cs.length<=cur.length) (h1:∀v∈cs,v.oneCell'=true) (h:∀w',Holds w' g t (splice cur off cs)->Touch g w w'->wpList P ops Q rest (a.put o.dst (goInt (Nat.min sLen dLen))) w'):wpList P ops Q (o :: rest) a w:=
 wpList_plain hgd λK f=>RG d s dT sT ho elem hu sz hsz g off dLen dCap sb so sLen sCap hd hs cur t hg cs hn hsrc hfit h1 λw' b c=>f _ _ (h w' b c)
theorem FH(hgd:o.guard=none)(d s:Operand)(dT sT:TypeId) (ho:o.op=.call { callee:=.builtin .copy,args:=#[d,s],argTypes:=#[dT,sT] }) (elem:TypeId) (hu:P.underlying dT=some (.slice elem)) (sz:Nat) (hsz:(P.info? elem).map (·.size)=some sz) (g off dLen dCap sb so sLen sCap:Nat) (hd:a.eval d=.slice (some ⟨g,off,none⟩) dLen dCap) (hs:a.eval s=.slice (some ⟨sb,so,none⟩) sLen sCap) (cur:List Value) (t:TypeId) (hg:Holds w g t cur) (cs:List Value) (hn:cs.length=Nat.min sLen dLen*sz) (hsrc:∀(j:Nat) v,cs[j]?=some v->w.cell? ⟨sb,so+j,none⟩=some v) (hfit:off+cs.length<=cur.length) (h1:∀v∈cs,v.oneCell'=true) (h:∀w',Holds w' g t (splice cur off cs)->Touch g w w'->K (a.put o.dst (goInt (Nat.min sLen dLen))) w'):if Region.wanted o (yielded ops a.tmps)=true then Oper.wp P o a w K Q else E:=by rw[if_pos (by simp[Region.wanted,hgd])];exact RG d s dT sT ho elem hu sz hsz g off dLen dCap sb so sLen sCap hd hs cur t hg cs hn hsrc hfit h1 h
end
section
variable {P:Program} {ops:Array Oper} {Q:Exit->Act->World->Prop}
theorem WT{rest:List Oper}{o:Oper}{a:Act}{w:World}(hw:Region.wanted o (yielded ops a.tmps)=true)(t:TypeId)(i j:Nat)(q r:Tmp)(ho:o.op=.build t #[(i,.tmp q),(j,.tmp r)])(u v:Value)(hu:a.eval (.tmp q)=u)(hv:a.eval (.tmp r)=v) (z:Value) (hr:∀w,(Instr.build t #[(i,u),(j,v)]).run P w=.ok z w) (h:wpList P ops Q rest (a.put o.dst z) w):wpList P ops Q (o :: rest) a w:=
 wpList_step λK b=>by rw[if_pos hw];unfold Oper.wp execOp;simp only[ho,List.map_toArray,List.map_cons,List.map_nil,hu,hv];rw[Sem.run_bind,hr];exact b _ _ h
end
theorem WP{w w':World}{b:Nat}(h:w.grownBy w' (some b)):Touch b w w':=⟨h.os,h.tape,h.output,h.size,λk a c=>h.block k a λe=>by cases e;exact c rfl⟩
theorem EP{P:Program}{ops:Array Oper}{w:World}{o:Oper}{a:Act}{K:Act->World->Prop}{Q:Exit->Act->World->Prop}{E:Prop}(hgd:o.guard=none)(s x:Operand)(t:TypeId) (ho:o.op=.call { callee:=.builtin .append,args:=#[s,x],argTypes:=#[t,t] }) (e:TypeId) (z:Value) (size bytes:Nat) (ht:P.underlying t=some (.slice e)) (hi:(P.info? e).map (λi=>(i.zero,i.size,i.bytes))=some (some z,size,bytes)) (g n cap:Nat) (xs:List Value) (hs:a.eval s=.slice (Ac g) n cap) (hown:AV w (.slice (Ac g) n cap) (some g) e size n xs) (off m c:Nat) (news:List Value) (hx:a.eval x=.slice (some ⟨g,off,none⟩) m c) (hl:news.length=m*size) (hnews:∀j u,news[j]?=some u->w.cell? ⟨g,off+j,none⟩=some u) (h1:∀u∈news,u.oneCell'=true) (hroom:n+m<=cap) (h:∀w',AV w' (.slice (Ac g) (n+m) cap) (some g) e size (n+m) (xs++news)->Touch g w w'->K (a.put o.dst (.slice (Ac g) (n+m) cap)) w') :if Region.wanted o (yielded ops a.tmps)=true then Oper.wp P o a w K Q else E:=by
 have p:Region.wanted o (yielded ops a.tmps)=true:=by simp[Region.wanted,hgd]
 rw[if_pos p];obtain⟨i,f,r,k,q⟩:=info_parts hi;exact wp_append_own_spare w s x t ho 0 e i size ht f k g n cap xs hs hown.own ⟨g,off,none⟩ m c news hx hl (λj u l=>by rw[JE];exact hnews j u l) h1 hroom λw' b d=>h w' ⟨b,rfl⟩ (WP d)
end
structure Pr where
 k:ByteArray
 v:ByteArray
 n:Int
def Pr.zero:Pr:=⟨⟨#[]⟩,⟨#[]⟩,0⟩
def Pr.cells(p:Pr):List Value:=[.string p.k,.string p.v,AA p.n]
theorem Pr.one(p:Pr):∀u∈p.cells,u.oneCell'=true:=by simp[Pr.cells,Value.oneCell']
theorem Pr.one'(p:Pr):p.cells.toArray.all (·.oneCell')=true:=by simp[Pr.cells,Value.oneCell']
theorem Pr.len(p:Pr):p.cells.length=3:=rfl
def uK(l:List Pr)(i:Nat):List Value:=(l.getD i .zero).cells
theorem SX(l:List Pr)(i j:Nat)(hi:i<l.length)(hj:j<3):(l.flatMap Pr.cells)[i*3+j]?=(uK l i)[j]?:=by
 induction l generalizing i with
 | nil=>simp at hi
 | cons p r ih=>
  rw[List.flatMap_cons];cases i with
  | zero=>
   rw[List.getElem?_append_left (by rw[Pr.len];omega)];simp[uK]
  | succ i=>
   rw[List.getElem?_append_right (by rw[Pr.len];omega),Pr.len,show (i+1)*3+j-3=i*3+j by omega,ih i (by simpa using hi)];simp[uK]
def NI(l:List Pr):List Value:=l.flatMap Pr.cells
theorem Jr(l:List Pr):(NI l).length=l.length*3:=by
 unfold NI;induction l with
 | nil=>rfl
 | cons p r ih=>rw[List.flatMap_cons,List.length_append,ih,Pr.len,List.length_cons];omega
theorem jJ(l:List Pr):flat 3 l.length (uK l)=NI l:=by
 apply List.ext_getElem?;intro t;by_cases c:t<l.length*3
 .have e:t / 3*3+t % 3=t:=BJ
  have a:=EW 3 l.length (uK l) (t / 3) (t % 3) BJ BJ rfl;have b:=SX l (t / 3) (t % 3) BJ BJ;rw[e] at a b;rw[a,<-b]
  rfl
 .rw[List.getElem?_eq_none (by rw[BQ];omega),List.getElem?_eq_none (by rw[Jr];omega)]
theorem NJ(a b:List Pr):NI (a++b)=NI a++NI b:=List.flatMap_append
theorem Ja(p:Pr)(r:List Pr):NI (p :: r)=p.cells++NI r:=rfl
theorem Qm:∀(l:List Pr) (i:Nat),(NI l).take (i*3)=NI (l.take i)
 | [],i=>by simp[NI]
 | p :: r,0=>by simp[NI]
 | p :: r,i+1=>by rw[Ja,List.take_succ_cons,Ja,<-Qm r i,show (i+1)*3=p.cells.length+i*3 by rw[Pr.len];omega,List.take_length_add_append]
theorem Ql:∀(l:List Pr) (i:Nat),(NI l).drop (i*3)=NI (l.drop i)
 | [],i=>by simp[NI]
 | p :: r,0=>by simp[NI]
 | p :: r,i+1=>by rw[Ja,List.drop_succ_cons,<-Ql r i,show (i+1)*3=p.cells.length+i*3 by rw[Pr.len];omega,List.drop_length_add_append]
theorem Ug(l:List Pr):∀u∈NI l,u.oneCell'=true:=λu b=>by obtain⟨p,_,a⟩:=List.mem_flatMap.1 b;exact Pr.one p u a
def Ad(w:World)(v:Value)(ob:Option Nat)(l:List Pr):Prop:=AV w v ob 69 3 l.length (NI l)
theorem Ad.bel{w w':World}{v:Value}{ob:Option Nat}{l:List Pr}(h:Ad w v ob l)(hb:Below w.heap.size w w'):Ad w' v ob l:=AV.bel h hb
instance {w w':World}{v:Value}{ob:Option Nat}{l:List Pr}:Bl w w' (Ad w v ob l) (Ad w' v ob l):=⟨λhb h=>Ad.bel h hb⟩
theorem Ad.mv{w w':World}{F:Ap}{v:Value}{ob:Option Nat}{l:List Pr}(h:Ad w v ob l)(hm:Mv F w w')(hn:∀g,ob=some g->¬F g):Ad w' v ob l:=AV.mv h hm hn
theorem Ad.rows{w:World}{v:Value}{ob:Option Nat}{l:List Pr}(h:Ad w v ob l):∃p c,v=.slice p l.length c/\l.length<=c/\c<=maxLen/\(p=none->c=0)/\Bj w p l.length 3 (uK l):=AV.rows (V:=uK l) (by rw[jJ];exact h) (λ_ _=>rfl) Iz
theorem Ad.nil(w:World):Ad w AL none []:=AV.nil _ _ _
def DY:List Pr->ByteArray->Nat × Bool
 | [],_=>(0,false)
 | p :: r,key=>if SpanP.lt p.k key then ((DY r key).1+1,(DY r key).2) else (0,SpanP.same p.k key)
theorem Vg:∀(l:List Pr) (key:ByteArray) (k:Nat),(∀i,i<k->SpanP.lt (l.getD i .zero).k key=true)->(k<l.length->SpanP.lt (l.getD k .zero).k key=false->DY l key=(k,SpanP.same (l.getD k .zero).k key))/\(k=l.length->DY l key=(k,false))
 | [],key,k,_=>⟨λh=>by simp at h,λh=>by simp at h;subst h;rfl⟩
 | p :: r,key,0,_=>⟨λ_ h=>by simp at h;simp[DY,h],λh=>by simp at h⟩
 | p :: r,key,k+1,h=>by
  have h0:=h 0 BJ;have b:=Vg r key k λi d=>by simpa using h (i+1) BJ
  simp only[List.getD_cons_zero] at h0;refine⟨λa c=>?_,λa=>?_⟩
  .have:=b.1 (by simpa using a) (by simpa using c);simp[DY,h0,this]
  .have:=b.2 (by simpa using a);simp[DY,h0,this]
theorem JV(l:List Pr)(key:ByteArray):(DY l key).1<=l.length/\((DY l key).2=true->(DY l key).1<l.length):=by
 induction l with
 | nil=>simp[DY]
 | cons p r ih=>unfold DY;split<;>simp<;>omega
def LG(l:List Pr)(key:ByteArray):Pr × Bool:=if (DY l key).2 then (l.getD (DY l key).1 .zero,true) else (.zero,false)
def Pr.put(p:Pr)(v:ByteArray):Pr:=⟨p.k,v,p.n+1⟩
def Jp(l:List Pr)(key v:ByteArray):List Pr:=
 let i:=(DY l key).1
 if (DY l key).2 then l.set i ((l.getD i .zero).put v) else (l.take i++⟨key,v,1⟩ :: l.drop i)
theorem iC(l:List Pr)(key v:ByteArray)(i:Nat)(h:DY l key=(i,true)):Jp l key v=l.set i ((l.getD i .zero).put v):=by simp[Jp,h]
theorem gu(l:List Pr)(key v:ByteArray)(i:Nat)(hi:i<=l.length)(h:DY l key=(i,false)):Jp l key v=(l.take i++⟨key,⟨#[]⟩,0⟩ :: l.drop i).set i (((l.take i++⟨key,⟨#[]⟩,0⟩ :: l.drop i).getD i .zero).put v):=by
 have a:(l.take i).length=i:=by rw[List.length_take];omega
 have e:(l.take i++⟨key,⟨#[]⟩,0⟩ :: l.drop i).getD i .zero=(⟨key,⟨#[]⟩,0⟩:Pr):=by
  rw[List.getD_eq_getElem?_getD,List.getElem?_append_right BJ,a,Nat.sub_self]
  rfl
 rw[e,List.set_append_right _ _ BJ,a,Nat.sub_self];simp[Jp,h,Pr.put]
theorem Yi:∀(l:List Pr) (i:Nat) (v:ByteArray) (n:Int) (rest:List Value),i<l.length->((NI l++rest).set (i*3+1) (.string v)).set (i*3+2) (AA n)=NI (l.set i ⟨(l.getD i .zero).k,v,n⟩)++rest
 | p :: r,0,v,n,rest,_=>rfl
 | p :: r,i+1,v,n,rest,h=>by
  have ih:=Yi r i v n rest (by simpa using h);rw[List.set_cons_succ,Ja,Ja,List.append_assoc,List.append_assoc,List.getD_cons_succ,<-ih];rw[List.set_append_right _ _ (by rw[Pr.len];omega),List.set_append_right _ _ (by rw[Pr.len];omega),Pr.len]
  congr 2
  .congr 1;omega
  .omega
theorem jI(l:List Pr)(i:Nat)(rest:List Value)(h:i<l.length):(NI l++rest)[i*3+2]?=some (AA (l.getD i .zero).n):=by rw[List.getElem?_append_left (by rw[Jr];omega)];exact SX l i 2 h BJ
theorem Oo(v:Value)(ob:Option Nat)(l:List Pr)(key:ByteArray)(w:World)(h:Ad w v ob l) :Calls prog 239 #[v,.string key] w λe w'=>e=.returned (.tuple #[AA ((DY l key).1:Int),.bool (DY l key).2])/\Below w.heap.size w w':=by
 obtain⟨p,c,rfl,O,N,_,x⟩:=h.rows;have A:=qh x;have P:l.length<=maxLen:=x.1;unfold maxLen at P;have z:=qh (Vg l key);generalize M:DY l key=F at z |-;obtain⟨S,R⟩:=F;clear x h M O N;go_in;go_wp2_with fail;go_loopw [10] (λi wr=>∃k:Nat,k<=l.length/\i=AA k/\Hid (∀j,j<k->SpanP.lt (l.getD j .zero).k key=true)/\Below w.heap.size w wr) (λi _=>l.length - (intOf i).toNat);case atStart=>exact⟨0,BJ,rfl,qh λj I=>absurd I BJ,by go_grown⟩
 case round=>
  obtain⟨k,T,rfl,g,H⟩:=hrel;have a:=qh H;clear H;by_cases E:k<l.length
  .obtain⟨b,off,rfl,hlt⟩:=A.spot BJ;have n:=qh (show wr.rangeAt b (off+k*3) (l.getD k .zero).cells from A.range a.o E);have y:=z.out k g.o;obtain⟨q,u⟩:∃q,q=l.getD k .zero:=⟨_,rfl⟩;rw[<-u] at y n;obtain⟨r,L⟩:=WZ y u;clear y u;go_upto_region 4 with(first|(refine lM (off+k*3) n.o ?_)|(refine Ai rfl 69 _ _ rfl rfl _ _ q.cells.toArray rfl rfl ND ND (Pr.one' _) ?_));go_name_world W s;have t:Holds W wr.heap.size 69 q.cells:=by rw[<-s];exact AC wr _ _
   have G:Below w.heap.size w W:=by rw[<-s];exact a.alloc a.size _
   clear s a n;have a:=qh G;clear G;have B:=t.cell 0;have D:=λd Q=>t.grown d Q 0;simp only[Pr.cells,yA,yB] at B D;clear t;have f:∃b,Op.bytesLess q.k.toList key.toList=b:=⟨_,rfl⟩;obtain⟨C,f⟩:=f;have K:=qh (show SpanP.lt q.k key=C from f);cases C
   .have he:=r.1 E f;have m:=qh he;clear r he;go_upto_region 5 with(fail);refine wp_region_quiet_below ND ND ?_;repeat go_big_quiet_step (fail)
    refine wpQuiet_nil ?_;intro U J;have a:=qh (AO a.o (Aa J));clear J B D;go_wp2_with fail;have e:=m.o;simp only[Prod.mk.injEq] at e;exact bodyPost_ret (v:=.tuple #[AA k,.bool (SpanP.same q.k key)]) (by simp[results,results239,go_sem,SpanP.same]) rfl ⟨by rw[e.1,e.2],a.o⟩
   .clear r;go_wp2_with fail;go_roundw;case rel=>exact⟨k+1,BJ,by go_num,qh λj I=>if hjk:j<k then g.o j hjk else (by rw[show j=k by omega,<-L.o];exact K.o),a.o⟩
    case measure=>simp[intOf];omega
  .obtain rfl:k=l.length:=BJ
   have m:=qh ((z.out _ g.o).2 rfl);go_wp2_with fail;have e:=m.o;simp only[Prod.mk.injEq] at e;exact b2 (v:=.tuple #[AA l.length,.bool false]) ⟨by rw[e.1,e.2],a.o⟩
theorem F5(v:Value)(ob:Option Nat)(l:List Pr)(w:World)(h:Ad w v ob l)(hl:l.length<=1000) :Calls prog 36 #[v] w λe w'=>∃v' ob',e=.returned v'/\Ad w' v' ob' l/\(∀g,ob'=some g->w.heap.size<=g)/\Below w.heap.size w w':=by
 have q:=Ug l;unfold Ad at h |-;have n:=h.len;generalize NI l=L at h q n |-;generalize l.length=m at h hl n |-;obtain⟨y,r⟩:=WZ q (show AV (w.alloc (.cells #[] 69)) (.slice (Ac w.heap.size) 0 0) (some w.heap.size) 69 3 0 [] from⟨World.ownsRow_lit (size:=3) w #[] 0 (Nat.zero_le _) (by unfold maxLen;omega) Vj,rfl⟩);have d:Below w.heap.size w (w.alloc (.cells #[] 69)):=by go_grown
 have b:=qh d;have E:=d.size;clear d q;rcases h.cases with⟨rfl,rfl,rfl,rfl⟩|⟨g,c,K,rfl,rfl,G,H,f,I⟩
 .have he:∀W:World,(binOp .eql 51 AL AL).run prog W=.ok (.bool true) W:=λ_=>ND
  go_in;go_wp2_with fail;go_ret;exact⟨_,none,rfl,AV.nil _ _ _,(λ_ a=>by cases a),Below.refl _ _⟩
 .have he:∀W:World,(binOp .eql 51 (.slice (Ac g) m c) AL).run prog W=.ok (.bool false) W:=λ_=>ND
  rcases Nat.eq_zero_or_pos m with rfl|hm0
  .obtain rfl:L=[]:=List.length_eq_zero_iff.1 BJ;have D:∀(s:Nat) (W:World),(Builtin.append_ #[51,51] 51 #[.slice (Ac s) 0 0,.slice (Ac g) 0 c]).run prog W=.ok (.slice (Ac s) 0 0) W:=λ_ _=>ND
   clear h f;go_in;go_wp2_with (first|(at_builtin;refine wpList_append_run _ rfl (.tmp 5) (.tmp 6) 51 51 rfl _ _ rfl rfl _ _ (D _ _) ?_));go_ret;exact⟨_,_,rfl,r.o,(λg a=>by cases a;exact Nat.le_refl _),b.o⟩
  .have HR:=qh (f.reads 0 L (λj v x=>by rw[Nat.zero_add,List.getElem?_append_left (List.getElem?_eq_some_iff.1 x).1];exact x));clear h f;go_in;go_wp2_with (first|(at_builtin;refine aS (.agg #[AU,AU,AA 0]) 3 40 r.o L (HR.below b.o) ?_ y.o (hl:=n) (hm0:=hm0);intro M F N p u t));rw[List.nil_append,Nat.zero_add] at p;have A:=qh (b.trans (t.below E (λk i=>by cases i;exact Nat.le_refl _)));have a:∀g,F=some g->w.heap.size<=g:=λg a=>by
    rcases u with C|⟨k,i,J⟩
    .rw[C] at a;cases a;exact Nat.le_refl _
    .rw[i] at a;cases a;omega
   obtain⟨z,B⟩:=WZ p a;clear p t u a;go_ret;exact⟨_,_,rfl,z.o,B.o,A.o⟩
theorem ww(v:Value)(ob:Option Nat)(l:List Pr)(key:ByteArray)(w:World)(h:Ad w v ob l) :Calls prog 180 #[v,.string key] w λe w'=>e=.returned (.tuple #[.agg (LG l key).1.cells.toArray,.bool (LG l key).2])/\Below w.heap.size w w':=by
 obtain⟨m,H⟩:=WZ (λW f=>Oo v ob l key W f) h;have n:=JV l key;obtain⟨p,c,rfl,L,I,_,g⟩:=h.rows;have B:l.length<=maxLen:=g.1;unfold maxLen at B;have a:=qh (Base.start w);unfold LG;generalize DY l key=F at m n |-;obtain⟨i,b⟩:=F;obtain⟨q,r⟩:∃q,q=l.getD i .zero:=⟨_,rfl⟩;simp only[<-r] at m n |-;have z:=qh r;clear r;clear h g;go_in;go_upto_region 1 with(fail);go_name_world W f;have f:Bo w [.cells (Pr.zero.cells:List Value).toArray 69]=W:=f;have d:=qh (show Holds W (w.heap.size) 69 Pr.zero.cells from Ae _ f 0 rfl);have u:=Aq _ f;clear f;obtain⟨H,a⟩:=Ce u H a;clear u;generalize x:w.heap.size=s at d a |-;go_wp2_with fail;refine Ah (m.o _ H.o) ?_;rintro D t;obtain⟨H,d,a⟩:=D5 t H d a;clear t m;cases b
 .go_wp2_with (first|(refine sW Pr.zero.cells d.o ?_ (Pr.one' _);intro E j k));obtain⟨d,a⟩:=WZ j (a.touch k Ve);clear j k;exact bodyPost_ret (results_cell_tmp rfl _ _ s Pr.zero.cells _ (.bool false) rfl rfl d.Af underlying69 rfl ND) rfl ⟨rfl,x▸a.below⟩
 .have hi:=n.2 rfl;obtain⟨N,G,C,_,_,_,g⟩:=H.rows;cases C;obtain⟨b,y,rfl,M⟩:=g.spot BJ;have A:=qh (show D.rangeAt b (y+i*3) q.cells from z.o▸g.range Vk hi);clear g;have J:(0:Int)<=(i:Int):=BJ
  have K:(i:Int)<(l.length:Int):=BJ
  go_wp2_with (first|(refine lM (y+i*3) A.o ?_)|(refine sW q.cells d.o ?_ (Pr.one' _);intro E j k));obtain⟨d,a⟩:=WZ j (a.touch k Ve);clear j k;exact bodyPost_ret (results_cell_tmp rfl _ _ s q.cells _ (.bool true) rfl rfl d.Af underlying69 rfl ND) rfl ⟨rfl,x▸a.below⟩
theorem Holds.over{P:Program}{tS tR e:TypeId}(ht:P.underlying tS=some (.slice e))(size:Nat)(hz:∀w,(Go.sizeOf e).run P w=.ok size w){w:World}{a b:Nat}{ta tb:TypeId}{La Lb:List Value}(ha:Holds w a ta La)(hb:Holds w b tb Lb)(hne:a≠b)(hl:Lb≠[])(oa ob la ca lb cb:Nat) :(Extern.SlicesOverlaps.overlaps #[tS,tS] #[tR] #[.slice (some ⟨a,oa,none⟩) la ca,.slice (some ⟨b,ob,none⟩) lb cb]).run P w=.ok (.bool false) w:=by
 have c:w.shape? a=some (ta,La.length):=by simp[World.shape?,show w.heap[a]?=some (.cells La.toArray ta (0,0)) from ha]
 have d:w.shape? b=some (tb,Lb.length):=by simp[World.shape?,show w.heap[b]?=some (.cells Lb.toArray tb (0,0)) from hb]
 exact Lib.run_overlaps_apart w tS tR e ht size hz ⟨a,oa,none⟩ ⟨b,ob,none⟩ la ca lb cb hne ta tb La.length Lb.length c d (by simpa using hl) (by simp[World.frozen?,show w.heap[a]?=some (.cells La.toArray ta (0,0)) from ha]) (by simp[World.frozen?,show w.heap[a]?=some (.cells La.toArray ta (0,0)) from ha])
theorem fQ(w:World)(a b:Nat)(ta tb:TypeId)(La Lb:List Value)(ha:Holds w a ta La)(hb:Holds w b tb Lb)(hne:a≠b)(hl:Lb≠[])(oa ob la ca lb cb:Nat) :(callFunc 289 #[.slice (some ⟨a,oa,none⟩) la ca,.slice (some ⟨b,ob,none⟩) lb cb]).run prog w=.ok (.value (.bool false)) w:=by
 rw[run_callFunc_extern func289 ND ND ND (e:=Extern.SlicesOverlaps.overlaps #[51,51] #[4]) ND,Holds.over underlying51 3 (λw=>ND) ha hb hne hl oa ob la ca lb cb]
 rfl
def Pe(ob:Option Nat)(l:List Pr)(w:World)(e:Ending)(w':World):Prop:=∃v' ob',e=.returned v'/\Ad w' v' ob' l/\(ob'=ob\/∃g,ob'=some g/\w.heap.size<=g)/\Mv (λk=>ob=some k) w w'
theorem UT(v:Value)(ob:Option Nat)(l:List Pr)(i:Nat)(bs:Nat)(x:Pr)(w:World)(h:Ad w v ob l)(hx:Holds w bs 69 x.cells)(hne:ob≠some bs)(hi:i<=l.length)(hl:l.length<=1000) :Calls prog 240 #[v,AA i,.slice (Ac bs) 1 1] w (Pe ob (l.take i++x :: l.drop i) w):=by
 have ag:=h.len;obtain⟨U,O,c⟩:=bP (Ug l) (show Reads w (Ac bs) x.cells from hx.reads 0 x.cells λj v hv=>by rw[Nat.zero_add];exact hv) hx;have hA:NI (l.take i++x :: l.drop i)=(NI l).take (i*3)++(x.cells++(NI l).drop (i*3)):=by rw[NJ,Ja,Qm,Ql]
 have aa:(l.take i++x :: l.drop i).length=l.length+1:=by simp;omega
 have S:∀e w',(∃v' W,e=Ending.returned v'/\AV w' v' W 69 3 (l.length+1) ((NI l).take (i*3)++(x.cells++(NI l).drop (i*3)))/\(W=ob\/∃g,W=some g/\w.heap.size<=g)/\Mv (λk=>ob=some k) w w')->Pe ob (l.take i++x :: l.drop i) w e w':=by intro e w' h;unfold Pe Ad;rw[hA,aa];exact h
 unfold Ad at h;generalize Pe ob (l.take i++x :: l.drop i) w=D at S |-;obtain⟨q,X⟩:=WZ S (Jr l);clear S;generalize NI l=L at h ag U X q;generalize l.length=n at h hi hl ag X q;clear hA aa;rcases Nat.lt_or_ge i n with af|af
 .obtain⟨g,cap,rest,rfl,rfl,h1,J,z,K⟩:=h.blk BJ;have ad:bs≠g:=λe=>hne (by rw[e]);have bh:¬((i:Int)=(n:Int)):=BJ
  obtain⟨d,a⟩:=WZ z (Mv.refl (λk=>some g=some k) w);by_cases a4:n+1<=cap
  .have hov:∀lb Y,(callFunc 289 #[.slice (Ac bs) 1 1,.slice (some ⟨g,(i+1)*3,none⟩) lb Y]).run prog w=.ok (.value (.bool false)) w:=λlb Y=>
    fQ w bs g _ _ _ _ c.o z ad (by intro e;rw[e] at K;simp at K;omega) _ _ _ _ _ _
   have ax:((cap:Int)<(n:Int)+1)=False:=by simp;omega
   have az:(0:Int)<=i:=BJ
   have bf:i<=n:=Nat.le_of_lt af;have a8:IntKind.i64.wrap ((i:Int)+1)=(i:Int)+1:=by rw[IntKind.wrap_i64];omega
   have a9:IntKind.i64.wrap ((n:Int)+1)=(n:Int)+1:=by rw[IntKind.wrap_i64];omega
   have aq:(0:Int)<=(i:Int)+1:=BJ
   have ar:(i:Int)+1<=(n:Int)+1:=BJ
   have bc:(n:Int)+1<=cap:=BJ
   have a7:((i:Int)+1).toNat=i+1:=BJ
   have bg:((n:Int)+1).toNat=n+1:=BJ
   have au:(cap=i)=False:=by simp;omega
   have av:(cap=i+1)=False:=by simp;omega
   have ba:(i:Int)<=(n:Int)+1:=BJ
   obtain⟨p,E⟩:=WZ (show (L.drop (i*3)).length=(n-i)*3 by rw[List.length_drop];omega) K;have ac:g<w.heap.size:=z.lt;have A:bs<w.heap.size:=c.lt;clear z h;go_in;go_upto_region 15 with(simp only[hov]);obtain⟨d,c,a⟩:=D5 (AY _ w) d c a;have C:∀(j:Nat) v,(L.drop (i*3))[j]?=some v->w.drew.cell? ⟨g,i*3+j,none⟩=some v:=λj v b=>by rw[d.cell];rw[List.getElem?_drop] at b;rw[List.getElem?_append_left (List.getElem?_eq_some_iff.1 b).1];exact b
   have P:=qh C;clear C hov
   go_region_law (refine FH rfl (.tmp 73) (.tmp 76) 51 51 rfl 69 rfl 3 ND g ((i+1)*3) (n+1 - (i+1)) (cap - (i+1)) g (i*3) (n+1-i) (cap-i) (by simp[Act.eval,Act.put]) (by simp[Act.eval,Act.put]) _ _ d.o (L.drop (i*3)) (by rw[p.out,show Nat.min (n+1-i) (n+1 - (i+1))=n-i from by rw[show n+1 - (i+1)=n-i by omega];exact Nat.min_eq_right BJ]) P.o (by have:=E.o;have J:=p.out;omega) (λu V=>U.out u (List.mem_of_mem_drop V)) ?_;intro w3 r s)
   obtain⟨c,a,f⟩:=bP (c.mv (Mv.AZ (F:=λk=>k=g) s rfl) ad) (a.touch s (.inl rfl)) r;have ah:(splice (L++rest) ((i+1)*3) (L.drop (i*3))).length=cap*3:=by rw[length_splice _ _ _ (by have:=E.o;have J:=p.out;omega)];exact E.o
   have ao:=qh ah;clear r s ah;go_wp2_with (first|(refine ER rfl (.tmp 80) (.tmp 81) 51 51 rfl 69 rfl 3 ND g (i*3) (n+1-i) (cap-i) bs 0 1 1 rfl rfl _ _ f.o x.cells (by rw[show Nat.min 1 (n+1-i)=1 from Nat.min_eq_left BJ];rfl) (λj v b=>by rw[Nat.zero_add,c.cell];exact b) (by rw[Pr.len,ao.o];omega) (Pr.one x) ?_;intro w4 ay a6));have a:=qh (a.touch a6 (.inl rfl));have M:=ay;have B:(L.drop (i*3)).length=(n-i)*3:=p.out;have a3:=E.o;rw[List.length_append] at a3;have H:splice (splice (L++rest) ((i+1)*3) (L.drop (i*3))) (i*3) x.cells=(L.take (i*3)++(x.cells++L.drop (i*3)))++(L++rest).drop ((i+1)*3+(L.drop (i*3)).length):=by
    have I:(splice (L++rest) ((i+1)*3) (L.drop (i*3))).take (i*3)=L.take (i*3):=by unfold splice;rw[List.take_append_of_le_length (by simp;omega),List.take_take,Nat.min_eq_left BJ,List.take_append_of_le_length BJ]
    have e3:(splice (L++rest) ((i+1)*3) (L.drop (i*3))).drop (i*3+3)=L.drop (i*3)++(L++rest).drop ((i+1)*3+(L.drop (i*3)).length):=by unfold splice;exact List.drop_left' (by simp;omega)
    rw[show splice (splice (L++rest) ((i+1)*3) (L.drop (i*3))) (i*3) x.cells=(splice (L++rest) ((i+1)*3) (L.drop (i*3))).take (i*3)++(x.cells++(splice (L++rest) ((i+1)*3) (L.drop (i*3))).drop (i*3+3)) from rfl,I,e3];simp only[List.append_assoc]
   rw[H] at M;refine q.o _ _ ⟨_,some g,rfl,AV.mk' M ?_ ?_ a4 J,.inl rfl,a.o⟩
   .simp only[List.length_append,List.length_take,Pr.len,B];omega
   .simp only[List.length_append,List.length_take,List.length_drop,Pr.len,B];omega
  .go_in;have ax:(cap:Int)<(n:Int)+1:=BJ
   have az:(0:Int)<=i:=BJ
   have be:i<=cap:=BJ
   have am:∀(j:Nat) v,(L.take (i*3))[j]?=some v->w.cell? ⟨g,0+j,none⟩=some v:=λj v b=>by
    rw[List.getElem?_take] at b;split at b
    .rw[Nat.zero_add,d.cell,List.getElem?_append_left BJ];exact b
    .cases b
   obtain⟨ap,an⟩:=WZ am (show (L.take (i*3)).length=i*3 by rw[List.length_take];omega);clear am;have ba:(i:Int)<=(n:Int)+1:=BJ
   have bi:(0:Int)<=(n:Int)+1-i:=BJ
   go_upto_region 10 with(first|(at_builtin;refine FN rfl (.tmp 34) (.tmp 39) 51 3 rfl 69 (.agg #[AU,AU,AA 0]) 3 40 rfl .i64 .i64 rfl ND rfl Iz g 0 i cap (n+1-i) rfl (by show Value.int _ _=_;congr 1;omega) BJ (L.take (i*3)) an.out ap.o BJ (by unfold maxLen;omega) BJ ?_;intro w1 y Z ae a0 ab a2 A a5));have aj:i+(n+1-i)=n+1:=BJ
   rw[aj] at ab |-;obtain⟨f,m,Q⟩:=bP ae A a0;clear ae A aj an;have ac:g<w.heap.size:=d.lt;have A:bs<w.heap.size:=c.lt;obtain⟨d,c,O,a⟩:=bY (d.bel m.o) (c.bel m.o) (O.below m.o) (a.bel m.o);generalize hG:w.heap.size=G at f ac A a5 |-;have au:(y=i)=False:=by simp;omega
   have av:(y=i+1)=False:=by simp;omega
   go_upto_region 11 with(first|(refine ER rfl (.tmp 43) (.tmp 44) 51 51 rfl 69 rfl 3 ND G (i*3) (n+1-i) (y-i) bs 0 1 1 rfl rfl _ _ f.o x.cells (by rw[show Nat.min 1 (n+1-i)=1 from Nat.min_eq_left BJ];rfl) (λj v b=>by rw[Nat.zero_add,c.cell];exact b) (by rw[Pr.len];have:=Q.o;omega) (Pr.one x) ?_;intro t T N));rw[FD _ _ _ _ (by rw[List.length_take];omega)] at T;have a9:G<t.heap.size:=by have:=N.size;omega
   obtain⟨f,d,a,p⟩:=bY (T.bel (AY _ t)) ((d.mv (Mv.AZ (F:=λk=>k=G) N rfl) BJ).bel (AY _ t)) ((a.touch N (.inr BJ)).bel (AY _ t)) (show (L.drop (i*3)).length=(n-i)*3 by rw[List.length_drop];omega);clear T N m O c;have C:∀(j:Nat) v,(L.drop (i*3))[j]?=some v->t.drew.cell? ⟨g,i*3+j,none⟩=some v:=λj v b=>by rw[d.cell];rw[List.getElem?_drop] at b;rw[List.getElem?_append_left (List.getElem?_eq_some_iff.1 b).1];exact b
   have P:=qh C;clear C;have a8:IntKind.i64.wrap ((i:Int)+1)=(i:Int)+1:=by rw[IntKind.wrap_i64];omega
   have aq:(0:Int)<=(i:Int)+1:=BJ
   have ar:(i:Int)+1<=(n:Int)+1:=BJ
   have a7:((i:Int)+1).toNat=i+1:=BJ
   have bb:(cap=i)=False:=by simp;omega
   go_region_law (refine FH rfl (.tmp 50) (.tmp 53) 51 51 rfl 69 rfl 3 ND G ((i+1)*3) (n+1 - (i+1)) (y - (i+1)) g (i*3) (n-i) (cap-i) (by simp[Act.eval,Act.put]) (by simp[Act.eval,Act.put]) _ _ f.o (L.drop (i*3)) (by rw[p.out,show Nat.min (n-i) (n+1 - (i+1))=n-i from by rw[show n+1 - (i+1)=n-i by omega];exact Nat.min_self _]) P.o (by simp only[List.length_append,List.length_drop,List.length_take,Pr.len];have:=Q.o;simp only[List.length_append,List.length_take] at this;omega) (λu V=>U.out u (List.mem_of_mem_drop V)) ?_;intro w3 r s)
   have B:(L.drop (i*3)).length=(n-i)*3:=p.out;rw[<-List.append_assoc,FD _ _ _ _ (by rw[List.length_append,List.length_take,Pr.len];omega),List.append_assoc] at r;obtain⟨f,a⟩:=WZ r (a.touch s (.inr BJ));clear r s;go_wp2_with fail;refine q.o _ _ ⟨_,some G,rfl,?_,.inr ⟨G,rfl,BJ⟩,a.o⟩;have M:=f.o;have a1:((L.take (i*3)).length+Z.length)=y*3:=by have:=Q.o;rwa [List.length_append] at this
   rw[List.length_take] at a1;refine AV.mk' (rest:=?_) (by simpa only[List.append_assoc] using M) ?_ ?_ ab a2
   .simp only[List.length_append,List.length_take,Pr.len,B];omega
   .simp only[List.length_append,List.length_take,List.length_drop,Pr.len,B];omega
 .obtain rfl:i=n:=BJ
  have H:L.take (i*3)=L:=List.take_of_length_le BJ;have I:L.drop (i*3)=[]:=List.drop_eq_nil_of_le BJ;rw[H,I,List.append_nil] at q;clear H I;obtain⟨R,hn⟩:=WZ h (show v.ownBlock=ob from h.ob);have aw:v=AL/\i=0\/(∃g,v=.slice (Ac g) i i)\/∃g cap,v=.slice (Ac g) i cap/\(cap=i)=False:=by
   rcases h.cases with⟨rfl,rfl,rfl,_⟩|⟨g,cap,rest,rfl,rfl,h1,J,z,K⟩
   .exact .inl ⟨rfl,rfl⟩
   .rcases Nat.eq_or_lt_of_le h1 with rfl|h
    .exact .inr (.inl ⟨_,rfl⟩)
    .exact .inr (.inr ⟨_,_,rfl,by simp;omega⟩)
  clear h hn;rcases aw with⟨rfl,rfl⟩|⟨g,rfl⟩|⟨g,cap,rfl,bd⟩;all_goals
   go_in;go_wp2_with (first|(at_builtin;refine aS (.agg #[AU,AU,AA 0]) 3 40 R.o x.cells O.out ?_ (Pr.one x);intro v2 bj t ak al ai));obtain⟨R,m,a⟩:=bP ak al ai;clear ak al ai;exact q.o _ _ ⟨_,_,rfl,R.o,m.o,a.o⟩
def bU(l:List Pr)(w:World)(e:Ending)(w':World):Prop:=∃v' ob',e=.returned (.tuple #[v',AA 0])/\Ad w' v' ob' l/\(∀g,ob'=some g->w.heap.size<=g)/\Below w.heap.size w w'
theorem xB(v:Value)(ob:Option Nat)(l:List Pr)(key val:ByteArray)(w:World)(h:Ad w v ob l)(hl:l.length<32)(hv:∀p∈l,0<=p.n/\p.n<=1000000) :Calls prog 181 #[v,.string key,.string val] w (bU (Jp l key val) w):=by
 obtain⟨r,D,N⟩:=bP (λW O=>Oo v ob l key W O) (λW O=>F5 v ob l W O BJ) (λY J (i Z:Nat) W (y:Ad W Y J l) (h2:Holds W Z 69 (⟨key,⟨#[]⟩,0⟩:Pr).cells) h3 h4=>UT Y J l i Z ⟨key,⟨#[]⟩,0⟩ W y h2 h3 h4 BJ);have t:=JV l key;have x:=iC l key val;have u:=gu l key val;obtain⟨p,c,rfl,az,au,_,hr⟩:=h.rows;obtain⟨H,a⟩:=WZ h (Base.start w);have ai:∀i,i<l.length->0<=(l.getD i .zero).n/\(l.getD i .zero).n<=1000000:=λi hi=>by rw[List.getD_eq_getElem?_getD,List.getElem?_eq_getElem hi];exact hv _ (List.getElem_mem hi)
 generalize Jp l key val=lz at x u |-;generalize DY l key=F at r t x u;obtain⟨i,b⟩:=F;simp only[Prod.mk.injEq] at r t x u;have HV:=qh ai;have ay:((l.length:Int) ≥ 32)=False:=by simp;omega
 have av:((32:Int)<=(l.length:Int))=False:=by simp;omega
 clear h hr hv ai;cases b
 case' false=>
  have L:=qh (u i t.1 ⟨rfl,rfl⟩);clear x u;go_in;go_wp2_with fail;refine Ah (r.o _ H.o) ?_;rintro w1 f;obtain⟨H,a⟩:=Ce f H a;clear f;go_wp2_with fail;refine(D.o _ H.o).mono ?_;rintro e q ⟨Y,J,rfl,B,A,f⟩;have I:=a.le;have a:=D9 f a;have j:=qh B;have ar:=f.size;clear f B H r D;go_wp2_with fail;have m:=qh (AC q 69 [.string key,.string ⟨#[]⟩,.int .i64 0]);have aa:Below q.heap.size q (q.alloc (.cells #[.string key,.string ⟨#[]⟩,.int .i64 0] 69)):=by go_grown
  have ae:J≠some q.heap.size:=λe=>by have:=j.lt _ e;omega
  obtain⟨j,a⟩:=Ce aa j a;clear aa;generalize q.alloc (.cells #[.string key,.string ⟨#[]⟩,.int .i64 0] 69)=w5 at m a j |-;generalize q.heap.size=gn at m ae ar |-;refine(N.o _ _ _ _ _ j.o m.o ae t.1).mono ?_;rintro e wz ⟨v1,X,rfl,V,af,ad⟩;have a1:=a.le;have U:∀g,X=some g->w.heap.size<=g:=λg s=>by
   rcases af with y|⟨k,y,h2⟩
   .rw[y] at s;exact Nat.le_trans I (A g s)
   .rw[y] at s;cases s;omega
  have a:=qh (a.mv ad λk R=>Nat.le_trans I (A k R));obtain⟨d,G⟩:∃d,d=l.take i++(⟨key,⟨#[]⟩,0⟩:Pr) :: l.drop i:=⟨_,rfl⟩;rw[<-G] at V L;have j:=qh V;have z:i<d.length:=by rw[G];simp;omega
  have T:(d.getD i .zero).n=0:=by
   rw[G,List.getD_eq_getElem?_getD,List.getElem?_append_right (by simp;omega),List.length_take,Nat.min_eq_left t.1,Nat.sub_self]
   rfl
  have M:=qh (show 0<=(d.getD i .zero).n/\(d.getD i .zero).n<=1000000 by rw[T];omega);clear T G V af ad A m N
 case' true=>
  have L:=qh (x i ⟨rfl,rfl⟩);clear x u;go_in;go_wp2_with fail;refine Ah (r.o _ H.o) ?_;rintro w1 f;obtain⟨H,a⟩:=Ce f H a;clear f;go_wp2_with fail;refine(D.o _ H.o).mono ?_;rintro e wz ⟨v1,X,rfl,B,A,f⟩;have I:=a.le;have a:=D9 f a;obtain⟨d,rfl⟩:∃d,d=l:=⟨_,rfl⟩;have j:=qh B;have z:i<d.length:=by simpa using t.2
  have U:∀g,X=some g->w.heap.size<=g:=λg s=>Nat.le_trans I (A g s);have M:=qh (HV.o i z);clear f B H r D N
 all_goals
  obtain⟨g,am,C,rfl,rfl,ao,ap,P,ac⟩:=AV.blk j.o BJ;obtain⟨K,HH,al⟩:=bP (U g rfl) P ac;have aq:i*3+2<(NI d++C).length:=by rw[List.length_append,Jr];omega
  have an:i*3+1<(NI d++C).length:=BJ
  have aw:(0:Int)<=(i:Int):=BJ
  have ax:(i:Int)<(d.length:Int):=BJ
  have E:=P.cell (i*3+2);rw[jI d i C z] at E;obtain⟨n,S⟩:∃n,n=(d.getD i .zero).n:=⟨_,rfl⟩;rw[<-S] at E M;have a0:0<=n/\n<=1000000:=M.o;have T:IntKind.i64.wrap (n+1)=n+1:=by rw[IntKind.wrap_i64];omega
  have m:=qh S;clear U P ac S j;go_wp2_with (first|(refine Bh rfl 9 (.tmp 38) (.tmp 36) rfl rfl g (i*3+1) 69 _ HH.o an rfl (.string val) rfl rfl ND rfl ?_;intro w7 Q ag;have aj:=qh Q;have E:=Q.cell (i*3+2);rw[List.getElem?_set_ne BJ,jI d i C z,<-m.o] at E;have a:=qh (a.touch ag K.o);clear Q ag)|(refine Bh rfl 3 (.tmp 46) (.tmp 44) rfl rfl g (i*3+2) 69 _ aj.o (by rw[List.length_set];exact aq) rfl (.int .i64 (n+1)) rfl rfl ND rfl ?_;intro w8 ab ah;obtain⟨ak,a⟩:=WZ ab (a.touch ah K.o);clear ab ah));have h8:=ak.o;rw[Yi d i val (n+1) C z,m.o] at h8;exact bodyPost_ret (v:=.tuple #[.slice (some ⟨g,0,none⟩) d.length am,.int .i64 0]) (by simp[results,results181,go_sem]) rfl
   ⟨_,some g,rfl,by rw[L.o,Ad,List.length_set];exact AV.mk' h8 (by rw[Jr,List.length_set]) (by rw[List.length_append,Jr,List.length_set,<-Jr,<-List.length_append];exact al.o) ao ap,(λk R=>by cases R;exact K.o),a.below⟩
theorem getD_at(l:List Pr)(k:Nat)(hk:k<l.length):l.getD k .zero=l[k]:=by
 rw[List.getD_eq_getElem?_getD,List.getElem?_eq_getElem hk]
 rfl
end Go.Proofs.YtimdpiifpibgfaaGreatDoor
