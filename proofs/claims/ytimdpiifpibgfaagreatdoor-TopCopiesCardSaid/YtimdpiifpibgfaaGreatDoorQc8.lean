/- A part of the proof that the law TopCopies returns true for every input. -/
import Derived.Deep.DeepAppendRoom
import Derived.ArgAppend
import Derived.Laws.CopyRow
import Derived.RowKit
import Derived.Test.YtimdpiifpibgfaaGreatDoorQc7
set_option linter.all false
set_option maxRecDepth 20000
set_option maxHeartbeats 16000000
open Go.RowKit
namespace Go.Proofs.YtimdpiifpibgfaaGreatDoor
open Tryz
section
structure AO(w:World)(v:Value)(ob:Option Nat)(e:TypeId)(s n:Nat)(xs:List Value):Prop where
 own:w.ownsRow 0 e s v n xs
 ob:v.ownBlock=ob
theorem AO.nil(w:World)(e:TypeId)(s:Nat):AO w (.slice none 0 0) none e s 0 []:=⟨⟨by simp,.inl ⟨rfl,rfl⟩⟩,rfl⟩
theorem AO.len{w:World}{v:Value}{ob:Option Nat}{e:TypeId}{s n:Nat}{xs:List Value}(h:AO w v ob e s n xs):xs.length=n*s:=h.own.1
theorem AO.cases{w:World}{v:Value}{ob:Option Nat}{e:TypeId}{s n:Nat}{xs:List Value}(h:AO w v ob e s n xs) :(v=.slice none 0 0∧ob=none∧n=0∧xs=[])∨∃g cap rest,v=.slice (some ⟨g,0,none⟩) n cap∧ob=some g∧n≤cap∧cap≤maxLen∧Holds w g e (xs++rest)∧(xs++rest).length=cap*s:=by
 obtain⟨⟨hl,h2⟩,rfl⟩:=h;rcases h2 with⟨rfl,rfl⟩|⟨g,cap,cur,rfl,_,hh,hc,hm,hs,ht⟩
 ·exact .inl ⟨rfl,rfl,rfl,List.eq_nil_of_length_eq_zero (by simpa using hl)⟩
 ·refine .inr ⟨g,cap,cur.toList.drop (n*s),rfl,rfl,hc,hm,?_,?_⟩
  ·unfold Holds;rw[←ht,List.take_append_drop];exact hh
  ·rw[←ht,List.take_append_drop,Array.length_toList,hs]
theorem AO.blk{w:World}{v:Value}{ob:Option Nat}{e:TypeId}{s n:Nat}{xs:List Value}(h:AO w v ob e s n xs)(h0:0<n) :∃g cap rest,v=.slice (some ⟨g,0,none⟩) n cap∧ob=some g∧n≤cap∧cap≤maxLen∧Holds w g e (xs++rest)∧(xs++rest).length=cap*s:=by
 rcases h.cases with⟨_,_,hn,_⟩|h
 ·omega
 ·exact h
theorem AO.mk'{w:World}{g cap n s:Nat}{e:TypeId}{xs rest:List Value}(h:Holds w g e (xs++rest))(hx:xs.length=n*s)(hl:(xs++rest).length=cap*s)(hc:n≤cap)(hm:cap≤maxLen):AO w (.slice (some ⟨g,0,none⟩) n cap) (some g) e s n xs:=
 ⟨⟨hx,.inr ⟨g,cap,(xs++rest).toArray,rfl,Nat.zero_le _,h,hc,hm,by simpa using hl,by rw[List.toList_toArray,←hx,List.take_left]⟩⟩,rfl⟩
theorem AO.lt{w:World}{v:Value}{ob:Option Nat}{e:TypeId}{s n:Nat}{xs:List Value}(h:AO w v ob e s n xs):∀g,ob=some g→g<w.heap.size:=by
 intro g hg;rcases h.cases with⟨_,h1,_⟩|⟨g',_,_,_,h1,_,_,h2,_⟩
 ·rw[h1] at hg;cases hg
 ·rw[h1] at hg;cases hg;exact h2.lt
theorem AO.keep{w w':World}{v:Value}{ob:Option Nat}{e:TypeId}{s n:Nat}{xs:List Value}(h:AO w v ob e s n xs)(hk:∀g,ob=some g→w'.heap[g]?=w.heap[g]?):AO w' v ob e s n xs:=by obtain⟨⟨hl,h2⟩,rfl⟩:=h;refine⟨⟨hl,h2.imp id λ⟨g,cap,cur,hv,hb,hh,r⟩=>⟨g,cap,cur,hv,hb,?_,r⟩⟩,rfl⟩;rw[hk g (by rw[hv];rfl)];exact hh
theorem AO.bel{w w':World}{v:Value}{ob:Option Nat}{e:TypeId}{s n:Nat}{xs:List Value}(h:AO w v ob e s n xs)(hb:Below w.heap.size w w'):AO w' v ob e s n xs:=h.keep λg hg=>hb.block g (h.lt g hg)
instance {w w':World}{v:Value}{ob:Option Nat}{e:TypeId}{s n:Nat}{xs:List Value}:Bl w w' (AO w v ob e s n xs) (AO w' v ob e s n xs):=⟨λhb h=>AO.bel h hb⟩
theorem AO.touch{w w':World}{k:Nat}{v:Value}{ob:Option Nat}{e:TypeId}{s n:Nat}{xs:List Value}(h:AO w v ob e s n xs)(ht:Touch k w w')(hn:∀g,ob=some g→g≠k):AO w' v ob e s n xs:=h.keep λg hg=>ht.block g (h.lt g hg) (hn g hg)
theorem AO.mv{w w':World}{F:Af}{v:Value}{ob:Option Nat}{e:TypeId}{s n:Nat}{xs:List Value}(h:AO w v ob e s n xs)(hm:Mv F w w')(hn:∀g,ob=some g→¬F g):AO w' v ob e s n xs:=h.keep λg hg=>hm.block g (h.lt g hg) (hn g hg)
theorem AO.of{w:World}{B:Nat}{v:Value}{e:TypeId}{s n:Nat}{xs:List Value}(h:w.ownsRow B e s v n xs):∃ob,AO w v ob e s n xs∧∀g,ob=some g→B≤g:=by
 obtain⟨hl,h2⟩:=h;rcases h2 with⟨rfl,rfl⟩|⟨g,cap,cur,rfl,hb,r⟩
 ·exact⟨none,⟨⟨hl,.inl ⟨rfl,rfl⟩⟩,rfl⟩,λg hg=>by cases hg⟩
 ·exact⟨_,⟨⟨hl,.inr ⟨g,cap,cur,rfl,Nat.zero_le _,r⟩⟩,rfl⟩,λg' hg=>by cases hg;exact hb⟩
theorem AO.reads{w:World}{p:Option Addr}{m c:Nat}{ob:Option Nat}{e:TypeId}{s n:Nat}{xs:List Value}(h:AO w (.slice p m c) ob e s n xs):Reads w p xs:=by
 intro h0;rcases h.cases with⟨_,_,_,h1⟩|⟨g,cap,rest,hv,_,_,_,hh,_⟩
 ·rw[h1] at h0;cases h0
 ·injection hv with hv _ _;refine⟨g,0,hv,hh.lt,λj u hu=>?_⟩;rw[Nat.zero_add,hh.cell,List.getElem?_append_left (List.getElem?_eq_some_iff.1 hu).1];exact hu
theorem AO.rows{w:World}{v:Value}{ob:Option Nat}{e:TypeId}{s n:Nat}{V:Nat→List Value}(h:AO w v ob e s n (flat s n V))(hl:∀i,i<n→(V i).length=s)(hs:0<s) :∃p c,v=.slice p n c∧n≤c∧c≤maxLen∧(p=none→c=0)∧Be w p n s V:=by
 rcases h.cases with⟨rfl,_,rfl,_⟩|⟨g,cap,rest,rfl,_,hc,hm,hh,hlen⟩
 ·exact⟨none,0,rfl,Nat.le_refl _,Nat.zero_le _,λ_=>rfl,Nat.zero_le _,hl,λh0=>absurd h0 (Nat.lt_irrefl _)⟩
 ·refine⟨_,cap,rfl,hc,hm,λh=>(by cases h),Nat.le_trans hc hm,hl,λ_=>⟨g,0,rfl,hh.lt,λi hi j hj=>?_⟩⟩;have hij:i*s+j<n*s:=by have h3:(i+1)*s≤n*s:=Nat.mul_le_mul_right s (by omega);rw[Nat.add_mul,Nat.one_mul] at h3;omega
  rw[Nat.zero_add,hh.cell,List.getElem?_append_left (by rw[BJ];exact hij)];exact EP s n V i j hi hj (hl i hi)
section
variable {P:Program} {ops:Array Oper} {Q:Exit→Act→World→Prop}
theorem NU{w:World}{o:Oper}{a:Act}{K:Act→World→Prop}(s x:Operand)(t:TypeId) (ho:o.op=.call { callee:=.builtin .append,args:=#[s,x],argTypes:=#[t,t] }) (e:TypeId) (z:Value) (size bytes:Nat) (ht:P.underlying t=some (.slice e)) (hi:(P.info? e).map (λi=>(i.zero,i.size,i.bytes))=some (some z,size,bytes)) (hzs:z.cells.size=size) (hsz:0<size) (v:Value) (ob:Option Nat) (n:Nat) (xs:List Value) (hs:a.eval s=v) (hown:AO w v ob e size n xs) (sp:Option Addr) (m c:Nat) (news:List Value) (hx:a.eval x=.slice sp m c) (hl:news.length=m*size) (hsrc:Reads w sp news) (hm0:0<m) (h1:∀u∈news,u.oneCell'=true) (h63:n+m≤maxLen) (hbytes:(n+m)*bytes≤140737488355328) (h:∀v' ob' w',AO w' v' ob' e size (n+m) (xs++news)→(ob'=ob∨∃k,ob'=some k∧w.heap.size≤k)→Mv (λk=>ob=some k) w w'→K (a.put o.dst v') w'):o.wp P a w K Q:=by
 obtain⟨b,off,rfl,_,hc⟩:=hsrc (by rw[hl];exact Nat.mul_pos hm0 hsz);obtain⟨i,hi0,hz,hsize,hby⟩:=info_parts hi;have hsrc':∀j u,news[j]?=some u→w.cell? (Addr.add ⟨b,off,none⟩ j)=some u:=λj u hu=>by rw[GU];exact hc j u hu
 have hfin:∀v' w',w'.ownsRow w.heap.size e size v' (n+m) (xs++news)→w.grownBy w' none→K (a.put o.dst v') w':=λv' w' ho' hg=>by
  obtain⟨ob',h1,h2⟩:=AO.of ho';refine h v' ob' w' h1 ?_ ⟨hg.os,hg.tape,hg.output,hg.size,λk hk _=>hg.block k hk (by intro hc;cases hc)⟩;rcases h1.cases with⟨_,_,h0,_⟩|⟨g,_,_,_,hob,_⟩
  ·omega
  ·exact .inr ⟨g,hob,h2 g hob⟩
 rcases hown.cases with⟨hv,hob,hn,hxs⟩|⟨g,cap,rest,hv,hob,hnc,hcm,hh,hlen⟩
 ·subst hn hxs;obtain⟨v',w',hrun,r1,r2,_⟩:=run_append_own (P:=P) w w.heap.size t o.type e i z size bytes ht hi0 hz hsize hby hzs hsz (.slice none 0 0) 0 [] (World.ownsRow_nil w _ e size) ⟨b,off,none⟩ m c news hl hsrc' h1 h63 hbytes (Nat.le_refl _);unfold Oper.wp;simp[execOp,ho,resolve,invoke,builtin,hs,hv,hx,hrun,Result.andThen];exact hfin v' w' r1 r2
 ·by_cases hr:n+m≤cap
  ·refine wp_append_own_spare w s x t ho 0 e i size ht hi0 hsize g n cap xs (by rw[hs,hv]) (by rw[←hv];exact hown.own) ⟨b,off,none⟩ m c news hx hl hsrc' h1 hr ?_;intro w' ho' hg';refine h _ (some g) w' ⟨ho',rfl⟩ (.inl hob.symm) ⟨hg'.os,hg'.tape,hg'.output,hg'.size,λk hk hn=>hg'.block k hk λhc=>hn ?_⟩;rw[hob,hc]
  ·obtain⟨v',w',hrun,r1,r2⟩:=run_append_arg_grows (P:=P) w t o.type e i z size bytes ht hi0 hz hsize hby hzs hsz ⟨g,0,none⟩ n cap xs hown.len (λj u hu=>by
    rw[GU,Nat.zero_add,hh.cell,List.getElem?_append_left (List.getElem?_eq_some_iff.1 hu).1];exact hu) ⟨b,off,none⟩ m c news hl hsrc' (by omega) h63 hbytes
   unfold Oper.wp;simp[execOp,ho,resolve,invoke,builtin,hs,hv,hx,hrun,Result.andThen];exact hfin v' w' r1 r2
theorem Nb{w:World}{rest:List Oper}{o:Oper}{a:Act}(hgd:o.guard=none)(s x:Operand)(t:TypeId) (ho:o.op=.call { callee:=.builtin .append,args:=#[s,x],argTypes:=#[t,t] }) (e:TypeId) (z:Value) (size bytes:Nat) (ht:P.underlying t=some (.slice e)) (hi:(P.info? e).map (λi=>(i.zero,i.size,i.bytes))=some (some z,size,bytes)) (hzs:z.cells.size=size) (hsz:0<size) (v:Value) (ob:Option Nat) (n:Nat) (xs:List Value) (hs:a.eval s=v) (hown:AO w v ob e size n xs) (sp:Option Addr) (m c:Nat) (news:List Value) (hx:a.eval x=.slice sp m c) (hl:news.length=m*size) (hsrc:Reads w sp news) (hm0:0<m) (h1:∀u∈news,u.oneCell'=true) (h63:n+m≤maxLen) (hbytes:(n+m)*bytes≤140737488355328) (h:∀v' ob' w',AO w' v' ob' e size (n+m) (xs++news)→(ob'=ob∨∃k,ob'=some k∧w.heap.size≤k)→Mv (λk=>ob=some k) w w'→wpList P ops Q rest (a.put o.dst v') w'):wpList P ops Q (o :: rest) a w:=
 wpList_plain hgd λ_ hK=>NU s x t ho e z size bytes ht hi hzs hsz v ob n xs hs hown sp m c news hx hl hsrc hm0 h1 h63 hbytes λv' ob' w' h2 h3 h4=>hK _ _ (h v' ob' w' h2 h3 h4)
theorem Pj{w:World}{o:Oper}{a:Act}{K:Act→World→Prop}{E:Prop}(hgd:o.guard=none)(s x:Operand)(t:TypeId) (ho:o.op=.call { callee:=.builtin .append,args:=#[s,x],argTypes:=#[t,t] }) (e:TypeId) (z:Value) (size bytes:Nat) (ht:P.underlying t=some (.slice e)) (hi:(P.info? e).map (λi=>(i.zero,i.size,i.bytes))=some (some z,size,bytes)) (hzs:z.cells.size=size) (hsz:0<size) (v:Value) (ob:Option Nat) (n:Nat) (xs:List Value) (hs:a.eval s=v) (hown:AO w v ob e size n xs) (sp:Option Addr) (m c:Nat) (news:List Value) (hx:a.eval x=.slice sp m c) (hl:news.length=m*size) (hsrc:Reads w sp news) (hm0:0<m) (h1:∀u∈news,u.oneCell'=true) (h63:n+m≤maxLen) (hbytes:(n+m)*bytes≤140737488355328) (h:∀v' ob' w',AO w' v' ob' e size (n+m) (xs++news)→(ob'=ob∨∃k,ob'=some k∧w.heap.size≤k)→Mv (λk=>ob=some k) w w'→K (a.put o.dst v') w') :if Region.wanted o (yielded ops a.tmps)=true then Oper.wp P o a w K Q else E:=by
 have hw:Region.wanted o (yielded ops a.tmps)=true:=by simp[Region.wanted,hgd]
 rw[if_pos hw];exact NU s x t ho e z size bytes ht hi hzs hsz v ob n xs hs hown sp m c news hx hl hsrc hm0 h1 h63 hbytes h
theorem EF{w:World}{rest:List Oper}{o:Oper}{a:Act}(hgd:o.guard=none)(s x:Operand)(t:TypeId) (ho:o.op=.call { callee:=.builtin .append,args:=#[s,x],argTypes:=#[t,t] }) (e:TypeId) (z:Value) (size bytes:Nat) (ht:P.underlying t=some (.slice e)) (hi:(P.info? e).map (λi=>(i.zero,i.size,i.bytes))=some (some z,size,bytes)) (v:Value) (ob:Option Nat) (n:Nat) (xs:List Value) (hs:a.eval s=v) (hown:AO w v ob e size n xs) (hx:a.eval x=.slice none 0 0) (h:wpList P ops Q rest (a.put o.dst v) w):wpList P ops Q (o :: rest) a w:=by obtain⟨i,hi0,hz,hsize,hby⟩:=info_parts hi;exact wpList_append_own_none hgd s x t ho 0 e i size ht hi0 v n xs hs hown.own hx h
end
end
theorem I5{P:Program}{op:Oper}{a:Act}{w:World}{K:Act→World→Prop}{Q:Exit→Act→World→Prop}(ty:TypeId)(x y:Operand)(ho:op.op=.store ty x y)(hd:op.dst=none) (g o:Nat) (cur:List Value) (t:TypeId) (hg:Holds w g t cur) (hx:a.eval x=.pointer (some ⟨g,o,none⟩)) (cs:List Value) (hy:a.eval y=.agg cs.toArray) (hi:(P.info? ty).map (·.size)=some cs.length) (hfit:o+cs.length≤cur.length) (h1:∀v∈cs,v.oneCell'=true) (h:∀w',Holds w' g t (splice cur o cs)→Touch g w w'→K a w'):op.wp P a w K Q:=by
 have hst:=run_storeCells_at P g o t cs 0 cur.toArray w hg (by simpa using hfit) h1;have hrun:(storeVar ty ⟨g,o,none⟩ (.agg cs.toArray)).run P w=.ok () (w.setRow g (cur.toArray.toList.take (o+0)++cs++cur.toArray.toList.drop (o+0+cs.length)).toArray):=by
  cases hq:P.info? ty with
  | none=>simp[hq] at hi
  | some i=>
   have hs:cs.length=i.size:=by simp[hq] at hi;omega
   simp[storeVar,sizeOf,typeInfo,hq,Value.cells,hs] at hst ⊢;exact hst
 unfold Oper.wp execOp;simp only[ho,hx,hy,Instr.storeAt,Instr.sureAddr,Sem.run_bind,Sem.run_pure,Result.andThen_ok,hrun];show K (a.put op.dst undef) _;rw[hd];refine h _ ?_ ⟨rfl,rfl,rfl,by simp[World.setRow],λk hk hne=>setRow_other w g k _ hne⟩;simpa[splice,Holds] using setRow_heap w g _ _ t _ hg
theorem F7{P:Program}{ops:Array Oper}{rest:List Oper}{op:Oper}{a:Act}{w:World}{Q:Exit→Act→World→Prop}(hgd:op.guard=none)(ty:TypeId)(x y:Operand)(ho:op.op=.store ty x y)(hd:op.dst=none) (g o:Nat) (cur:List Value) (t:TypeId) (hg:Holds w g t cur) (hx:a.eval x=.pointer (some ⟨g,o,none⟩)) (cs:List Value) (hy:a.eval y=.agg cs.toArray) (hi:(P.info? ty).map (·.size)=some cs.length) (hfit:o+cs.length≤cur.length) (h1:∀v∈cs,v.oneCell'=true) (h:∀w',Holds w' g t (splice cur o cs)→Touch g w w'→wpList P ops Q rest a w'):wpList P ops Q (op :: rest) a w:=
 wpList_plain hgd λ_ hK=>I5 ty x y ho hd g o cur t hg hx cs hy hi hfit h1 λw' h2 h3=>hK _ _ (h w' h2 h3)
theorem Ec{P:Program}{ops:Array Oper}{op:Oper}{a:Act}{w:World}{K:Act→World→Prop}{Q:Exit→Act→World→Prop}{E:Prop}(hgd:op.guard=none)(ty:TypeId)(x y:Operand)(ho:op.op=.store ty x y)(hd:op.dst=none) (g o:Nat) (cur:List Value) (t:TypeId) (hg:Holds w g t cur) (hx:a.eval x=.pointer (some ⟨g,o,none⟩)) (cs:List Value) (hy:a.eval y=.agg cs.toArray) (hi:(P.info? ty).map (·.size)=some cs.length) (hfit:o+cs.length≤cur.length) (h1:∀v∈cs,v.oneCell'=true) (h:∀w',Holds w' g t (splice cur o cs)→Touch g w w'→K a w'):if Region.wanted op (yielded ops a.tmps)=true then Oper.wp P op a w K Q else E:=by
 have hwd:Region.wanted op (yielded ops a.tmps)=true:=by simp[Region.wanted,hgd]
 rw[if_pos hwd];exact I5 ty x y ho hd g o cur t hg hx cs hy hi hfit h1 h
theorem Cc{P:Program}{fn:Func}{a u:Tmp}{t:TypeId}(h:fn.results=#[.tmp u,.cell a t])(tmps:Array Value)(w:World)(b:Nat)(cs:List Value)(d:TypeDesc)(v:Value)(ha:tmps.getD a undef=.pointer (some ⟨b,0,none⟩))(hv:tmps.getD u undef=v)(hc:w.rangeAt b 0 cs) (hu:P.underlying t=some d) (hd:d.isRow=true) (hi:(P.info? t).map (·.size)=some cs.length):(results fn tmps).run P w=.ok (.tuple #[v,.agg cs.toArray]) w:=by have hl:=run_loadVar_mid w b 0 t cs d hc hu hd hi;unfold results;rw[h];rw[Array.getD_eq_getD_getElem?] at ha hv;simp[ha,hv,asAddr,hl,Sem.run_bind]
theorem NK{s m n:Nat}{V W X:Nat→List Value}(hs:0<s)(hv:∀i,i<m→(V i).length=s)(hw:∀i,i<n→(W i).length=s)(hx1:∀i,i<m→X i=V i)(hx2:∀i,i<n→X (m+i)=W i):flat s m V++flat s n W=flat s (m+n) X:=by
 apply List.ext_getElem?;intro t;have hm:=Nat.mod_lt t hs;have e:t / s*s+t % s=t:=by rw[Nat.mul_comm];exact Nat.div_add_mod t s
 have hmn:(m+n)*s=m*s+n*s:=Nat.add_mul m n s;by_cases ht:t<m*s
 ·have hk:t / s<m:=Nat.div_lt_of_lt_mul (by rwa [Nat.mul_comm] at ht);rw[List.getElem?_append_left (by rw[BJ];exact ht)];have h1:=EP s m V (t / s) (t % s) hk hm (hv _ hk);have h2:=EP s (m+n) X (t / s) (t % s) (by omega) hm (by rw[hx1 _ hk];exact hv _ hk);rw[e] at h1 h2;rw[h1,h2,hx1 _ hk]
 ·by_cases ht2:t<(m+n)*s
  ·rw[List.getElem?_append_right (by rw[BJ];omega),BJ];have hk:t / s<m+n:=Nat.div_lt_of_lt_mul (by rwa [Nat.mul_comm] at ht2);have hk2:m≤t / s:=(Nat.le_div_iff_mul_le hs).2 (by omega);have hkn:t / s-m<n:=by omega
   have h1:=EP s n W (t / s-m) (t % s) hkn hm (hw _ hkn);have h2:=EP s (m+n) X (t / s) (t % s) hk hm (by rw[show t / s=m+(t / s-m) by omega,hx2 _ hkn];exact hw _ hkn);rw[e] at h2;rw[show (t / s-m)*s+t % s=t-m*s by rw[Nat.sub_mul];have:m*s≤t / s*s:=Nat.mul_le_mul_right s hk2;omega] at h1;rw[h1,h2];have h3:=hx2 _ hkn;rw[show m+(t / s-m)=t / s by omega] at h3;rw[h3]
  ·rw[List.getElem?_eq_none (by rw[List.length_append,BJ,BJ];omega),List.getElem?_eq_none (by rw[BJ];omega)]
theorem Ho{s:Nat}{V:Nat→List Value}(hv:(V 0).length=s):flat s 1 V=V 0:=by
 apply List.ext_getElem?;intro t;by_cases ht:t<s
 ·have:=EP s 1 V 0 t (by omega) ht hv;rwa [Nat.zero_mul,Nat.zero_add] at this
 ·rw[List.getElem?_eq_none (by rw[BJ];omega),List.getElem?_eq_none (by omega)]
theorem Jh{s m:Nat}{V:Nat→List Value}(hs:0<s)(hv:∀i,i<m+1→(V i).length=s):flat s m V++V m=flat s (m+1) V:=by have h1:flat s 1 (λi=>V (m+i))=V m:=Ho (V:=λi=>V (m+i)) (hv m (by omega));rw[←h1];exact NK hs (λi hi=>hv i (by omega)) (λi hi=>hv _ (by omega)) (λ_ _=>rfl) (λ_ _=>rfl)
theorem MM(s:Nat)(V:Nat→List Value):flat s 0 V=[]:=by simp[flat]
abbrev Grown(W w':World):Prop:=∃p:Regrown,w'=Sort.grow (redrawn W p.d) p.os
theorem BB{W:World}{g:Nat}{e:TypeId}{L cs:List Value}(h:Holds W g e L)(o:Nat)(hs:∀(j:Nat) v,cs[j]?=some v→L[o+j]?=some v):∀w',Grown W w'→w'.rangeAt g o cs:=λw' hw'=>by have hb:=AP hw';exact(h.bel hb).Ci o hs
theorem Ea{w:World}{g:Nat}{e:TypeId}{L cs:List Value}(h:Holds w g e L)(o:Nat)(hs:(L.drop o).take cs.length=cs):w.rangeAt g o cs:=h.Ci o λj v hv=>by rw[←hs,List.getElem?_take_of_lt (by have:=(List.getElem?_eq_some_iff.1 hv).1;rw[List.length_take] at this;omega),List.getElem?_drop] at hv;exact hv
section
theorem ES{P:Program}{ops:Array Oper}{rest:List Oper}{op:Oper}{a:Act}{w:World}{Q:Exit→Act→World→Prop}(hgd:op.guard=none)(s:Operand)(t:TypeId) (ho:op.op=.call { callee:=.builtin .clear,args:=#[s],argTypes:=#[t] }) (hd:op.dst=none) (e:TypeId) (z:Value) (ht:P.underlying t=some (.slice e)) (hz:(P.info? e).map (·.zero)=some (some z)) (g o n c:Nat) (h0:0<n) (hs:a.eval s=.slice (some ⟨g,o,none⟩) n c) (cur:List Value) (ct:TypeId) (hg:Holds w g ct cur) (cs:List Value) (hcs:(Builtin.zeroCells z.cells n).toList=cs) (hfit:o+cs.length≤cur.length) (h1:∀v∈cs,v.oneCell'=true) (h:∀w',Holds w' g ct (splice cur o cs)→Touch g w w'→wpList P ops Q rest a w'):wpList P ops Q (op :: rest) a w:=
 wpList_plain hgd λK hK=>by
  have hst:=run_storeCells_at P g o ct cs 0 cur.toArray w hg (by simpa using hfit) h1;simp only[Nat.add_zero] at hst;have hzv:(zeroValue e).run P w=.ok z w:=L6 w hz;have hn:n≠0:=by omega
  have hrun:(Builtin.clear_ #[t] op.type #[.slice (some ⟨g,o,none⟩) n c]).run P w=.ok (.tuple #[]) (w.setRow g (cur.take o++cs++cur.drop (o+cs.length)).toArray):=by
   cases n with
   | zero=>omega
   | succ n=>simp[Builtin.clear_,run_underlying ht,hzv,hcs,hst]
  have hfin:=h (w.setRow g (cur.take o++cs++cur.drop (o+cs.length)).toArray) (by simpa[splice,Holds] using setRow_heap w g _ _ ct _ hg) ⟨rfl,rfl,rfl,by simp[World.setRow],λk hk hne=>setRow_other w g k _ hne⟩;have hK2:=hK _ _ hfin;unfold Oper.wp;simp[execOp,ho,resolve,invoke,builtin,hs,hrun,Result.andThen];show K (a.put op.dst _) _;rw[hd];show K a _;simpa using hK2
section
variable {P:Program} {ops:Array Oper} {Q:Exit→Act→World→Prop}
theorem QZ{o:Oper}{a:Act}{w:World}{K:Act→World→Prop}{d q:Tmp}(t e:TypeId)(u:Value)(L:List Value)(ho:o.op=.buildSlice t 1 #[(0,.tmp q)])(hd:o.dst=some d)(hu:a.eval (.tmp q)=u) (hrun:∀w,(Instr.buildSlice t 1 #[(0,u)]).run P w=.ok (.slice (some ⟨w.heap.size,0,none⟩) 1 1) (w.alloc (.cells L.toArray e))) (hK:K (a.put (some d) (.slice (some ⟨w.heap.size,0,none⟩) 1 1)) (w.alloc (.cells L.toArray e))):o.wp P a w K Q:=by unfold Oper.wp execOp;simp only[ho,List.map_toArray,List.map_cons,List.map_nil,hu];rw[Sem.run_bind,hrun];rw[←hd] at hK;exact hK
theorem JU{o:Oper}{a:Act}{w:World}{K:Act→World→Prop}{d q:Tmp}{E:Prop}(hgd:o.guard=none)(t e:TypeId)(u:Value)(L:List Value)(ho:o.op=.buildSlice t 1 #[(0,.tmp q)])(hd:o.dst=some d)(hu:a.eval (.tmp q)=u) (hrun:∀w,(Instr.buildSlice t 1 #[(0,u)]).run P w=.ok (.slice (some ⟨w.heap.size,0,none⟩) 1 1) (w.alloc (.cells L.toArray e))) (hK:∀w',Holds w' w.heap.size e L→Below w.heap.size w w'→K (a.put (some d) (.slice (some ⟨w.heap.size,0,none⟩) 1 1)) w'):if Region.wanted o (yielded ops a.tmps)=true then Oper.wp P o a w K Q else E:=by
 have hw:Region.wanted o (yielded ops a.tmps)=true:=by simp[Region.wanted,hgd]
 rw[if_pos hw];exact QZ t e u L ho hd hu hrun (hK _ (AA w e L) ((Below.refl _ _).alloc (Nat.le_refl _) _))
theorem F8{rest:List Oper}{o:Oper}{a:Act}{w:World}{d q:Tmp}(hgd:o.guard=none)(t e:TypeId)(u:Value)(L:List Value)(ho:o.op=.buildSlice t 1 #[(0,.tmp q)])(hd:o.dst=some d)(hu:a.eval (.tmp q)=u) (hrun:∀w,(Instr.buildSlice t 1 #[(0,u)]).run P w=.ok (.slice (some ⟨w.heap.size,0,none⟩) 1 1) (w.alloc (.cells L.toArray e))) (h:∀w',Holds w' w.heap.size e L→Below w.heap.size w w'→wpList P ops Q rest (a.put (some d) (.slice (some ⟨w.heap.size,0,none⟩) 1 1)) w'):wpList P ops Q (o :: rest) a w:=
 wpList_plain hgd λK hK=>QZ t e u L ho hd hu hrun (hK _ _ (h _ (AA w e L) ((Below.refl _ _).alloc (Nat.le_refl _) _)))
end
end
section
section
variable {P:Program} {ops:Array Oper} {Q:Exit→Act→World→Prop}
theorem LU{rest:List Oper}{o:Oper}{a:Act}{w:World}(hw:Region.wanted o (yielded ops a.tmps)=true)(op:BinOp)(ty rty:TypeId)(x y:Operand)(ho:o.op=.binOp op ty x y rty)(xs ys:Array Value) (hx:a.eval x=.agg xs) (hy:a.eval y=.agg ys) (hm:P.eqGuardType P.depth ty=false) (r:Value) (hr:∀w,(binOp op ty (.agg xs) (.agg ys)).run P w=.ok r w) (h:wpList P ops Q rest (a.put o.dst r) w):wpList P ops Q (o :: rest) a w:=
 wpList_step λK hK=>by rw[if_pos hw];unfold Oper.wp execOp;simp only[ho,hx,hy,Sem.run_bind,run_eqGuard_agg (hm:=hm),Result.andThen_ok,hr];exact hK _ _ h
theorem JZ{rest:List Oper}{o:Oper}{a:Act}{w:World}(hw:Region.wanted o (yielded ops a.tmps)=true)(t:TypeId)(i:Nat)(q:Tmp)(ho:o.op=.build t #[(i,.tmp q)])(u:Value)(hu:a.eval (.tmp q)=u) (r:Value) (hr:∀w,(Instr.build t #[(i,u)]).run P w=.ok r w) (h:wpList P ops Q rest (a.put o.dst r) w):wpList P ops Q (o :: rest) a w:=
 wpList_step λK hK=>by rw[if_pos hw];unfold Oper.wp execOp;simp only[ho,List.map_toArray,List.map_cons,List.map_nil,hu];rw[Sem.run_bind,hr];exact hK _ _ h
end
theorem Jb{P:Program}{ops:Array Oper}{C:World→Prop}{Q:Act→Prop}{rest:List Oper}{o:Oper}{a:Act}(hg:Region.wanted o (yielded ops a.tmps)=true)(ty:TypeId)(x:Operand)(ho:o.op=.load ty x) (b f:Nat) (hx:a.eval x=.pointer (some ⟨b,f,none⟩)) (cs:List Value) (d:TypeDesc) (hc:∀w,C w→w.rangeAt b f cs) (hu:P.underlying ty=some d) (hd:d.isRow=true) (hi:(P.info? ty).map (·.size)=some cs.length) (h:wpQuiet P ops C Q rest (a.put o.dst (.agg cs.toArray))):wpQuiet P ops C Q (o :: rest) a:=by unfold wpQuiet;rw[if_pos hg];refine⟨.agg cs.toArray,λw hw=>?_,h⟩;unfold Oper.quietAt execOp;simp only[ho,hx,Instr.loadAt,Instr.sureAddr,Sem.run_bind,Sem.run_pure,Result.andThen_ok,run_loadVar_mid w b f ty cs d (hc w hw) hu hd hi];exact⟨rfl,rfl⟩
end
open Go.RowKit Go.Maps
section
variable {P : Program} {ops : Array Oper} {Q : Exit → Act → World → Prop} {rest : List Oper} {o : Oper} {a : Act} {w : World} {K : Act → World → Prop} {E : Prop} {t e : TypeId} {x y : Operand} {g : Nat} {L old : List Value}
theorem sC (i : Nat) (hh : Holds w g e L) (u : Value) (h : ∀w', Holds w' g e (L.set i u) → Touch g w w' → wpList P ops Q rest a w') (hgd : o.guard = none := by exact rfl) (ho : o.op = .store t x y := by exact rfl) (hd : o.dst = none := by exact rfl) (hi : (i + 1).ble L.length = true := by kernel_rfl) (hx : a.eval x = .pointer (some ⟨g, i, none⟩) := by exact rfl) (hy : a.eval y = u := by exact rfl) (hz : (P.info? t).map (·.size) = some 1 := by kernel_rfl) (hu : u.cells = #[u] := by exact rfl) (h1 : u.oneCell' = true := by exact rfl) : wpList P ops Q (o :: rest) a w :=
  Cb hgd t x y ho hd g i e L hh (Nat.le_of_ble_eq_true hi) hx u hy hu hz h1 h
theorem tC (i : Nat) (hh : Holds w g e L) (u : Value) (h : ∀w', Holds w' g e (L.set i u) → Touch g w w' → K a w') (hgd : o.guard = none := by exact rfl) (ho : o.op = .store t x y := by exact rfl) (hd : o.dst = none := by exact rfl) (hi : (i + 1).ble L.length = true := by kernel_rfl) (hx : a.eval x = .pointer (some ⟨g, i, none⟩) := by exact rfl) (hy : a.eval y = u := by exact rfl) (hz : (P.info? t).map (·.size) = some 1 := by kernel_rfl) (hu : u.cells = #[u] := by exact rfl) (h1 : u.oneCell' = true := by exact rfl) : if Region.wanted o (yielded ops a.tmps) = true then Oper.wp P o a w K Q else E :=
  Ce hgd t x y ho hd g i e L hh (Nat.le_of_ble_eq_true hi) hx u hy hu hz h1 h
theorem sW (cs : List Value) (hg : Holds w g t old) (h : ∀w', Holds w' g t cs → Touch g w w' → wpList P ops Q rest a w') (h1 : cs.toArray.all (·.oneCell') = true := by simp[Value.oneCell']) (hgd : o.guard = none := by exact rfl) (ho : o.op = .store t x y := by exact rfl) (hd : o.dst = none := by exact rfl) (hx : a.eval x = .pointer (some ⟨g, 0, none⟩) := by exact rfl) (hy : a.eval y = .agg cs.toArray := by exact rfl) (hi : (P.info? t).map (·.size) = some cs.length := by kernel_rfl) (hl : old.length = cs.length := by exact rfl) : wpList P ops Q (o :: rest) a w :=
  LV hgd t x y g old cs ho hd hx hy hg hi hl h1 h
theorem tB (cs : List Value) (hg : Holds w g t old) (h : ∀w', Holds w' g t cs → Touch g w w' → K a w') (h1 : cs.toArray.all (·.oneCell') = true := by simp[Value.oneCell']) (hgd : o.guard = none := by exact rfl) (ho : o.op = .store t x y := by exact rfl) (hd : o.dst = none := by exact rfl) (hx : a.eval x = .pointer (some ⟨g, 0, none⟩) := by exact rfl) (hy : a.eval y = .agg cs.toArray := by exact rfl) (hi : (P.info? t).map (·.size) = some cs.length := by kernel_rfl) (hl : old.length = cs.length := by exact rfl) : if Region.wanted o (yielded ops a.tmps) = true then Oper.wp P o a w K Q else E :=
  PM hgd t x y g old cs ho hd hx hy hg hi hl h1 h
theorem sS (i : Nat) (hg : Holds w g e L) (cs : List Value) (h : ∀w', Holds w' g e (splice L i cs) → Touch g w w' → wpList P ops Q rest a w') (h1 : ∀v ∈ cs, v.oneCell' = true := by simp[Value.oneCell']) (hgd : o.guard = none := by exact rfl) (ho : o.op = .store t x y := by exact rfl) (hd : o.dst = none := by exact rfl) (hx : a.eval x = .pointer (some ⟨g, i, none⟩) := by exact rfl) (hy : a.eval y = .agg cs.toArray := by exact rfl) (hi : (P.info? t).map (·.size) = some cs.length := by kernel_rfl) (hf : (i + cs.length).ble L.length = true := by kernel_rfl) : wpList P ops Q (o :: rest) a w :=
  F7 hgd t x y ho hd g i L e hg hx cs hy hi (Nat.le_of_ble_eq_true hf) h1 h
theorem lM (ob : Nat) {b : Nat} {cs : List Value} {d : TypeDesc} (hc : w.rangeAt b ob cs) (h : wpList P ops Q rest (a.put o.dst (.agg cs.toArray)) w) (hgd : o.guard = none := by exact rfl) (ho : o.op = .load t x := by exact rfl) (hu : P.underlying t = some d := by exact rfl) (hx : a.eval x = .pointer (some ⟨b, ob, none⟩) := by exact rfl) (hd : d.isRow = true := by exact rfl) (hi : (P.info? t).map (·.size) = some cs.length := by kernel_rfl) : wpList P ops Q (o :: rest) a w :=
  wpList_load_mid hgd t x ho b ob hx cs d hc hu hd hi h
theorem lG (ob : Nat) {b : Nat} {cs : List Value} {d : TypeDesc} (hc : w.rangeAt b ob cs) (h : wpList P ops Q rest (a.put o.dst (.agg cs.toArray)) w) (hw : Region.wanted o (yielded ops a.tmps) = true := by kernel_rfl) (ho : o.op = .load t x := by exact rfl) (hu : P.underlying t = some d := by exact rfl) (hx : a.eval x = .pointer (some ⟨b, ob, none⟩) := by exact rfl) (hd : d.isRow = true := by exact rfl) (hi : (P.info? t).map (·.size) = some cs.length := by kernel_rfl) : wpList P ops Q (o :: rest) a w :=
  Js hw t x ho b ob hx cs d hc hu hd hi h
theorem qG (ob : Nat) {b : Nat} {cs : List Value} {d : TypeDesc} {C : World → Prop} {Q : Act → Prop} (hc : ∀w, C w → w.rangeAt b ob cs) (h : wpQuiet P ops C Q rest (a.put o.dst (.agg cs.toArray))) (hw : Region.wanted o (yielded ops a.tmps) = true := by kernel_rfl) (ho : o.op = .load t x := by exact rfl) (hu : P.underlying t = some d := by exact rfl) (hx : a.eval x = .pointer (some ⟨b, ob, none⟩) := by exact rfl) (hd : d.isRow = true := by exact rfl) (hi : (P.info? t).map (·.size) = some cs.length := by kernel_rfl) : wpQuiet P ops C Q (o :: rest) a :=
  Jb hw t x ho b ob hx cs d hc hu hd hi h
theorem tU {d q : Tmp} (e : TypeId) (u : Value) (L : List Value) (h : ∀w', Holds w' w.heap.size e L → Below w.heap.size w w' → K (a.put (some d) (.slice (some ⟨w.heap.size, 0, none⟩) 1 1)) w') (hgd : o.guard = none := by exact rfl) (ho : o.op = .buildSlice t 1 #[(0, .tmp q)] := by exact rfl) (hd : o.dst = some d := by exact rfl) (hu : a.eval (.tmp q) = u := by exact rfl) (hrun : ∀w, (Instr.buildSlice t 1 #[(0, u)]).run P w = .ok (.slice (some ⟨w.heap.size, 0, none⟩) 1 1) (w.alloc (.cells L.toArray e)) := by intro w; kernel_rfl) : if Region.wanted o (yielded ops a.tmps) = true then Oper.wp P o a w K Q else E :=
  JU hgd t e u L ho hd hu hrun h
variable {v z : Value} {ob : Option Nat} {n size bytes m c : Nat} {xs : List Value} {sp : Option Addr}
theorem aS (z : Value) (size bytes : Nat) (hown : AO w v ob e size n xs) (news : List Value) (hsrc : Reads w sp news) (h : ∀v' ob' w', AO w' v' ob' e size (n + m) (xs ++ news) → (ob' = ob ∨ ∃k, ob' = some k ∧ w.heap.size ≤ k) → Mv (λk => ob = some k) w w' → wpList P ops Q rest (a.put o.dst v') w') (h1 : ∀u ∈ news, u.oneCell' = true := by simp[Value.oneCell']) (hgd : o.guard = none := by exact rfl) (ho : o.op = .call { callee := .builtin .append, args := #[x, y], argTypes := #[t, t] } := by exact rfl) (ht : P.underlying t = some (.slice e) := by exact rfl) (hs : a.eval x = v := by exact rfl) (hx : a.eval y = .slice sp m c := by exact rfl) (hi : (P.info? e).map (λi => (i.zero, i.size, i.bytes)) = some (some z, size, bytes) := by kernel_rfl) (hzs : z.cells.size = size := by exact rfl) (hsz : 0 < size := by decide) (hl : news.length = m * size := by exact rfl) (hm0 : 0 < m := by decide) (h63 : n + m ≤ maxLen := by unfold maxLen; omega) (hbytes : (n + m) * bytes ≤ 140737488355328 := by omega) : wpList P ops Q (o :: rest) a w :=
  Nb hgd x y t ho e z size bytes ht hi hzs hsz v ob n xs hs hown sp m c news hx hl hsrc hm0 h1 h63 hbytes h
theorem tS (z : Value) (size bytes : Nat) (hown : AO w v ob e size n xs) (news : List Value) (hsrc : Reads w sp news) (h : ∀v' ob' w', AO w' v' ob' e size (n + m) (xs ++ news) → (ob' = ob ∨ ∃k, ob' = some k ∧ w.heap.size ≤ k) → Mv (λk => ob = some k) w w' → K (a.put o.dst v') w') (h1 : ∀u ∈ news, u.oneCell' = true := by simp[Value.oneCell']) (hgd : o.guard = none := by exact rfl) (ho : o.op = .call { callee := .builtin .append, args := #[x, y], argTypes := #[t, t] } := by exact rfl) (ht : P.underlying t = some (.slice e) := by exact rfl) (hs : a.eval x = v := by exact rfl) (hx : a.eval y = .slice sp m c := by exact rfl) (hi : (P.info? e).map (λi => (i.zero, i.size, i.bytes)) = some (some z, size, bytes) := by kernel_rfl) (hzs : z.cells.size = size := by exact rfl) (hsz : 0 < size := by decide) (hl : news.length = m * size := by exact rfl) (hm0 : 0 < m := by decide) (h63 : n + m ≤ maxLen := by unfold maxLen; omega) (hbytes : (n + m) * bytes ≤ 140737488355328 := by omega) : if Region.wanted o (yielded ops a.tmps) = true then Oper.wp P o a w K Q else E :=
  Pj hgd x y t ho e z size bytes ht hi hzs hsz v ob n xs hs hown sp m c news hx hl hsrc hm0 h1 h63 hbytes h
theorem AO.c1 (h : AO w v ob e size n xs) : v.cells = #[v] := by rcases h.cases with ⟨r, _⟩ | ⟨_, _, _, r, _⟩ <;> rw[r] <;> rfl
theorem AO.c2 (h : AO w v ob e size n xs) : v.oneCell' = true := by rcases h.cases with ⟨r, _⟩ | ⟨_, _, _, r, _⟩ <;> rw[r] <;> rfl
end
section
variable {P : Program} {fn : Func} {R : Ending → World → Prop} {a : Act} {w : World} {t : TypeId} {b : Nat} {cs : List Value} {d : TypeDesc} {p u : Tmp} {v : Value}
theorem bE (hR : R (.returned (.tuple #[])) w) (h : fn.results = #[] := by exact rfl) (hd : a.defers = [] := by exact rfl) : bodyPost P fn R .normal a w := bodyPost_end (v := .tuple #[]) (by simp[results, h, go_sem]) hd hR
theorem bQ (hR : R (.returned (.tuple #[])) w) (h : fn.results = #[] := by exact rfl) (hd : a.defers = [] := by exact rfl) : bodyPost P fn R .ret a w := bodyPost_ret (v := .tuple #[]) (by simp[results, h, go_sem]) hd hR
theorem bC (hc : w.rangeAt b 0 cs) (hR : R (.returned (.agg cs.toArray)) w) (h : fn.results = #[.cell p t] := by exact rfl) (hu : P.underlying t = some d := by exact rfl) (ha : a.tmps.getD p undef = .pointer (some ⟨b, 0, none⟩) := by exact rfl) (hdr : d.isRow = true := by exact rfl) (hi : (P.info? t).map (·.size) = some cs.length := by kernel_rfl) (hd : a.defers = [] := by exact rfl) : bodyPost P fn R .ret a w :=
  bodyPost_ret (Q8 h _ _ b cs d ha hc hu hdr hi) hd hR
theorem bT (hc : w.rangeAt b 0 cs) (hR : R (.returned (.tuple #[.agg cs.toArray, v])) w) (h : fn.results = #[.cell p t, .tmp u] := by exact rfl) (hu : P.underlying t = some d := by exact rfl) (ha : a.tmps.getD p undef = .pointer (some ⟨b, 0, none⟩) := by exact rfl) (hv : a.tmps.getD u undef = v := by exact rfl) (hdr : d.isRow = true := by exact rfl) (hi : (P.info? t).map (·.size) = some cs.length := by kernel_rfl) (hd : a.defers = [] := by exact rfl) : bodyPost P fn R .ret a w :=
  bodyPost_ret (results_cell_tmp h _ _ b cs d v ha hv hc hu hdr hi) hd hR
variable {q : Tmp} {v2 : Value}
theorem b1 (hR : R (.returned v) w) (h : fn.results = #[.tmp u] := by exact rfl) (hv : a.tmps.getD u undef = v := by exact rfl) (hd : a.defers = [] := by exact rfl) : bodyPost P fn R .ret a w := bodyPost_ret (v := v) (by subst hv; simp[results, h, go_sem]) hd hR
theorem b2 (hR : R (.returned v) w) (h : fn.results = #[.tmp u, .tmp q] := by exact rfl) (hv : .tuple #[a.tmps.getD u undef, a.tmps.getD q undef] = v := by exact rfl) (hd : a.defers = [] := by exact rfl) : bodyPost P fn R .ret a w := bodyPost_ret (v := v) (by subst hv; simp[results, h, go_sem]) hd hR
end
open Go.RowKit Go.Maps
section
variable {P : Program} {ops : Array Oper} {Q : Exit → Act → World → Prop} {rest : List Oper} {o : Oper} {a : Act} {w : World} {t : TypeId} {x y : Operand} {g : Nat} {L old : List Value}
theorem lR (ob : Nat) {b : Nat} {cs : List Value} {d : TypeDesc} (hc : w.rangeAt b ob cs) (h : wpList P ops Q rest (a.put o.dst (.agg cs.toArray)) w) (hw : Region.wanted o (yielded ops a.tmps) = true := by kernel_rfl) (ho : o.op = .load t x := by with_unfolding_all exact rfl) (hu : P.underlying t = some d := by with_unfolding_all exact rfl) (hx : a.eval x = .pointer (some ⟨b, ob, none⟩) := by with_unfolding_all exact rfl) (hd : d.isRow = true := by with_unfolding_all exact rfl) (hi : (P.info? t).map (·.size) = some cs.length := by kernel_rfl) : wpList P ops Q (o :: rest) a w := lG ob hc h hw ho hu hx hd hi
theorem qR (ob : Nat) {b : Nat} {cs : List Value} {d : TypeDesc} {C : World → Prop} {Q : Act → Prop} (hc : ∀w, C w → w.rangeAt b ob cs) (h : wpQuiet P ops C Q rest (a.put o.dst (.agg cs.toArray))) (hw : Region.wanted o (yielded ops a.tmps) = true := by kernel_rfl) (ho : o.op = .load t x := by with_unfolding_all exact rfl) (hu : P.underlying t = some d := by with_unfolding_all exact rfl) (hx : a.eval x = .pointer (some ⟨b, ob, none⟩) := by with_unfolding_all exact rfl) (hd : d.isRow = true := by with_unfolding_all exact rfl) (hi : (P.info? t).map (·.size) = some cs.length := by kernel_rfl) : wpQuiet P ops C Q (o :: rest) a := qG ob hc h hw ho hu hx hd hi
theorem sR (cs : List Value) (hg : Holds w g t old) (h : ∀w', Holds w' g t cs → Touch g w w' → wpList P ops Q rest a w') (h1 : cs.toArray.all (·.oneCell') = true := by simp[Value.oneCell']) (hgd : o.guard = none := by with_unfolding_all exact rfl) (ho : o.op = .store t x y := by with_unfolding_all exact rfl) (hd : o.dst = none := by with_unfolding_all exact rfl) (hx : a.eval x = .pointer (some ⟨g, 0, none⟩) := by with_unfolding_all exact rfl) (hy : a.eval y = .agg cs.toArray := by with_unfolding_all exact rfl) (hi : (P.info? t).map (·.size) = some cs.length := by kernel_rfl) (hl : old.length = cs.length := by with_unfolding_all exact rfl) : wpList P ops Q (o :: rest) a w := sW cs hg h h1 hgd ho hd hx hy hi hl
end
end Go.Proofs.YtimdpiifpibgfaaGreatDoor
section
namespace WordP
open Go Go.RowKit
def turn(u n:Nat):Nat:=u*2 ^ n % 18446744073709551616+u / 2 ^ (64-n)
def zig(n:Int):Nat:=if n<0 then (-2*n-1).toNat else (2*n).toNat
theorem ZW(c:Nat)(hc:c<18446744073709551616):c ^^^ 18446744073709551615=18446744073709551615-c:=by
 apply Nat.eq_of_testBit_eq;intro i;have:=Nat.testBit_two_pow_sub_succ (n:=64) hc i;rw[Nat.testBit_xor,show (18446744073709551615:Nat) - c=2 ^ 64 - (c+1) from by omega,this,show (18446744073709551615:Nat)=2 ^ 64-1 from rfl,Nat.testBit_two_pow_sub_one];by_cases hi:i<64
 ·simp[hi]
 ·have:c.testBit i=false:=Nat.testBit_lt_two_pow (Nat.lt_of_lt_of_le hc (Nat.pow_le_pow_right (n:=2) (by decide) (by omega:64≤i)));simp[hi,this]
theorem bu(n:Int)(hn:-9223372036854775808≤n∧n≤9223372036854775807) :bits BinOp.xor IntKind.u64 (IntKind.u64.wrap (IntKind.u64.wrap n*2)) (IntKind.u64.wrap (n / 9223372036854775808))=((zig n:Nat):Int):=by
 have ew:∀x:Int,IntKind.u64.wrap x=x % 18446744073709551616:=λx=>by simp[IntKind.wrap,IntKind.bits,IntKind.signed]
 rw[ew,ew,ew];unfold zig;by_cases h:n<0
 ·rw[if_pos h,show n / 9223372036854775808 % 18446744073709551616=((18446744073709551615:Nat):Int) by omega,show n % 18446744073709551616*2 % 18446744073709551616=((18446744073709551616 - (-2*n).toNat:Nat):Int) by omega];rw[u64_xor_nat _ _ (by omega) (by omega)];rw[ZW _ (by omega)]
  congr 1
  omega
 ·rw[if_neg h,show n / 9223372036854775808 % 18446744073709551616=((0:Nat):Int) by omega,show n % 18446744073709551616*2 % 18446744073709551616=((2*n).toNat:Int) by omega];rw[u64_xor_nat _ _ (by omega) (by omega),Nat.xor_zero]
def cnt:Nat→Nat→Nat
 | 0,_=>0
 | n+1,v=>v % 2+cnt n (v / 2)
end WordP
end
namespace Go.Proofs.YtimdpiifpibgfaaGreatDoor
open Tryz
end Go.Proofs.YtimdpiifpibgfaaGreatDoor
