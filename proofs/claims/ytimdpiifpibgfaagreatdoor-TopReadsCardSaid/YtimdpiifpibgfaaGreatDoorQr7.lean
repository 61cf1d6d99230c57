/- A part of the proof of TopReads. -/
import Derived.Deep.DeepAppendRoom
import Derived.ArgAppend
import Derived.Laws.CopyRow
import Derived.RowKit
import Derived.Test.YtimdpiifpibgfaaGreatDoorQr6
set_option linter.all false
set_option maxRecDepth 20000
set_option maxHeartbeats 16000000
open Go.RowKit
namespace Go.Proofs.YtimdpiifpibgfaaGreatDoor
open Tryz
section
structure AV(w:World)(v:Value)(ob:Option Nat)(e:TypeId)(s n:Nat)(xs:List Value):Prop where
 own:w.ownsRow 0 e s v n xs
 ob:v.ownBlock=ob
theorem AV.nil(w:World)(e:TypeId)(s:Nat):AV w AL none e s 0 []:=⟨⟨Vj,.inl ⟨rfl,rfl⟩⟩,rfl⟩
theorem AV.len{w:World}{v:Value}{ob:Option Nat}{e:TypeId}{s n:Nat}{xs:List Value}(h:AV w v ob e s n xs):xs.length=n*s:=h.own.1
theorem AV.cases{w:World}{v:Value}{ob:Option Nat}{e:TypeId}{s n:Nat}{xs:List Value}(h:AV w v ob e s n xs) :(v=AL/\ob=none/\n=0/\xs=[])\/∃g cap rest,v=.slice (Ac g) n cap/\ob=some g/\n<=cap/\cap<=maxLen/\Holds w g e (xs++rest)/\(xs++rest).length=cap*s:=by
 obtain⟨⟨i,c⟩,rfl⟩:=h;rcases c with⟨rfl,rfl⟩|⟨g,cap,b,rfl,_,f,d,j,k,a⟩
 .exact .inl ⟨rfl,rfl,rfl,List.eq_nil_of_length_eq_zero (by simpa using i)⟩
 .refine .inr ⟨g,cap,b.toList.drop (n*s),rfl,rfl,d,j,?_,?_⟩
  .unfold Holds;rw[<-a,List.take_append_drop];exact f
  .rw[<-a,List.take_append_drop,Array.length_toList,k]
theorem AV.blk{w:World}{v:Value}{ob:Option Nat}{e:TypeId}{s n:Nat}{xs:List Value}(h:AV w v ob e s n xs)(h0:0<n) :∃g cap rest,v=.slice (Ac g) n cap/\ob=some g/\n<=cap/\cap<=maxLen/\Holds w g e (xs++rest)/\(xs++rest).length=cap*s:=by
 rcases h.cases with⟨_,_,a,_⟩|h
 .omega
 .exact h
theorem AV.mk'{w:World}{g cap n s:Nat}{e:TypeId}{xs rest:List Value}(h:Holds w g e (xs++rest))(hx:xs.length=n*s)(hl:(xs++rest).length=cap*s)(hc:n<=cap)(hm:cap<=maxLen):AV w (.slice (Ac g) n cap) (some g) e s n xs:=
 ⟨⟨hx,.inr ⟨g,cap,(xs++rest).toArray,rfl,Nat.zero_le _,h,hc,hm,by simpa using hl,by rw[List.toList_toArray,<-hx,List.take_left]⟩⟩,rfl⟩
theorem AV.lt{w:World}{v:Value}{ob:Option Nat}{e:TypeId}{s n:Nat}{xs:List Value}(h:AV w v ob e s n xs):∀g,ob=some g->g<w.heap.size:=by
 intro g a;rcases h.cases with⟨_,b,_⟩|⟨d,_,_,_,b,_,_,c,_⟩
 .rw[b] at a;cases a
 .rw[b] at a;cases a;exact c.lt
theorem AV.keep{w w':World}{v:Value}{ob:Option Nat}{e:TypeId}{s n:Nat}{xs:List Value}(h:AV w v ob e s n xs)(hk:∀g,ob=some g->w'.heap[g]?=w.heap[g]?):AV w' v ob e s n xs:=by obtain⟨⟨j,d⟩,rfl⟩:=h;refine⟨⟨j,d.imp id λ⟨g,b,c,a,f,i,r⟩=>⟨g,b,c,a,f,?_,r⟩⟩,rfl⟩;rw[hk g (by rw[a];rfl)];exact i
theorem AV.bel{w w':World}{v:Value}{ob:Option Nat}{e:TypeId}{s n:Nat}{xs:List Value}(h:AV w v ob e s n xs)(hb:Below w.heap.size w w'):AV w' v ob e s n xs:=h.keep λg a=>hb.block g (h.lt g a)
instance {w w':World}{v:Value}{ob:Option Nat}{e:TypeId}{s n:Nat}{xs:List Value}:Bl w w' (AV w v ob e s n xs) (AV w' v ob e s n xs):=⟨λhb h=>AV.bel h hb⟩
theorem AV.touch{w w':World}{k:Nat}{v:Value}{ob:Option Nat}{e:TypeId}{s n:Nat}{xs:List Value}(h:AV w v ob e s n xs)(ht:Touch k w w')(hn:∀g,ob=some g->g≠k):AV w' v ob e s n xs:=h.keep λg a=>ht.block g (h.lt g a) (hn g a)
theorem AV.mv{w w':World}{F:Ap}{v:Value}{ob:Option Nat}{e:TypeId}{s n:Nat}{xs:List Value}(h:AV w v ob e s n xs)(hm:Mv F w w')(hn:∀g,ob=some g->¬F g):AV w' v ob e s n xs:=h.keep λg a=>hm.block g (h.lt g a) (hn g a)
theorem AV.of{w:World}{B:Nat}{v:Value}{e:TypeId}{s n:Nat}{xs:List Value}(h:w.ownsRow B e s v n xs):∃ob,AV w v ob e s n xs/\∀g,ob=some g->B<=g:=by
 obtain⟨b,f⟩:=h;rcases f with⟨rfl,rfl⟩|⟨g,c,d,rfl,i,r⟩
 .exact⟨none,⟨⟨b,.inl ⟨rfl,rfl⟩⟩,rfl⟩,λg a=>by cases a⟩
 .exact⟨_,⟨⟨b,.inr ⟨g,c,d,rfl,Nat.zero_le _,r⟩⟩,rfl⟩,λj a=>by cases a;exact i⟩
theorem AV.reads{w:World}{p:Option Addr}{m c:Nat}{ob:Option Nat}{e:TypeId}{s n:Nat}{xs:List Value}(h:AV w (.slice p m c) ob e s n xs):Reads w p xs:=by
 intro b;rcases h.cases with⟨_,_,_,i⟩|⟨g,k,l,a,_,_,_,d,_⟩
 .rw[i] at b;cases b
 .injection a with a _ _;refine⟨g,0,a,d.lt,λj u f=>?_⟩;rw[Nat.zero_add,d.cell,List.getElem?_append_left (List.getElem?_eq_some_iff.1 f).1];exact f
theorem AV.rows{w:World}{v:Value}{ob:Option Nat}{e:TypeId}{s n:Nat}{V:Nat->List Value}(h:AV w v ob e s n (flat s n V))(hl:∀i,i<n->(V i).length=s)(hs:0<s) :∃p c,v=.slice p n c/\n<=c/\c<=maxLen/\(p=none->c=0)/\Bj w p n s V:=by
 rcases h.cases with⟨rfl,_,rfl,_⟩|⟨g,k,t,rfl,_,a,f,b,r⟩
 .exact⟨none,0,rfl,Ve,Nat.zero_le _,λ_=>rfl,Nat.zero_le _,hl,λl=>absurd l (Nat.lt_irrefl _)⟩
 .refine⟨_,k,rfl,a,f,λh=>(by cases h),Nat.le_trans a f,hl,λ_=>⟨g,0,rfl,b.lt,λi d j q=>?_⟩⟩;have o:i*s+j<n*s:=by have m:(i+1)*s<=n*s:=Nat.mul_le_mul_right s BJ;rw[Nat.add_mul,Nat.one_mul] at m;omega
  rw[Nat.zero_add,b.cell,List.getElem?_append_left (by rw[BQ];exact o)];exact EW s n V i j d q (hl i d)
section
variable {P:Program} {ops:Array Oper} {Q:Exit->Act->World->Prop}
theorem PR{w:World}{o:Oper}{a:Act}{K:Act->World->Prop}(s x:Operand)(t:TypeId) (ho:o.op=.call { callee:=.builtin .append,args:=#[s,x],argTypes:=#[t,t] }) (e:TypeId) (z:Value) (size bytes:Nat) (ht:P.underlying t=some (.slice e)) (hi:(P.info? e).map (λi=>(i.zero,i.size,i.bytes))=some (some z,size,bytes)) (hzs:z.cells.size=size) (hsz:0<size) (v:Value) (ob:Option Nat) (n:Nat) (xs:List Value) (hs:a.eval s=v) (hown:AV w v ob e size n xs) (sp:Option Addr) (m c:Nat) (news:List Value) (hx:a.eval x=.slice sp m c) (hl:news.length=m*size) (hsrc:Reads w sp news) (hm0:0<m) (h1:∀u∈news,u.oneCell'=true) (h63:n+m<=maxLen) (hbytes:(n+m)*bytes<=140737488355328) (h:∀v' ob' w',AV w' v' ob' e size (n+m) (xs++news)->(ob'=ob\/∃k,ob'=some k/\w.heap.size<=k)->Mv (λk=>ob=some k) w w'->K (a.put o.dst v') w'):o.wp P a w K Q:=by
 obtain⟨b,y,rfl,_,f⟩:=hsrc (by rw[hl];exact Nat.mul_pos hm0 hsz);obtain⟨i,B,N,G,L⟩:=info_parts hi;have H:∀j u,news[j]?=some u->w.cell? (Addr.add ⟨b,y,none⟩ j)=some u:=λj u r=>by rw[JE];exact f j u r
 have M:∀v' w',w'.ownsRow w.heap.size e size v' (n+m) (xs++news)->w.grownBy w' none->K (a.put o.dst v') w':=λv' w' E l=>by
  obtain⟨ob',h1,O⟩:=AV.of E;refine h v' ob' w' h1 ?_ ⟨l.os,l.tape,l.output,l.size,λk C _=>l.block k C (by intro f;cases f)⟩;rcases h1.cases with⟨_,_,T,_⟩|⟨g,_,_,_,d,_⟩
  .omega
  .exact .inr ⟨g,d,O g d⟩
 rcases hown.cases with⟨q,d,D,S⟩|⟨g,A,X,q,d,W,U,R,V⟩
 .subst D S;obtain⟨v',w',F,I,J,_⟩:=run_append_own (P:=P) w w.heap.size t o.type e i z size bytes ht B N G L hzs hsz AL 0 [] (World.ownsRow_nil w _ e size) ⟨b,y,none⟩ m c news hl H h1 h63 hbytes Ve;unfold Oper.wp;simp[execOp,ho,resolve,invoke,builtin,hs,q,hx,F,Result.andThen];exact M v' w' I J
 .by_cases hr:n+m<=A
  .refine wp_append_own_spare w s x t ho 0 e i size ht B G g n A xs (by rw[hs,q]) (by rw[<-q];exact hown.own) ⟨b,y,none⟩ m c news hx hl H h1 hr ?_;intro w' E p;refine h _ (some g) w' ⟨E,rfl⟩ (.inl d.symm) ⟨p.os,p.tape,p.output,p.size,λk C D=>p.block k C λf=>D ?_⟩;rw[d,f]
  .obtain⟨v',w',F,I,J⟩:=run_append_arg_grows (P:=P) w t o.type e i z size bytes ht B N G L hzs hsz ⟨g,0,none⟩ n A xs hown.len (λj u r=>by
    rw[JE,Nat.zero_add,R.cell,List.getElem?_append_left (List.getElem?_eq_some_iff.1 r).1];exact r) ⟨b,y,none⟩ m c news hl H BJ h63 hbytes
   unfold Oper.wp;simp[execOp,ho,resolve,invoke,builtin,hs,q,hx,F,Result.andThen];exact M v' w' I J
theorem PY{w:World}{rest:List Oper}{o:Oper}{a:Act}(hgd:o.guard=none)(s x:Operand)(t:TypeId) (ho:o.op=.call { callee:=.builtin .append,args:=#[s,x],argTypes:=#[t,t] }) (e:TypeId) (z:Value) (size bytes:Nat) (ht:P.underlying t=some (.slice e)) (hi:(P.info? e).map (λi=>(i.zero,i.size,i.bytes))=some (some z,size,bytes)) (hzs:z.cells.size=size) (hsz:0<size) (v:Value) (ob:Option Nat) (n:Nat) (xs:List Value) (hs:a.eval s=v) (hown:AV w v ob e size n xs) (sp:Option Addr) (m c:Nat) (news:List Value) (hx:a.eval x=.slice sp m c) (hl:news.length=m*size) (hsrc:Reads w sp news) (hm0:0<m) (h1:∀u∈news,u.oneCell'=true) (h63:n+m<=maxLen) (hbytes:(n+m)*bytes<=140737488355328) (h:∀v' ob' w',AV w' v' ob' e size (n+m) (xs++news)->(ob'=ob\/∃k,ob'=some k/\w.heap.size<=k)->Mv (λk=>ob=some k) w w'->wpList P ops Q rest (a.put o.dst v') w'):wpList P ops Q (o :: rest) a w:=
 wpList_plain hgd λ_ g=>PR s x t ho e z size bytes ht hi hzs hsz v ob n xs hs hown sp m c news hx hl hsrc hm0 h1 h63 hbytes λv' ob' w' b d f=>g _ _ (h v' ob' w' b d f)
theorem Ro{w:World}{o:Oper}{a:Act}{K:Act->World->Prop}{E:Prop}(hgd:o.guard=none)(s x:Operand)(t:TypeId) (ho:o.op=.call { callee:=.builtin .append,args:=#[s,x],argTypes:=#[t,t] }) (e:TypeId) (z:Value) (size bytes:Nat) (ht:P.underlying t=some (.slice e)) (hi:(P.info? e).map (λi=>(i.zero,i.size,i.bytes))=some (some z,size,bytes)) (hzs:z.cells.size=size) (hsz:0<size) (v:Value) (ob:Option Nat) (n:Nat) (xs:List Value) (hs:a.eval s=v) (hown:AV w v ob e size n xs) (sp:Option Addr) (m c:Nat) (news:List Value) (hx:a.eval x=.slice sp m c) (hl:news.length=m*size) (hsrc:Reads w sp news) (hm0:0<m) (h1:∀u∈news,u.oneCell'=true) (h63:n+m<=maxLen) (hbytes:(n+m)*bytes<=140737488355328) (h:∀v' ob' w',AV w' v' ob' e size (n+m) (xs++news)->(ob'=ob\/∃k,ob'=some k/\w.heap.size<=k)->Mv (λk=>ob=some k) w w'->K (a.put o.dst v') w') :if Region.wanted o (yielded ops a.tmps)=true then Oper.wp P o a w K Q else E:=by
 have b:Region.wanted o (yielded ops a.tmps)=true:=by simp[Region.wanted,hgd]
 rw[if_pos b];exact PR s x t ho e z size bytes ht hi hzs hsz v ob n xs hs hown sp m c news hx hl hsrc hm0 h1 h63 hbytes h
theorem Dn{w:World}{rest:List Oper}{o:Oper}{a:Act}(hgd:o.guard=none)(s x:Operand)(t:TypeId) (ho:o.op=.call { callee:=.builtin .append,args:=#[s,x],argTypes:=#[t,t] }) (e:TypeId) (z:Value) (size bytes:Nat) (ht:P.underlying t=some (.slice e)) (hi:(P.info? e).map (λi=>(i.zero,i.size,i.bytes))=some (some z,size,bytes)) (v:Value) (ob:Option Nat) (n:Nat) (xs:List Value) (hs:a.eval s=v) (hown:AV w v ob e size n xs) (hx:a.eval x=AL) (h:wpList P ops Q rest (a.put o.dst v) w):wpList P ops Q (o :: rest) a w:=by obtain⟨i,b,f,d,c⟩:=info_parts hi;exact wpList_append_own_none hgd s x t ho 0 e i size ht b v n xs hs hown.own hx h
end
end
theorem J6{P:Program}{op:Oper}{a:Act}{w:World}{K:Act->World->Prop}{Q:Exit->Act->World->Prop}(ty:TypeId)(x y:Operand)(ho:op.op=.store ty x y)(hd:op.dst=none) (g o:Nat) (cur:List Value) (t:TypeId) (hg:Holds w g t cur) (hx:a.eval x=.pointer (some ⟨g,o,none⟩)) (cs:List Value) (hy:a.eval y=.agg cs.toArray) (hi:(P.info? ty).map (·.size)=some cs.length) (hfit:o+cs.length<=cur.length) (h1:∀v∈cs,v.oneCell'=true) (h:∀w',Holds w' g t (splice cur o cs)->Touch g w w'->K a w'):op.wp P a w K Q:=by
 have c:=run_storeCells_at P g o t cs 0 cur.toArray w hg (by simpa using hfit) h1;have f:(storeVar ty ⟨g,o,none⟩ (.agg cs.toArray)).run P w=.ok () (w.setRow g (cur.toArray.toList.take (o+0)++cs++cur.toArray.toList.drop (o+0+cs.length)).toArray):=by
  cases b:P.info? ty with
  | none=>simp[b] at hi
  | some i=>
   have j:cs.length=i.size:=by simp[b] at hi;omega
   simp[storeVar,sizeOf,typeInfo,b,Value.cells,j] at c |-;exact c
 unfold Oper.wp execOp;simp only[ho,hx,hy,Instr.storeAt,Instr.sureAddr,Sem.run_bind,Sem.run_pure,Result.andThen_ok,f];show K (a.put op.dst undef) _;rw[hd];refine h _ ?_ ⟨rfl,rfl,rfl,by simp[World.setRow],λk l d=>setRow_other w g k _ d⟩;simpa[splice,Holds] using setRow_heap w g _ _ t _ hg
theorem Gw{P:Program}{ops:Array Oper}{rest:List Oper}{op:Oper}{a:Act}{w:World}{Q:Exit->Act->World->Prop}(hgd:op.guard=none)(ty:TypeId)(x y:Operand)(ho:op.op=.store ty x y)(hd:op.dst=none) (g o:Nat) (cur:List Value) (t:TypeId) (hg:Holds w g t cur) (hx:a.eval x=.pointer (some ⟨g,o,none⟩)) (cs:List Value) (hy:a.eval y=.agg cs.toArray) (hi:(P.info? ty).map (·.size)=some cs.length) (hfit:o+cs.length<=cur.length) (h1:∀v∈cs,v.oneCell'=true) (h:∀w',Holds w' g t (splice cur o cs)->Touch g w w'->wpList P ops Q rest a w'):wpList P ops Q (op :: rest) a w:=
 wpList_plain hgd λ_ d=>J6 ty x y ho hd g o cur t hg hx cs hy hi hfit h1 λw' b c=>d _ _ (h w' b c)
theorem FB{P:Program}{ops:Array Oper}{op:Oper}{a:Act}{w:World}{K:Act->World->Prop}{Q:Exit->Act->World->Prop}{E:Prop}(hgd:op.guard=none)(ty:TypeId)(x y:Operand)(ho:op.op=.store ty x y)(hd:op.dst=none) (g o:Nat) (cur:List Value) (t:TypeId) (hg:Holds w g t cur) (hx:a.eval x=.pointer (some ⟨g,o,none⟩)) (cs:List Value) (hy:a.eval y=.agg cs.toArray) (hi:(P.info? ty).map (·.size)=some cs.length) (hfit:o+cs.length<=cur.length) (h1:∀v∈cs,v.oneCell'=true) (h:∀w',Holds w' g t (splice cur o cs)->Touch g w w'->K a w'):if Region.wanted op (yielded ops a.tmps)=true then Oper.wp P op a w K Q else E:=by
 have b:Region.wanted op (yielded ops a.tmps)=true:=by simp[Region.wanted,hgd]
 rw[if_pos b];exact J6 ty x y ho hd g o cur t hg hx cs hy hi hfit h1 h
theorem DC{P:Program}{fn:Func}{a u:Tmp}{t:TypeId}(h:fn.results=#[.tmp u,.cell a t])(tmps:Array Value)(w:World)(b:Nat)(cs:List Value)(d:TypeDesc)(v:Value)(ha:tmps.getD a undef=AP b)(hv:tmps.getD u undef=v)(hc:w.rangeAt b 0 cs) (hu:P.underlying t=some d) (hd:d.isRow=true) (hi:(P.info? t).map (·.size)=some cs.length):(results fn tmps).run P w=.ok (.tuple #[v,.agg cs.toArray]) w:=by have c:=run_loadVar_mid w b 0 t cs d hc hu hd hi;unfold results;rw[h];rw[Array.getD_eq_getD_getElem?] at ha hv;simp[ha,hv,asAddr,c,Sem.run_bind]
theorem PH{s m n:Nat}{V W X:Nat->List Value}(hs:0<s)(hv:∀i,i<m->(V i).length=s)(hw:∀i,i<n->(W i).length=s)(hx1:∀i,i<m->X i=V i)(hx2:∀i,i<n->X (m+i)=W i):flat s m V++flat s n W=flat s (m+n) X:=by
 apply List.ext_getElem?;intro t;have f:=Nat.mod_lt t hs;have e:t / s*s+t % s=t:=by rw[Nat.mul_comm];exact Nat.div_add_mod t s
 have k:(m+n)*s=m*s+n*s:=Nat.add_mul m n s;by_cases h:t<m*s
 .have a:t / s<m:=Nat.div_lt_of_lt_mul (by rwa [Nat.mul_comm] at h);rw[List.getElem?_append_left (by rw[BQ];exact h)];have b:=EW s m V (t / s) (t % s) a f (hv _ a);have c:=EW s (m+n) X (t / s) (t % s) BJ f (by rw[hx1 _ a];exact hv _ a);rw[e] at b c;rw[b,c,hx1 _ a]
 .by_cases ht2:t<(m+n)*s
  .rw[List.getElem?_append_right (by rw[BQ];omega),BQ];have a:t / s<m+n:=Nat.div_lt_of_lt_mul (by rwa [Nat.mul_comm] at ht2);have j:m<=t / s:=(Nat.le_div_iff_mul_le hs).2 BJ;have d:t / s-m<n:=BJ
   have b:=EW s n W (t / s-m) (t % s) d f (hw _ d);have c:=EW s (m+n) X (t / s) (t % s) a f (by rw[show t / s=m+(t / s-m) by omega,hx2 _ d];exact hw _ d);rw[e] at c;rw[show (t / s-m)*s+t % s=t-m*s by rw[Nat.sub_mul];have:m*s<=t / s*s:=Nat.mul_le_mul_right s j;omega] at b;rw[b,c];have g:=hx2 _ d;rw[show m+(t / s-m)=t / s by omega] at g;rw[g]
  .rw[List.getElem?_eq_none (by rw[List.length_append,BQ,BQ];omega),List.getElem?_eq_none (by rw[BQ];omega)]
theorem Ir{s:Nat}{V:Nat->List Value}(hv:(V 0).length=s):flat s 1 V=V 0:=by
 apply List.ext_getElem?;intro t;by_cases a:t<s
 .have:=EW s 1 V 0 t BJ a hv;rwa [Nat.zero_mul,Nat.zero_add] at this
 .rw[List.getElem?_eq_none (by rw[BQ];omega),List.getElem?_eq_none BJ]
theorem II{s m:Nat}{V:Nat->List Value}(hs:0<s)(hv:∀i,i<m+1->(V i).length=s):flat s m V++V m=flat s (m+1) V:=by have a:flat s 1 (λi=>V (m+i))=V m:=Ir (V:=λi=>V (m+i)) (hv m BJ);rw[<-a];exact PH hs (λi b=>hv i BJ) (λi b=>hv _ BJ) (λ_ _=>rfl) (λ_ _=>rfl)
theorem SY(s:Nat)(V:Nat->List Value):flat s 0 V=[]:=by simp[flat]
abbrev Grown(W w':World):Prop:=∃p:Regrown,w'=Sort.grow (redrawn W p.d) p.os
theorem BK{W:World}{g:Nat}{e:TypeId}{L cs:List Value}(h:Holds W g e L)(o:Nat)(hs:∀(j:Nat) v,cs[j]?=some v->L[o+j]?=some v):∀w',Grown W w'->w'.rangeAt g o cs:=λw' b=>by have a:=Aa b;exact(h.bel a).CB o hs
theorem Hf{w:World}{g:Nat}{e:TypeId}{L cs:List Value}(h:Holds w g e L)(o:Nat)(hs:(L.drop o).take cs.length=cs):w.rangeAt g o cs:=h.CB o λj v a=>by rw[<-hs,List.getElem?_take_of_lt (by have:=(List.getElem?_eq_some_iff.1 a).1;rw[List.length_take] at this;omega),List.getElem?_drop] at a;exact a
section
theorem Ff{P:Program}{ops:Array Oper}{rest:List Oper}{op:Oper}{a:Act}{w:World}{Q:Exit->Act->World->Prop}(hgd:op.guard=none)(s:Operand)(t:TypeId) (ho:op.op=.call { callee:=.builtin .clear,args:=#[s],argTypes:=#[t] }) (hd:op.dst=none) (e:TypeId) (z:Value) (ht:P.underlying t=some (.slice e)) (hz:(P.info? e).map (·.zero)=some (some z)) (g o n c:Nat) (h0:0<n) (hs:a.eval s=.slice (some ⟨g,o,none⟩) n c) (cur:List Value) (ct:TypeId) (hg:Holds w g ct cur) (cs:List Value) (hcs:(Builtin.zeroCells z.cells n).toList=cs) (hfit:o+cs.length<=cur.length) (h1:∀v∈cs,v.oneCell'=true) (h:∀w',Holds w' g ct (splice cur o cs)->Touch g w w'->wpList P ops Q rest a w'):wpList P ops Q (op :: rest) a w:=
 wpList_plain hgd λK d=>by
  have b:=run_storeCells_at P g o ct cs 0 cur.toArray w hg (by simpa using hfit) h1;simp only[Nat.add_zero] at b;have m:(zeroValue e).run P w=.ok z w:=OO w hz;have q:n≠0:=BJ
  have l:(Builtin.clear_ #[t] op.type #[.slice (some ⟨g,o,none⟩) n c]).run P w=.ok (.tuple #[]) (w.setRow g (cur.take o++cs++cur.drop (o+cs.length)).toArray):=by
   cases n with
   | zero=>omega
   | succ n=>simp[Builtin.clear_,run_underlying ht,m,hcs,b]
  have i:=h (w.setRow g (cur.take o++cs++cur.drop (o+cs.length)).toArray) (by simpa[splice,Holds] using setRow_heap w g _ _ ct _ hg) ⟨rfl,rfl,rfl,by simp[World.setRow],λk p j=>setRow_other w g k _ j⟩;have f:=d _ _ i;unfold Oper.wp;simp[execOp,ho,resolve,invoke,builtin,hs,l,Result.andThen];show K (a.put op.dst _) _;rw[hd];show K a _;simpa using f
section
variable {P:Program} {ops:Array Oper} {Q:Exit->Act->World->Prop}
theorem Tj{o:Oper}{a:Act}{w:World}{K:Act->World->Prop}{d q:Tmp}(t e:TypeId)(u:Value)(L:List Value)(ho:o.op=.buildSlice t 1 #[(0,.tmp q)])(hd:o.dst=some d)(hu:a.eval (.tmp q)=u) (hrun:∀w,(Instr.buildSlice t 1 #[(0,u)]).run P w=.ok (.slice (Ac w.heap.size) 1 1) (w.alloc (.cells L.toArray e))) (hK:K (a.put (some d) (.slice (Ac w.heap.size) 1 1)) (w.alloc (.cells L.toArray e))):o.wp P a w K Q:=by unfold Oper.wp execOp;simp only[ho,List.map_toArray,List.map_cons,List.map_nil,hu];rw[Sem.run_bind,hrun];rw[<-hd] at hK;exact hK
theorem PN{o:Oper}{a:Act}{w:World}{K:Act->World->Prop}{d q:Tmp}{E:Prop}(hgd:o.guard=none)(t e:TypeId)(u:Value)(L:List Value)(ho:o.op=.buildSlice t 1 #[(0,.tmp q)])(hd:o.dst=some d)(hu:a.eval (.tmp q)=u) (hrun:∀w,(Instr.buildSlice t 1 #[(0,u)]).run P w=.ok (.slice (Ac w.heap.size) 1 1) (w.alloc (.cells L.toArray e))) (hK:∀w',Holds w' w.heap.size e L->Below w.heap.size w w'->K (a.put (some d) (.slice (Ac w.heap.size) 1 1)) w'):if Region.wanted o (yielded ops a.tmps)=true then Oper.wp P o a w K Q else E:=by
 have b:Region.wanted o (yielded ops a.tmps)=true:=by simp[Region.wanted,hgd]
 rw[if_pos b];exact Tj t e u L ho hd hu hrun (hK _ (AC w e L) ((Below.refl _ _).alloc Ve _))
theorem FX{rest:List Oper}{o:Oper}{a:Act}{w:World}{d q:Tmp}(hgd:o.guard=none)(t e:TypeId)(u:Value)(L:List Value)(ho:o.op=.buildSlice t 1 #[(0,.tmp q)])(hd:o.dst=some d)(hu:a.eval (.tmp q)=u) (hrun:∀w,(Instr.buildSlice t 1 #[(0,u)]).run P w=.ok (.slice (Ac w.heap.size) 1 1) (w.alloc (.cells L.toArray e))) (h:∀w',Holds w' w.heap.size e L->Below w.heap.size w w'->wpList P ops Q rest (a.put (some d) (.slice (Ac w.heap.size) 1 1)) w'):wpList P ops Q (o :: rest) a w:=
 wpList_plain hgd λK b=>Tj t e u L ho hd hu hrun (b _ _ (h _ (AC w e L) ((Below.refl _ _).alloc Ve _)))
end
end
section
section
variable {P:Program} {ops:Array Oper} {Q:Exit->Act->World->Prop}
theorem NU{rest:List Oper}{o:Oper}{a:Act}{w:World}(hw:Region.wanted o (yielded ops a.tmps)=true)(op:BinOp)(ty rty:TypeId)(x y:Operand)(ho:o.op=.binOp op ty x y rty)(xs ys:Array Value) (hx:a.eval x=.agg xs) (hy:a.eval y=.agg ys) (hm:P.eqGuardType P.depth ty=false) (r:Value) (hr:∀w,(binOp op ty (.agg xs) (.agg ys)).run P w=.ok r w) (h:wpList P ops Q rest (a.put o.dst r) w):wpList P ops Q (o :: rest) a w:=
 wpList_step λK b=>by rw[if_pos hw];unfold Oper.wp execOp;simp only[ho,hx,hy,Sem.run_bind,run_eqGuard_agg (hm:=hm),Result.andThen_ok,hr];exact b _ _ h
theorem LW{rest:List Oper}{o:Oper}{a:Act}{w:World}(hw:Region.wanted o (yielded ops a.tmps)=true)(t:TypeId)(i:Nat)(q:Tmp)(ho:o.op=.build t #[(i,.tmp q)])(u:Value)(hu:a.eval (.tmp q)=u) (r:Value) (hr:∀w,(Instr.build t #[(i,u)]).run P w=.ok r w) (h:wpList P ops Q rest (a.put o.dst r) w):wpList P ops Q (o :: rest) a w:=
 wpList_step λK b=>by rw[if_pos hw];unfold Oper.wp execOp;simp only[ho,List.map_toArray,List.map_cons,List.map_nil,hu];rw[Sem.run_bind,hr];exact b _ _ h
end
theorem LX{P:Program}{ops:Array Oper}{C:World->Prop}{Q:Act->Prop}{rest:List Oper}{o:Oper}{a:Act}(hg:Region.wanted o (yielded ops a.tmps)=true)(ty:TypeId)(x:Operand)(ho:o.op=.load ty x) (b f:Nat) (hx:a.eval x=.pointer (some ⟨b,f,none⟩)) (cs:List Value) (d:TypeDesc) (hc:∀w,C w->w.rangeAt b f cs) (hu:P.underlying ty=some d) (hd:d.isRow=true) (hi:(P.info? ty).map (·.size)=some cs.length) (h:wpQuiet P ops C Q rest (a.put o.dst (.agg cs.toArray))):wpQuiet P ops C Q (o :: rest) a:=by unfold wpQuiet;rw[if_pos hg];refine⟨.agg cs.toArray,λw c=>?_,h⟩;unfold Oper.quietAt execOp;simp only[ho,hx,Instr.loadAt,Instr.sureAddr,Sem.run_bind,Sem.run_pure,Result.andThen_ok,run_loadVar_mid w b f ty cs d (hc w c) hu hd hi];exact⟨rfl,rfl⟩
end
open Go.RowKit Go.Maps
section
variable {P : Program} {ops : Array Oper} {Q : Exit -> Act -> World -> Prop} {rest : List Oper} {o : Oper} {a : Act} {w : World} {K : Act -> World -> Prop} {E : Prop} {t e : TypeId} {x y : Operand} {g : Nat} {L old : List Value}
theorem sC (i : Nat) (hh : Holds w g e L) (u : Value) (h : ∀w', Holds w' g e (L.set i u) -> Touch g w w' -> wpList P ops Q rest a w') (hgd : o.guard = none := by exact rfl) (ho : o.op = .store t x y := by exact rfl) (hd : o.dst = none := by exact rfl) (hi : (i + 1).ble L.length = true := by kernel_rfl) (hx : a.eval x = .pointer (some ⟨g, i, none⟩) := by exact rfl) (hy : a.eval y = u := by exact rfl) (hz : (P.info? t).map (·.size) = some 1 := by kernel_rfl) (hu : u.cells = #[u] := by exact rfl) (h1 : u.oneCell' = true := by exact rfl) : wpList P ops Q (o :: rest) a w :=
  Bh hgd t x y ho hd g i e L hh (Nat.le_of_ble_eq_true hi) hx u hy hu hz h1 h
theorem tC (i : Nat) (hh : Holds w g e L) (u : Value) (h : ∀w', Holds w' g e (L.set i u) -> Touch g w w' -> K a w') (hgd : o.guard = none := by exact rfl) (ho : o.op = .store t x y := by exact rfl) (hd : o.dst = none := by exact rfl) (hi : (i + 1).ble L.length = true := by kernel_rfl) (hx : a.eval x = .pointer (some ⟨g, i, none⟩) := by exact rfl) (hy : a.eval y = u := by exact rfl) (hz : (P.info? t).map (·.size) = some 1 := by kernel_rfl) (hu : u.cells = #[u] := by exact rfl) (h1 : u.oneCell' = true := by exact rfl) : if Region.wanted o (yielded ops a.tmps) = true then Oper.wp P o a w K Q else E :=
  DD hgd t x y ho hd g i e L hh (Nat.le_of_ble_eq_true hi) hx u hy hu hz h1 h
theorem sW (cs : List Value) (hg : Holds w g t old) (h : ∀w', Holds w' g t cs -> Touch g w w' -> wpList P ops Q rest a w') (h1 : cs.toArray.all (·.oneCell') = true := by simp[Value.oneCell']) (hgd : o.guard = none := by exact rfl) (ho : o.op = .store t x y := by exact rfl) (hd : o.dst = none := by exact rfl) (hx : a.eval x = AP g := by exact rfl) (hy : a.eval y = .agg cs.toArray := by exact rfl) (hi : (P.info? t).map (·.size) = some cs.length := by kernel_rfl) (hl : old.length = cs.length := by exact rfl) : wpList P ops Q (o :: rest) a w :=
  NV hgd t x y g old cs ho hd hx hy hg hi hl h1 h
theorem tB (cs : List Value) (hg : Holds w g t old) (h : ∀w', Holds w' g t cs -> Touch g w w' -> K a w') (h1 : cs.toArray.all (·.oneCell') = true := by simp[Value.oneCell']) (hgd : o.guard = none := by exact rfl) (ho : o.op = .store t x y := by exact rfl) (hd : o.dst = none := by exact rfl) (hx : a.eval x = AP g := by exact rfl) (hy : a.eval y = .agg cs.toArray := by exact rfl) (hi : (P.info? t).map (·.size) = some cs.length := by kernel_rfl) (hl : old.length = cs.length := by exact rfl) : if Region.wanted o (yielded ops a.tmps) = true then Oper.wp P o a w K Q else E :=
  Q5 hgd t x y g old cs ho hd hx hy hg hi hl h1 h
theorem sS (i : Nat) (hg : Holds w g e L) (cs : List Value) (h : ∀w', Holds w' g e (splice L i cs) -> Touch g w w' -> wpList P ops Q rest a w') (h1 : ∀v ∈ cs, v.oneCell' = true := by simp[Value.oneCell']) (hgd : o.guard = none := by exact rfl) (ho : o.op = .store t x y := by exact rfl) (hd : o.dst = none := by exact rfl) (hx : a.eval x = .pointer (some ⟨g, i, none⟩) := by exact rfl) (hy : a.eval y = .agg cs.toArray := by exact rfl) (hi : (P.info? t).map (·.size) = some cs.length := by kernel_rfl) (hf : (i + cs.length).ble L.length = true := by kernel_rfl) : wpList P ops Q (o :: rest) a w :=
  Gw hgd t x y ho hd g i L e hg hx cs hy hi (Nat.le_of_ble_eq_true hf) h1 h
theorem lM (ob : Nat) {b : Nat} {cs : List Value} {d : TypeDesc} (hc : w.rangeAt b ob cs) (h : wpList P ops Q rest (a.put o.dst (.agg cs.toArray)) w) (hgd : o.guard = none := by exact rfl) (ho : o.op = .load t x := by exact rfl) (hu : P.underlying t = some d := by exact rfl) (hx : a.eval x = .pointer (some ⟨b, ob, none⟩) := by exact rfl) (hd : d.isRow = true := by exact rfl) (hi : (P.info? t).map (·.size) = some cs.length := by kernel_rfl) : wpList P ops Q (o :: rest) a w :=
  wpList_load_mid hgd t x ho b ob hx cs d hc hu hd hi h
theorem lG (ob : Nat) {b : Nat} {cs : List Value} {d : TypeDesc} (hc : w.rangeAt b ob cs) (h : wpList P ops Q rest (a.put o.dst (.agg cs.toArray)) w) (hw : Region.wanted o (yielded ops a.tmps) = true := by kernel_rfl) (ho : o.op = .load t x := by exact rfl) (hu : P.underlying t = some d := by exact rfl) (hx : a.eval x = .pointer (some ⟨b, ob, none⟩) := by exact rfl) (hd : d.isRow = true := by exact rfl) (hi : (P.info? t).map (·.size) = some cs.length := by kernel_rfl) : wpList P ops Q (o :: rest) a w :=
  MJ hw t x ho b ob hx cs d hc hu hd hi h
theorem qG (ob : Nat) {b : Nat} {cs : List Value} {d : TypeDesc} {C : World -> Prop} {Q : Act -> Prop} (hc : ∀w, C w -> w.rangeAt b ob cs) (h : wpQuiet P ops C Q rest (a.put o.dst (.agg cs.toArray))) (hw : Region.wanted o (yielded ops a.tmps) = true := by kernel_rfl) (ho : o.op = .load t x := by exact rfl) (hu : P.underlying t = some d := by exact rfl) (hx : a.eval x = .pointer (some ⟨b, ob, none⟩) := by exact rfl) (hd : d.isRow = true := by exact rfl) (hi : (P.info? t).map (·.size) = some cs.length := by kernel_rfl) : wpQuiet P ops C Q (o :: rest) a :=
  LX hw t x ho b ob hx cs d hc hu hd hi h
theorem tU {d q : Tmp} (e : TypeId) (u : Value) (L : List Value) (h : ∀w', Holds w' w.heap.size e L -> Below w.heap.size w w' -> K (a.put (some d) (.slice (Ac w.heap.size) 1 1)) w') (hgd : o.guard = none := by exact rfl) (ho : o.op = .buildSlice t 1 #[(0, .tmp q)] := by exact rfl) (hd : o.dst = some d := by exact rfl) (hu : a.eval (.tmp q) = u := by exact rfl) (hrun : ∀w, (Instr.buildSlice t 1 #[(0, u)]).run P w = .ok (.slice (Ac w.heap.size) 1 1) (w.alloc (.cells L.toArray e)) := by intro w; kernel_rfl) : if Region.wanted o (yielded ops a.tmps) = true then Oper.wp P o a w K Q else E :=
  PN hgd t e u L ho hd hu hrun h
variable {v z : Value} {ob : Option Nat} {n size bytes m c : Nat} {xs : List Value} {sp : Option Addr}
theorem aS (z : Value) (size bytes : Nat) (hown : AV w v ob e size n xs) (news : List Value) (hsrc : Reads w sp news) (h : ∀v' ob' w', AV w' v' ob' e size (n + m) (xs ++ news) -> (ob' = ob \/ ∃k, ob' = some k /\ w.heap.size <= k) -> Mv (λk => ob = some k) w w' -> wpList P ops Q rest (a.put o.dst v') w') (h1 : ∀u ∈ news, u.oneCell' = true := by simp[Value.oneCell']) (hgd : o.guard = none := by exact rfl) (ho : o.op = .call { callee := .builtin .append, args := #[x, y], argTypes := #[t, t] } := by exact rfl) (ht : P.underlying t = some (.slice e) := by exact rfl) (hs : a.eval x = v := by exact rfl) (hx : a.eval y = .slice sp m c := by exact rfl) (hi : (P.info? e).map (λi => (i.zero, i.size, i.bytes)) = some (some z, size, bytes) := by kernel_rfl) (hzs : z.cells.size = size := by exact rfl) (hsz : 0 < size := by decide) (hl : news.length = m * size := by exact rfl) (hm0 : 0 < m := by decide) (h63 : n + m <= maxLen := by unfold maxLen; omega) (hbytes : (n + m) * bytes <= 140737488355328 := by omega) : wpList P ops Q (o :: rest) a w :=
  PY hgd x y t ho e z size bytes ht hi hzs hsz v ob n xs hs hown sp m c news hx hl hsrc hm0 h1 h63 hbytes h
theorem tS (z : Value) (size bytes : Nat) (hown : AV w v ob e size n xs) (news : List Value) (hsrc : Reads w sp news) (h : ∀v' ob' w', AV w' v' ob' e size (n + m) (xs ++ news) -> (ob' = ob \/ ∃k, ob' = some k /\ w.heap.size <= k) -> Mv (λk => ob = some k) w w' -> K (a.put o.dst v') w') (h1 : ∀u ∈ news, u.oneCell' = true := by simp[Value.oneCell']) (hgd : o.guard = none := by exact rfl) (ho : o.op = .call { callee := .builtin .append, args := #[x, y], argTypes := #[t, t] } := by exact rfl) (ht : P.underlying t = some (.slice e) := by exact rfl) (hs : a.eval x = v := by exact rfl) (hx : a.eval y = .slice sp m c := by exact rfl) (hi : (P.info? e).map (λi => (i.zero, i.size, i.bytes)) = some (some z, size, bytes) := by kernel_rfl) (hzs : z.cells.size = size := by exact rfl) (hsz : 0 < size := by decide) (hl : news.length = m * size := by exact rfl) (hm0 : 0 < m := by decide) (h63 : n + m <= maxLen := by unfold maxLen; omega) (hbytes : (n + m) * bytes <= 140737488355328 := by omega) : if Region.wanted o (yielded ops a.tmps) = true then Oper.wp P o a w K Q else E :=
  Ro hgd x y t ho e z size bytes ht hi hzs hsz v ob n xs hs hown sp m c news hx hl hsrc hm0 h1 h63 hbytes h
theorem AV.c1 (h : AV w v ob e size n xs) : v.cells = #[v] := by rcases h.cases with ⟨r, _⟩ | ⟨_, _, _, r, _⟩ <;> rw[r] <;> rfl
theorem AV.c2 (h : AV w v ob e size n xs) : v.oneCell' = true := by rcases h.cases with ⟨r, _⟩ | ⟨_, _, _, r, _⟩ <;> rw[r] <;> rfl
end
section
variable {P : Program} {fn : Func} {R : Ending -> World -> Prop} {a : Act} {w : World} {t : TypeId} {b : Nat} {cs : List Value} {d : TypeDesc} {p u : Tmp} {v : Value}
theorem bE (hR : R (.returned (.tuple #[])) w) (h : fn.results = #[] := by exact rfl) (hd : a.defers = [] := by exact rfl) : bodyPost P fn R .normal a w := bodyPost_end (v := .tuple #[]) (by simp[results, h, go_sem]) hd hR
theorem bQ (hR : R (.returned (.tuple #[])) w) (h : fn.results = #[] := by exact rfl) (hd : a.defers = [] := by exact rfl) : bodyPost P fn R .ret a w := bodyPost_ret (v := .tuple #[]) (by simp[results, h, go_sem]) hd hR
theorem bC (hc : w.rangeAt b 0 cs) (hR : R (.returned (.agg cs.toArray)) w) (h : fn.results = #[.cell p t] := by exact rfl) (hu : P.underlying t = some d := by exact rfl) (ha : a.tmps.getD p undef = AP b := by exact rfl) (hdr : d.isRow = true := by exact rfl) (hi : (P.info? t).map (·.size) = some cs.length := by kernel_rfl) (hd : a.defers = [] := by exact rfl) : bodyPost P fn R .ret a w :=
  bodyPost_ret (Ui h _ _ b cs d ha hc hu hdr hi) hd hR
theorem bT (hc : w.rangeAt b 0 cs) (hR : R (.returned (.tuple #[.agg cs.toArray, v])) w) (h : fn.results = #[.cell p t, .tmp u] := by exact rfl) (hu : P.underlying t = some d := by exact rfl) (ha : a.tmps.getD p undef = AP b := by exact rfl) (hv : a.tmps.getD u undef = v := by exact rfl) (hdr : d.isRow = true := by exact rfl) (hi : (P.info? t).map (·.size) = some cs.length := by kernel_rfl) (hd : a.defers = [] := by exact rfl) : bodyPost P fn R .ret a w :=
  bodyPost_ret (results_cell_tmp h _ _ b cs d v ha hv hc hu hdr hi) hd hR
variable {q : Tmp} {v2 : Value}
theorem b1 (hR : R (.returned v) w) (h : fn.results = #[.tmp u] := by exact rfl) (hv : a.tmps.getD u undef = v := by exact rfl) (hd : a.defers = [] := by exact rfl) : bodyPost P fn R .ret a w := bodyPost_ret (v := v) (by subst hv; simp[results, h, go_sem]) hd hR
theorem b2 (hR : R (.returned v) w) (h : fn.results = #[.tmp u, .tmp q] := by exact rfl) (hv : .tuple #[a.tmps.getD u undef, a.tmps.getD q undef] = v := by exact rfl) (hd : a.defers = [] := by exact rfl) : bodyPost P fn R .ret a w := bodyPost_ret (v := v) (by subst hv; simp[results, h, go_sem]) hd hR
end
open Go.RowKit Go.Maps
section
variable {P : Program} {ops : Array Oper} {Q : Exit -> Act -> World -> Prop} {rest : List Oper} {o : Oper} {a : Act} {w : World} {t : TypeId} {x y : Operand} {g : Nat} {L old : List Value}
theorem lR (ob : Nat) {b : Nat} {cs : List Value} {d : TypeDesc} (hc : w.rangeAt b ob cs) (h : wpList P ops Q rest (a.put o.dst (.agg cs.toArray)) w) (hw : Region.wanted o (yielded ops a.tmps) = true := by kernel_rfl) (ho : o.op = .load t x := by with_unfolding_all exact rfl) (hu : P.underlying t = some d := by with_unfolding_all exact rfl) (hx : a.eval x = .pointer (some ⟨b, ob, none⟩) := by with_unfolding_all exact rfl) (hd : d.isRow = true := by with_unfolding_all exact rfl) (hi : (P.info? t).map (·.size) = some cs.length := by kernel_rfl) : wpList P ops Q (o :: rest) a w := lG ob hc h hw ho hu hx hd hi
theorem qR (ob : Nat) {b : Nat} {cs : List Value} {d : TypeDesc} {C : World -> Prop} {Q : Act -> Prop} (hc : ∀w, C w -> w.rangeAt b ob cs) (h : wpQuiet P ops C Q rest (a.put o.dst (.agg cs.toArray))) (hw : Region.wanted o (yielded ops a.tmps) = true := by kernel_rfl) (ho : o.op = .load t x := by with_unfolding_all exact rfl) (hu : P.underlying t = some d := by with_unfolding_all exact rfl) (hx : a.eval x = .pointer (some ⟨b, ob, none⟩) := by with_unfolding_all exact rfl) (hd : d.isRow = true := by with_unfolding_all exact rfl) (hi : (P.info? t).map (·.size) = some cs.length := by kernel_rfl) : wpQuiet P ops C Q (o :: rest) a := qG ob hc h hw ho hu hx hd hi
theorem sR (cs : List Value) (hg : Holds w g t old) (h : ∀w', Holds w' g t cs -> Touch g w w' -> wpList P ops Q rest a w') (h1 : cs.toArray.all (·.oneCell') = true := by simp[Value.oneCell']) (hgd : o.guard = none := by with_unfolding_all exact rfl) (ho : o.op = .store t x y := by with_unfolding_all exact rfl) (hd : o.dst = none := by with_unfolding_all exact rfl) (hx : a.eval x = AP g := by with_unfolding_all exact rfl) (hy : a.eval y = .agg cs.toArray := by with_unfolding_all exact rfl) (hi : (P.info? t).map (·.size) = some cs.length := by kernel_rfl) (hl : old.length = cs.length := by with_unfolding_all exact rfl) : wpList P ops Q (o :: rest) a w := sW cs hg h h1 hgd ho hd hx hy hi hl
end
end Go.Proofs.YtimdpiifpibgfaaGreatDoor
section
namespace WordP
open Go Go.RowKit
def zig(n:Int):Nat:=if n<0 then (-2*n-1).toNat else (2*n).toNat
theorem jw(c:Nat)(hc:c<18446744073709551616):c ^^^ 18446744073709551615=18446744073709551615-c:=by
 apply Nat.eq_of_testBit_eq;intro i;have:=Nat.testBit_two_pow_sub_succ (n:=64) hc i;rw[Nat.testBit_xor,show (18446744073709551615:Nat) - c=2 ^ 64 - (c+1) from BJ,this,show (18446744073709551615:Nat)=2 ^ 64-1 from rfl,Nat.testBit_two_pow_sub_one];by_cases a:i<64
 .simp[a]
 .have:c.testBit i=false:=Nat.testBit_lt_two_pow (Nat.lt_of_lt_of_le hc (Nat.pow_le_pow_right (n:=2) Iz (by omega:64<=i)));simp[a,this]
theorem pY(n:Int)(hn:-9223372036854775808<=n/\n<=9223372036854775807) :bits BinOp.xor IntKind.u64 (IntKind.u64.wrap (IntKind.u64.wrap n*2)) (IntKind.u64.wrap (n / 9223372036854775808))=((zig n:Nat):Int):=by
 have a:∀x:Int,IntKind.u64.wrap x=x % 18446744073709551616:=λx=>by simp[IntKind.wrap,IntKind.bits,IntKind.signed]
 rw[a,a,a];unfold zig;by_cases h:n<0
 .rw[if_pos h,show n / 9223372036854775808 % 18446744073709551616=((18446744073709551615:Nat):Int) by omega,show n % 18446744073709551616*2 % 18446744073709551616=((18446744073709551616 - (-2*n).toNat:Nat):Int) by omega];rw[u64_xor_nat _ _ BJ BJ];rw[jw _ BJ]
  congr 1
  omega
 .rw[if_neg h,show n / 9223372036854775808 % 18446744073709551616=((0:Nat):Int) by omega,show n % 18446744073709551616*2 % 18446744073709551616=((2*n).toNat:Int) by omega];rw[u64_xor_nat _ _ BJ BJ,Nat.xor_zero]
end WordP
end
namespace Go.Proofs.YtimdpiifpibgfaaGreatDoor
open Tryz
end Go.Proofs.YtimdpiifpibgfaaGreatDoor
