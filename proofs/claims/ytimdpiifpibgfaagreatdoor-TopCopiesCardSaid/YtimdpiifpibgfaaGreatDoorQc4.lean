/- A part of the proof that the law TopCopies returns true for every input. -/
import Derived.Test.YtimdpiifpibgfaaGreatDoorQc3
set_option linter.all false
set_option maxRecDepth 20000
set_option maxHeartbeats 16000000
open Go.RowKit Go.Maps
namespace Go.Proofs.YtimdpiifpibgfaaGreatDoor
open Tryz
def D9(o:Oper):Oper:={ o with op:=.move (.const undef) }
def lastB(l:List Oper)(o:Oper):Bool:=
 o.guard.isNone&&(o.dst==none&&((l++[o]).zipIdx.all (λy=>y.1.after.toList.all λe=>!Region.binds .any e||decide (e.on<y.2))&&(List.range l.length).all λi=>o.after.toList.any λe=>Region.binds .any e&&e.on==i))
theorem Iw{P:Program}{ops:Array Oper}{C:World→Prop}{Q Q':Act→Prop}{l2:List Oper}(h2:∀a,Q a→wpQuiet P ops C Q' l2 a):∀{l:List Oper} {a:Act},wpQuiet P ops C Q l a→wpQuiet P ops C Q' (l++l2) a
 | [],a,h=>h2 a h
 | o :: l,a,h=>by
  rw[List.cons_append];unfold wpQuiet at h ⊢;split
  ·rename_i hw;rw[if_pos hw] at h;exact Oper.quiet_mono (λa' ha'=>Iw h2 ha') h
  ·rename_i hw;rw[if_neg hw] at h;exact Iw h2 h
theorem PS{P:Program}{id:Nat}{Q:Exit→Act→World→Prop}{a:Act}{w:World}{l:List Oper}{o:Oper}(hm:P.follows .mixedOrders=true)(hB:Region.lexB .any (l++[D9 o]).toArray=true)(hl:lastB l o=true) (h:wpQuiet P (l++[D9 o]).toArray (λw'=>∃p:Regrown,w'=Sort.grow (redrawn w p.d) p.os) (λa'=>∀w',(∃p:Regrown,w'=Sort.grow (redrawn w p.d) p.os)→o.wp P a' w' (λa2 w2=>Q .normal a2 w2) Q) l a):(Code.region id (l++[o]).toArray true).wp P Q a w:=by
 simp only[lastB,Bool.and_eq_true,Option.isNone_iff_eq_none,beq_iff_eq] at hl;obtain⟨hg,hd,hc,hall⟩:=hl;obtain⟨ops,hops⟩:∃ops,ops=(l++[o]).toArray:=⟨_,rfl⟩;obtain⟨ops',hops'⟩:∃ops',ops'=(l++[D9 o]).toArray:=⟨_,rfl⟩;have hsz:ops.size=l.length+1:=by rw[hops];simp
 have hsz':ops'.size=l.length+1:=by rw[hops'];simp
 have hn:ops[l.length]?=some o:=by rw[hops];simp
 have hn':ops'[l.length]?=some (D9 o):=by rw[hops'];simp
 have hlt:∀i,i<l.length→ops'[i]?=ops[i]?:=λi hi=>by rw[hops,hops',List.getElem?_toArray,List.getElem?_toArray,List.getElem?_append_left hi,List.getElem?_append_left hi]
 have hafter:∀(i:Nat),(ops'[i]?).map (·.after)=(ops[i]?).map (·.after):=λi=>by
  by_cases hi:i<l.length
  ·rw[hlt i hi]
  ·by_cases hi2:i=l.length
   ·subst hi2;rw[hn,hn'];rfl
   ·rw[Array.getElem?_eq_none (by omega),Array.getElem?_eq_none (by omega)]
 have hdst:∀(i:Nat),(ops'[i]?).bind (·.dst)=(ops[i]?).bind (·.dst):=λi=>by
  by_cases hi:i<l.length
  ·rw[hlt i hi]
  ·by_cases hi2:i=l.length
   ·subst hi2;rw[hn,hn'];rfl
   ·rw[Array.getElem?_eq_none (by omega),Array.getElem?_eq_none (by omega)]
 have hyield:∀(t:Array Value),yielded ops' t=yielded ops t:=λt=>by
  funext j
  unfold yielded;rw[hdst j]
 have hready:∀L,Region.ready .any ops' L=Region.ready .any ops L:=λL=>by
  unfold Region.ready;rw[hsz,hsz'];apply List.filter_congr;intro i _;have:=hafter i;cases h1:ops'[i]? with
  | none=>
   rw[h1] at this;cases h2:ops[i]? with
   | none=>rfl
   | some o2=>rw[h2] at this;cases this
  | some o1=>
   rw[h1] at this;cases h2:ops[i]? with
   | none=>rw[h2] at this;cases this
   | some o2=>
    rw[h2] at this;simp only[Option.map_some,Option.some.injEq] at this;simp only[Option.map_some,this]
 have hcyc:∀(i:Nat) o2,ops[i]?=some o2→∀e∈o2.after,Region.binds .any e=true→e.on<i:=λi o2 ho2 e he hbd=>by have h1:=List.all_eq_true.1 hc _ (Nv (by rw[←hops];exact ho2));have h2:=List.all_eq_true.1 h1 e (by simpa using he);rw[hbd] at h2;simpa using h2
 have hw8:∀i,i<l.length→∃e∈o.after,Region.binds .any e=true∧e.on=i:=λi hi=>by have h1:=List.all_eq_true.1 hall i (List.mem_range.2 hi);simp only[List.any_eq_true,Bool.and_eq_true,beq_iff_eq] at h1;obtain⟨e,he,h2,h3⟩:=h1;exact⟨e,by simpa using he,h2,h3⟩
 have sim:∀(fuel:Nat) (L:Array Bool) (a:Act) (w1:World),L.size=ops.size→RJ w w1→L.getD l.length false=false →
   wpAnyQ P .any ops' (RJ w) (λa'=>∀w',RJ w w'→o.wp P a' w' (λa2 w2=>Q .normal a2 w2) Q) fuel L a→wpAny P .any ops Q fuel L a w1:=by
  have hno:∀L:Array Bool,L.size=ops.size→L.getD l.length false=false→Region.ready .any ops L≠[]:=λL hL hun hr=>by have:=OG hcyc L hL hr l.length (by omega);rw[hun] at this;cases this
  intro fuel;induction fuel with
  | zero=>
   intro L a w1 hL hC hun hq;exact absurd (by rw[←hready];exact hq.1) (hno L hL hun)
  | succ fuel ih=>
   intro L a w1 hL hC hun hq;refine⟨λhr=>absurd hr (hno L hL hun),λi hi=>?_⟩;obtain⟨hui,oi,hoi,hai⟩:=mem_ready.1 hi;have hq2:=hq.2 i (by rw[hready];exact hi);have hilt:i<l.length+1:=by rw[←hsz];exact(Array.getElem?_eq_some_iff.1 hoi).1
   by_cases hil:i<l.length
   ·have hoi':ops'[i]?=some oi:=by rw[hlt i hil];exact hoi
    unfold qOp at hq2;unfold wpOp;simp only[hoi'] at hq2;simp only[hoi];rw[hyield] at hq2;have hL2:(L.setIfInBounds i true).size=ops.size:=by rw[Array.size_setIfInBounds];exact hL
    have hun2:(L.setIfInBounds i true).getD l.length false=false:=by rw[DT _ (by omega)];exact hun
    split at hq2
    ·rename_i hw;rw[if_pos hw];exact .inl (Oper.wp_of_quiet hC (λa' w' hw' hk=>ih _ a' w' hL2 hw' hun2 hk) hq2)
    ·rename_i hw;rw[if_neg hw];exact ih _ _ _ hL2 hC hun2 hq2
   ·have hin:i=l.length:=by omega
    subst hin;rw[hn] at hoi;cases hoi;have hall2:∀j,j<ops.size→(L.setIfInBounds l.length true).getD j false=true:=λj hj=>by
     by_cases hjl:j=l.length
     ·subst hjl;exact Og (by rw[hL];exact hj) _
     ·obtain⟨e,he,hb,heo⟩:=hw8 j (by omega);refine getD_set_true ?_;rw[←heo];exact hai e he hb
    have hr2:Region.ready .any ops (L.setIfInBounds l.length true)=[]:=by apply List.eq_nil_iff_forall_not_mem.2;intro j hj;obtain⟨huj,oj,hoj,_⟩:=mem_ready.1 hj;have h1:=hall2 j (Array.getElem?_eq_some_iff.1 hoj).1;rw[(QI huj).2] at h1;cases h1
    have hfin:∀(f:Nat) (a2:Act) (w2:World),Q .normal a2 w2→wpAny P .any ops Q f (L.setIfInBounds l.length true) a2 w2:=λf a2 w2 hQ=>by
     cases f with
     | zero=>exact⟨hr2,hQ⟩
     | succ f=>exact⟨λ_=>hQ,λi hi=>by rw[hr2] at hi;cases hi⟩
    have hq0:∀w',RJ w w'→o.wp P a w' (λa2 w2=>Q .normal a2 w2) Q:=by
     unfold qOp at hq2;simp only[hn'] at hq2;rw[if_pos (by simp[Region.wanted,D9,hg])] at hq2;obtain⟨v,_,hnx⟩:=hq2;have he:a.put (D9 o).dst v=a:=by show a.put o.dst v=a;rw[hd];rfl
     rw[he] at hnx;cases fuel with
     | zero=>exact hnx.2
     | succ f=>exact hnx.1 (by rw[hready];exact hr2)
    unfold wpOp;simp only[hn];rw[if_pos (by simp[Region.wanted,hg])];exact .inl (Oper.wp_mono (λa2 w2 hQ=>hfin fuel a2 w2 hQ) (hq0 w1 hC))
 rw[←hops];refine wp_region_any hm (sim _ _ a _ (by simp) ⟨⟨w.drawn+1,#[]⟩,by rw[Sort.grow_empty];rfl⟩ ?_ ?_)
 ·rw[Array.getD_eq_getD_getElem?,Array.getElem?_replicate];split<;>rfl
 ·simp only[Region.lexB,Bool.and_eq_true] at hB;have hq:wpQuiet P ops' (RJ w) (λa'=>∀w',RJ w w'→o.wp P a' w' (λa2 w2=>Q .normal a2 w2) Q) (l++[D9 o]) a:=by
   rw[hops'];refine Iw ?_ h;intro a' ha';unfold wpQuiet;rw[if_pos (by simp[Region.wanted,D9,hg])];refine⟨undef,λw' _=>?_,?_⟩
   ·unfold Oper.quietAt execOp D9;simp only[Sem.run_pure,Sem.run_bind,Result.andThen_ok,Oper.quietUpon,Act.eval];exact⟨trivial,trivial⟩
   ·show (λa'=>∀w',RJ w w'→o.wp P a' w' (λa2 w2=>Q .normal a2 w2) Q) (a'.put o.dst undef);rw[hd];exact ha'
  have:=wpAnyQ_lex (P:=P) (ops:=ops') (md:=.any) (C:=RJ w) (by rw[hops'];exact hB.1) (l++[D9 o]) 0 (Array.replicate ops'.size false) a (λj=>by rw[hops'];simp) (by rw[hops'];simpa using hB.2) hq;rw[hsz];rw[hsz'] at this;simpa using this
section
def Cf(d:Nat→Int):List Value:=[.int .i64 (d 0),.int .i64 (d 1),.int .i64 (d 2),.int .i64 (d 3),.int .i64 (d 4),.int .i64 (d 5),.int .i64 (d 6)]
structure DL(w:World)(g b n:Nat)(d:Nat→Int)(l:List Bf):Prop where
 ix:Holds w g 312 (.map (some b) :: Cf d)
 map:∃D,w.ownsMap prog 37 BO b n D∧Lists D l
 good:Pz l
theorem DL.wf{w:World}{g b n:Nat}{d:Nat→Int}{l:List Bf}(h:DL w g b n d l):UF l:=h.good.wf
theorem DL.ne{w:World}{g b n:Nat}{d:Nat→Int}{l:List Bf}(h:DL w g b n d l):g≠b:=by obtain⟨D,⟨es,clock,hb,_⟩,_⟩:=h.map;intro e;have:=h.ix;unfold Holds at this;rw[e,hb] at this;cases this
theorem DL.keep{w w':World}{g b n:Nat}{d:Nat→Int}{l:List Bf}(h:DL w g b n d l)(hg:w'.heap[g]?=w.heap[g]?)(hb:w'.heap[b]?=w.heap[b]?):DL w' g b n d l:=by obtain⟨D,⟨es,clock,hm,r⟩,hl⟩:=h.map;exact⟨by have:=h.ix;unfold Holds at *;rw[hg];exact this,⟨D,⟨es,clock,hb.trans hm,r⟩,hl⟩,h.good⟩
theorem DL.lt{w:World}{g b n:Nat}{d:Nat→Int}{l:List Bf}(h:DL w g b n d l):g<w.heap.size∧b<w.heap.size:=by obtain⟨D,hm,_⟩:=h.map;exact⟨h.ix.lt,hm.lt⟩
theorem DL.mono{w:World}{g b n:Nat}{d:Nat→Int}{l:List Bf}(h:DL w g b n d l):DL w g b (n+1) d l:=by obtain⟨D,hm,hl⟩:=h.map;exact⟨h.ix,⟨D,hm.mono (Nat.le_succ n),hl⟩,h.good⟩
theorem DL.below{w w':World}{g b n:Nat}{d:Nat→Int}{l:List Bf}(h:DL w g b n d l)(hb:Below w.heap.size w w'):DL w' g b n d l:=
 h.keep (hb.block g h.lt.1) (hb.block b h.lt.2)
theorem DL.touch{w w':World}{g b n k:Nat}{d:Nat→Int}{l:List Bf}(h:DL w g b n d l)(ht:Touch k w w')(h1:g≠k)(h2:b≠k):DL w' g b n d l:=
 h.keep (ht.block g h.lt.1 h1) (ht.block b h.lt.2 h2)
theorem BM{w w':World}{b:Nat}(h:w.grownBy w' (some b)):Touch b w w':=⟨h.os,h.tape,h.output,h.size,λk hk hne=>h.block k hk (λe=>hne (by cases e;rfl))⟩
set_option maxRecDepth 4000 in
theorem new_any(w:World):Calls prog 117 #[] w λe w'=>e=.returned (.pointer (some ⟨w.heap.size+1,0,none⟩))∧DL w' (w.heap.size+1) w.heap.size 0 (λ_=>0) []∧Below w.heap.size w w':=by
 have hmm:=@run_makeMap prog;go_in;go_wp2_with fail;go_ret;have hB:Below w.heap.size w (w.alloc (.map #[] 0)):=(Below.refl _ _).alloc (Nat.le_refl _) _;refine⟨rfl,⟨?_,⟨.map [],?_,Lists.empty⟩,λe he=>by cases he⟩,hB.alloc hB.size _⟩
 ·have:=AA (w.alloc (.map #[] 0)) 312 (.map (some w.heap.size) :: Cf λ_=>0);rw[World.size_alloc] at this;exact this
 ·exact(World.ownsMap_made w prog 37 BO).alloc _
theorem Gi(m:Value)(d:Nat→Int)(k:Nat)(hk:k<7):(m :: Cf d)[1+k]?=some (.int .i64 (d k)):=by
 have:k=0∨k=1∨k=2∨k=3∨k=4∨k=5∨k=6:=by omega
 rcases this with rfl|rfl|rfl|rfl|rfl|rfl|rfl<;>rfl
theorem NE{P:Program}{id:Nat}{Q:Exit→Act→World→Prop}{a:Act}{w:World}(ops:List Oper)(hne:ops≠[])(hm:P.follows .mixedOrders=true) (hB:Region.lexB .any (ops.dropLast++[D9 (ops.getLast hne)]).toArray=true) (hl:lastB ops.dropLast (ops.getLast hne)=true) (h:wpQuiet P (ops.dropLast++[D9 (ops.getLast hne)]).toArray (λw'=>∃p:Regrown,w'=Sort.grow (redrawn w p.d) p.os) (λa'=>∀w',(∃p:Regrown,w'=Sort.grow (redrawn w p.d) p.os)→(ops.getLast hne).wp P a' w' (λa2 w2=>Q .normal a2 w2) Q) ops.dropLast a) :(Code.region id ops.toArray true).wp P Q a w:=by have:=PS (id:=id) (Q:=Q) hm hB hl h;have he:ops.dropLast++[ops.getLast hne]=ops:=List.dropLast_concat_getLast hne;rwa [he] at this
theorem JP{H:Type}{P:Program}{w:World}{o:Oper}{a:Act}{K:Act→World→Prop}{Q:Exit→Act→World→Prop} (m x v:Operand) (t:TypeId) (hop:o.op=Op.mapUpdate t m x v) (k e:TypeId) (Kd:Keyed P k) (ht:P.underlying t=some (.map k e)) (R:Value→Option (DataW H × List MemPlace)) (b n:Nat) (D:DataW H) (hm:a.eval m=.map (some b)) (hown:w.ownsMap P k R b n D) (hn:n<maxLen) (key val:Value) (kl:Lit) (hx:a.eval x=key) (hv:a.eval v=val) (hkey:keyOf P k key=some kl) (d:DataW H) (ps:List MemPlace) (hval:R val=some (d,ps)) (hK:∀w',w'.ownsMap P k R b (n+1) (D.put kl d)→w.grownBy w' (some b)→K (a.put o.dst undef) w'):o.wp P a w K Q:=by obtain⟨w',hrun,r1,r2⟩:=hown.update Kd ht hn hkey hval;unfold Oper.wp;simp[execOp,hop,hm,hx,hv,hrun,Result.andThen];exact hK w' r1 r2
def QR(d:Nat→Int)(r s:Int)(x:Cm)(q:Int):Bool:=Cj r s&&(decide (d r.toNat<s)&&(EC x.k x.c x.s x.a x.b x.o x.v&&(decide (0≤q)&&decide (q≤1099511627776))))
set_option maxRecDepth 4000 in
theorem note_any(g b n:Nat)(d:Nat→Int)(l:List Bf)(r s:Int)(x:Cm)(q:Int)(w:World)(h:DL w g b n d l)(hn:n≤1000) :Calls prog 206 #[.pointer (some ⟨g,0,none⟩),.agg #[.int .i64 r,.int .i64 s],.agg #[.int .i64 x.k,.int .i64 x.c,.int .i64 x.s,.string x.a,.string x.b,.string x.o,.string x.v],.int .i64 q] w λe w'=> e=.returned (.bool (QR d r s x q))∧DL w' g b (n+1) d (if QR d r s x q then Gf l ⟨r,s,x,q⟩ else l)∧Touch b w w':=by
 obtain⟨B,hB0⟩:∃B,B=QR d r s x q:=⟨_,rfl⟩;rw[←hB0];have K1:=qh (λW=>E5 r s W);have K2:=qh (λW=>EU x.k x.c x.s x.a x.b x.o x.v W);generalize hz:EC x.k x.c x.s x.a x.b x.o x.v=z at K2;have hlen:z=true→x.a.size≤16:=by
  intro hzt;rw[←hz] at hzt;unfold EC at hzt;rw[Bool.or_eq_true] at hzt;rcases hzt with hzt|hzt
  ·simp only[NW,Bool.and_eq_true,decide_eq_true_eq] at hzt;have:=hzt.2.2.2.1;have h2:x.a.size=0:=by rw[Go.ByteArray.toList_eq] at this;have:=congrArg List.length this;simpa using this
   omega
  ·simp only[Bool.and_eq_true,J6,Bool.not_eq_true',Bool.or_eq_false_iff,decide_eq_false_iff_not] at hzt;have:=hzt.2.2.1.1;omega
 have HL:=qh hlen;clear hlen;have hcase:(Cj r s=false∧B=false)∨(Cj r s=true∧s≤d r.toNat∧B=false)∨(Cj r s=true∧¬s≤d r.toNat∧z=false∧B=false)∨(Cj r s=true∧¬s≤d r.toNat∧z=true∧q<0∧B=false) ∨
   (Cj r s=true∧¬s≤d r.toNat∧z=true∧¬q<0∧1099511627776<q∧B=false)∨(Cj r s=true∧¬s≤d r.toNat∧z=true∧¬q<0∧¬1099511627776<q∧B=true):=by
  rw[hB0,QR,hz];cases Cj r s
  ·simp
  by_cases h1:s≤d r.toNat
  ·rw[show decide (d r.toNat<s)=false from by simp;omega];simp[h1]
  ·rw[show decide (d r.toNat<s)=true from by simp;omega];cases z
   ·simp[h1]
   by_cases h2:q<0
   ·exact .inr (.inr (.inr (.inl ⟨rfl,h1,rfl,h2,by simp;omega⟩)))
   by_cases h3:1099511627776<q
   ·exact .inr (.inr (.inr (.inr (.inl ⟨rfl,h1,rfl,h2,h3,by simp;omega⟩))))
   ·exact .inr (.inr (.inr (.inr (.inr ⟨rfl,h1,rfl,h2,h3,by simp;omega⟩))))
 clear hB0 hz;have HI:=qh h;clear h;go_in;go_upto_region 1 with(fail);go_name_world W hW;have hX:Holds W w.heap.size 37 [.int .i64 r,.int .i64 s]:=by rw[←hW];exact Ak (AA w _ _) _
 have hC:Holds W (w.heap.size+1) 23 [.int .i64 x.k,.int .i64 x.c,.int .i64 x.s,.string x.a,.string x.b,.string x.o,.string x.v]:=by rw[←hW];have:=AA (w.alloc (.cells #[.int .i64 r,.int .i64 s] 37)) 23 [.int .i64 x.k,.int .i64 x.c,.int .i64 x.s,.string x.a,.string x.b,.string x.o,.string x.v];rw[World.size_alloc] at this;exact this
 have HB:=qh (show Below w.heap.size w W by rw[←hW];go_grown);clear hW;have HI:=qh (HI.below HB.o);have HX:=qh hX;have HC:=qh hC;obtain⟨i0,i1⟩:=Jo hX 0 1;obtain⟨x0,x1,x2,x3,x4,x5,x6⟩:=jk hC 0 1 2 3 4 5 6;clear hX hC;generalize w.heap.size+1=gc at HC x0 x1 x2 x3 x4 x5 x6 ⊢;generalize hgi:w.heap.size=gi at HX i0 i1 ⊢;clear hgi;by_cases he1:Cj r s=false
 ·have hB:B=false:=by
   rcases hcase with⟨_,e⟩|⟨e1,_⟩|⟨e1,_⟩|⟨e1,_⟩|⟨e1,_⟩|⟨e1,_⟩
   ·exact e
   all_goals rw[he1] at e1;cases e1
  clear hcase;subst hB;rw[he1] at K1;refine wp_region_quiet_below (by kernel_rfl) (by kernel_rfl) ?_;repeat go_big_quiet_step (first|(go_at_call 134;with_reducible exact AL λW _=>K1.out W))
  refine wpQuiet_nil ?_;intro w2 hw';have hb2:=AP hw';have HI:=qh (HI.below hb2);have HB:=qh (AB HB.o hb2);clear hw' hb2 i0 i1 x0 x1 x2 x3 x4 x5 x6;go_wp2_with fail;go_ret;exact⟨rfl,HI.mono,.of_below HB.o⟩
 have he1:Cj r s=true:=by revert he1;cases Cj r s<;>simp
 rw[he1] at K1 hcase;simp only[Bool.true_eq_false,false_and,false_or,true_and] at hcase;have hr7:0≤r∧r<7∧1≤s∧s≤1073741824:=by
  rcases FV r s with⟨_,e⟩|⟨_,_,e⟩|⟨_,_,_,e⟩|⟨_,_,_,_,e⟩|⟨h1,h2,h3,h4,_⟩
  ·rw[he1] at e;cases e
  ·rw[he1] at e;cases e
  ·rw[he1] at e;cases e
  ·rw[he1] at e;cases e
  ·exact⟨h1,h2,h3,h4⟩
 clear he1;obtain⟨h1,h2,h3,h4⟩:=hr7;obtain⟨k,rfl⟩:∃k:Nat,r=k:=⟨r.toNat,by omega⟩;have hk7:k<7:=by omega
 rw[Int.toNat_natCast] at hcase;have hcut:=λdd os=>HI.ix.grown dd os (1+k);rw[Gi _ _ _ hk7] at hcut;have hm0:=λdd os=>HI.ix.grown dd os 0;simp only[List.getElem?_cons_zero] at hm0;have hwf:(Lit.int .i64 (k:Int)).wf=true∧(Lit.int .i64 s).wf=true:=⟨WalkArith.wf_i64 (by omega),WalkArith.wf_i64 (by omega)⟩;have HK:=qh (Dc k s hwf.1 hwf.2);have HWF:=qh hwf;clear hwf;generalize d k=dk at hcase hcut;rcases hcase with⟨e2,rfl⟩|⟨e2,rfl,rfl⟩|⟨e2,rfl,e3,rfl⟩|⟨e2,rfl,e3,e4,rfl⟩|⟨e2,rfl,e3,e4,rfl⟩;all_goals
  refine wp_region_quiet_below (by kernel_rfl) (by kernel_rfl) ?_;repeat go_big_quiet_step (first|(go_at_call 134;with_reducible exact AL λW _=>K1.out W)|(go_at_call 70;with_reducible exact AL λW _=>K2.out W))
  refine wpQuiet_nil ?_;intro w2 hw';have hb2:=AP hw';have HI:=qh (HI.below hb2);have HB:=qh (AB HB.o hb2);clear hcut hm0
 ·clear hw' hb2 i0 i1 x0 x1 x2 x3 x4 x5 x6;go_wp2_with fail;go_ret;exact⟨rfl,HI.mono,.of_below HB.o⟩
 ·clear hw' hb2 i0 i1 x0 x1 x2 x3 x4 x5 x6;go_wp2_with fail;go_ret;exact⟨rfl,HI.mono,.of_below HB.o⟩
 ·clear hw' hb2 i0 i1 x0 x1 x2 x3 x4 x5 x6;go_wp2_with fail;go_ret;exact⟨rfl,HI.mono,.of_below HB.o⟩
 ·clear hw' hb2 i0 i1 x0 x1 x2 x3 x4 x5 x6;go_wp2_with fail;go_ret;exact⟨rfl,HI.mono,.of_below HB.o⟩
 ·have HX:=qh (HX.below hb2 HX.lt);have HC:=qh (HC.below hb2 HC.lt);have HG:=qh (show (0≤(k:Int)∧(k:Int)<7)∧(1≤s∧s≤1073741824)∧(0≤q∧q≤1099511627776)∧x.a.size≤16 from⟨by omega,by omega,by omega,HL.o rfl⟩);clear hw' hb2 i0 i1 x0 x1 x2 x3 x4 x5 x6;go_upto_region 3 with(fail);have i0:=λd os=>HX.grown d os 0;have i1:=λd os=>HX.grown d os 1;have x0:=λd os=>HC.grown d os 0;have x1:=λd os=>HC.grown d os 1;have x2:=λd os=>HC.grown d os 2;have x3:=λd os=>HC.grown d os 3;have x4:=λd os=>HC.grown d os 4;have x5:=λd os=>HC.grown d os 5;have x6:=λd os=>HC.grown d os 6;have hm0:=λdd os=>HI.ix.grown dd os 0;simp only[yA,yB] at i0 i1 x0 x1 x2 x3 x4 x5 x6 hm0;refine NE _ (by simp) (by kernel_rfl) (by kernel_rfl) (by kernel_rfl) ?_;simp only[List.dropLast,List.getLast_cons_cons,List.getLast_singleton,D9,List.cons_append,List.nil_append];repeat go_big_quiet_step (fail)
  refine wpQuiet_nil ?_;intro w3 hw';have hb3:=AP hw';have hI3:=HI.below hb3;have HB:=qh (AB HB.o hb3);clear hw' hb3 i0 i1 x0 x1 x2 x3 x4 x5 x6 hm0;obtain⟨D,hown,hl⟩:=hI3.map;refine JP _ _ _ 310 rfl 37 363 CG underlying310 BO b n D rfl hown (by unfold maxLen;omega) (DZ k s) (LC x q) (G7 k s) rfl rfl HK.o (.held (LC x q)) [] rfl ?_;intro w4 hown4 hg4;have hT:=BM hg4;have hI4:DL w4 g b (n+1) d (Gf l ⟨k,s,x,q⟩):=
   ⟨hI3.ix.touch hT hI3.ne,⟨_,hown4,hl.put hI3.wf ⟨k,s,x,q⟩ HWF.o⟩,XQ hI3.good HG.o⟩
  have HI4:=qh hI4;have HT:=qh ((Touch.of_below (g:=b) HB.o).trans hT);clear hI4 hI3 hown4 hown hl hT hg4;go_wp2_with fail;go_ret;exact⟨rfl,HI4.o,HT.o⟩
end
def takes(r s:Int)(c:Cm)(e:Bf):Bool:=!(e.r==r&&decide (s≤e.s))&&OM e.c c
def GN(l:List Bf)(vis:Bf→Bool):Int:=l.foldr (λe m=>if vis e then max (e.q+1) m else m) 0
def CE(l:List Bf)(vis:Bf→Bool)(j:Int):Int:=l.foldr (λe m=>if vis e&&e.r==j then max e.s m else m) 0
theorem IG(f:Bf→Int):∀(l:List Bf) (p:Bf→Bool),(∀e∈l,p e=false)→l.foldr (λe m=>if p e then max (f e) m else m) 0=0
 | [],_,_=>rfl
 | x :: l,p,h=>by
  rw[List.foldr_cons,h x (by simp),IG f l p λe he=>h e (by simp[he])]
  rfl
theorem EZ(f:Bf→Int):∀(l:List Bf) (p p':Bf→Bool),(∀e∈l,p e=p' e)→l.foldr (λe m=>if p e then max (f e) m else m) 0=l.foldr (λe m=>if p' e then max (f e) m else m) 0
 | [],_,_,_=>rfl
 | x :: l,p,p',h=>by rw[List.foldr_cons,List.foldr_cons,h x (by simp),EZ f l p p' λe he=>h e (by simp[he])]
theorem II(f:Bf→Int)(x:Bf)(p p':Bf→Bool):∀(l:List Bf),x∈l→p' x=true→(∀e∈l,e≠x→p' e=p e)→l.foldr (λe m=>if p' e then max (f e) m else m) 0=max (l.foldr (λe m=>if p e then max (f e) m else m) 0) (f x)
 | [],hx,_,_=>by cases hx
 | y :: l,hx,hp,h=>by
  rw[List.foldr_cons,List.foldr_cons];by_cases hin:x∈l
  ·have ih:=II f x p p' l hin hp λe he hne=>h e (by simp[he]) hne;rw[ih];by_cases hyx:y=x
   ·subst hyx;rw[hp];simp only[if_true];cases p y<;>simp only[Bool.false_eq_true,if_true,if_false]<;>omega
   ·rw[h y (by simp) hyx];cases p y<;>simp only[Bool.false_eq_true,if_true,if_false]<;>omega
  ·have hyx:y=x:=by
    rcases List.mem_cons.1 hx with e|e
    ·exact e.symm
    ·exact absurd e hin
   subst hyx;rw[hp,EZ f l p' p λe he=>h e (by simp[he]) λhc=>hin (hc▸he)];simp only[if_true];by_cases hpy:p y=true
   ·rw[if_pos hpy];omega
   ·rw[if_neg hpy];omega
theorem PY(f:Bf→Int)(x:Bf)(p p':Bf→Bool)(l:List Bf)(hp:p' x=p x)(h:∀e∈l,e≠x→p' e=p e):l.foldr (λe m=>if p' e then max (f e) m else m) 0=l.foldr (λe m=>if p e then max (f e) m else m) 0:=
 EZ f l p' p λe he=>by
  by_cases hc:e=x
  ·rw[hc,hp]
  ·exact h e he hc
theorem GY(f:Bf→Int):∀(l:List Bf) (p:Bf→Bool),0≤l.foldr (λe m=>if p e then max (f e) m else m) 0
 | [],_=>Int.le_refl _
 | x :: l,p=>by have:=GY f l p;rw[List.foldr_cons];split<;>omega
def EE(left:Lit→Bool)(r s:Int)(c:Cm)(e:Bf):Bool:=!left e.key&&takes r s c e
theorem Lists.find{D:DataW Value}{l:List Bf}(h:Lists D l)(hw:UF l){kl:Lit}{v:Value}(hat:∀z,D.atKey kl z=.held v):∃e∈l,e.key=kl∧v=e.val:=by have hh:=Maps.has_true_of_atKey hat;rw[h.has,List.any_eq_true] at hh;obtain⟨e,he,hk⟩:=hh;have hek:e.key=kl:=WideAt.sameKey_eq hk;refine⟨e,he,hek,?_⟩;have:=h.at_ e he .nil;rw[hek,hat] at this;injection this
theorem Lists.one{D:DataW Value}{l:List Bf}(h:Lists D l)(hw:UF l){e e':Bf}(he:e∈l)(he':e'∈l)(hk:e'.key=e.key):e'=e:=by
 have hrs:=JJ (hw e' he').1 (hw e' he').2 (hw e he).1 (hw e he).2 hk;have:=h.apart;clear h hk hw;induction l with
 | nil=>cases he
 | cons x l ih=>
  obtain⟨h1,h2⟩:=List.pairwise_cons.1 this;rcases List.mem_cons.1 he with h3|h3
  ·rcases List.mem_cons.1 he' with h4|h4
   ·rw[h3,h4]
   ·exact absurd ⟨by rw[←h3];exact hrs.1.symm,by rw[←h3];exact hrs.2.symm⟩ (h1 e' h4)
  ·rcases List.mem_cons.1 he' with h4|h4
   ·exact absurd ⟨by rw[←h4];exact hrs.1,by rw[←h4];exact hrs.2⟩ (h1 e h3)
   ·exact ih h3 h4 h2
theorem FY{D:DataW Value}{l:List Bf}(h:Lists D l)(hw:UF l){left:Lit→Bool}{e:Bf}(he:e∈l)(r s:Int)(c:Cm) :(EE (λz=>left z&&!z.sameKey e.key) r s c e=takes r s c e)∧∀e'∈l,e'≠e→EE (λz=>left z&&!z.sameKey e.key) r s c e'=EE left r s c e':=by
 refine⟨?_,λe' he' hne=>?_⟩
 ·unfold EE;have:e.key.sameKey e.key=true:=WideAt.sameKey_self (Ik e.r e.s);show (!(left e.key&&!e.key.sameKey e.key)&&takes r s c e)=takes r s c e;rw[this];simp
 ·unfold EE;have:=Maps.sameKey_ne (λhc=>hne (h.one hw he he' hc));show (!(left e'.key&&!e'.key.sameKey e.key)&&takes r s c e')=(!left e'.key&&takes r s c e');rw[this];simp
theorem XT{D:DataW Value}{l:List Bf}(h:Lists D l)(hw:UF l){left:Lit→Bool}{e:Bf}(he:e∈l)(r s:Int)(c:Cm)(ht:takes r s c e=true) :GN l (EE (λz=>left z&&!z.sameKey e.key) r s c)=max (GN l (EE left r s c)) (e.q+1):=
 II (λe=>e.q+1) e _ _ l he ((FY h hw he r s c).1.trans ht) (FY h hw he r s c).2
theorem WM{D:DataW Value}{l:List Bf}(h:Lists D l)(hw:UF l){left:Lit→Bool}{e:Bf}(he:e∈l)(r s:Int)(c:Cm)(ht:takes r s c e=true) :CE l (EE (λz=>left z&&!z.sameKey e.key) r s c) e.r=max (CE l (EE left r s c) e.r) e.s:=
 II (λe=>e.s) e _ _ l he (by simp[(FY h hw he r s c).1.trans ht]) (λe' he' hne=>by simp only[(FY h hw he r s c).2 e' he' hne])
theorem WL{D:DataW Value}{l:List Bf}(h:Lists D l)(hw:UF l){left:Lit→Bool}{e:Bf}(he:e∈l)(r s:Int)(c:Cm)(j:Int)(hj:e.r≠j)(hl:left e.key=true) :CE l (EE (λz=>left z&&!z.sameKey e.key) r s c) j=CE l (EE left r s c) j:=
 EZ (λe=>e.s) l _ _ λe' he'=>by
  by_cases hc:e'=e
  ·rw[hc,show (e.r==j)=false from by simp[hj],Bool.and_false,Bool.and_false]
  ·rw[(FY h hw he r s c).2 e' he' hc]
theorem PH{D:DataW Value}{l:List Bf}(h:Lists D l)(hw:UF l){left:Lit→Bool}{e:Bf}(he:e∈l)(r s:Int)(c:Cm)(ht:takes r s c e=false) :GN l (EE (λz=>left z&&!z.sameKey e.key) r s c)=GN l (EE left r s c):=
 PY (λe=>e.q+1) e _ _ l ((FY h hw he r s c).1.trans (by simp[EE,ht])) (FY h hw he r s c).2
theorem OT{D:DataW Value}{l:List Bf}(h:Lists D l)(hw:UF l){left:Lit→Bool}{e:Bf}(he:e∈l)(r s:Int)(c:Cm)(ht:takes r s c e=false)(j:Int) :CE l (EE (λz=>left z&&!z.sameKey e.key) r s c) j=CE l (EE left r s c) j:=
 EZ (λe=>e.s) l _ _ λe' he'=>by
  by_cases hc:e'=e
  ·subst hc;rw[(FY h hw he r s c).1,ht];simp[EE,ht]
  ·simp only[(FY h hw he r s c).2 e' he' hc]
theorem QY{D:DataW Value}{l:List Bf}(h:Lists D l)(r s:Int)(c:Cm)(e:Bf)(he:e∈l):EE (Maps.has D) r s c e=false:=by
 unfold EE;have:Maps.has D e.key=true:=Maps.has_true_of_atKey (h.at_ e he);rw[this]
 rfl
def FD(l:List Bf)(r s:Int)(c:Cm):Int:=GN l (takes r s c)
def CB(l:List Bf)(d:Nat→Int)(r s:Int)(c:Cm)(j:Nat):Int:=
 if (j:Int)=r then (if Cj r s then max (CE l (takes r s c) j) (s-1) else CE l (takes r s c) j) else max (CE l (takes r s c) j) (d j)
theorem bf{left:Lit→Bool}(hl:∀k,left k=false)(r s:Int)(c:Cm):EE left r s c=takes r s c:=by
 funext e
 simp[EE,hl]
def Ht(d:Nat→Int)(left:Lit→Bool)(e:Bf):Bool:=left e.key||decide (d e.r.toNat<e.s)
theorem MK{D0:DataW Value}{l:List Bf}(h:Lists D0 l)(hw:UF l){left:Lit→Bool}{e:Bf}(he:e∈l)(d:Nat→Int)(hk:d e.r.toNat<e.s) :l.filter (Ht d λz=>left z&&!z.sameKey e.key)=l.filter (Ht d left):=by
 refine List.filter_congr λe' he'=>?_;by_cases hc:e'=e
 ·unfold Ht;rw[hc,show decide (d e.r.toNat<e.s)=true from by simp[hk],Bool.or_true,Bool.or_true]
 ·have:=Maps.sameKey_ne (λhc2=>hc (h.one hw he he' hc2));show (left e'.key&&!e'.key.sameKey e.key||decide (d e'.r.toNat<e'.s))=_;rw[this];simp[Ht]
theorem MJ{D0:DataW Value}{l:List Bf}(h:Lists D0 l)(hw:UF l){left:Lit→Bool}{e:Bf}(he:e∈l)(d:Nat→Int)(hk:¬d e.r.toNat<e.s) :l.filter (Ht d λz=>left z&&!z.sameKey e.key)=(l.filter (Ht d left)).filter (λx=>!(x.r==e.r&&x.s==e.s)):=by
 rw[List.filter_filter];refine List.filter_congr λe' he'=>?_;by_cases hc:e'=e
 ·have hs:e.key.sameKey e.key=true:=WideAt.sameKey_self (Ik e.r e.s);rw[hc];show (left e.key&&!e.key.sameKey e.key||decide (d e.r.toNat<e.s))=_;rw[hs];simp[hk]
 ·have:=Maps.sameKey_ne (λhc2=>hc (h.one hw he he' hc2));have hne:(e'.r==e.r&&e'.s==e.s)=false:=by rw[←Dw (hw e' he').1 (hw e' he').2 (hw e he).1 (hw e he).2];exact this
  show (left e'.key&&!e'.key.sameKey e.key||decide (d e'.r.toNat<e'.s))=_;rw[this,hne];simp[Ht]
theorem NH:∀(l:List Bf) (r s:Int),l.Pairwise (λx y=>¬(x.r=y.r∧x.s=y.s))→(YQ l r s).length+(if l.any (λx=>x.r==r&&x.s==s) then 1 else 0)=l.length
 | [],_,_,_=>rfl
 | x :: l,r,s,h=>by
  obtain⟨h1,h2⟩:=List.pairwise_cons.1 h;have ih:=NH l r s h2;by_cases hx:(x.r==r&&x.s==s)=true
  ·have hn:l.any (λx=>x.r==r&&x.s==s)=false:=by rw[List.any_eq_false];intro y hy hc;simp only[Bool.and_eq_true,beq_iff_eq] at hc hx;exact h1 y hy ⟨hx.1.trans hc.1.symm,hx.2.trans hc.2.symm⟩
   rw[hn] at ih;simp only[YQ,List.filter_cons,hx,Bool.not_true,Bool.false_eq_true,if_false,List.any_cons,Bool.true_or,if_true,List.length_cons] at ih ⊢;omega
  ·have hx:(x.r==r&&x.s==s)=false:=by simpa using hx
   simp only[YQ,List.filter_cons,hx,Bool.not_false,if_true,List.any_cons,Bool.false_or,List.length_cons] at ih ⊢;omega
theorem Lists.del{D:DataW Value}{l:List Bf}(h:Lists D l)(hw:UF l)(r s:Int)(hr:(Lit.int .i64 r).wf=true)(hs:(Lit.int .i64 s).wf=true):Lists (D.del (G7 r s)) (YQ l r s):=by
 have hh:=h.IY hw r s hr hs;have hkk:∀x∈l,x.key.sameKey (G7 r s)=(x.r==r&&x.s==s):=λx hx=>Dw (hw x hx).1 (hw x hx).2 hr hs;refine⟨h.tidy.del _,?_,h.apart.filter _,λk=>?_,λe he z=>?_⟩
 ·have h1:=Maps.size_del (k:=G7 r s) h.tidy;have h2:=NH l r s h.apart;rw[hh,h.size] at h1;omega
 ·by_cases hk:k=G7 r s
  ·rw[hk,Maps.has_del_same];symm;rw[List.any_eq_false];intro x hx;have hx2:=List.mem_filter.1 hx;rw[hkk x hx2.1];have:=hx2.2;revert this;cases(x.r==r&&x.s==s)<;>simp
  ·rw[Maps.has_del_other hk,h.has];unfold YQ;rw[List.any_filter,Bool.eq_iff_iff,List.any_eq_true,List.any_eq_true];refine⟨λ⟨x,hx,hx2⟩=>⟨x,hx,?_⟩,λ⟨x,hx,hx2⟩=>⟨x,hx,?_⟩⟩
   ·rw[hx2,Bool.and_true,←hkk x hx];have:x.key≠G7 r s:=λhc=>hk ((WideAt.sameKey_eq hx2).symm.trans hc);rw[Maps.sameKey_ne this]
    rfl
   ·rw[Bool.and_eq_true] at hx2;exact hx2.2
 ·have hx2:=List.mem_filter.1 he;rw[Maps.atKey_del_other,h.at_ e hx2.1];intro hc;have:=JJ (hw e hx2.1).1 (hw e hx2.1).2 hr hs hc;have h3:=hx2.2;simp[this.1,this.2] at h3
end Go.Proofs.YtimdpiifpibgfaaGreatDoor
