/- A part of the proof of TopReads. -/
import Derived.Deep.Slices
import Derived.Test.YtimdpiifpibgfaaGreatDoorQr3
set_option linter.all false
set_option maxRecDepth 20000
set_option maxHeartbeats 16000000
open Go.RowKit Go.Maps
namespace Go.Proofs.YtimdpiifpibgfaaGreatDoor
open Tryz
section
def DT(d:Nat->Int):List Value:=[AA (d 0),AA (d 1),AA (d 2),AA (d 3),AA (d 4),AA (d 5),AA (d 6)]
structure DV(w:World)(g b n:Nat)(d:Nat->Int)(l:List CY):Prop where
 ix:Holds w g 312 (.map (some b) :: DT d)
 map:∃D,w.ownsMap prog 37 BZ b n D/\Lists D l
 good:Ry l
theorem DV.wf{w:World}{g b n:Nat}{d:Nat->Int}{l:List CY}(h:DV w g b n d l):Wj l:=h.good.wf
theorem DV.ne{w:World}{g b n:Nat}{d:Nat->Int}{l:List CY}(h:DV w g b n d l):g≠b:=by obtain⟨D,⟨f,c,a,_⟩,_⟩:=h.map;intro e;have:=h.ix;unfold Holds at this;rw[e,a] at this;cases this
theorem DV.keep{w w':World}{g b n:Nat}{d:Nat->Int}{l:List CY}(h:DV w g b n d l)(hg:w'.heap[g]?=w.heap[g]?)(hb:w'.heap[b]?=w.heap[b]?):DV w' g b n d l:=by obtain⟨D,⟨c,a,i,r⟩,f⟩:=h.map;exact⟨by have:=h.ix;unfold Holds at *;rw[hg];exact this,⟨D,⟨c,a,hb.trans i,r⟩,f⟩,h.good⟩
theorem DV.lt{w:World}{g b n:Nat}{d:Nat->Int}{l:List CY}(h:DV w g b n d l):g<w.heap.size/\b<w.heap.size:=by obtain⟨D,a,_⟩:=h.map;exact⟨h.ix.lt,a.lt⟩
theorem DV.mono{w:World}{g b n:Nat}{d:Nat->Int}{l:List CY}(h:DV w g b n d l):DV w g b (n+1) d l:=by obtain⟨D,c,a⟩:=h.map;exact⟨h.ix,⟨D,c.mono (Nat.le_succ n),a⟩,h.good⟩
theorem DV.below{w w':World}{g b n:Nat}{d:Nat->Int}{l:List CY}(h:DV w g b n d l)(hb:Below w.heap.size w w'):DV w' g b n d l:=
 h.keep (hb.block g h.lt.1) (hb.block b h.lt.2)
theorem DV.touch{w w':World}{g b n k:Nat}{d:Nat->Int}{l:List CY}(h:DV w g b n d l)(ht:Touch k w w')(h1:g≠k)(h2:b≠k):DV w' g b n d l:=
 h.keep (ht.block g h.lt.1 h1) (ht.block b h.lt.2 h2)
theorem BM{w w':World}{b:Nat}(h:w.grownBy w' (some b)):Touch b w w':=⟨h.os,h.tape,h.output,h.size,λk a c=>h.block k a (λe=>c (by cases e;rfl))⟩
set_option maxRecDepth 4000 in
theorem new_any(w:World):Calls prog 117 #[] w λe w'=>e=.returned (.pointer (some ⟨w.heap.size+1,0,none⟩))/\DV w' (w.heap.size+1) w.heap.size 0 (λ_=>0) []/\Below w.heap.size w w':=by
 have c:=@run_makeMap prog;go_in;go_wp2_with fail;go_ret;have a:Below w.heap.size w (w.alloc (.map #[] 0)):=(Below.refl _ _).alloc Ve _;refine⟨rfl,⟨?_,⟨.map [],?_,Lists.empty⟩,λe b=>by cases b⟩,a.alloc a.size _⟩
 .have:=AC (w.alloc (.map #[] 0)) 312 (.map (some w.heap.size) :: DT λ_=>0);rw[World.size_alloc] at this;exact this
 .exact(World.ownsMap_made w prog 37 BZ).alloc _
theorem Hy(m:Value)(d:Nat->Int)(k:Nat)(hk:k<7):(m :: DT d)[1+k]?=some (AA (d k)):=by
 have:k=0\/k=1\/k=2\/k=3\/k=4\/k=5\/k=6:=BJ
 rcases this with rfl|rfl|rfl|rfl|rfl|rfl|rfl<;>rfl
theorem O6{P:Program}{id:Nat}{Q:Exit->Act->World->Prop}{a:Act}{w:World}(ops:List Oper)(hne:ops≠[])(hm:P.follows .mixedOrders=true) (hB:Region.lexB .any (ops.dropLast++[EM (ops.getLast hne)]).toArray=true) (hl:lastB ops.dropLast (ops.getLast hne)=true) (h:wpQuiet P (ops.dropLast++[EM (ops.getLast hne)]).toArray (λw'=>∃p:Regrown,w'=Sort.grow (redrawn w p.d) p.os) (λa'=>∀w',(∃p:Regrown,w'=Sort.grow (redrawn w p.d) p.os)->(ops.getLast hne).wp P a' w' (λa2 w2=>Q .normal a2 w2) Q) ops.dropLast a) :(Code.region id ops.toArray true).wp P Q a w:=by have:=RH (id:=id) (Q:=Q) hm hB hl h;have b:ops.dropLast++[ops.getLast hne]=ops:=List.dropLast_concat_getLast hne;rwa [b] at this
theorem LK{H:Type}{P:Program}{w:World}{o:Oper}{a:Act}{K:Act->World->Prop}{Q:Exit->Act->World->Prop} (m x v:Operand) (t:TypeId) (hop:o.op=Op.mapUpdate t m x v) (k e:TypeId) (Kd:Keyed P k) (ht:P.underlying t=some (.map k e)) (R:Value->Option (DataW H × List MemPlace)) (b n:Nat) (D:DataW H) (hm:a.eval m=.map (some b)) (hown:w.ownsMap P k R b n D) (hn:n<maxLen) (key val:Value) (kl:Lit) (hx:a.eval x=key) (hv:a.eval v=val) (hkey:keyOf P k key=some kl) (d:DataW H) (ps:List MemPlace) (hval:R val=some (d,ps)) (hK:∀w',w'.ownsMap P k R b (n+1) (D.put kl d)->w.grownBy w' (some b)->K (a.put o.dst undef) w'):o.wp P a w K Q:=by obtain⟨w',c,f,g⟩:=hown.update Kd ht hn hkey hval;unfold Oper.wp;simp[execOp,hop,hm,hx,hv,c,Result.andThen];exact hK w' f g
def TJ(d:Nat->Int)(r s:Int)(x:Cm)(q:Int):Bool:=Cc r s&&(decide (d r.toNat<s)&&(EY x.k x.c x.s x.a x.b x.o x.v&&(decide (0<=q)&&decide (q<=1099511627776))))
set_option maxRecDepth 4000 in
theorem note_any(g b n:Nat)(d:Nat->Int)(l:List CY)(r s:Int)(x:Cm)(q:Int)(w:World)(h:DV w g b n d l)(hn:n<=1000) :Calls prog 206 #[.pointer (some ⟨g,0,none⟩),.agg #[.int .i64 r,.int .i64 s],.agg #[.int .i64 x.k,.int .i64 x.c,.int .i64 x.s,.string x.a,.string x.b,.string x.o,.string x.v],.int .i64 q] w λe w'=> e=.returned (.bool (TJ d r s x q))/\DV w' g b (n+1) d (if TJ d r s x q then IA l ⟨r,s,x,q⟩ else l)/\Touch b w w':=by
 obtain⟨B,Z⟩:∃B,B=TJ d r s x q:=⟨_,rfl⟩;rw[<-Z];obtain⟨U,K2⟩:=WZ (λW=>E5 r s W) (λW=>Eg x.k x.c x.s x.a x.b x.o x.v W);generalize hz:EY x.k x.c x.s x.a x.b x.o x.v=z at K2;have ad:z=true->x.a.size<=16:=by
  intro y;rw[<-hz] at y;unfold EY at y;rw[Bool.or_eq_true] at y;rcases y with y|y
  .simp only[RJ,Bool.and_eq_true,decide_eq_true_eq] at y;have:=y.2.2.2.1;have M:x.a.size=0:=by rw[Go.ByteArray.toList_eq] at this;have:=congrArg List.length this;simpa using this
   omega
  .simp only[Bool.and_eq_true,N9,Bool.not_eq_true',Bool.or_eq_false_iff,decide_eq_false_iff_not] at y;have:=y.2.2.1.1;omega
 have HL:=qh ad;clear ad;have N:(Cc r s=false/\B=false)\/(Cc r s=true/\s<=d r.toNat/\B=false)\/(Cc r s=true/\¬s<=d r.toNat/\z=false/\B=false)\/(Cc r s=true/\¬s<=d r.toNat/\z=true/\q<0/\B=false) \/
   (Cc r s=true/\¬s<=d r.toNat/\z=true/\¬q<0/\1099511627776<q/\B=false)\/(Cc r s=true/\¬s<=d r.toNat/\z=true/\¬q<0/\¬1099511627776<q/\B=true):=by
  rw[Z,TJ,hz];cases Cc r s
  .simp
  by_cases L:s<=d r.toNat
  .rw[show decide (d r.toNat<s)=false from by simp;omega];simp[L]
  .rw[show decide (d r.toNat<s)=true from by simp;omega];cases z
   .simp[L]
   by_cases M:q<0
   .exact .inr (.inr (.inr (.inl ⟨rfl,L,rfl,M,by simp;omega⟩)))
   by_cases S:1099511627776<q
   .exact .inr (.inr (.inr (.inr (.inl ⟨rfl,L,rfl,M,S,by simp;omega⟩))))
   .exact .inr (.inr (.inr (.inr (.inr ⟨rfl,L,rfl,M,S,by simp;omega⟩))))
 clear Z hz;have i:=qh h;clear h;go_in;go_upto_region 1 with(fail);go_name_world W X;have hX:Holds W w.heap.size 37 [.int .i64 r,.int .i64 s]:=by rw[<-X];exact Aw (AC w _ _) _
 have hC:Holds W (w.heap.size+1) 23 [.int .i64 x.k,.int .i64 x.c,.int .i64 x.s,.string x.a,.string x.b,.string x.o,.string x.v]:=by rw[<-X];have:=AC (w.alloc (.cells #[.int .i64 r,.int .i64 s] 37)) 23 [.int .i64 x.k,.int .i64 x.c,.int .i64 x.s,.string x.a,.string x.b,.string x.o,.string x.v];rw[World.size_alloc] at this;exact this
 have j:=qh (show Below w.heap.size w W by rw[<-X];go_grown);clear X;obtain⟨i,O,t⟩:=bP (i.below j.o) hX hC;obtain⟨A,C⟩:=JO hX 0 1;obtain⟨E,F,G,H,I,J,K⟩:=xP hC 0 1 2 3 4 5 6;clear hX hC;generalize w.heap.size+1=gc at t E F G H I J K |-;generalize ai:w.heap.size=gi at O A C |-;clear ai;by_cases u:Cc r s=false
 .have hB:B=false:=by
   rcases N with⟨_,e⟩|⟨P,_⟩|⟨P,_⟩|⟨P,_⟩|⟨P,_⟩|⟨P,_⟩
   .exact e
   all_goals rw[u] at P;cases P
  clear N;subst hB;rw[u] at U;refine wp_region_quiet_below (by kernel_rfl) (by kernel_rfl) ?_;repeat go_big_quiet_step (first|(go_at_call 134;with_reducible exact AQ λW _=>U.out W))
  refine wpQuiet_nil ?_;intro w2 p;have m:=Aa p;obtain⟨i,j⟩:=WZ (i.below m) (AO j.o m);clear p m A C E F G H I J K;go_wp2_with fail;go_ret;exact⟨rfl,i.mono,.of_below j.o⟩
 have u:Cc r s=true:=by revert u;cases Cc r s<;>simp
 rw[u] at U N;simp only[Bool.true_eq_false,false_and,false_or,true_and] at N;have ak:0<=r/\r<7/\1<=s/\s<=1073741824:=by
  rcases GV r s with⟨_,e⟩|⟨_,_,e⟩|⟨_,_,_,e⟩|⟨_,_,_,_,e⟩|⟨L,M,S,h4,_⟩
  .rw[u] at e;cases e
  .rw[u] at e;cases e
  .rw[u] at e;cases e
  .rw[u] at e;cases e
  .exact⟨L,M,S,h4⟩
 clear u;obtain⟨L,M,S,h4⟩:=ak;obtain⟨k,rfl⟩:∃k:Nat,r=k:=⟨r.toNat,by omega⟩;have aj:k<7:=by omega
 rw[Int.toNat_natCast] at N;have hcut:=λR f=>i.ix.grown R f (1+k);rw[Hy _ _ _ aj] at hcut;have T:=λR f=>i.ix.grown R f 0;simp only[List.getElem?_cons_zero] at T;have Y:(Lit.int .i64 (k:Int)).wf=true/\(Lit.int .i64 s).wf=true:=⟨WalkArith.wf_i64 (by omega),WalkArith.wf_i64 (by omega)⟩;obtain⟨HK,ah⟩:=WZ (DX k s Y.1 Y.2) Y;clear Y;generalize d k=dk at N hcut;rcases N with⟨V,rfl⟩|⟨V,rfl,rfl⟩|⟨V,rfl,e3,rfl⟩|⟨V,rfl,e3,e4,rfl⟩|⟨V,rfl,e3,e4,rfl⟩;all_goals
  refine wp_region_quiet_below (by kernel_rfl) (by kernel_rfl) ?_;repeat go_big_quiet_step (first|(go_at_call 134;with_reducible exact AQ λW _=>U.out W)|(go_at_call 70;with_reducible exact AQ λW _=>K2.out W))
  refine wpQuiet_nil ?_;intro w2 p;have m:=Aa p;obtain⟨i,j⟩:=WZ (i.below m) (AO j.o m);clear hcut T
 .clear p m A C E F G H I J K;go_wp2_with fail;go_ret;exact⟨rfl,i.mono,.of_below j.o⟩
 .clear p m A C E F G H I J K;go_wp2_with fail;go_ret;exact⟨rfl,i.mono,.of_below j.o⟩
 .clear p m A C E F G H I J K;go_wp2_with fail;go_ret;exact⟨rfl,i.mono,.of_below j.o⟩
 .clear p m A C E F G H I J K;go_wp2_with fail;go_ret;exact⟨rfl,i.mono,.of_below j.o⟩
 .obtain⟨O,t,HG⟩:=bP (O.below m O.lt) (t.below m t.lt) (show (0<=(k:Int)/\(k:Int)<7)/\(1<=s/\s<=1073741824)/\(0<=q/\q<=1099511627776)/\x.a.size<=16 from⟨by omega,by omega,by omega,HL.o rfl⟩);clear p m A C E F G H I J K;go_upto_region 3 with(fail);have A:=λd f=>O.grown d f 0;have C:=λd f=>O.grown d f 1;have E:=λd f=>t.grown d f 0;have F:=λd f=>t.grown d f 1;have G:=λd f=>t.grown d f 2;have H:=λd f=>t.grown d f 3;have I:=λd f=>t.grown d f 4;have J:=λd f=>t.grown d f 5;have K:=λd f=>t.grown d f 6;have T:=λR f=>i.ix.grown R f 0;simp only[yA,yB] at A C E F G H I J K T;refine O6 _ (by simp) (by kernel_rfl) (by kernel_rfl) (by kernel_rfl) ?_;simp only[List.dropLast,List.getLast_cons_cons,List.getLast_singleton,EM,List.cons_append,List.nil_append];repeat go_big_quiet_step (fail)
  refine wpQuiet_nil ?_;intro w3 p;have aa:=Aa p;have Q:=i.below aa;have j:=qh (AO j.o aa);clear p aa A C E F G H I J K T;obtain⟨D,ae,hl⟩:=Q.map;refine LK _ _ _ 310 rfl 37 363 CV underlying310 BZ b n D rfl ae (by unfold maxLen;omega) (Dz k s) (NF x q) (Ia k s) rfl rfl HK.o (.held (NF x q)) [] rfl ?_;intro w4 af ac;have hT:=BM ac;have ab:DV w4 g b (n+1) d (IA l ⟨k,s,x,q⟩):=
   ⟨Q.ix.touch hT Q.ne,⟨_,af,hl.put Q.wf ⟨k,s,x,q⟩ ah.o⟩,aA Q.good HG.o⟩
  obtain⟨ag,HT⟩:=WZ ab ((Touch.of_below (g:=b) j.o).trans hT);clear ab Q af ae hl hT ac;go_wp2_with fail;go_ret;exact⟨rfl,ag.o,HT.o⟩
end
def takes(r s:Int)(c:Cm)(e:CY):Bool:=!(e.r==r&&decide (s<=e.s))&&IU e.c c
def Hg(l:List CY)(vis:CY->Bool):Int:=l.foldr (λe m=>if vis e then max (e.q+1) m else m) 0
def Bz(l:List CY)(vis:CY->Bool)(j:Int):Int:=l.foldr (λe m=>if vis e&&e.r==j then max e.s m else m) 0
theorem JG(f:CY->Int):∀(l:List CY) (p:CY->Bool),(∀e∈l,p e=false)->l.foldr (λe m=>if p e then max (f e) m else m) 0=0
 | [],_,_=>rfl
 | x :: l,p,h=>by
  rw[List.foldr_cons,h x Vj,JG f l p λe he=>h e (by simp[he])]
  rfl
theorem Es(f:CY->Int):∀(l:List CY) (p p':CY->Bool),(∀e∈l,p e=p' e)->l.foldr (λe m=>if p e then max (f e) m else m) 0=l.foldr (λe m=>if p' e then max (f e) m else m) 0
 | [],_,_,_=>rfl
 | x :: l,p,p',h=>by rw[List.foldr_cons,List.foldr_cons,h x Vj,Es f l p p' λe he=>h e (by simp[he])]
theorem JH(f:CY->Int)(x:CY)(p p':CY->Bool):∀(l:List CY),x∈l->p' x=true->(∀e∈l,e≠x->p' e=p e)->l.foldr (λe m=>if p' e then max (f e) m else m) 0=max (l.foldr (λe m=>if p e then max (f e) m else m) 0) (f x)
 | [],hx,_,_=>by cases hx
 | y :: l,hx,hp,h=>by
  rw[List.foldr_cons,List.foldr_cons];by_cases hin:x∈l
  .have ih:=JH f x p p' l hin hp λe a g=>h e (by simp[a]) g;rw[ih];by_cases b:y=x
   .subst b;rw[hp];simp only[if_true];cases p y<;>simp only[Bool.false_eq_true,if_true,if_false]<;>omega
   .rw[h y Vj b];cases p y<;>simp only[Bool.false_eq_true,if_true,if_false]<;>omega
  .have b:y=x:=by
    rcases List.mem_cons.1 hx with e|e
    .exact e.symm
    .exact absurd e hin
   subst b;rw[hp,Es f l p' p λe a=>h e (by simp[a]) λd=>hin (d▸a)];simp only[if_true];by_cases c:p y=true
   .rw[if_pos c];omega
   .rw[if_neg c];omega
theorem Ri(f:CY->Int)(x:CY)(p p':CY->Bool)(l:List CY)(hp:p' x=p x)(h:∀e∈l,e≠x->p' e=p e):l.foldr (λe m=>if p' e then max (f e) m else m) 0=l.foldr (λe m=>if p e then max (f e) m else m) 0:=
 Es f l p' p λe b=>by
  by_cases a:e=x
  .rw[a,hp]
  .exact h e b a
theorem Eb(f:CY->Int):∀(l:List CY) (p:CY->Bool),0<=l.foldr (λe m=>if p e then max (f e) m else m) 0
 | [],_=>Int.le_refl _
 | x :: l,p=>by have:=Eb f l p;rw[List.foldr_cons];split<;>omega
theorem Iu(f:CY->Int)(M:Int)(hM:0<=M):∀(l:List CY) (p:CY->Bool),(∀e∈l,f e<=M)->l.foldr (λe m=>if p e then max (f e) m else m) 0<=M
 | [],_,_=>hM
 | x :: l,p,h=>by have:=Iu f M hM l p λe a=>h e (by simp[a]);have:=h x Vj;rw[List.foldr_cons];split<;>omega
def EQ(left:Lit->Bool)(r s:Int)(c:Cm)(e:CY):Bool:=!left e.key&&takes r s c e
theorem Lists.find{D:DataW Value}{l:List CY}(h:Lists D l)(hw:Wj l){kl:Lit}{v:Value}(hat:∀z,D.atKey kl z=.held v):∃e∈l,e.key=kl/\v=e.val:=by have c:=Maps.has_true_of_atKey hat;rw[h.has,List.any_eq_true] at c;obtain⟨e,a,d⟩:=c;have b:e.key=kl:=WideAt.sameKey_eq d;refine⟨e,a,b,?_⟩;have:=h.at_ e a .nil;rw[b,hat] at this;injection this
theorem Lists.one{D:DataW Value}{l:List CY}(h:Lists D l)(hw:Wj l){e e':CY}(he:e∈l)(he':e'∈l)(hk:e'.key=e.key):e'=e:=by
 have b:=LD (hw e' he').1 (hw e' he').2 (hw e he).1 (hw e he).2 hk;have:=h.apart;clear h hk hw;induction l with
 | nil=>cases he
 | cons x l ih=>
  obtain⟨c,d⟩:=List.pairwise_cons.1 this;rcases List.mem_cons.1 he with a|a
  .rcases List.mem_cons.1 he' with h4|h4
   .rw[a,h4]
   .exact absurd ⟨by rw[<-a];exact b.1.symm,by rw[<-a];exact b.2.symm⟩ (c e' h4)
  .rcases List.mem_cons.1 he' with h4|h4
   .exact absurd ⟨by rw[<-h4];exact b.1,by rw[<-h4];exact b.2⟩ (c e a)
   .exact ih a h4 d
theorem GX{D:DataW Value}{l:List CY}(h:Lists D l)(hw:Wj l){left:Lit->Bool}{e:CY}(he:e∈l)(r s:Int)(c:Cm) :(EQ (λz=>left z&&!z.sameKey e.key) r s c e=takes r s c e)/\∀e'∈l,e'≠e->EQ (λz=>left z&&!z.sameKey e.key) r s c e'=EQ left r s c e':=by
 refine⟨?_,λe' b d=>?_⟩
 .unfold EQ;have:e.key.sameKey e.key=true:=WideAt.sameKey_self (Jn e.r e.s);show (!(left e.key&&!e.key.sameKey e.key)&&takes r s c e)=takes r s c e;rw[this];simp
 .unfold EQ;have:=Maps.sameKey_ne (λa=>d (h.one hw he b a));show (!(left e'.key&&!e'.key.sameKey e.key)&&takes r s c e')=(!left e'.key&&takes r s c e');rw[this];simp
theorem aH{D:DataW Value}{l:List CY}(h:Lists D l)(hw:Wj l){left:Lit->Bool}{e:CY}(he:e∈l)(r s:Int)(c:Cm)(ht:takes r s c e=true) :Hg l (EQ (λz=>left z&&!z.sameKey e.key) r s c)=max (Hg l (EQ left r s c)) (e.q+1):=
 JH (λe=>e.q+1) e _ _ l he ((GX h hw he r s c).1.trans ht) (GX h hw he r s c).2
theorem ZN{D:DataW Value}{l:List CY}(h:Lists D l)(hw:Wj l){left:Lit->Bool}{e:CY}(he:e∈l)(r s:Int)(c:Cm)(ht:takes r s c e=true) :Bz l (EQ (λz=>left z&&!z.sameKey e.key) r s c) e.r=max (Bz l (EQ left r s c) e.r) e.s:=
 JH (λe=>e.s) e _ _ l he (by simp[(GX h hw he r s c).1.trans ht]) (λa b d=>by simp only[(GX h hw he r s c).2 a b d])
theorem ZM{D:DataW Value}{l:List CY}(h:Lists D l)(hw:Wj l){left:Lit->Bool}{e:CY}(he:e∈l)(r s:Int)(c:Cm)(j:Int)(hj:e.r≠j)(hl:left e.key=true) :Bz l (EQ (λz=>left z&&!z.sameKey e.key) r s c) j=Bz l (EQ left r s c) j:=
 Es (λe=>e.s) l _ _ λa d=>by
  by_cases b:a=e
  .rw[b,show (e.r==j)=false from by simp[hj],Bool.and_false,Bool.and_false]
  .rw[(GX h hw he r s c).2 a d b]
theorem Qu{D:DataW Value}{l:List CY}(h:Lists D l)(hw:Wj l){left:Lit->Bool}{e:CY}(he:e∈l)(r s:Int)(c:Cm)(ht:takes r s c e=false) :Hg l (EQ (λz=>left z&&!z.sameKey e.key) r s c)=Hg l (EQ left r s c):=
 Ri (λe=>e.q+1) e _ _ l ((GX h hw he r s c).1.trans (by simp[EQ,ht])) (GX h hw he r s c).2
theorem QD{D:DataW Value}{l:List CY}(h:Lists D l)(hw:Wj l){left:Lit->Bool}{e:CY}(he:e∈l)(r s:Int)(c:Cm)(ht:takes r s c e=false)(j:Int) :Bz l (EQ (λz=>left z&&!z.sameKey e.key) r s c) j=Bz l (EQ left r s c) j:=
 Es (λe=>e.s) l _ _ λa d=>by
  by_cases b:a=e
  .subst b;rw[(GX h hw he r s c).1,ht];simp[EQ,ht]
  .simp only[(GX h hw he r s c).2 a d b]
theorem Td{D:DataW Value}{l:List CY}(h:Lists D l)(r s:Int)(c:Cm)(e:CY)(he:e∈l):EQ (Maps.has D) r s c e=false:=by
 unfold EQ;have:Maps.has D e.key=true:=Maps.has_true_of_atKey (h.at_ e he);rw[this]
 rfl
def Em(l:List CY)(r s:Int)(c:Cm):Int:=Hg l (takes r s c)
def CG(l:List CY)(d:Nat->Int)(r s:Int)(c:Cm)(j:Nat):Int:=
 if (j:Int)=r then (if Cc r s then max (Bz l (takes r s c) j) (s-1) else Bz l (takes r s c) j) else max (Bz l (takes r s c) j) (d j)
theorem oq{left:Lit->Bool}(hl:∀k,left k=false)(r s:Int)(c:Cm):EQ left r s c=takes r s c:=by
 funext e
 simp[EQ,hl]
def Iy(d:Nat->Int)(left:Lit->Bool)(e:CY):Bool:=left e.key||decide (d e.r.toNat<e.s)
theorem Oi{D0:DataW Value}{l:List CY}(h:Lists D0 l)(hw:Wj l){left:Lit->Bool}{e:CY}(he:e∈l)(d:Nat->Int)(hk:d e.r.toNat<e.s) :l.filter (Iy d λz=>left z&&!z.sameKey e.key)=l.filter (Iy d left):=by
 refine List.filter_congr λa f=>?_;by_cases b:a=e
 .unfold Iy;rw[b,show decide (d e.r.toNat<e.s)=true from by simp[hk],Bool.or_true,Bool.or_true]
 .have:=Maps.sameKey_ne (λc=>b (h.one hw he f c));show (left a.key&&!a.key.sameKey e.key||decide (d a.r.toNat<a.s))=_;rw[this];simp[Iy]
theorem Oh{D0:DataW Value}{l:List CY}(h:Lists D0 l)(hw:Wj l){left:Lit->Bool}{e:CY}(he:e∈l)(d:Nat->Int)(hk:¬d e.r.toNat<e.s) :l.filter (Iy d λz=>left z&&!z.sameKey e.key)=(l.filter (Iy d left)).filter (λx=>!(x.r==e.r&&x.s==e.s)):=by
 rw[List.filter_filter];refine List.filter_congr λa b=>?_;by_cases c:a=e
 .have hs:e.key.sameKey e.key=true:=WideAt.sameKey_self (Jn e.r e.s);rw[c];show (left e.key&&!e.key.sameKey e.key||decide (d e.r.toNat<e.s))=_;rw[hs];simp[hk]
 .have:=Maps.sameKey_ne (λf=>c (h.one hw he b f));have g:(a.r==e.r&&a.s==e.s)=false:=by rw[<-Di (hw a b).1 (hw a b).2 (hw e he).1 (hw e he).2];exact this
  show (left a.key&&!a.key.sameKey e.key||decide (d a.r.toNat<a.s))=_;rw[this,g];simp[Iy]
theorem PE:∀(l:List CY) (r s:Int),l.Pairwise (λx y=>¬(x.r=y.r/\x.s=y.s))->(eX l r s).length+(if l.any (λx=>x.r==r&&x.s==s) then 1 else 0)=l.length
 | [],_,_,_=>rfl
 | x :: l,r,s,h=>by
  obtain⟨h1,h2⟩:=List.pairwise_cons.1 h;have c:=PE l r s h2;by_cases a:(x.r==r&&x.s==s)=true
  .have hn:l.any (λx=>x.r==r&&x.s==s)=false:=by rw[List.any_eq_false];intro y d b;simp only[Bool.and_eq_true,beq_iff_eq] at b a;exact h1 y d ⟨a.1.trans b.1.symm,a.2.trans b.2.symm⟩
   rw[hn] at c;simp only[eX,List.filter_cons,a,Bool.not_true,Bool.false_eq_true,if_false,List.any_cons,Bool.true_or,if_true,List.length_cons] at c |-;omega
  .have a:(x.r==r&&x.s==s)=false:=by simpa using a
   simp only[eX,List.filter_cons,a,Bool.not_false,if_true,List.any_cons,Bool.false_or,List.length_cons] at c |-;omega
theorem Lists.del{D:DataW Value}{l:List CY}(h:Lists D l)(hw:Wj l)(r s:Int)(hr:(Lit.int .i64 r).wf=true)(hs:(Lit.int .i64 s).wf=true):Lists (D.del (Ia r s)) (eX l r s):=by
 have i:=h.JU hw r s hr hs;have d:∀x∈l,x.key.sameKey (Ia r s)=(x.r==r&&x.s==s):=λx b=>Di (hw x b).1 (hw x b).2 hr hs;refine⟨h.tidy.del _,?_,h.apart.filter _,λk=>?_,λe g z=>?_⟩
 .have h1:=Maps.size_del (k:=Ia r s) h.tidy;have j:=PE l r s h.apart;rw[i,h.size] at h1;omega
 .by_cases hk:k=Ia r s
  .rw[hk,Maps.has_del_same];symm;rw[List.any_eq_false];intro x b;have a:=List.mem_filter.1 b;rw[d x a.1];have:=a.2;revert this;cases(x.r==r&&x.s==s)<;>simp
  .rw[Maps.has_del_other hk,h.has];unfold eX;rw[List.any_filter,Bool.eq_iff_iff,List.any_eq_true,List.any_eq_true];refine⟨λ⟨x,b,a⟩=>⟨x,b,?_⟩,λ⟨x,b,a⟩=>⟨x,b,?_⟩⟩
   .rw[a,Bool.and_true,<-d x b];have:x.key≠Ia r s:=λc=>hk ((WideAt.sameKey_eq a).symm.trans c);rw[Maps.sameKey_ne this]
    rfl
   .rw[Bool.and_eq_true] at a;exact a.2
 .have a:=List.mem_filter.1 g;rw[Maps.atKey_del_other,h.at_ e a.1];intro c;have:=LD (hw e a.1).1 (hw e a.1).2 hr hs c;have f:=a.2;simp[this.1,this.2] at f
section
def Hu(d u:Nat->Int)(t:Nat):Int:=max (d t) (min (max (u t) 0) 1073741824)
structure EF(g b:Nat)(w w':World):Prop where
 os:w'.os=w.os
 tape:w'.tape=w.tape
 output:w'.output=w.output
 size:w.heap.size<=w'.heap.size
 block:∀k,k<w.heap.size->k≠g->k≠b->w'.heap[k]?=w.heap[k]?
theorem EF.refl(g b:Nat)(w:World):EF g b w w:=⟨rfl,rfl,rfl,Ve,λ_ _ _ _=>rfl⟩
theorem EF.left{g b:Nat}{w w1 w2:World}(h:EF g b w w1)(k:Touch g w1 w2):EF g b w w2:=
 ⟨k.os.trans h.os,k.tape.trans h.tape,k.output.trans h.output,Nat.le_trans h.size k.size,λi c a d=>(k.block i (Nat.lt_of_lt_of_le c h.size) a).trans (h.block i c a d)⟩
theorem EF.right{g b:Nat}{w w1 w2:World}(h:EF g b w w1)(k:Touch b w1 w2):EF g b w w2:=
 ⟨k.os.trans h.os,k.tape.trans h.tape,k.output.trans h.output,Nat.le_trans h.size k.size,λi c d a=>(k.block i (Nat.lt_of_lt_of_le c h.size) a).trans (h.block i c d a)⟩
theorem EF.fresh{g b R:Nat}{w w1 w2:World}(h:EF g b w w1)(k:Touch R w1 w2)(hR:w.heap.size<=R):EF g b w w2:=
 ⟨k.os.trans h.os,k.tape.trans h.tape,k.output.trans h.output,Nat.le_trans h.size k.size,λi a c d=>(k.block i (Nat.lt_of_lt_of_le a h.size) BJ).trans (h.block i a c d)⟩
theorem EF.below{g b:Nat}{w w1 w2:World}(h:EF g b w w1)(k:Below w1.heap.size w1 w2):EF g b w w2:=h.left (.of_below k)
theorem YM(m:Value)(d:Nat->Int)(k:Nat)(hk:k<7)(v:Int):(m :: DT d).set (1+k) (AA v)=m :: DT λj=>if j=k then v else d j:=by
 have:k=0\/k=1\/k=2\/k=3\/k=4\/k=5\/k=6:=BJ
 rcases this with rfl|rfl|rfl|rfl|rfl|rfl|rfl<;>rfl
theorem DV.vP{w w':World}{g b n:Nat}{d d':Nat->Int}{l:List CY}(h:DV w g b n d l)(ht:Touch g w w')(hc:Holds w' g 312 (.map (some b) :: DT d')):DV w' g b n d' l:=by obtain⟨D,f,c⟩:=h.map;exact⟨hc,⟨D,f.kept (row:=some g) ⟨ht.os,ht.tape,ht.output,ht.size,λk a i=>ht.block k a (λe=>i (by rw[e]))⟩ (by simpa using h.ne.symm),c⟩,h.good⟩
theorem Ew(d:Nat->Int)(k:Nat)(hk:k<7)(w:World) :(Instr.index 41 (.agg #[AA (d 0),AA (d 1),AA (d 2),AA (d 3),AA (d 4),AA (d 5),AA (d 6)]) (AA k)).run prog w=.ok (AA (d k)) w:=by rcases(show k=0\/k=1\/k=2\/k=3\/k=4\/k=5\/k=6 by omega) with rfl|rfl|rfl|rfl|rfl|rfl|rfl<;>kernel_rfl
def pruned(l:List CY)(d:Nat->Int):List CY:=l.filter λe=>decide (d e.r.toNat<e.s)
set_option maxRecDepth 4000 in
theorem prune_any(g b n:Nat)(d u:Nat->Int)(l:List CY)(w:World)(h:DV w g b n d l) :Calls prog 118 #[AP g,.agg (DT u).toArray] w λe w'=> e=.returned (.tuple #[])/\DV w' g b n (Hu d u) (pruned l (Hu d u))/\EF g b w w':=by
 have a:=qh h;clear h;unfold DT;go_in;have a9:=a.below (show Below w.heap.size w (w.alloc (.cells #[AA (u 0),AA (u 1),AA (u 2),AA (u 3),AA (u 4),AA (u 5),AA (u 6)] 41)) by go_grown);have bg:=(EF.refl g b w).below (show Below w.heap.size w (w.alloc (.cells #[AA (u 0),AA (u 1),AA (u 2),AA (u 3),AA (u 4),AA (u 5),AA (u 6)] 41)) by go_grown);obtain⟨am,T⟩:=WZ a9 bg;clear a9 bg a;go_wp2_with fail;go_loopw [8] (λi wr=>∃j:Nat,j<=7/\i=AA j/\DV wr g b n (λt=>if t<j then Hu d u t else d t) l/\EF g b w wr) (λi _=>7 - (intOf i).toNat);case atStart=>exact⟨0,BJ,rfl,am.o,T.o⟩
 case round=>
  clear am T;obtain⟨j,hj,rfl,J,C⟩:=hrel;obtain⟨a,G⟩:=WZ J C;clear J C;by_cases Z:j<7
  .have cj:=a.ix.cell (1+j);rw[Hy _ _ _ Z,if_neg (Nat.lt_irrefl j)] at cj;have cf:=a.ix.free (1+j);have Y:=a.ix.set (1+j) (AA (Hu d u j));rw[YM _ _ _ Z] at Y;have O:(λt=>if t=j then Hu d u j else if t<j then Hu d u t else d t)=λt=>if t<j+1 then Hu d u t else d t:=by
    funext t
    by_cases H:t=j
    .rw[if_pos H,if_pos BJ,H]
    .rw[if_neg H];by_cases X:t<j
     .rw[if_pos X,if_pos BJ]
     .rw[if_neg X,if_neg BJ]
   rw[O] at Y;have HS:=qh Y;clear Y O;have bu:=λW=>Ew u j Z W;go_upto_region 4 with(fail);clear bu;go_region;go_wp2_with fail;go_roundw;case rel=>exact⟨j+1,BJ,by go_num,a.vP ((Touch.refl g wr).setCell (1+j) _).drew HS.o,G.left ((Touch.refl g wr).setCell (1+j) _).drew⟩
   case measure=>simp[intOf];omega
  .have hj77:j=7:=BJ
   subst hj77;have O:DT (λt=>if t<7 then Hu d u t else d t)=DT (Hu d u):=by simp[DT]
   have f:DV wr g b n (Hu d u) l:=⟨by rw[<-O];exact a.ix,a.map,a.good⟩;clear a O hj Z;generalize a4:Hu d u=e at f;have bl:=qh a4;clear a4;have m0:=f.ix.cell 0;simp only[List.getElem?_cons_zero] at m0;obtain⟨D0,be,K⟩:=f.map;have bd:=f.ne;have a8:=f.good;go_wp2_with (first|(at_range;refine wpList_range_own _ rfl _ 310 rfl 37 363 CV underlying310 BZ b n D0 rfl be ?_;intro w0 bf I bz)|fail)
   go_frame
   have ad:Below wr.heap.size wr w0:=⟨I.os,I.tape,I.output,I.size,λk hk=>I.block k hk Vj⟩;obtain⟨HX,aw,av,al⟩:=bY (f.ix.below ad f.ix.lt) (G.below ad) (show w.heap.size<=wr.heap.size from G.size) (show g≠wr.heap.size by have:=f.lt.1;omega);have ak:=qh (show l.filter (Iy e (Maps.has D0))=l by
    rw[List.filter_eq_self];intro x E;unfold Iy;rw[Maps.has_true_of_atKey (K.at_ x E)]
    rfl)
   obtain⟨ac,HL,F,HN⟩:=bY bf K a8 bd;clear f be K bf I bz ad m0 a8 bd G;generalize wr.heap.size=R at av al ac |-;go_loopw [6] (λ_ Q=>∃(left:Lit->Bool) (a1:Nat) (D:DataW Value),Q.ranges prog 37 BZ b R n D left a1/\Lists D (l.filter (Iy e left))/\Holds Q g 312 (.map (some b) :: DT e)/\EF g b w Q) (λ_ Q=>Q.rangeLeft b R);case atStart=>exact⟨_,_,D0,ac.o,by rw[ak.o];exact HL.o,HX.o,aw.o⟩
   case round=>
    clear ac HX aw ak;obtain⟨left,a1,D,P,L,E,C⟩:=hrel;go_wp2_with (first|(at_next;refine wpList_next_ranges _ rfl _ rfl 37 CV BZ (λp:Int × Int=>Dz p.1 p.2) (λv:Value=>v) (λb1 kl hk=>by obtain⟨r,s,rfl,_⟩:=Jo hk;exact⟨(r,s),rfl⟩) (λv y _=>⟨v,rfl⟩) b R n D _ _ rfl P ?_ ?_)|fail)
    .intro hc0 K;have a6:l.filter (Iy e left)=pruned l e:=List.filter_congr λx E=>by unfold Iy;rw[K];rfl
     rw[a6] at L;obtain⟨HE,G⟩:=WZ (show DV wr g b n e (pruned l e) from⟨E,⟨D,P.owns,L⟩,λy N=>F.o y (List.mem_filter.1 N).1⟩) C;clear E P L C a6 K hc0;go_wp2_with fail
     go_end0
     exact⟨rfl,by rw[bl.o];exact HE.o,G.o⟩
    .intro pr ps cv kl yd yp w1 cnt1 B hlk A hat hrg1 hlt hg1 hs1 hen;have N:yd=.held cv:=by unfold BZ at A;injection A with A;injection A with A _;exact A.symm
     rw[N] at hat;have ag:Ry (l.filter (Iy e left)):=λy N=>F.o y (List.mem_filter.1 N).1;obtain⟨x,bk,a5,bt⟩:=L.find ag.wf hat;have aa:=(List.mem_filter.1 bk).1;have ah:=F.o x aa;have hw:=F.wf x aa;obtain⟨k,ai⟩:∃k:Nat,x.r=k:=⟨x.r.toNat,by have:=ah.1;omega⟩;have bv:k<7:=by have:=ah.1;omega
     have bx:pr=x.r/\ps=x.s:=by rw[<-a5] at B;have:=CV.inj B (DX x.r x.s hw.1 hw.2);simp only[Dz,Value.agg.injEq,Array.mk.injEq,List.cons.injEq,Value.int.injEq,true_and,and_true] at this;exact this
     obtain⟨H,X⟩:=bx;rw[ai] at H;subst H;subst X;subst bt;subst a5;have ae:=BM hg1;obtain⟨ay,T,bo,ao,aq,ap,a0,S⟩:=ed (E.touch ae al.o) (C.fresh ae av.o) hrg1 P.left_eq hlt L aa ai;obtain⟨U,bm⟩:=WZ hw ag;clear hrg1 P hlt hg1 hs1 A N hat B hlk E C L ae aa ai hw ah ag bk;unfold CY.val NF Dz at hen;simp only[Dz,CY.val,NF] at hen |-;go_upto_region 9 with(fail);go_name_world W hW;have q:Holds W w1.heap.size 37 [AA k,AA x.s]:=by rw[<-hW];exact AC w1 _ _
     have m:Below w1.heap.size w1 W:=by rw[<-hW];go_grown
     clear hW;obtain⟨V,ax,ab⟩:=bP (ay.below m ay.lt) (T.below m) (bo.kept (row:=none) ⟨m.os,m.tape,m.output,m.size,λi J _=>m.block i J⟩ Vj Vj);clear m;generalize w1.heap.size=gk at q |-;have k0:=q.cell 0;have k1:=q.cell 1;have ck:=V.cell (1+k);rw[Hy _ _ _ bv] at ck;simp only[yA,yB] at k0 k1;have an:=qh q;clear q;by_cases bw:x.s<=e k
     .have HLE:=qh (show ¬e x.r.toNat<x.s by rw[S.o,Int.toNat_natCast];omega);go_region;go_upto_region 10 with(fail);go_name_world W3 a2;have c:Below W.heap.size W W3:=by rw[<-a2];go_grown
      clear a2;have q:=an.below c an.lt;obtain⟨az,bq,bp⟩:=bP (V.below c V.lt) (ax.below c) (ab.kept (row:=none) ⟨c.os,c.tape,c.output,c.size,λi J _=>c.block i J⟩ Vj Vj);clear c k0 k1 ck bw;obtain⟨k0,k1⟩:=Cf q 0 1;have m0:=Am az.o 0;have B:=DX x.r x.s U.1 U.2;rw[S.o] at B;obtain⟨w5,b0,a3,M,aj,bi⟩:=(bp.kept (row:=none) (w':=W3.drew) ⟨rfl,rfl,rfl,Ve,λ_ _ _=>rfl⟩ Vj Vj).drop CV underlying310 B 0;unfold Dz at a3;have af:=BM bi.grown;have bh:=bq.below (w2:=W3.drew) ⟨rfl,rfl,rfl,Ve,λ_ _=>rfl⟩;have bj:=az.drewN 1;obtain⟨au,HH⟩:=WZ M aj;clear M aj bi q;go_region;have M:=au.out;have aj:=HH.o;clear a3 k0 k1 m0;have ba:x.key=Ia k x.s:=by unfold CY.key;rw[S.o]
      have bb:=ap.del bm.wf x.r x.s U.1 U.2;have a7:=Oh HL.o F.wf a0.o e (left:=left) HLE.o;have bc:Lists (D.del x.key) (l.filter (Iy e λz=>left z&&!z.sameKey x.key)):=by rw[a7];exact bb
      rw[ba,strike_twice,<-ba] at M;obtain⟨ar,bn,bs,br⟩:=bY M bc (bj.touch af HN.o) (bh.right af);clear M bc bj af bh bb a7 B au HH;go_wp2_with fail;go_roundw;case rel=>exact⟨_,_,_,ar.o,bn.o,bs.o,br.o⟩
      case measure=>rw[ar.left_eq,ao.o];have:=aq.o;omega
     .have HLE:=qh (show e x.r.toNat<x.s by rw[S.o,Int.toNat_natCast];omega);go_region;go_wp2_with fail;go_roundw;case rel=>
       refine⟨_,_,_,ab.kept (row:=none) ⟨rfl,rfl,rfl,Ve,λ_ _ _=>rfl⟩ Vj Vj,?_,V.drewN 1,ax.below ⟨rfl,rfl,rfl,Ve,λ_ _=>rfl⟩⟩;rw[Oi HL.o F.wf a0.o e (left:=left) HLE.o];exact ap.o
      case measure=>rw[(ab.kept (row:=none) (w':=W.drew) ⟨rfl,rfl,rfl,Ve,λ_ _ _=>rfl⟩ Vj Vj).left_eq,ao.o];exact aq.o
end
theorem Touch.then{g:Nat}{w w1 w2:World}(h:Touch g w w1)(h2:Below w.heap.size w1 w2):Touch g w w2:=
 ⟨h2.os.trans h.os,h2.tape.trans h.tape,h2.output.trans h.output,Nat.le_trans h.size h2.size,λk a b=>(h2.block k a).trans (h.block k a b)⟩
theorem NC{w:World}{g e:Nat}{L:List Value}(h:Holds w g e L):Holds w.drew g e L:=h
abbrev OY(w:World)(g:Nat)(id seq:Int)(x:Cm)(waits:Bool)(target ticks:Int):Prop:=Holds w g 132 (Dk id seq x waits target ticks)
theorem uB(id:Int)(w:World)(h:1<=id/\id<=8) :Calls prog 46 #[AA id] w λe w'=>e=.returned (.tuple #[AP w.heap.size,AA 0])/\OY w' w.heap.size id 0 Cm.zero false 0 0/\Below w.heap.size w w':=by
 obtain⟨a,b⟩:=h;go_in;go_wp2_with fail
 go_ret2
 exact⟨rfl,AC w _ _,by go_grown⟩
theorem oZ(g:Nat)(id seq:Int)(x:Cm)(waits:Bool)(target ticks n:Int)(w:World)(h:OY w g id seq x waits target ticks)(hn:waits=false\/n<1) :Calls prog 51 #[AP g,AA n] w λe w'=>e=.returned (.tuple #[.agg Cm.zero.cells.toArray,AA 0,.bool false])/\Below w.heap.size w w':=by
 have a:=h.cell 9;have c:=h.lt;simp only[Dk,yA,yB] at a;have b:waits=false\/(waits=true/\n<1):=by
  cases waits
  .exact .inl rfl
  .rcases hn with h|h
   .cases h
   .exact .inr ⟨rfl,h⟩
 clear hn;rcases b with rfl|⟨rfl,hn⟩;all_goals
  go_in;go_wp2_with fail;exact bodyPost_ret (v:=.tuple #[.agg Cm.zero.cells.toArray,AA 0,.bool false]) (by simp[results,results51,go_sem,Cm.zero,Cm.cells];try rfl) rfl ⟨rfl,by go_grown⟩
theorem ja(g:Nat)(id seq:Int)(x:Cm)(target ticks:Int)(r0 r1 r2 r3 r4:Value)(w:World)(h:OY w g id seq x true target ticks) :Calls prog 55 #[AP g,.agg #[AA id,AA seq,r0,r1,r2,r3,r4]] w λe w'=>e=.returned (.bool true)/\OY w' g id seq x false target ticks/\Touch g w w':=by
 have b:=h.cell 0;have c:=h.cell 1;have d:=h.cell 9;have l:=h.free 9;have m:=h.lt;simp only[Dk,yA,yB] at b c d;have i:=qh h;clear h;have j:(id != id)=false:=Vj
 have k:(seq != seq)=false:=Vj
 go_in;go_upto_region 1 with(fail);go_region;go_wp2_with fail;have a:=i.set 9 (.bool false);simp only[Dk,List.set_cons_succ,List.set_cons_zero] at a;have f:Holds (((w.setCell ⟨g,9,none⟩ (.bool false)).alloc (.cells #[AA id,AA seq,r0,r1,r2,r3,r4] 121)).drew) g 132 (Dk id seq x false target ticks):=Aw a _;go_ret;exact⟨rfl,f,(((Touch.refl g w).setCell 9 _).next (by go_grown)).drew⟩
section
inductive Nc where
 | bool
 | int (k:IntKind)
 | string
 | slice
def Nc.ok:Nc->Value->Prop
 | .bool,v=>∃b,v=.bool b
 | .int k,v=>∃n,v=.int k n/\(Lit.int k n).wf=true
 | .string,v=>∃s,v=.string s/\s.size<=maxLen
 | .slice,v=>∃a l c,v=.slice a l c
def Eo:List Nc->List Value->Prop
 | [],[]=>True
 | l :: ls,v :: vs=>l.ok v/\Eo ls vs
 | _,_=>False
theorem Eo.append:∀{ls ms:List Nc} {vs us:List Value},Eo ls vs->Eo ms us->Eo (ls++ms) (vs++us)
 | [],_,[],_,_,h=>h
 | _ :: _,_,_ :: _,_,h,k=>⟨h.1,Eo.append h.2 k⟩
 | [],_,_ :: _,_,h,_=>h.elim
 | _ :: _,_,[],_,h,_=>h.elim
theorem Eo.cons{l:Nc}{ls:List Nc}:∀{vs:List Value},Eo (l :: ls) vs->∃v r,vs=v :: r/\l.ok v/\Eo ls r
 | v :: r,h=>⟨v,r,rfl,h.1,h.2⟩
theorem Eo.nil:∀{vs:List Value},Eo [] vs->vs=[]
 | [],_=>rfl
def G7(rc:TypeId->Option (List Nc))(P:Program):Nat->List Field->Option (List Nc)
 | _,[]=>some []
 | off,f :: fs=>
  if f.offset=off then
   match rc f.type with
   | some l=>if l.length=P.cellsOf f.type then (match G7 rc P (off+l.length) fs with|some r=>some (l++r)|none=>none) else none
   | none=>none
  else none
def leaves(P:Program):Nat->TypeId->Option (List Nc)
 | 0,_=>none
 | n+1,t=>
  match P.underlying t with
  | some .bool=>some [.bool]
  | some (.int k)=>some [.int k]
  | some .string=>some [.string]
  | some (.struct fs)=>match G7 (leaves P n) P 0 fs.toList with
   | some l=>if l.length=P.cellsOf t then some l else none
   | none=>none
  | some (.array m e)=>match leaves P n e with
   | some l=>if l.length=P.cellsOf e/\m*l.length=P.cellsOf t then some (List.replicate m l).flatten else none
   | none=>none
  | some (.slice _)=>some [.slice]
  | _=>none
section
variable {H:Type} {enc:TypeId × Value->H} {P:Program} {w:World} {base:Nat} {spare:Nat->Bool} {held:Bool}
theorem SS{m:Nat}{rc:TypeId->Option (List Nc)}(ih:∀t cs x l,DataW.trod enc P w base spare held m t cs=some x->rc t=some l->Eo l cs)(cs:List Value) :∀(fs:List Field) (off:Nat) (ls:List Nc),(∀f∈fs,∃y,DataW.trod enc P w base spare held m f.type ((cs.drop f.offset).take (P.cellsOf f.type))=some y)->G7 rc P off fs=some ls->Eo ls ((cs.drop off).take ls.length)
 | [],off,ls,_,h=>by simp only[G7,Option.some.injEq] at h;subst h;simp[Eo]
 | f :: fs,off,ls,hf,h=>by
  unfold G7 at h;split at h
  .rename_i ho;split at h
   .rename_i l hl;split at h
    .rename_i hlen;split at h
     .rename_i r hr;simp only[Option.some.injEq] at h;subst h;obtain⟨y,hy⟩:=hf f Vj;have a:=ih _ _ _ _ hy hl;have b:=SS ih cs fs _ r (λg c=>hf g (by simp[c])) hr;rw[ho,<-hlen] at a;have:=a.append b;rw[List.length_append,List.take_add,List.drop_drop];exact this
     .cases h
    .cases h
   .cases h
  .cases h
theorem VC{cs:List Value}{l:List Nc}:∀(m k:Nat),(∀i,i<m->Eo l ((cs.drop ((k+i)*l.length)).take l.length))->Eo (List.replicate m l).flatten ((cs.drop (k*l.length)).take (m*l.length))
 | 0,k,_=>by simp[Eo]
 | m+1,k,h=>by
  rw[List.replicate_succ,List.flatten_cons,Nat.succ_mul,Nat.add_comm (m*l.length),List.take_add,List.drop_drop];refine Eo.append (by simpa using h 0 BJ) ?_;have:=VC (cs:=cs) (l:=l) m (k+1) (λi a=>by
   have:=h (i+1) BJ;rwa [show k+(i+1)=k+1+i from BJ] at this)
  rwa [Nat.succ_mul] at this
theorem Ot:∀(n m:Nat) (t:TypeId) (cs:List Value) (x:DataW H × List MemPlace) (ls:List Nc),DataW.trod enc P w base spare held m t cs=some x->leaves P n t=some ls->Eo ls cs
 | 0,_,_,_,_,_,_,h=>by cases h
 | n+1,m,t,cs,x,ls,h,hl=>by
  unfold leaves at hl;split at hl
  .rename_i hu;simp only[Option.some.injEq] at hl;subst hl;obtain⟨b,rfl,_⟩:=DataW.trod_bool hu h;exact⟨⟨_,rfl⟩,trivial⟩
  .rename_i k hu;simp only[Option.some.injEq] at hl;subst hl;obtain⟨q,rfl,_,z⟩:=DataW.trod_int hu h;exact⟨⟨q,rfl,z⟩,trivial⟩
  .rename_i hu;simp only[Option.some.injEq] at hl;subst hl;obtain⟨s,rfl,_,y⟩:=DataW.trod_string hu h;exact⟨⟨_,rfl,y⟩,trivial⟩
  .rename_i fs hu;split at hl
   .rename_i l hfl;split at hl
    .rename_i hlen;simp only[Option.some.injEq] at hl;subst hl;obtain⟨B,k,_,_,o,A,j⟩:=DataW.trod_struct hu h;have:=SS (m:=k) (λt cs x l p d=>Ot n k t cs x l p d) cs fs.toList 0 l (λf r=>by
      obtain⟨i,g,u⟩:=List.getElem_of_mem r;have v:i<fs.size:=by simpa using g
      have d:=j i f (by rw[Array.getElem?_eq_getElem v];simpa using u);rw[List.getElem?_eq_getElem BJ] at d;exact⟨_,d⟩) hfl
     rw[List.drop_zero,List.take_of_length_le BJ] at this;exact this
    .cases hl
   .cases hl
  .rename_i q e hu;split at hl
   .rename_i l hle;split at hl
    .rename_i hlen;simp only[Option.some.injEq] at hl;subst hl;obtain⟨B,k,_,_,o,A,j⟩:=DataW.trod_array hu h;have:=VC (cs:=cs) (l:=l) q 0 (λi g=>by
      have d:=j i g;rw[List.getElem?_eq_getElem BJ,<-hlen.1] at d;rw[Nat.zero_add];exact Ot n k e _ _ _ d hle)
     rw[Nat.zero_mul,List.drop_zero,List.take_of_length_le (by rw[o,<-hlen.2];exact Nat.le_refl _)] at this;exact this
    .cases hl
   .cases hl
  .rename_i e hu;simp only[Option.some.injEq] at hl;subst hl;rcases Deep.open_slice hu h with⟨rfl,_⟩|⟨a,l,c,_,_,_,_,rfl,_⟩
   .exact⟨⟨_,_,_,rfl⟩,trivial⟩
   .exact⟨⟨_,_,_,rfl⟩,trivial⟩
  .cases hl
end
end
def Bj(w:World)(a:Option Addr)(len n:Nat)(V:Nat->List Value):Prop:=
 len<=maxLen/\(∀i,i<len->(V i).length=n)/\(0<len->∃b off,a=some ⟨b,off,none⟩/\b<w.heap.size/\∀i,i<len->∀j,j<n->w.cell? ⟨b,off+i*n+j,none⟩=(V i)[j]?)
theorem Bj.below{w w':World}{a:Option Addr}{len n:Nat}{V:Nat->List Value}(h:Bj w a len n V)(hb:Below w.heap.size w w'):Bj w' a len n V:=by obtain⟨d,f,g⟩:=h;refine⟨d,f,λh=>?_⟩;obtain⟨b,q,k,c,l⟩:=g h;exact⟨b,q,k,Nat.lt_of_lt_of_le c hb.size,λi m j o=>by rw[hb.cell (p:=⟨b,_,none⟩) c];exact l i m j o⟩
theorem TK{H:Type}{enc:TypeId × Value->H}{P:Program}{W:World}{t e:TypeId}{a:Option Addr}{len cap n:Nat}{ls:List Nc}{d:DataW H}{pl:List MemPlace} (ht:P.underlying t=some (.slice e)) (hl:leaves P 9 e=some ls) (hn:P.cellsOf e=n) (h0:0<n) (h:DataW.Trod enc P W 0 (λ_=>true) true t (.slice a len cap) d pl):∃V:Nat->List Value,Bj W a len n V/\(∀i,i<len->Eo ls (V i))/\len<=cap/\cap<=maxLen:=by
 obtain⟨L,A⟩:=h;subst hn;rcases Deep.open_slice ht A with⟨f,_⟩|⟨x,l,c,m,k,D,w,f,_,C,E,u,O,y⟩
 .simp[Value.cells] at f;obtain⟨rfl,rfl,rfl⟩:=f;exact⟨λ_=>[],⟨BJ,λi o=>BJ,λh=>BJ⟩,λi o=>BJ,BJ,by unfold maxLen;omega⟩
 .simp[Value.cells] at f;obtain⟨rfl,rfl,rfl⟩:=f;simp only[if_true] at u;subst u;obtain⟨V,g⟩:=Deep.choose_lt (α:=List Value) (p:=λi r=>W.cells? 0 (x.add (i*P.cellsOf e)) (P.cellsOf e)=some r/\DataW.trod enc P W 0 (λ_=>true) true k e r=some (D i,w i)) y;refine⟨V,⟨BJ,λi o=>(World.cells?_some (g i BJ).1).2.1,λN=>?_⟩,λi o=>Ot 9 k e _ _ _ (g i BJ).2 hl,C,E⟩;obtain⟨b,J,K⟩:=x;obtain⟨_,M,z⟩:=World.cells?_some (g 0 BJ).1;have q:=z 0 h0;have F:∃v,(V 0)[0]?=some v:=⟨_,List.getElem?_eq_getElem BJ⟩;obtain⟨v,I⟩:=F;rw[I] at q;have G:K=none:=by simpa[Addr.add] using World.cell?_spot q
  subst G;refine⟨b,J,rfl,by simpa[JE] using block_lt_of_cell q,λi o j B=>?_⟩;have s:=(World.cells?_some (g i BJ).1).2.2 j B;rw[JE,JE] at s;exact s
end Go.Proofs.YtimdpiifpibgfaaGreatDoor
