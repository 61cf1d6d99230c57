/- A part of the proof of TopReads. -/
import Derived.Test.YtimdpiifpibgfaaGreatDoorQr30
set_option linter.all false
set_option maxRecDepth 20000
set_option maxHeartbeats 16000000
open Go.RowKit Go.Maps
namespace Go.Proofs.YtimdpiifpibgfaaGreatDoor
open Tryz
theorem vV(e:Ev)(v v':Value)(c:Nat)(hc:c<13):(Kw e v)[c]?=(Kw e v')[c]?:=by rcases(show c=0\/c=1\/c=2\/c=3\/c=4\/c=5\/c=6\/c=7\/c=8\/c=9\/c=10\/c=11\/c=12 by omega) with rfl|rfl|rfl|rfl|rfl|rfl|rfl|rfl|rfl|rfl|rfl|rfl|rfl<;>rfl
theorem lU(l:List Ev)(pv:Nat->Value)(i:Nat)(hi:i<l.length)(v:Value)(rest:List Value):(flat 14 l.length (JF l pv)++rest).set (i*14+13) v=flat 14 l.length (JF l (Gg pv i v))++rest:=by
 apply List.ext_getElem?;intro t;rw[List.getElem?_set];by_cases g:t<l.length*14
 .have e:t / 14*14+t % 14=t:=BJ
  have a:=EW 14 l.length (JF l pv) (t / 14) (t % 14) BJ BJ rfl;have b:=EW 14 l.length (JF l (Gg pv i v)) (t / 14) (t % 14) BJ BJ rfl;rw[e] at a b;rw[List.getElem?_append_left (by rw[BQ];omega),List.getElem?_append_left (by rw[BQ];omega),a,b];by_cases d:i*14+13=t
  .have e1:t / 14=i:=BJ
   have f:t % 14=13:=BJ
   rw[if_pos d,if_pos (by rw[List.length_append,BQ];omega),e1,f];unfold JF;rw[D8]
   rfl
  .rw[if_neg d];by_cases c:t / 14=i
   .rw[c];exact vV _ _ _ _ BJ
   .unfold JF;rw[Dv _ _ _ _ c]
 .rw[if_neg BJ,List.getElem?_append_right (by rw[BQ];omega),List.getElem?_append_right (by rw[BQ];omega),BQ,BQ]
theorem lT(l:List Ev)(pv:Nat->Value)(n:Nat)(h:∀i,i<n->CZ (pv i)):∀u∈flat 14 n (JF l pv),u.oneCell'=true:=
 LC 14 n (JF l pv) (λ_ _=>rfl) λi b u a=>by obtain⟨p,m,c,e⟩:=h i b;unfold JF at a;rw[e] at a;simp only[Kw,Cm.cells,Bq,List.cons_append,List.nil_append,List.mem_cons,List.not_mem_nil,or_false] at a;rcases a with rfl|rfl|rfl|rfl|rfl|rfl|rfl|rfl|rfl|rfl|rfl|rfl|rfl|rfl<;>rfl
def Kq(l:List Ev)(w:World)(e:Ending)(w':World):Prop:=∃v ob pv pb,e=.returned v/\Gz w' v ob l pv pb/\Below w.heap.size w w'
def bM(l:List Ev)(pv:Nat->Value)(g B:Nat)(rest:List Value)(i:Nat)(wr:World):Prop:=
 ∃(pv':Nat->Value) (pb':Nat->Option Nat),Holds wr g 55 (flat 14 l.length (JF l pv')++rest)/\(∀j,j<i->Ad wr (pv' j) (pb' j) (l.getD j .zero).r.ps)/\∀j,i<=j->pv' j=pv j
theorem dL(gC n:Nat)(dv nv clv cav lv hv:Value)(ob:Option Nat)(l:List Ev)(pv:Nat->Value)(pb:Nat->Option Nat)(w:World)(h:Holds w gC 85 (Dq n dv nv clv cav lv hv))(hh:Gz w hv ob l pv pb)(hz:P6 l.length hv)(hl:l.length<=1000)(hps:∀e∈l,e.r.ps.length<=1000) :Calls prog 14 #[AP gC] w (Kq l w):=by
 obtain⟨K,KP⟩:=WZ (kX hv ob l.length _ (lT l pv l.length λi v=>(hh.2 i v).CZ) hl w hh.1 hz) (λk (T:k<l.length) W h=>F5 (pv k) (pb k) (l.getD k .zero).r.ps W h (by rw[List.getD_eq_getElem?_getD,List.getElem?_eq_getElem T];exact hps _ (List.getElem_mem T)));have a6:=Am h 6;have HH:=qh hh.2;generalize R:Kq l w=Q;have M:=qh (show ∀e I,Kq l w e I->Q e I from λe I h=>R▸h);clear h hh hps R hz;go_in;go_wp2_with fail;refine K.out.mono ?_;rintro e w1 ⟨P',al,rfl,C,E,G,q⟩;have a:=qh q;clear q K a6;rcases Nat.eq_zero_or_pos l.length with P|hp
 .obtain rfl:=G P;have ah:l=[]:=List.eq_nil_of_length_eq_zero P;subst ah;clear C E G;go_wp2_with fail;go_loopw [12] (λs wr=>s=AA 0/\w1=wr) (λ_ _=>0);case atStart=>exact⟨rfl,rfl⟩
  case round=>obtain⟨rfl,rfl⟩:=hrel;go_wp2_with fail;exact M.o _ _ ⟨_,none,λ_=>AL,λ_=>none,rfl,⟨AV.nil _ _ _,λi v=>by simp at v⟩,a.o⟩
 .obtain⟨g,c2,rest,rfl,rfl,hc1,hc2,d,hgl⟩:=C.blk hp;have ag:=E g rfl;obtain⟨b,ac⟩:=WZ (show bM l pv g w.heap.size rest 0 w1 from⟨pv,pb,d,λj x=>BJ,λj _=>rfl⟩) hgl;clear C E G d hgl;go_wp2_with fail;go_loopw [12] (λs wr=>∃i:Nat,s=AA (i:Int)/\i<=l.length/\bM l pv g w.heap.size rest i wr/\Below w.heap.size w wr) (λs _=>l.length - (intOf s).toNat);case atStart=>exact⟨0,rfl,BJ,b.o,a.o⟩
  case round=>
   obtain⟨i,rfl,v,⟨f,H,d,V,X⟩,q⟩:=hrel;obtain⟨b,a,A,L⟩:=bY d q V X;have aj:=d.lt;clear d q V X;by_cases t:i<l.length
   .have hsl:=L.o i Ve;have F:=HH.o i t;obtain⟨p,m,c,Y⟩:=F.CZ;have af:wr.cell? ⟨g,i*14+9+4,none⟩=some (.slice p m c):=by rw[show i*14+9+4=i*14+13 by omega,b.cell (i*14+13),List.getElem?_append_left (by rw[BQ];omega),EW 14 l.length (JF l f) i 13 t BJ rfl];show some (f i)=_;rw[hsl,Y]
    obtain⟨N,z⟩:=WZ (KP.o i t) (F.bel a.o);rw[Y] at N z;clear F hsl;go_wp2_with fail;refine(N.o _ z.o).mono ?_;rintro e w2 ⟨v2,ai,rfl,D,ak,u⟩;obtain⟨p2,Z,O,rfl⟩:=D.CZ;have a:=qh (a.trans (u.mono a.size));have b:=D9 u b;have S:∀j,j<i->Ad w2 (f j) (H j) (l.getD j .zero).r.ps:=λj x=>(A.o j x).bel u;obtain⟨ae,J⟩:=WZ S D;clear u af z D A S;go_wp2_with (first|(refine Bh rfl 51 (.tmp 26) (.tmp 23) rfl rfl g (i*14+13) 55 _ b.o (by rw[List.length_append,BQ];omega) rfl (.slice p2 Z O) rfl rfl ND rfl ?_;intro w7 B y));rw[lU l f i t] at B;obtain⟨ab,aa⟩:=WZ B (a.trans (y.below ag a.size));have U:∀j,j<i+1->Ad w7 (Gg f i (.slice p2 Z O) j) (Gg H i ai j) (l.getD j .zero).r.ps:=λj x=>by
     by_cases e:j=i
     .subst e;rw[D8,D8];exact AV.touch J.o y (AV.ne_of J.o b.o Iz)
     .rw[Dv _ _ _ _ e,Dv _ _ _ _ e];have:=ae.o j BJ;exact AV.touch this y (AV.ne_of this b.o Iz)
    have ad:=qh U;clear B y U;go_roundw;case rel=>exact⟨i+1,by go_num,BJ,⟨_,_,ab.o,ad.o,λj x=>by rw[Dv _ _ _ _ BJ];exact L.o j BJ⟩,aa.o⟩
    case measure=>simp[intOf];omega
   .obtain rfl:i=l.length:=BJ
    go_wp2_with fail;exact M.o _ _ ⟨_,some g,f,H,rfl,⟨AV.mk' b.o (by rw[BQ]) (by have:=ac.o;rw[List.length_append,BQ] at this |-;exact this) hc1 hc2,A.o⟩,a.o⟩
section
theorem XL{w:World}{g:Nat}{rest:List Value}(m:Nat)(V:Nat->List Value)(hV:∀i,(V i).length=51)(h:Holds w g 47 (flat 51 m V++rest))(j:Nat)(hj:j<m):w.rangeAt g (j*51) (V j):=
 h.CB (j*51) λt v a=>by
  have c:t<51:=by have:=(List.getElem?_eq_some_iff.1 a).1;rw[hV] at this;exact this
  have b:j*51+t<m*51:=by have:(j+1)*51<=m*51:=Nat.mul_le_mul_right 51 BJ;omega
  rw[List.getElem?_append_left (by rw[BQ];exact b),EW 51 m V j t hj c (hV j)];exact a
theorem fC(xs:List Value)(V:Nat->List Value)(hV:∀i,(V i).length=51)(j:Nat):(xs++flat 51 j V)++V j=xs++flat 51 (j+1) V:=by rw[List.append_assoc,II Iz (λi _=>hV i)]
def qx(gC n ml:Nat)(dv nv clv cav hv:Value)(xs:List Value)(V:Nat->List Value)(obl:Option Nat)(w:World)(j:Nat)(wr:World):Prop:=∃lv' ob',Holds wr gC 85 (Dq n dv nv clv cav lv' hv)/\AV wr lv' ob' 47 51 (ml+j) (xs++flat 51 j V)/\(ob'=obl\/∃k,ob'=some k/\w.heap.size<=k)/\Mv (λk=>k=gC\/obl=some k) w wr
theorem P8{L:List Value}(h:∀u∈L,u.oneCell'=true):L.toArray.all (·.oneCell')=true:=by simpa using h
theorem N8{L:List Value}(h:L.length=51):(prog.info? 47).map (·.size)=some L.length:=by rw[h];kernel_rfl
def WC(k:Nat)(c:Cm)(rep:Rep):Ev:=⟨2,(k:Int)+1,c,rep⟩
def retA(cm:Nat->Cm)(a:An):Ev:=WC a.k (cm a.k) a.r
theorem VS(e:Ev){v:Value}(h:CZ v):∀u∈Kw e v,u.oneCell'=true:=by obtain⟨p,n,c,rfl⟩:=h;simp[Kw,Cm.cells,Bq,Value.oneCell']
theorem YF:∀(l:List An) (i:Nat) (hi:i<l.length) (rest:List Value) (j:Nat) v,(Nq l[i].k l[i].s l[i].r l[i].v)[j]?=some v->(Wp l++rest)[i*7+j]?=some v
 | x :: l,0,_,rest,j,v,h=>by have hj:j<7:=(List.getElem?_eq_some_iff.1 h).1;show ((Nq x.k x.s x.r x.v++Wp l)++rest)[0*7+j]?=_;rw[List.append_assoc,Nat.zero_mul,Nat.zero_add,List.getElem?_append_left (by show j<7;exact hj)];exact h
 | x :: l,i+1,hi,rest,j,v,h=>by show ((Nq x.k x.s x.r x.v++Wp l)++rest)[(i+1)*7+j]?=_;rw[List.append_assoc,List.getElem?_append_right (by show 7<=_;omega),show (i+1)*7+j - (Nq x.k x.s x.r x.v).length=i*7+j by show (i+1)*7+j-7=_;omega];exact YF l i (by simpa using hi) rest j v h
def Eh(w:World)(gcl:Nat->Nat)(sq:Nat->Int)(cm:Nat->Cm)(wt:Nat->Bool):Prop:=∀k,k<8->∃tg tk,OY w (gcl k) ((k:Int)+1) (sq k) (cm k) (wt k) tg tk
section
variable {w w':World} {gcl:Nat->Nat} {sq:Nat->Int} {cm:Nat->Cm} {wt wt':Nat->Bool}
theorem Eh.bel(h:Eh w gcl sq cm wt)(hb:Below w.heap.size w w'):Eh w' gcl sq cm wt:=λk a=>by obtain⟨b,c,h⟩:=h k a;exact⟨b,c,Holds.bel h hb⟩
instance:Bl w w' (Eh w gcl sq cm wt) (Eh w' gcl sq cm wt):=⟨λhb h=>Eh.bel h hb⟩
theorem Eh.mv{G:Ap}(h:Eh w gcl sq cm wt)(hm:Mv G w w')(hG:∀k,k<8->¬G (gcl k)):Eh w' gcl sq cm wt:=λk a=>by obtain⟨b,c,h⟩:=h k a;exact⟨b,c,Holds.mv h hm (hG k a)⟩
theorem Eh.ne(h:Eh w gcl sq cm wt){i j:Nat}(hi:i<8)(hj:j<8)(hij:i≠j):gcl i≠gcl j:=λc=>by obtain⟨d,g,a⟩:=h i hi;obtain⟨f,k,b⟩:=h j hj;rw[c] at a;have e:=(Holds.cell a 0).symm.trans (Holds.cell b 0);simp only[Dk,List.getElem?_cons_zero,Option.some.injEq,Value.int.injEq,true_and] at e;omega
theorem Eh.MH(h:Eh w gcl sq cm wt)(hw:∀k,k<8->wt' k=wt k):Eh w gcl sq cm wt':=λk a=>by rw[hw k a];exact h k a
theorem Eh.told{c:Nat}{tg tk:Int}(h:Eh w gcl sq cm wt)(hm:Mv (λk=>k=gcl c) w w')(hc:c<8)(hn:OY w' (gcl c) ((c:Int)+1) (sq c) (cm c) false tg tk):Eh w' gcl sq cm λk=>wt k&&!(k==c):=λk a=>by
 by_cases e:k=c
 .subst e;exact⟨tg,tk,by simpa using hn⟩
 .obtain⟨tg2,tk2,h2⟩:=h k a;have:(wt k&&!(k==c))=wt k:=by simp[e]
  show ∃tg tk,OY w' _ _ _ _ (wt k&&!(k==c)) tg tk;rw[this];exact⟨tg2,tk2,Holds.mv h2 hm (h.ne a hc e)⟩
end
def um(wt:Nat->Bool)(l:List An)(k:Nat):Bool:=wt k&&!(l.any λa=>k==a.k)
def Y0(gC n mm:Nat)(dv nv clv cav lv:Value)(obl2:Option Nat)(xs:List Value)(gcl:Nat->Nat)(sq:Nat->Int)(cm:Nat->Cm)(wt:Nat->Bool)(ev:List Ev)(pb0:Nat->Option Nat)(obh:Option Nat)(G:Ap)(w1:World)(al:List An)(wr:World):Prop:=
 ∃hv ob pv pb,Holds wr gC 85 (Dq n dv nv clv cav lv hv)/\AV wr lv obl2 47 51 mm xs/\Gz wr hv ob (ev++al.map (retA cm)) pv pb/\(ob=obh\/∃k,ob=some k/\w1.heap.size<=k)/\(∀i,i<(ev++al.map (retA cm)).length->∀g,pb i=some g->(i<ev.length/\pb0 i=some g)\/w1.heap.size<=g)/\Eh wr gcl sq cm (um wt al)/\Mv G w1 wr
theorem lY{s m:Nat}{V V':Nat->List Value}(hs:0<s)(h:∀i,i<m->V i=V' i):flat s m V=flat s m V':=by unfold flat;refine List.map_congr_left λt b=>?_;have a:t<m*s:=List.mem_range.1 b;rw[h (t / s) (Nat.div_lt_of_lt_mul (by rw[Nat.mul_comm];exact a))]
theorem Gz.snoc{w:World}{hv v':Value}{ob obv:Option Nat}{l:List Ev}{e:Ev}{pv:Nat->Value}{pb:Nat->Option Nat}(h:AV w hv ob 55 14 (l.length+1) (flat 14 l.length (JF l pv)++Kw e v'))(hp:∀i,i<l.length->Ad w (pv i) (pb i) (l.getD i .zero).r.ps)(hv':Ad w v' obv e.r.ps) :Gz w hv ob (l++[e]) (Gg pv l.length v') (Gg pb l.length obv):=by
 have c:∀i,i<l.length->(l++[e]).getD i .zero=l.getD i .zero:=λi a=>by rw[List.getD_eq_getElem?_getD,List.getD_eq_getElem?_getD,List.getElem?_append_left a]
 have d:(l++[e]).getD l.length .zero=e:=by rw[List.getD_eq_getElem?_getD,List.getElem?_append_right Ve,Nat.sub_self];rfl
 have f:flat 14 l.length (JF l pv)++Kw e v'=flat 14 (l.length+1) (JF (l++[e]) (Gg pv l.length v')):=by
  rw[<-II (V:=JF (l++[e]) (Gg pv l.length v')) Iz (λ_ _=>rfl)]
  congr 1
  .refine lY Iz λi a=>?_;unfold JF;rw[c i a,Dv _ _ _ _ BJ]
  .unfold JF;rw[d,D8]
 refine⟨by rw[List.length_append];exact f▸h,λi a=>?_⟩;rw[List.length_append,List.length_singleton] at a;by_cases b:i=l.length
 .subst b;rw[d,D8,D8];exact hv'
 .rw[c i BJ,Dv _ _ _ _ b,Dv _ _ _ _ b];exact hp i BJ
theorem Gz.keep{w w':World}{G:Ap}{v:Value}{ob:Option Nat}{l:List Ev}{pv:Nat->Value}{pb:Nat->Option Nat}(h:Gz w v ob l pv pb)(hm:Mv G w w')(h1:∀g,ob=some g->¬G g)(h2:∀i,i<l.length->∀g,pb i=some g->¬G g):Gz w' v ob l pv pb:=⟨AV.mv h.1 hm h1,λi a=>(h.2 i a).mv hm (h2 i a)⟩
theorem Y0.snoc{gC n mm:Nat}{dv nv clv cav lv hv:Value}{obl2:Option Nat}{xs:List Value}{gcl:Nat->Nat}{sq:Nat->Int}{cm:Nat->Cm}{wt:Nat->Bool}{ev:List Ev}{pb0:Nat->Option Nat}{obh ob obv:Option Nat}{G:Ap}{w1 wr:World}{al:List An}{a:An}{pv:Nat->Value}{pb:Nat->Option Nat}{v:Value} (hc:Holds wr gC 85 (Dq n dv nv clv cav lv hv)) (hl:AV wr lv obl2 47 51 mm xs) (ho:AV wr hv ob 55 14 ((ev++al.map (retA cm)).length+1) (flat 14 (ev++al.map (retA cm)).length (JF (ev++al.map (retA cm)) pv)++Kw (retA cm a) v)) (hp:∀i,i<(ev++al.map (retA cm)).length->Ad wr (pv i) (pb i) ((ev++al.map (retA cm)).getD i .zero).r.ps) (hv':Ad wr v obv a.r.ps) (hob:ob=obh\/∃k,ob=some k/\w1.heap.size<=k) (hpb:∀i,i<(ev++al.map (retA cm)).length->∀g,pb i=some g->(i<ev.length/\pb0 i=some g)\/w1.heap.size<=g) (hob3:∀x,obv=some x->w1.heap.size<=x) (hcs:Eh wr gcl sq cm λk=>um wt al k&&!(k==a.k)) (hm:Mv G w1 wr):Y0 gC n mm dv nv clv cav lv obl2 xs gcl sq cm wt ev pb0 obh G w1 (al++[a]) wr:=by
 have e:ev++(al++[a]).map (retA cm)=(ev++al.map (retA cm))++[retA cm a]:=Vj
 refine⟨hv,ob,Gg pv (ev++al.map (retA cm)).length v,Gg pb (ev++al.map (retA cm)).length obv,hc,hl,?_,hob,?_,hcs.MH λk _=>by simp[um,Bool.and_assoc],hm⟩
 .rw[e];exact Gz.snoc ho hp hv'
 .rw[e];intro i c g b;rw[List.length_append,List.length_singleton] at c;by_cases h:i=(ev++al.map (retA cm)).length
  .subst h;rw[D8] at b;exact .inr (hob3 g b)
  .rw[Dv _ _ _ _ h] at b;exact hpb i BJ g b
variable [In]
theorem dW(gC gN gCl cCl gCa n cN i ml m:Nat)(gcl:Nat->Nat)(rC CA:List Value)(sq:Nat->Int)(cm:Nat->Cm)(wt:Nat->Bool)(al:List An)(ev:List Ev)(pv0:Nat->Value)(pb0:Nat->Option Nat)(gs:Nat->Nat)(rN:List Value)(dv lv hv:Value)(xs:List Value)(ts:Nat->Nat)(V:Nat->List Value)(R:World->World->Prop)(w:World) (hal:∀a∈al,a.k<8/\sq a.k=a.s/\wt a.k=true/\a.r.ps.length<=1000/\∀(j:Nat) v,(cm a.k).cells[j]?=some v->CA[a.k*7+j]?=some v) (hnd:(al.map An.k).Nodup) (hle:ev.length+al.length<=1000) (h:Holds w gC 85 (Dq n dv (.slice (some ⟨gN,0,none⟩) n cN) (.slice (some ⟨gCl,0,none⟩) 8 cCl) (.slice (some ⟨gCa,0,none⟩) 8 8) lv hv)) (hN:Holds w gN 59 (ptrs n gs++rN)) (hi:i<n) (hcN:n<=cN) (hV:∀j,(V j).length=51) (hV1:∀j,∀u∈V j,u.oneCell'=true) (hVt:∀j,j<m->(V j)[2]?=some (.int .i64 (ts j))) (hVb:∀j (w:World),(Instr.buildSlice 34 1 #[(0,.agg (V j).toArray)]).run prog w=.ok (.slice (some ⟨w.heap.size,0,none⟩) 1 1) (w.alloc (.cells (V j).toArray 47))) (hts:∀i,i<m->ts i<n) (hml:ml+m<=1000) (KO:Calls prog 54 #[.pointer (some ⟨gs i,0,none⟩)] w λe w1=>∃o a obo obl oba obh,e=.returned (.tuple #[o,a])/\R w w1/\Holds w1 gC 85 (Dq n dv (.slice (some ⟨gN,0,none⟩) n cN) (.slice (some ⟨gCl,0,none⟩) 8 cCl) (.slice (some ⟨gCa,0,none⟩) 8 8) lv hv)/\AV w1 o obo 47 51 m (flat 51 m V)/\AV w1 lv obl 47 51 ml xs/\(∀k,obo=some k->obl≠some k)/\AnsAt w1 a oba al/\Gz w1 hv obh ev pv0 pb0/\Holds w1 gCl 92 (ptrs 8 gcl++rC)/\Holds w1 gCa 23 CA/\Eh w1 gcl sq cm wt) :Calls prog 31 #[.pointer (some ⟨gC,0,none⟩),.int .i64 i] w λe w'=>e=.returned (.tuple #[])/\∃w1 obl obh lv' ob',R w w1/\AV w1 lv obl 47 51 ml xs/\Gz w1 hv obh ev pv0 pb0/\(ob'=obl\/∃k,ob'=some k/\w1.heap.size<=k)/\Y0 gC n (ml+m) dv (.slice (some ⟨gN,0,none⟩) n cN) (.slice (some ⟨gCl,0,none⟩) 8 cCl) (.slice (some ⟨gCa,0,none⟩) 8 8) lv' ob' (xs++flat 51 m V) gcl sq cm wt ev pb0 obh (λk=>k=gC\/obl=some k\/obh=some k\/∃c,c<8/\k=gcl c) w1 al w':=by
 obtain⟨KO,hts,hV1,hVt,hVb,c7,da⟩:=oC KO hts hV1 hVt hVb hal hnd;have en:(i:Int)<(n:Int):=BJ
 have a2:=Am h 2;have p:=hN.cell i;rw[MB n gs rN i hi] at p;clear h hN hal hnd;go_in;go_wp2_with fail;refine KO.mono ?_;rintro e w1 ⟨o,a,obo,obl,oba,obh,rfl,hr,B,ho,hl,dy,T,Y,an,am,X⟩;have em:∀k,obl=some k->k≠gC:=hl.Hw B Iz;have dn:∀k,obo=some k->k≠gC:=ho.Hw B Iz;obtain⟨po,co,rfl⟩:∃po co,o=.slice po m co:=by
  rcases ho.cases with⟨r,_,r2,_⟩|⟨_,_,_,r,_⟩
  .subst r2;exact⟨_,_,r⟩
  .exact⟨_,_,r⟩
 obtain⟨pa,ca,rfl⟩:∃pa ca,a=.slice pa (al.length:Nat) ca:=by
  rcases T.own.cases with⟨r,_,r2,_⟩|⟨_,_,_,r,_⟩
  .rw[r,r2];exact⟨_,_,rfl⟩
  .exact⟨_,_,r⟩
 have a7:∀(t:TypeId) (k:Nat) (L:List Value),Holds w1 k t L->t≠47->obl≠some k:=λt k L d ht h=>hl.Hw d (Ne.symm ht) k h rfl;have de:∀g,obh=some g->obl≠some g:=AV.Ey Y.1 hl Iz;have dd:∀g,obh=some g->g≠gC/\∀c,c<8->g≠gcl c:=λg D=>⟨Y.1.Hw B Iz g D,λc I=>by
  obtain⟨tg,tk,h⟩:=X c I;exact Y.1.Hw (show Holds w1 _ 132 _ from h) Iz g D⟩
 have bm:∀c,c<8->gcl c≠gC/\obl≠some (gcl c):=λc I=>by obtain⟨tg,tk,h⟩:=X c I;exact⟨(show Holds w1 _ 132 _ from h).ne_of B Iz,a7 _ _ _ (show Holds w1 _ 132 _ from h) Iz⟩
 have aa:gCl≠gC/\gCa≠gC/\(∀c,c<8->gCl≠gcl c/\gCa≠gcl c)/\obl≠some gCl/\obl≠some gCa/\obh≠some gCl/\obh≠some gCa:=⟨an.ne_of B Iz,am.ne_of B Iz,λc I=>by
  obtain⟨tg,tk,h⟩:=X c I;exact⟨an.ne_of (show Holds w1 _ 132 _ from h) Iz,am.ne_of (show Holds w1 _ 132 _ from h) Iz⟩,a7 _ _ _ an Iz,a7 _ _ _ am Iz,λh=>Y.1.Hw an Iz _ h rfl,λh=>Y.1.Hw am Iz _ h rfl⟩
 have ch:∀k,(oba=some k\/∃a∈al,a.ob=some k)->k≠gC/\obl≠some k/\obh≠some k/\∀c,c<8->k≠gcl c:=by
  rintro k (d|⟨a,ha,d⟩)
  .exact⟨T.own.Hw B Iz k d,λh=>AV.Ey T.own hl Iz k d h,λh=>AV.Ey T.own Y.1 Iz k d h,λc I=>by
    obtain⟨tg,tk,h⟩:=X c I;exact T.own.Hw (show Holds w1 _ 132 _ from h) Iz k d⟩
  .have h1:=T.ps a ha;exact⟨AV.Hw h1 B Iz k d,λh=>AV.Ey h1 hl Iz k d h,λh=>AV.Ey h1 Y.1 Iz k d h,λc I=>by
    obtain⟨tg,tk,h⟩:=X c I;exact AV.Hw h1 (show Holds w1 _ 132 _ from h) Iz k d⟩
 have ci:∀i,i<ev.length->∀g,pb0 i=some g->g≠gC/\obl≠some g:=λi hi g D=>⟨AV.Hw (Y.2 i hi) B Iz g D,λh=>AV.Ey (Y.2 i hi) hl Iz g D h⟩;obtain⟨b4,b8,c8,b6,b5,b7,b2,b3⟩:=ed T Y Y an am X ch ci;obtain⟨HR,HO,HL,b9⟩:=bY hr ho hl (show qx gC n ml dv (.slice (some ⟨gN,0,none⟩) n cN) (.slice (some ⟨gCl,0,none⟩) 8 cCl) (.slice (some ⟨gCa,0,none⟩) 8 8) hv xs V obl w1 0 w1 from⟨lv,obl,B,by rw[SY,List.append_nil];exact hl,.inl rfl,Mv.refl _ _⟩);clear hr B ho hl KO a2 p T Y an am X ch ci a7;go_wp2_with fail;go_loopw [23] (λvi wr=>∃j:Nat,vi=.int .i64 (j:Int)/\j<=m/\qx gC n ml dv (.slice (some ⟨gN,0,none⟩) n cN) (.slice (some ⟨gCl,0,none⟩) 8 cCl) (.slice (some ⟨gCa,0,none⟩) 8 8) hv xs V obl w1 j wr) (λvi _=>m - (intOf vi).toNat);case atStart=>exact⟨0,rfl,Nat.zero_le _,b9.o⟩
 case round=>
  obtain⟨j,rfl,hj,hJ⟩:=hrel;clear b9;by_cases dw:j=m
  .subst dw;obtain⟨lv',ob',B,hl,ay,N⟩:=hJ;have HJ:=qh (show Y0 gC n (ml+j) dv (.slice (some ⟨gN,0,none⟩) n cN) (.slice (some ⟨gCl,0,none⟩) 8 cCl) (.slice (some ⟨gCa,0,none⟩) 8 8) lv' ob' (xs++flat 51 j V) gcl sq cm wt ev pb0 obh (λk=>k=gC\/obl=some k\/obh=some k\/∃c,c<8/\k=gcl c) w1 (al.take 0) wr from
    ⟨hv,obh,pv0,pb0,B,hl,by simpa using Gz.keep b8.o N (λg D y=>y.elim (dd g D).1 (de g D)) (λi hi g D y=>y.elim (b3.out i hi g D).1 (b3.out i hi g D).2),.inl rfl,λi hi g D=>.inl ⟨by simpa using hi,D⟩,(b7.mv N λk d y=>y.elim (bm k d).1 (bm k d).2).MH λk d=>by simp[um],N.more λk d=>d.imp id .inl⟩)
   have es:=N.size;have d2:=qh ay;clear B hl N ay b8 b7;go_wp2_with fail;go_loopw [55] (λvi d8=>∃i:Nat,vi=.int .i64 (i:Int)/\i<=al.length/\Y0 gC n (ml+j) dv (.slice (some ⟨gN,0,none⟩) n cN) (.slice (some ⟨gCl,0,none⟩) 8 cCl) (.slice (some ⟨gCa,0,none⟩) 8 8) lv' ob' (xs++flat 51 j V) gcl sq cm wt ev pb0 obh (λk=>k=gC\/obl=some k\/obh=some k\/∃c,c<8/\k=gcl c) w1 (al.take i) d8) (λvi _=>al.length - (intOf vi).toNat);case atStart=>exact⟨0,rfl,Nat.zero_le _,HJ.o⟩
   case round=>
    clear HJ;obtain⟨i,rfl,hi,hJ⟩:=hrel;by_cases du:i=al.length
    .subst du;rw[List.take_length] at hJ;have bg:=qh hJ;clear hJ b4 b6 b5;go_wp2_with fail;exact bE ⟨rfl,w1,obl,obh,lv',ob',HR.o,HL.o,c8.o,d2.out,bg.o⟩
    .have hi2:i<al.length:=BJ
     obtain⟨d5,b1,pv,pb,B,hl,ao,az,d3,X,N⟩:=hJ;have br:al[i]∈al:=List.getElem_mem hi2;obtain⟨U,bv,bb,bu,bn⟩:=c7.o _ br;have ba:um wt (al.take i) al[i].k=true:=by
      unfold um;rw[bb,Bool.true_and,Bool.not_eq_true',List.any_eq_false];intro a ha he;obtain⟨x,O,d7⟩:=List.mem_take_iff_getElem.1 ha;have h1:=da.o;have H:(al.map An.k)[x]'(by rw[List.length_map];omega)=(al.map An.k)[i]'(by rw[List.length_map];omega):=by rw[List.getElem_map,List.getElem_map,d7];exact(beq_iff_eq.1 he).symm
      have:=(List.getElem_inj h1).1 H;omega
     have T:=b4.mv N (λk d y=>by obtain⟨h1,H,h3,h4⟩:=b2.out k (.inl d);rcases y with h|h|h|⟨c,I,h⟩;exact h1 h;exact H h;exact h3 h;exact h4 c I h) (λa ha k d y=>by obtain⟨h1,H,h3,h4⟩:=b2.out k (.inr ⟨a,ha,d⟩);rcases y with h|h|h|⟨c,I,h⟩;exact h1 h;exact H h;exact h3 h;exact h4 c I h);have ak:=T.ps _ br;obtain⟨ga,ea,ra,dl,er,ee,ef,av,_⟩:=T.own.blk BJ;cases dl;have a9:wr.rangeAt ga (i*7) (Nq al[i].k al[i].s al[i].r al[i].v):=av.CB (i*7) (YF al i hi2 ra);have c4:al.take (i+1)=al.take i++[al[i]]:=List.take_succ_eq_append_getElem hi2;obtain⟨bd,bc,a6,bz⟩:=ak.CZ;generalize dk:al[i]=a at U bv bb bu bn ba ak a9 c4 bz br;obtain⟨ck,d9,Q,va,bl⟩:=a;simp only at U bv bb bu bn ba ak a9 bz;subst bz bv;obtain⟨tg,tk,ah⟩:=X ck U;rw[ba] at ah;have ap:∀c,c<8->∃L,Holds wr (gcl c) 132 L:=λc I=>by obtain⟨tg,tk,h⟩:=X c I;exact⟨_,h⟩
     have cj:ga≠gC/\gCl≠gC/\gCa≠gC/\∀k,k<8->gcl k≠gC:=⟨av.ne_of B Iz,aa.1,aa.2.1,λk d=>(bm k d).1⟩;have dt:∀k,k<8->ga≠gcl k/\gCl≠gcl k/\gCa≠gcl k:=λk d=>⟨by obtain⟨L,h⟩:=ap k d;exact av.ne_of h Iz,aa.2.2.1 k d⟩;have cp:∀g,b1=some g->∀k,k<8->g≠gcl k:=λg D k d=>by obtain⟨L,h⟩:=ap k d;exact ao.1.Hw h Iz g D
     have cn:∀g,b1=some g->g≠gC/\g≠gcl ck:=λg D=>⟨ao.1.Hw B Iz g D,cp g D ck U⟩;have dc:∀M,M<(ev++(al.take i).map (retA cm)).length->∀g,pb M=some g->¬g=gcl ck:=λM H g D=>by obtain⟨L,h⟩:=ap ck U;exact AV.Hw (ao.2 M H) h Iz g D
     have di:∀x,bl=some x->x≠gC/\x≠gcl ck:=λx O=>⟨AV.Hw ak B Iz x O,by obtain⟨L,h⟩:=ap ck U;exact AV.Hw ak h Iz x O⟩;have df:∀k,ob'=some k->k≠gcl ck:=λk d=>by obtain⟨L,h⟩:=ap ck U;exact hl.Hw h Iz k d
     have dh:∀k,ob'=some k->k≠gC:=hl.Hw B Iz;have dg:∀k,ob'=some k->b1≠some k:=λk d y=>AV.Ey hl ao.1 Iz k d y;have ek:(ev++(al.take i).map (retA cm)).length<=1000:=by rw[List.length_append,List.length_map,List.length_take];omega
     have d4:=N.size;have hG:∀k,(gCl=k\/gCa=k)->¬(k=gC\/obl=some k\/obh=some k\/∃c,c<8/\k=gcl c):=by
      rintro k (rfl|rfl) (h|h|h|⟨c,I,h⟩)
      .exact aa.1 h
      .exact aa.2.2.2.1 h
      .exact aa.2.2.2.2.2.1 h
      .exact(aa.2.2.1 c I).1 h
      .exact aa.2.1 h
      .exact aa.2.2.2.2.1 h
      .exact aa.2.2.2.2.2.2 h
      .exact(aa.2.2.1 c I).2 h
     obtain⟨KK,KT,KP,f,G,ac,HA,A⟩:=ed (UF ((ck:Int)+1) BJ BJ) (λW (h:OY W (gcl ck) ((ck:Int)+1) (sq ck) (cm ck) true tg tk)=>ja (gcl ck) ((ck:Int)+1) (sq ck) (cm ck) tg tk (.int .i64 Q.why) (.bool Q.fd) (.string Q.val) (.int .i64 Q.ver) (.slice bd bc a6) W h) (λW h=>F5 (.slice bd bc a6) bl Q.ps W h bu) B hl ak av ao;obtain⟨F,l,af,J,ab,ce,E⟩:=oC X N (b6.mv N (hG _ (.inl rfl))) (b5.mv N (hG _ (.inr rfl))) (show Holds wr (gcl ck) 132 _ from ah) a9 (Base.start wr);clear B hl ak av ao X N ah a9 T ap bb ba dk;go_upto_region 10 with(first|(refine lM (i*7) ce.o ?_)|(refine sW (Nq ck (sq ck) Q (.slice bd bc a6)) (AC wr _ _) ?_ (P8 (VA ck (sq ck) Q ⟨_,_,_,rfl⟩));intro w2 aw a1));have hal:Below wr.heap.size wr w2:=Below.trans ((Below.refl _ _).alloc Ve _) (a1.below Ve Vj);have el:=ab.lt;have q:=qh aw;obtain⟨f,G,HA,A,af,J⟩:=Ef hal f G HA A af J;obtain⟨ab,l,E,ac,F⟩:=Gj hal ab l E ac F;clear hal aw a1 ce;have dx:wr.heap.size≠gcl ck:=BJ
     have cq:w1.heap.size<=wr.heap.size:=d4;generalize ds:wr.heap.size=gx at q E dx cq |-;have eu:IntKind.i64.wrap ((ck:Int)+1-1)=(ck:Int):=by rw[show (ck:Int)+1-1=ck by omega];exact IntWalk.i64_in _ BJ
     have ew:IntKind.i64.wrap (ck:Int)=(ck:Int):=IntWalk.i64_in _ BJ;have eg:(0:Int)<=(ck:Int):=BJ
     have eh:(ck:Int)<8:=BJ
     obtain⟨f,G,HA,A,af,J⟩:=Ef (AY _ w2) f G HA A af J;obtain⟨ab,l,q,E,ac,F⟩:=Ef (AY _ w2) ab l q E ac F;refine Ed [14] 16 (λhSn=>?_);generalize w2.drew=wd at f G HA A af J ab l q E ac F hSn |-;simp only[List.replicate];refine CW 0 ?_;refine BO 1 [2,3,4,5,6,7,8,9,10,11,12,13,14,15] (λw z=>Am (q.bel z) 0) ?_;refine BN 2 rfl (λK C=>?_);go_simp;refine Ah (KK.o _) ?_;rintro wk hb;have hSn:=AO hSn hb;clear hb;refine BR C ?_;clear C;refine J9 3 ?_;refine BO 7 [11,12,14,15] (λw z=>Am (f.bel z) 3) ?_;refine CW 8 ?_;refine BO 9 [10,11,12,14,15] (λw z=>Am (q.bel z) 0) ?_;refine F9 10 ?_;refine JL 12 [14,15] (some 71) (?vg12) rfl (Or.inl ⟨by rfl,?hg12⟩) hSn ?rg12;case hg12=>
      intro w z;have bp:=(af.bel z).cell ck;rw[MB 8 gcl rC ck U] at bp;go_simp;try with_reducible rfl
     simp only[Act.put,zA,zB,zC];refine BO 13 [14,15] (λw z=>Gl (q.bel z) 0 1 2 3 4 5 6) ?_;refine BN 14 rfl (λK C=>?_);go_simp;refine Ah (KT.o _ (ab.bel hSn)) ?_;rintro w5 ⟨ah,ht⟩;have ad:Mv (λk=>k=gcl ck) _ w5:=Mv.AZ ht rfl;obtain⟨f,G,A,F,J,q,l,ac⟩:=ed ((f.bel hSn).mv ad (Ne.symm (cj.2.2.2 ck U))) ((G.bel hSn).mv ad df) (Gz.keep (A.bel hSn) ad (λg D=>(cn g D).2) dc) (Eh.told (F.bel hSn) ad U ah) ((J.bel hSn).mv ad (dt ck U).2.2) ((q.bel hSn).mv ad dx) ((l.bel hSn).mv ad (λk d=>.inl (.inr (.inr (.inr ⟨ck,U,d⟩))))) ((ac.bel hSn).mv ad (λx O y=>(di x O).2 y));have ab:=qh ah;have ec:=ht.size;clear ah ht ad;refine BR C ?_;clear C;refine CW 15 ?_ (hS:=JI);refine BA ?_;clear hSn E HA af ab;have x6:=Am q.o 6;go_wp2_with fail;refine(KP.o _ ac.o).mono ?_;rintro e w6 ⟨v2,c6,rfl,bs,cx,bo⟩;have cv:=l.size;have dz:∀x,c6=some x->w1.heap.size<=x:=λx O=>Nat.le_trans cv (cx x O);obtain⟨p2,n2,c2,rfl⟩:=bs.CZ;have Z:=qh bs;clear bs cx ac;obtain⟨f,G,A,J,F,l⟩:=Ef bo f G A J F l;have q:=D9 bo q;clear bo x6;go_upto_region 12 with(first|(refine sC 6 q.o (.slice p2 n2 c2) ?_;intro w7 cu c3));have a8:∀t L k,Holds w6 k t L->t≠121->k≠gx:=λt L k h ht=>h.ne_of q.o ht;have ae:Mv (λk=>k=gx) w6 w7:=Mv.AZ c3 rfl;have a3:=q.o;obtain⟨q,Z,G,A,J,F,f,l⟩:=ed (show Holds w7 gx 121 (Nq ck (sq ck) Q (.slice p2 n2 c2)) from cu) (show Ad w7 (.slice p2 n2 c2) c6 Q.ps from AV.mv Z.o ae (AV.Hw Z.o a3 Iz)) (G.mv ae (G.Hw a3 Iz)) (Gz.keep A.o ae (A.1.Hw a3 Iz) (λM H=>AV.Hw (A.2 M H) a3 Iz)) (J.mv ae (a8 _ _ _ J.o Iz)) (F.mv ae (λk d=>by obtain⟨tg,tk,h⟩:=F.o k d;exact a8 _ _ _ (show Holds w6 _ 132 _ from h) Iz)) (f.mv ae (a8 _ _ _ f.o Iz)) (l.mv ae (λk d=>.inr (d▸cq)));clear cu c3 ae a8 a3;have bf:=qh (λ(w':World) (h:Below w7.drew.heap.size w7.drew w')=>((J.bel (AY _ w7)).bel h).CB (ck*7) bn);obtain⟨f,G,A,J,F,l⟩:=Ef (AY _ w7) f G A J F l;obtain⟨q,Z⟩:=Ce (AY _ w7) q Z;refine Ed [20,23] 24 (λhSn=>?_);generalize w7.drew=wd at f G A J F l q Z bf hSn |-;simp only[List.replicate];refine J9 0 ?_;refine BO 4 [20,21,22,23] (λw z=>Am (f.bel z) 6) ?_;refine CW 5 ?_;refine BO 6 [18,19,20,21,22,23] (λw z=>Am (q.bel z) 0) ?_;refine ES 7 ?_;refine BO 10 [14,15,18,19,20,21,22,23] (λw z=>Am (f.bel z) 4) ?_;refine CW 11 ?_;refine BO 12 [13,14,15,18,19,20,21,22,23] (λw z=>Am (q.bel z) 0) ?_;refine F9 13 ?_;refine JL 15 [18,19,20,21,22,23] (some 96) (.agg ([.int .i64 (cm ck).k,.int .i64 (cm ck).c,.int .i64 (cm ck).s,.string (cm ck).a,.string (cm ck).b,.string (cm ck).o,.string (cm ck).v]).toArray) rfl (yieldsIf_load_mid (by rfl) 23 _ rfl gCa (ck*7) rfl ([.int .i64 (cm ck).k,.int .i64 (cm ck).c,.int .i64 (cm ck).s,.string (cm ck).a,.string (cm ck).b,.string (cm ck).o,.string (cm ck).v]) _ (λw z=>bf.o w z) underlying23 rfl (by as_aux_lemma=>kernel_rfl)) hSn ?rg30;simp only[Act.put,zA,zB,zC];refine CW 16 ?_;refine BO 17 [18,19,20,21,22,23] (λw z=>RU (q.bel z) 2 3 4 5 6) ?_;refine CW 18 ?_;refine BN 19 rfl (λK C=>?_);refine tU 55 (.agg (Kw (WC ck (cm ck) Q) (.slice p2 n2 c2)).toArray) (Kw (WC ck (cm ck) Q) (.slice p2 n2 c2)) ?_;intro wa ax au;have hSn:=AO hSn au;have ag:=qh ax;generalize wd.heap.size=gn at ag |-;obtain⟨f,G,A,F,l,Z⟩:=Ef hSn f G A F l Z;clear ax au;change K (Act.put _ (some 100) _) _;refine BR C ?_;clear C;refine BN 20 rfl (λK C=>?_);refine tS (.agg xk.toArray) 14 168 A.1 (Kw (WC ck (cm ck) Q) (.slice p2 n2 c2)) (ag.reads 0 _ (λj v hv=>by rw[Nat.zero_add];exact hv)) ?_ (VS _ ⟨p2,n2,c2,rfl⟩);intro v9 b0 w9 cw cz aj;have eq:=l.size;obtain⟨aq,cb,cg,cd,bi,bj,ar⟩:=oC (f.mv aj (λy=>(cn _ y).1 rfl)) (G.mv aj (λk d y=>dg k d y)) (F.mv aj (λk d y=>cp _ y k d rfl)) (l.mv aj (λk d=>by rcases az with h|⟨k2,h,H⟩;exact .inl (.inr (.inr (.inl (h▸d))));rw[h] at d;cases d;exact .inr H)) (Z.mv aj (λx O y=>AV.Ey Z.o A.1 Iz x O y)) (show ∀M,M<(ev++(al.take i).map (retA cm)).length->Ad w9 (pv M) (pb M) ((ev++(al.take i).map (retA cm)).getD M .zero).r.ps from λM H=>(A.2 M H).mv aj (λx O y=>AV.Ey (A.2 M H) A.1 Iz x O y)) cw;have d1:b0=obh\/∃k,b0=some k/\w1.heap.size<=k:=by rcases cz with h|⟨k,h,H⟩;rw[h];exact az;exact .inr ⟨k,h,BJ⟩
     have dr:∀k,b0=some k->k≠gC:=(λk d=>by
      rcases ar.cases with⟨_,S,_⟩|⟨g1,_,_,_,S,_,_,hh,_⟩
      .rw[S] at d;cases d
      .rw[S] at d;cases d;exact hh.ne_of aq.o Iz)
     clear cw cz aj;change K (Act.put _ (some 101) _) _;refine BR C ?_;clear C;refine F9 21 ?_ (hS:=JI);refine BN 23 rfl (λK C=>?_);refine tC 6 aq.o v9 ?_ (hu:=ar.c1) (h1:=ar.c2);intro w10 cs c0;have ai:Mv (λk=>k=gC) w9 w10:=Mv.AZ c0 rfl;have bg:=qh (Y0.snoc (a:=⟨ck,sq ck,Q,.slice bd bc a6,bl⟩) cs (cb.mv ai dh) (ar.mv ai dr) (λM H=>(bj.o M H).mv ai (λx O e=>AV.ne_of (bj.o M H) aq.o Iz x O e)) (bi.mv ai (λx O e=>AV.ne_of bi.o aq.o Iz x O e)) d1 d3 dz (cg.mv ai (λk d=>cj.2.2.2 k d)) (cd.mv ai (λk d=>.inl (.inl d))));clear cs c0 ai;refine BR C ?_;clear C;refine BA ?_;clear hSn f G A J F l q aq cb cg cd ar ag Z bi bf bj;go_wp2_with fail;go_roundw;case rel=>exact⟨i+1,by go_num,BJ,by rw[c4];exact bg.o⟩
     case measure=>simp[intOf];omega
  .have hjm2:j<m:=BJ
   have eo:(j:Int)<(m:Int):=BJ
   obtain⟨lv',ob',B,hl,ay,N⟩:=hJ;have ho:=HO.mv N (λk d y=>y.elim (dn k d) (dy k d));obtain⟨go,eb,ro,bx,d5,ei,ej,cr,_⟩:=ho.blk BJ;injection bx with bx _ d6;subst bx d6;obtain⟨cf,f,P,l,az⟩:=dD (XL m V hV cr j hjm2) B hl N ay;have dj:=hVt.out j hjm2;have et:(ts j:Int)<(n:Int):=by have:=hts.out j hjm2;omega
   clear B hl N ay ho cr;obtain⟨pl,cl,rfl⟩:∃pl cl,lv'=.slice pl (ml+j:Nat) cl:=by
    rcases P.cases with⟨r,_,r2,_⟩|⟨_,_,_,r,_⟩
    .rw[r2];exact⟨_,_,r⟩
    .exact⟨_,_,r⟩
   have ep:((ml+j:Nat):Int)<4000:=BJ
   have dp:=qh (show ∀k,ob'=some k->k≠gC from λk d=>by
    rcases P.cases with⟨_,S,_⟩|⟨g1,_,_,_,S,_,_,hh,_⟩
    .rw[S] at d;cases d
    .rw[S] at d;cases d;exact hh.ne_of f.o Iz)
   have dm:=hVb.out;have E:=qh (Base.start wr);go_upto_region 4 with(first|(refine lM (j*51) cf.o ?_ (hi:=N8 (hV j)))|(refine sW (V j) (AC wr _ _) ?_ (P8 (hV1.out j)) (hi:=N8 (hV j)) (hl:=by rw[hV];rfl);intro w2 aw a1));have hal:Below wr.heap.size wr w2:=Below.trans ((Below.refl _ _).alloc Ve _) (a1.below Ve Vj);have q:=qh aw;obtain⟨f,P,l,E⟩:=En hal f P l E;clear hal aw a1 cf;generalize ds:wr.heap.size=gx at q E |-;have x2:=q.cell 2;rw[dj] at x2;obtain⟨a0,a5⟩:=Cf f.o 0 5;go_quiet (fail);obtain⟨f,P,l,E,q⟩:=Gj (Bg _ w2 nq) f P l E q;clear x2 a0 a5;generalize w2.drewN nq=w3 at f P l E q |-;go_upto_region 5 with(fail);have bk:=qh (λ(w':World) (h:Below w3.drew.heap.size w3.drew w')=>((q.bel (AY _ w3)).bel h).Af);obtain⟨f,P,l,E⟩:=En (AY _ w3) f P l E;refine Ed [7,10] 11 (λhSn=>?_);generalize w3.drew=wd at f P l E bk hSn |-;simp only[List.replicate];refine J9 0 ?_;refine BO 4 [7,8,9,10] (λw z=>Am (f.bel z) 5) ?_;refine JL 5 [6,7,8,9,10] (some 47) (.agg (V j).toArray) rfl (yieldsIf_load_mid (by rfl) 47 _ rfl gx 0 rfl (V j) _ (λw z=>bk.o w z) underlying47 rfl (N8 (hV j))) hSn ?rg41;simp only[Act.put,zA,zB,zC];refine BN 6 rfl (λK C=>?_);refine PN rfl 34 47 (.agg (V j).toArray) (V j) rfl rfl rfl (dm j) ?_;intro wa ax au;have hSn:=AO hSn au;have ag:=qh ax;generalize wd.heap.size=gn at ag |-;obtain⟨P,f,l,E⟩:=En hSn P f l E;clear ax au;change K (Act.put _ (some 48) _) _;refine BR C ?_;clear C;refine BN 7 rfl (λK C=>?_);refine tS (.agg EX.toArray) 51 480 P.o (V j) (ag.reads 0 _ (λj v hv=>by rw[Nat.zero_add];exact hv)) ?_ (hV1.out j) (hl:=by rw[hV]);intro v5 a4 w5 bt cy bq;have be:=qh (f.mv bq (λy=>dp.out _ y rfl));have cv:=l.size;have d0:a4=obl\/∃k,a4=some k/\w1.heap.size<=k:=by
    rcases cy with h|⟨k,h,H⟩
    .rcases az.out with h3|h3
     .exact .inl (h.trans h3)
     .exact .inr (h▸h3)
    .exact .inr ⟨k,h,BJ⟩
   have cc:=qh (l.mv bq (λk d=>by
    rcases az.out with h3|⟨k3,h3,h4⟩
    .exact .inl (.inr (h3▸d))
    .rw[h3] at d;cases d;exact .inr h4))
   obtain⟨p5,c5,rfl⟩:∃p5 c5,v5=.slice p5 (ml+j+1:Nat) c5:=by
    rcases bt.cases with⟨_,_,S,_⟩|⟨g1,db,_,hv,_⟩
    .omega
    .exact⟨_,db,hv⟩
   have bh:=qh (show AV w5 (.slice p5 (ml+j+1:Nat) c5) a4 47 51 (ml+(j+1)) (xs++flat 51 (j+1) V) from fC xs V hV j▸bt);have dq:∀k,a4=some k->k≠gC:=(λk d=>by
    rcases bh.cases with⟨_,S,_⟩|⟨g1,_,_,_,S,_,_,hh,_⟩
    .rw[S] at d;cases d
    .rw[S] at d;cases d;exact hh.ne_of be.o Iz)
   clear bt cy bq;change K (Act.put _ (some 49) _) _;refine BR C ?_;clear C;refine F9 8 ?_ (hS:=JI);refine BN 10 rfl (λK C=>?_);refine tC 5 be.o (.slice p5 (ml+j+1:Nat) c5) ?_;intro w6 ct bw;have c9:=qh (show qx gC n ml dv (.slice (some ⟨gN,0,none⟩) n cN) (.slice (some ⟨gCl,0,none⟩) 8 cCl) (.slice (some ⟨gCa,0,none⟩) 8 8) hv xs V obl w1 (j+1) w6 from⟨_,a4,ct,bh.touch bw dq,d0,cc.touch bw (.inl (.inl rfl))⟩);clear ct bw;refine BR C ?_;clear C;refine BA ?_;clear hSn f P l E be cc bh ag bk q;go_wp2_with fail;go_roundw;case rel=>exact⟨j+1,Vj,BJ,c9.o⟩
   case measure=>simp[intOf];omega
end
theorem iK:∀u∈EX,u.oneCell'=true:=by simp[EX,Value.oneCell']
theorem lH(g n cap i:Nat)(L:List Value)(w:World)(h:AV w (.slice (Ac g) n cap) (some g) 47 51 n L)(hone:∀u∈L,u.oneCell'=true)(hi:i<n)(hn:n<=4000) :Calls prog 49 #[.slice (Ac g) n cap,AA i,AA ((i:Int)+1)] w λe w'=>e=.returned (.slice (Ac g) (n-1:Nat) cap)/\AV w' (.slice (Ac g) (n-1:Nat) cap) (some g) 47 51 (n-1) (L.take (i*51)++L.drop ((i+1)*51))/\Touch g w w':=by
 have W:=h.len;obtain⟨g',ac,rest,z,T,h1,F,Q,R⟩:=h.blk BJ;cases T;injection z with _ _ k;subst k;obtain⟨a,N,b,E⟩:=bY Q R (Touch.refl g w) hone;have ak:(0:Int)<=i:=BJ
 have aw:IntKind.i64.wrap ((i:Int)+1)=(i:Int)+1:=by rw[IntKind.wrap_i64];omega
 have af:(0:Int)<=(i:Int)+1:=BJ
 have ag:(i:Int)+1<=n:=BJ
 have ah:(i:Int)<=(i:Int)+1:=BJ
 have ai:(n:Int)<=cap:=BJ
 have aj:(i:Int)<=n:=BJ
 have ae:(i:Int)<=cap:=BJ
 have av:((i:Int)+1).toNat=i+1:=BJ
 have ar:(cap=n-1)=False:=by simp;omega
 have ap:(n=i)=False:=by simp;omega
 have k:cap=i+1\/(cap=i+1)=False:=by by_cases h:cap=i+1<;>simp[h]
 have ao:((i:Int)=(i:Int)+1)=False:=by simp;omega
 have J:(L.take (i*51)).length=i*51:=by rw[List.length_take];omega
 have l:(L.drop ((i+1)*51)).length=(n - (i+1))*51:=by rw[List.length_drop];omega
 clear h W hone;go_in;go_upto_region 5 with(fail);obtain⟨a,b⟩:=Ce (AY _ w) a b;have t:=qh (show AV w.drew (.slice (Ac g) i cap) (some g) 47 51 i (L.take (i*51)) from AV.mk' (rest:=L.drop (i*51)++rest) (by rw[<-List.append_assoc,List.take_append_drop];exact a.o) J (by rw[<-List.append_assoc,List.take_append_drop];exact N.o) BJ F);have I:∀A,(i+1<n->A=(i+1)*51)->∀(j:Nat) v,(L.drop ((i+1)*51))[j]?=some v->w.drew.cell? ⟨g,A+j,none⟩=some v:=λA Y j v m=>by have V:=(List.getElem?_eq_some_iff.1 m).1;rw[l] at V;rw[Y BJ,a.cell];rw[List.getElem?_drop] at m;rw[List.getElem?_append_left (List.getElem?_eq_some_iff.1 m).1];exact m
 have q:=qh I;clear I;obtain⟨C,f⟩:∃C,C=cap:=⟨_,rfl⟩;have O:=qh f;clear f;rcases k with rfl|k;all_goals
  go_region_law (first|(refine EP rfl (.tmp 22) (.tmp 25) 34 rfl 47 (.agg EX.toArray) 51 480 rfl ND g i _ _ (by simp[Act.eval,Act.put]) t.out 0 (n - (i+1)) 0 (L.drop ((i+1)*51)) (by simp[Act.eval,Act.put]<;>omega) l (q.o 0 BJ) (λu y=>E.o u (List.mem_of_mem_drop y)) BJ ?_;intro K p x)|(refine EP rfl (.tmp 22) (.tmp 25) 34 rfl 47 (.agg EX.toArray) 51 480 rfl ND g i _ _ (by simp[Act.eval,Act.put]) t.out ((i+1)*51) (n - (i+1)) (cap - (i+1)) (L.drop ((i+1)*51)) (by simp[Act.eval,Act.put]<;>omega) l (q.o _ (λ_=>rfl)) (λu y=>E.o u (List.mem_of_mem_drop y)) BJ ?_;intro K p x))
  have s:i+(n - (i+1))=n-1:=BJ
  rw[s] at p;try rw[s]
  have b:=qh (b.trans x);obtain⟨g3,ad,ab,aa,U,_,_,G,c⟩:=(show AV K _ _ _ 51 (n-1) _ from p).cases.resolve_left (by rintro⟨z,_⟩;cases z);cases U;injection aa with _ _ S;subst S;obtain⟨B,D⟩:=WZ G c;have d:(L.take (i*51)++L.drop ((i+1)*51)).length=(n-1)*51:=by rw[List.length_append,J,l];omega
  have au:51<=ab.length:=by rw[List.length_append,d] at c;omega
  have al:i+1<=n:=hi;have am:(i:Int)<=(n:Int):=BJ
  have an:((n-1:Nat):Int)<=(n:Int):=BJ
  have X:=qh d;have aq:n-i=1\/i+1<n:=BJ
  obtain⟨M,r⟩:∃M,M=L.take (i*51)++L.drop ((i+1)*51):=⟨_,rfl⟩;rw[<-r] at B D X d;have P:=qh r;clear r;clear p x G c s t q a;go_wp2_with (first|(refine Ff rfl (.tmp 31) 34 rfl rfl 47 (.agg EX.toArray) rfl ND g _ _ _ BJ rfl _ 47 B.o EX (by first|(rw[show n-i=1 by omega];kernel_rfl)|(rw[show n - (n-1)=1 by omega];kernel_rfl)) (by rw[List.length_append,d,show EX.length=51 from rfl];omega) iK ?_;intro w5 H Z));rw[FD _ _ _ _ BJ] at H;have f:=O.o;refine bodyPost_ret (v:=.slice (Ac g) (n-1:Nat) C) (by simp[results,results49,go_sem];omega) rfl ?_;rw[<-P.o];refine⟨by rw[f],AV.mk' H d ?_ BJ F,b.trans Z⟩;have c:=D.o;rw[List.length_append] at c;simp only[List.length_append,List.length_drop,show EX.length=51 from rfl];omega
end Go.Proofs.YtimdpiifpibgfaaGreatDoor
