/- A part of the proof that the law TopCopies returns true for every input. -/
import Derived.Shelf.SlSortCmp.WholeK
import Derived.Test.YtimdpiifpibgfaaGreatDoorQc20
set_option linter.all false
set_option maxRecDepth 20000
set_option maxHeartbeats 16000000
open Go.RowKit Go.Maps
namespace Go.Proofs.YtimdpiifpibgfaaGreatDoor
open Tryz
section
open Go.RowKit Go.Sort
def XW:Go.Shelf.Ren:=⟨fun|6=>149|15=>218|14=>217|28=>270|29=>185|20=>262|21=>263|22=>264|23=>265|24=>266|25=>267|26=>268|27=>269|46=>301|47=>302|48=>303|49=>304|50=>305|57=>327|n=>n,fun|22=>99|24=>37|25=>251|3=>3|39=>291|0=>0|53=>274|55=>190|4=>4|46=>371|45=>370|50=>293|5=>5|9=>9|66=>400|70=>404|76=>426|77=>147|n=>n,fun|n=>n⟩
theorem jW:Go.Proofs.SlLaysF0.n6 prog XW:={
 mixed:=by kernel_rfl,
 f6:=⟨f149.name,by decide,func149.trans (congrArg some (by kernel_rfl))⟩,
 f14:=⟨f217.name,by decide,func217.trans (congrArg some (by kernel_rfl))⟩,
 f15:=func218.trans (congrArg some (by kernel_rfl)),
 f20:=⟨f262.name,by decide,func262.trans (congrArg some (by kernel_rfl))⟩,
 f21:=⟨f263.name,by decide,func263.trans (congrArg some (by kernel_rfl))⟩,
 f22:=⟨f264.name,by decide,func264.trans (congrArg some (by kernel_rfl))⟩,
 f23:=⟨f265.name,by decide,func265.trans (congrArg some (by kernel_rfl))⟩,
 f24:=⟨f266.name,by decide,func266.trans (congrArg some (by kernel_rfl))⟩,
 f25:=⟨f267.name,by decide,func267.trans (congrArg some (by kernel_rfl))⟩,
 f26:=⟨f268.name,by decide,func268.trans (congrArg some (by kernel_rfl))⟩,
 f27:=⟨f269.name,by decide,func269.trans (congrArg some (by kernel_rfl))⟩,
 f28:=func270.trans (congrArg some (by kernel_rfl)),
 f29:=func185.trans (congrArg some (by kernel_rfl)),
 f46:=⟨f301.name,by decide,func301.trans (congrArg some (by kernel_rfl))⟩,
 f47:=func302.trans (congrArg some (by kernel_rfl)),
 f48:=func303.trans (congrArg some (by kernel_rfl)),
 f49:=⟨f304.name,by decide,func304.trans (congrArg some (by kernel_rfl))⟩,
 f50:=⟨f305.name,by decide,func305.trans (congrArg some (by kernel_rfl))⟩,
 f57:=⟨f327.name,by decide,func327.trans (congrArg some (by kernel_rfl))⟩,
 t0:=underlying0,
 a0:=isAgg0,
 z0:=sizeOf0,
 v0:=zeroValue0,
 t3:=underlying3,
 a3:=isAgg3,
 z3:=Tryz.sizeOf3,
 v3:=zeroValue3,
 t4:=underlying4,
 a4:=isAgg4,
 z4:=sizeOf4,
 v4:=zeroValue4,
 t5:=underlying5,
 a5:=isAgg5,
 z5:=sizeOf5,
 v5:=zeroValue5,
 t9:=underlying9,
 a9:=isAgg9,
 z9:=sizeOf9,
 v9:=zeroValue9,
 t22:=underlying99,
 a22:=isAgg99,
 z22:=sizeOf99,
 v22:=zeroValue99,
 t25:=underlying251,
 a25:=isAgg251,
 z25:=sizeOf251,
 v25:=zeroValue251,
 t39:=underlying291,
 a39:=isAgg291,
 z39:=sizeOf291,
 v39:=zeroValue291,
 t45:=underlying370,
 a45:=isAgg370,
 z45:=sizeOf370,
 v45:=zeroValue370,
 t46:=underlying371,
 a46:=isAgg371,
 z46:=sizeOf371,
 v46:=zeroValue371,
 t50:=underlying293,
 a50:=isAgg293,
 z50:=sizeOf293,
 v50:=zeroValue293,
 t53:=underlying274,
 a53:=isAgg274,
 z53:=sizeOf274,
 v53:=zeroValue274,
 t55:=underlying190,
 a55:=isAgg190,
 z55:=sizeOf190,
 v55:=zeroValue190,
 t66:=underlying400,
 a66:=isAgg400,
 z66:=sizeOf400,
 v66:=zeroValue400,
 t70:=underlying404,
 a70:=isAgg404,
 z70:=sizeOf404,
 v70:=zeroValue404,
 t76:=underlying426,
 a76:=isAgg426,
 z76:=sizeOf426,
 v76:=zeroValue426,
 t77:=underlying147,
 a77:=isAgg147,
 z77:=sizeOf147,
 v77:=zeroValue147 }
def I4(x y:Int × Int):Bool:=decide (x.1<y.1)||(x.1==y.1&&decide (x.2<y.2))
def dW(x y:Int × Int):Int:=if I4 x y then -1 else 1
def encI(x:Int × Int):List Value:=[.int .i64 x.1,.int .i64 x.2]
theorem Oq(x y:Int × Int):ltOf dW x y=I4 x y:=by unfold ltOf dW;cases I4 x y<;>rfl
theorem kM:SWO (ltOf dW):=
 ⟨λx=>(by rw[Oq];simp[I4]),λx y z h1 h2=>(by rw[Oq] at *;simp[I4] at *;omega),λx y z h1 h2=>(by rw[Oq] at *;simp[I4] at *;omega)⟩
theorem fH(x y:Int × Int)(W:World):Calls prog 151 #[.agg #[.int .i64 x.1,.int .i64 x.2],.agg #[.int .i64 y.1,.int .i64 y.2]] W λe w'=>e=.returned (.bool (I4 x y))∧∃q os',w'=Go.Sort.grow (W.drewN q) os':=by
 have hr:(I4 x y=true∧x.1<y.1)∨(I4 x y=false∧¬x.1<y.1∧(x.1==y.1)=false)∨(¬x.1<y.1∧(x.1==y.1)=true∧I4 x y=decide (x.2<y.2)):=by
  unfold I4;by_cases h1:x.1<y.1
  ·exact .inl ⟨by simp[h1],h1⟩
  ·by_cases h2:x.1=y.1
   ·exact .inr (.inr ⟨h1,by simp[h2],by simp[h2]⟩)
   ·exact .inr (.inl ⟨by simp[h1,h2],h1,by simp[h2]⟩)
 rcases hr with⟨h1,h2⟩|⟨h1,h2,h3⟩|⟨h2,h3,h1⟩;all_goals
  rw[h1];clear h1;go_in;go_wp2_with fail;go_ret;exact⟨rfl,0,_,by rw[Go.Sort.alloc_eq_grow,Go.Sort.alloc_eq_grow,Go.Sort.grow_grow];rfl⟩
theorem iY(x y:Int × Int)(W:World):Calls prog 150 #[.agg #[.int .i64 x.1,.int .i64 x.2],.agg #[.int .i64 y.1,.int .i64 y.2]] W λe w'=>e=.returned (.int .i64 (dW x y))∧∃q os',w'=Go.Sort.grow (W.drewN q) os':=by
 have K:=qh (λW=>fH x y W);unfold dW;generalize I4 x y=b at K;cases b;all_goals
  go_in;go_wp2_with fail;refine Ac (K.out _) ?_;rintro w1 ⟨q,os,rfl⟩;go_wp2_with fail;go_ret;exact⟨rfl,q,_,by rw[Go.Sort.alloc_eq_grow,Go.Sort.alloc_eq_grow,Go.Sort.grow_grow];rw[show ∀(os:Array Obj) q,(Go.Sort.grow W os).drewN q=Go.Sort.grow (W.drewN q) os from λ_ _=>rfl,Go.Sort.grow_grow]⟩
theorem Zk(blk off size:Nat)(w:World):CmpLays prog 150 #[] encI 2 dW blk off size w:=λ_ _ _ _ x y=>iY x y _
def insL(P:List (Int × Int)):List Value:=P.flatMap encI
theorem GM(P:List (Int × Int)):(insL P).length=P.length*2:=by
 induction P with
 | nil=>rfl
 | cons x P ih=>rw[insL,List.flatMap_cons,List.length_append,show (encI x).length=2 from rfl,←insL,ih,List.length_cons];omega
theorem Ol:∀(P:List (Int × Int)) (i c:Nat),i<P.length→c<2→(insL P)[i*2+c]?=some (encI P.toArray[i]!)[c]!
 | [],_,_,h,_=>by cases h
 | x :: P,0,c,_,hc=>by rw[insL,List.flatMap_cons,List.getElem?_append_left (by show _<2;omega)];rcases(show c=0∨c=1 by omega) with rfl|rfl<;>rfl
 | x :: P,i+1,c,h,hc=>by
  rw[insL,List.flatMap_cons,List.getElem?_append_right (by show 2≤_;omega),show (encI x).length=2 from rfl,show (i+1)*2+c-2=i*2+c by omega,←insL,Ol P i c (by simpa using h) hc];have h1:i<P.length:=by simpa using h
  have h2:i+1<(x :: P).length:=h;simp[h1]
theorem QJ(P:List (Int × Int)):(flatK encI 2 P.toArray).toList=insL P:=by
 apply List.ext_getElem?;intro t;by_cases h:t<P.length*2
 ·have h3:=get_flatK encI 2 P.toArray t (by simpa using h);have h4:=Ol P (t / 2) (t % 2) (by omega) (by omega);rw[show t / 2*2+t % 2=t by omega] at h4;rw[h4,←h3,List.getElem?_eq_getElem (by simpa using h)];have h5:t<(flatK encI 2 P.toArray).size:=by simpa using h
  simp[h5];exact(getElem!_pos _ t h5).symm
 ·rw[List.getElem?_eq_none (by simp;omega),List.getElem?_eq_none (by rw[GM];omega)]
theorem Q5{w:World}{g:Nat}{e:TypeId}{L M rest:List Value}(h:Go.Proofs.YtimdpiifpibgfaaGreatDoor.Holds w g e (L++rest))(hl:M.length=L.length):Go.Proofs.YtimdpiifpibgfaaGreatDoor.Holds (putRow id w g 0 M.toArray) g e (M++rest):=by
 unfold Go.Proofs.YtimdpiifpibgfaaGreatDoor.Holds at *;unfold putRow mapBlock;show (w.heap.modify g _)[g]?=_;rw[Array.getElem?_modify,if_pos rfl,h];simp only[Option.map_some,onCells]
 congr 2
 unfold putCells;apply Array.ext
 ·simp[hl]
 ·intro i h1 h2;simp only[Array.getElem_mapIdx];by_cases hi:i<M.length
  ·rw[if_pos ⟨Nat.zero_le _,by simpa using hi⟩];simp[hi,List.getElem_append_left]
  ·rw[if_neg (λh=>hi (by simpa using h.2))];simp only[List.getElem_toArray];rw[List.getElem_append_right (by omega),List.getElem_append_right (by omega)];simp[hl]
theorem Q7(w:World)(g:Nat)(d:Array Value):Touch g w (putRow id w g 0 d):=by
 refine⟨rfl,rfl,rfl,?_,λk hk hn=>?_⟩
 ·show _≤(w.heap.modify g _).size;simp
 ·show (w.heap.modify g _)[k]?=_;rw[Array.getElem?_modify,if_neg (Ne.symm hn)]
theorem Oi(w:World)(os:Array Obj):Below w.heap.size w (Go.Sort.grow w os):=by
 refine⟨rfl,rfl,rfl,?_,λk hk=>?_⟩
 ·show _≤(w.heap++os).size;rw[Array.size_append];omega
 ·show (w.heap++os)[k]?=_;rw[Array.getElem?_append_left hk]
theorem WX{w:World}{g:Nat}{e:TypeId}{P:List (Int × Int)}{rest:List Value}(h:Go.Proofs.YtimdpiifpibgfaaGreatDoor.Holds w g e (insL P++rest)):HoldsK encI 2 w g 0 P.toArray:=by
 intro j hj;rw[size_flatK] at hj;have hj2:j<(insL P).length:=by rw[GM];simpa using hj
 have hc:=h.cell j;have hf:w.frozen? ⟨g,0+j,none⟩=false:=by unfold Go.Proofs.YtimdpiifpibgfaaGreatDoor.Holds at h;simp[World.frozen?,h]
 refine⟨?_,hf⟩;rw[Nat.zero_add,hc,List.getElem?_append_left hj2,←QJ];have h5:j<(flatK encI 2 P.toArray).size:=by rw[size_flatK];exact hj
 show (flatK encI 2 P.toArray).toList[j]?=some (flatK encI 2 P.toArray)[j]!;rw[getElem!_pos _ j h5];simp[h5]
theorem XX(g cap:Nat)(P:List (Int × Int))(w:World)(h:AO w (.slice (some ⟨g,0,none⟩) P.length cap) (some g) 37 2 P.length (insL P))(hl:P.length≤100000) :Calls prog 149 #[.slice (some ⟨g,0,none⟩) P.length cap,.func (.func 150) #[] #[]] w λe w'=>e=.returned (.tuple #[])∧∃P',P'.Perm P∧AO w' (.slice (some ⟨g,0,none⟩) P.length cap) (some g) 37 2 P.length (insL P')∧Touch g w w':=by
 obtain⟨g',cap',rest,hv,hob,hc1,hc2,hh,hlen⟩:∃g' cap' rest,(Value.slice (some ⟨g,0,none⟩) P.length cap)=.slice (some ⟨g',0,none⟩) P.length cap'∧some g=some g'∧P.length≤cap'∧cap'≤maxLen∧Go.Proofs.YtimdpiifpibgfaaGreatDoor.Holds w g' 37 (insL P++rest)∧(insL P++rest).length=cap'*2:=by
  rcases h.cases with⟨hv,_⟩|h
  ·cases hv
  ·exact h
 cases hob;injection hv with _ _ hv;subst hv;have eg:∀args w,(callFunc 150 args).run prog w=.ok (.enter 150 args) w:=enters_of func150 (by kernel_rfl) rfl;have hcon:=AnyQ.slices_SortFunc jW 2 isAgg37 sizeOf37 encI (λ_=>rfl) (λx v hv=>by simp[encI] at hv;rcases hv with rfl|rfl<;>rfl) dW kM 150 #[] g 0 cap P.toArray w eg (Zk g 0 _ w) (WX hh) hh.lt (by simp;omega);rw[show P.toArray.size=P.length by simp] at hcon;refine Calls.mono (show Calls prog 149 _ _ _ from hcon) ?_;rintro e w' ⟨rfl,d',n,os,hp,_,rfl⟩;obtain⟨hsz,_,hperm⟩:=hp;refine⟨rfl,d'.toList,?_,?_⟩
 ·have e1:(d'.extract 0 P.length).toList=d'.toList:=by rw[show P.length=d'.size by rw[hsz];simp,Array.extract_size]
  have e2:(P.toArray.extract 0 P.length).toList=P:=by simp
  rw[e1,e2] at hperm;exact hperm
 ·have hd:d'.toList.length=P.length:=by rw[Array.length_toList,hsz];simp
  have hw0:Go.Proofs.YtimdpiifpibgfaaGreatDoor.Holds (Go.Sort.ahead w n) g 37 (insL P++rest):=hh;have h1:=Q5 (M:=insL d'.toList) hw0 (by rw[GM,GM,hd]);have ef:flatK encI 2 d'=(insL d'.toList).toArray:=by have:=QJ d'.toList;rw[←this]
  have h2:Go.Proofs.YtimdpiifpibgfaaGreatDoor.Holds (sortWorldK encI 2 w g 0 n d' os) g 37 (insL d'.toList++rest):=by unfold sortWorldK putRowK;rw[ef];exact h1.bel (Oi _ _)
  refine⟨AO.mk' h2 (by rw[GM,hd]) (by rw[List.length_append,GM,hd];rw[List.length_append,GM] at hlen;exact hlen) hc1 hc2,?_⟩;unfold sortWorldK putRowK;exact((⟨rfl,rfl,rfl,Nat.le_refl _,λ_ _ _=>rfl⟩:Touch g w (Go.Sort.ahead w n)).trans (Q7 _ _ _)).trans (Touch.of_below (Oi _ _))
end
structure KeysOf(l:List Ad)(P:List (Int × Int)):Prop where
 nd:P.Nodup
 mem:∀x,x∈P ↔ ∃e∈l,(e.r,e.s)=x
structure OA(l:List Ad)(left:Lit→Bool)(P:List (Int × Int)):Prop where
 nd:P.Nodup
 mem:∀x∈P,∃e∈l,(e.r,e.s)=x∧left e.key=false
 all:∀e∈l,left e.key=false→(e.r,e.s)∈P
theorem MW{α:Type}[BEq α][LawfulBEq α]:∀(P K:List α),P.Nodup→(∀x∈P,x∈K)→P.length≤K.length
 | [],_,_,_=>Nat.zero_le _
 | x :: P,K,hn,hs=>by obtain⟨h1,h2⟩:=List.nodup_cons.1 hn;have hx:=hs x List.mem_cons_self;have:=MW P (K.erase x) h2 (λy hy=>(List.mem_erase_of_ne (λ(e:y=x)=>h1 (e▸hy))).2 (hs y (List.mem_cons_of_mem _ hy)));rw[List.length_erase_of_mem hx] at this;have:=List.length_pos_of_mem hx;rw[List.length_cons];omega
theorem OA.len{l:List Ad}{left:Lit→Bool}{P:List (Int × Int)}(h:OA l left P):P.length≤l.length:=by
 have:=MW P (l.map λe=>(e.r,e.s)) h.nd λx hx=>by obtain⟨e,he,hx,_⟩:=h.mem x hx;exact List.mem_map.2 ⟨e,he,hx⟩
 simpa using this
theorem KeysOf.len{l:List Ad}{P:List (Int × Int)}(h:KeysOf l P):P.length≤l.length:=by
 have:=MW P (l.map λe=>(e.r,e.s)) h.nd λx hx=>by obtain⟨e,he,hx⟩:=(h.mem x).1 hx;exact List.mem_map.2 ⟨e,he,hx⟩
 simpa using this
theorem OA.start{l:List Ad}{left:Lit→Bool}(h:∀e∈l,left e.key=true):OA l left []:=⟨List.nodup_nil,λx hx=>(by cases hx),λe he hf=>by rw[h e he] at hf;cases hf⟩
theorem OA.step{l:List Ad}{left:Lit→Bool}{P:List (Int × Int)}(h:OA l left P)(hw:UB l){e:Ad}(he:e∈l)(hl:left e.key=true):OA l (λz=>left z&&!z.sameKey e.key) (P++[(e.r,e.s)]):=by
 have hk:∀e'∈l,(e'.key).sameKey e.key=(e'.r==e.r&&e'.s==e.s):=λe' he'=>Dw (hw e' he').1 (hw e' he').2 (hw e he).1 (hw e he).2;refine⟨?_,?_,?_⟩
 ·refine List.nodup_append.2 ⟨h.nd,by simp,λa ha b hb hab=>?_⟩;rw[List.mem_singleton.1 hb] at hab;obtain⟨e',he',hx,hf⟩:=h.mem a ha;rw[hab] at hx;simp only[Prod.mk.injEq] at hx;have:e'.key=e.key:=by unfold Ad.key;rw[hx.1,hx.2]
  rw[this,hl] at hf;cases hf
 ·intro x hx;rcases List.mem_append.1 hx with hx|hx
  ·obtain⟨e',he',hx,hf⟩:=h.mem x hx;exact⟨e',he',hx,by simp[hf]⟩
  ·exact⟨e,he,(List.mem_singleton.1 hx).symm,by simp[hk e he]⟩
 ·intro e' he' hf;simp only[hk e' he',Bool.and_eq_false_iff,Bool.not_eq_false',Bool.and_eq_true,beq_iff_eq] at hf;rcases hf with hf|hf
  ·exact List.mem_append.2 (.inl (h.all e' he' hf))
  ·exact List.mem_append.2 (.inr (by rw[hf.1,hf.2];exact List.mem_singleton.2 rfl))
theorem OA.done{l:List Ad}{left:Lit→Bool}{P:List (Int × Int)}(h:OA l left P)(hl:∀k,left k=false):KeysOf l P:=
 ⟨h.nd,λx=>⟨λhx=>by obtain⟨e,he,hx,_⟩:=h.mem x hx;exact⟨e,he,hx⟩,λ⟨e,he,hx⟩=>hx▸h.all e he (hl _)⟩⟩
theorem KeysOf.perm{l:List Ad}{P P':List (Int × Int)}(h:KeysOf l P)(hp:P'.Perm P):KeysOf l P':=⟨hp.nodup_iff.2 h.nd,λx=>hp.mem_iff.trans (h.mem x)⟩
theorem We(P:List (Int × Int))(r s:Int):insL P++[.int .i64 r,.int .i64 s]=insL (P++[(r,s)]):=by
 unfold insL;rw[List.flatMap_append]
 rfl
def Listed(l:List Ad)(B:Nat)(w':World)(v:Value):Prop:=∃p c P ob,v=.slice p (P.length:Nat) c∧AO w' v ob 37 2 P.length (insL P)∧(∀g,ob=some g→B≤g)∧KeysOf l P
theorem XA(g b n:Nat)(l:List Ad)(w:World)(h:Ap w g b n l)(hl1:l.length≤1000) :Calls prog 81 #[.pointer (some ⟨g,0,none⟩)] w λe w'=>∃v,e=.returned v∧Listed l w.heap.size w' v∧Below w.heap.size w w':=by
 have HI:=qh h;obtain⟨D,hown,hl⟩:=h.map;have m0:=h.ix.cell 0;simp only[List.getElem?_cons_zero] at m0;have HL:=qh hl;have KS:=qh (λp c fv W=>MB p 0 c fv W (by omega));have KT:=qh (λg cap P W h hl=>XX g cap P W h hl);clear h hl;go_in;go_wp2_with (first|(at_range;refine wpList_range_own _ rfl _ 246 rfl 37 45 CG underlying246 BO b n D rfl hown ?_;intro w0 hrg0 hg0 hs0)|fail)
 go_frame
 have HB0:=qh (show Below w.heap.size w w0 from⟨hg0.os,hg0.tape,hg0.output,hg0.size,λk hk=>hg0.block k hk (by simp)⟩);have HRG:=qh hrg0;have HSZ:=qh (show w.heap.size+1≤w0.heap.size by omega);clear hrg0 hg0 hs0 hown m0;have HBL:=qh HI.lt.2;go_loopw [3] (λvo wr=>∃(left:Lit→Bool) (cnt m:Nat) (P:List (Int × Int)) (p:Option Addr) (c:Nat),vo=.slice p m c∧wr.ranges prog 37 BO b w.heap.size n D left cnt∧Below w.heap.size w wr∧wr.ownsRow (w.heap.size+1) 37 2 (.slice p m c) m (insL P)∧(m=P.length∧OA l left P)∧w.heap.size+1≤wr.heap.size) (λ_ wr=>wr.rangeLeft b w.heap.size);case atStart=>exact⟨_,_,0,[],none,0,rfl,HRG.o,HB0.o,World.ownsRow_nil _ _ _ _,⟨rfl,OA.start λe he=>Maps.has_true_of_atKey (HL.at_ e he)⟩,HSZ.o⟩
 case round=>
  clear HRG HB0 HSZ;obtain⟨left,cnt,m,P,p,c,rfl,hrg,hbel,ho,⟨hmP,hcoll⟩,hsz⟩:=hrel;have HB:=qh hbel;have HO:=qh ho;have HC:=qh hcoll;have HMP:=qh hmP;have HSZ:=qh hsz;clear hbel ho hcoll hmP hsz;go_wp2_with (first|(at_next;refine wpList_next_ranges _ rfl _ rfl 37 CG BO (λp:Int × Int=>DZ p.1 p.2) (λv:Value=>v) (λkey kl hk=>by obtain⟨r,s,rfl,_⟩:=Hu hk;exact⟨(r,s),rfl⟩) (λv y _=>⟨v,rfl⟩) b w.heap.size n D _ _ rfl hrg ?_ ?_)|fail)
  ·intro hc0 hl0;have HK:=qh (HC.done hl0);have hPl:=HC.len;have hmp:=HMP.o;clear hrg hl0 hc0 HC HMP;by_cases hm0:m=0
   ·subst hm0;have hP0:P=[]:=List.eq_nil_of_length_eq_zero hmp.symm;subst hP0;clear hmp;go_wp2_with fail;refine Ac (KS.o p c _ _) ?_;rintro w5 hb5;have HO:=qh (CW HO.o hb5);have HB:=qh (AB HB.o hb5);clear hb5;go_wp2_with fail;go_ret;obtain⟨ob,h1,h2⟩:=AO.of HO.o;exact⟨_,rfl,⟨p,c,[],ob,rfl,h1,λg hg=>by have:=h2 g hg;omega,HK.o⟩,HB.o⟩
   ·subst hmp;obtain⟨ob,h1,h2⟩:=AO.of HO.o;obtain⟨g0,cap0,rest0,hv0,rfl,_⟩:=h1.blk (by omega);injection hv0 with hv0 _ hv1;subst hv0 hv1;have HO:=qh h1;have hg0:=h2 g0 rfl;clear h1 h2;go_wp2_with fail;refine Ac (KT.o g0 c P _ HO.o (by omega)) ?_;rintro w5 ⟨P',hp5,ho5,ht5⟩;have HO:=qh ho5;have HB:=qh (HB.trans (ht5.below (by omega) HB.size));have hpl:=hp5.length_eq;have HK:=qh (HK.o.perm hp5);clear ho5 ht5 hp5;go_wp2_with fail;go_ret;exact⟨.slice (some ⟨g0,0,none⟩) P.length c,rfl,⟨some ⟨g0,0,none⟩,c,P',some g0,by rw[hpl],by rw[hpl];exact HO.o,λg hg=>by cases hg;omega,HK.o⟩,HB.o⟩
  ·intro pr ps cv kl yd yp w1 cnt1 hkey hlk hR hat hrg1 hlt hg1 hs1 hen;have hy:yd=.held cv:=by unfold BO at hR;injection hR with hR;injection hR with hR _;exact hR.symm
   rw[hy] at hat;obtain⟨e,he,hek⟩:=Ns HL.o HI.wf hat;have hpe:pr=e.r∧ps=e.s:=by have hw:=HI.wf e he;rw[←hek] at hkey;have:=CG.inj hkey (Dc e.r e.s hw.1 hw.2);simp only[DZ,Value.agg.injEq,Array.mk.injEq,List.cons.injEq,Value.int.injEq,true_and,and_true] at this;exact this
   obtain⟨h1,h2⟩:=hpe;subst h1;subst h2;subst hek;have hmp:=HMP.o;subst hmp;have hPl:=HC.len;have HC2:=qh (HC.step HI.wf he hlk);have hkept:=hg1;have HB1:=qh (show Below w.heap.size w w1 from HB.trans ⟨hg1.os,hg1.tape,hg1.output,hg1.size,λk hk=>hg1.block k (by have:=HB.size;omega) (by intro hc;injection hc with hc;omega)⟩);have HO1:=qh (show w1.ownsRow (w.heap.size+1) 37 2 (.slice p P.length c) P.length (insL P) from HO.kept hg1 (by
    obtain⟨_,h2⟩:=HO.o;rcases h2 with⟨hv,_⟩|⟨g',cap,cur,hv,hg',_⟩
    ·rw[hv];exact .inl rfl
    ·rw[hv];right;intro hc;simp[Value.ownBlock] at hc;omega))
   have HRG:=qh hrg1;have HSZ1:=qh (show w.heap.size+1≤w1.heap.size from Nat.le_trans HSZ.o hg1.size);have HHE:=qh he;have HLT:=qh hlt;have HL0:=qh hrg.left_eq;have hks:e.key.sameKey e.key=true:=WideAt.sameKey_self (Ik e.r e.s);have HKS:=qh hks;clear hrg1 hrg hlt hg1 hs1 hR hy hat hkey hlk hkept he hks HB HO HC HSZ HMP;simp only[DZ] at hen ⊢;have hsrc:Reads ((w1.alloc (.cells #[.int .i64 e.r,.int .i64 e.s] 37)).alloc (.cells #[.int .i64 e.r,.int .i64 e.s] 37)) (some ⟨w1.heap.size+1,0,none⟩) [.int .i64 e.r,.int .i64 e.s]:=by have:=(AA (w1.alloc (.cells #[.int .i64 e.r,.int .i64 e.s] 37)) 37 [.int .i64 e.r,.int .i64 e.s]).reads 0 [.int .i64 e.r,.int .i64 e.s] (λj v hv=>by simpa using hv);rw[World.size_alloc] at this;exact this
   have HSRC:=qh hsrc;clear hsrc;go_wp2_with (first|(at_builtin;refine AZ rfl (.tmp 14) (.tmp 16) 99 rfl (w.heap.size+1) 37 (.agg #[.int .i64 0,.int .i64 0]) 2 16 rfl (by kernel_rfl) rfl (by decide) _ P.length (insL P) rfl (CW HO1.o (by go_grown)) (some ⟨w1.heap.size+1,0,none⟩) 1 1 [.int .i64 e.r,.int .i64 e.s] rfl rfl HSRC.o (by intro h;cases h) (by simp[Value.oneCell']) (by unfold maxLen;omega) (by omega) (by have:=HSZ1.o;simp;omega) ?_;intro v3 w3 ho3 hb3 hg3;have HO3:=qh ho3;clear ho3)|fail);have hal:Below w1.heap.size w1 ((w1.alloc (.cells #[.int .i64 e.r,.int .i64 e.s] 37)).alloc (.cells #[.int .i64 e.r,.int .i64 e.s] 37)):=by go_grown
   have hgr:w1.grownBy w3 (Value.slice p P.length c).ownBlock:=⟨hg3.os.trans hal.os,hg3.tape.trans hal.tape,hg3.output.trans hal.output,Nat.le_trans hal.size hg3.size,λk hk hne=>(hg3.block k (Nat.lt_of_lt_of_le hk hal.size) hne).trans (hal.block k hk)⟩;have hne:∀k,k≤w.heap.size→some k≠(Value.slice p P.length c).ownBlock:=λk hk hc=>by have:=(HO1.lt k hc.symm).1;omega
   have hrg3:=HRG.kept hgr (by first|exact hne _ (Nat.le_of_lt HBL.o)|exact hne _ (Nat.le_refl _)) (by first|exact hne _ (Nat.le_of_lt HBL.o)|exact hne _ (Nat.le_refl _));have HRG3:=qh hrg3;have HB3:=qh (show Below w.heap.size w w3 from HB1.trans ((hal.mono HB1.size).trans (hb3.mono (Nat.le_succ _))));have HSZ3:=qh (show w.heap.size+1≤w3.heap.size from Nat.le_trans HSZ1.o (Nat.le_trans hal.size hb3.size));clear hrg3 hne hgr hal hb3 hg3 hen;obtain⟨p3,c3,rfl⟩:∃p3 c3,v3=.slice p3 (P.length+1) c3:=by
    obtain⟨_,h2⟩:=HO3.o;rcases h2 with⟨hv,hn⟩|⟨g,cap,cur,hv,_⟩
    ·cases hn
    ·exact⟨_,cap,hv⟩
   go_roundw;case rel=>exact⟨_,_,P.length+1,_,p3,c3,rfl,HRG3.o,HB3.o,by rw[←We];exact HO3.o,⟨by simp,HC2.o⟩,HSZ3.o⟩
   case measure=>rw[HRG3.left_eq,HL0.o];exact HLT.o
section
variable [In]
theorem QB(gc n me gl gm nl gi gx ni:Nat)(L:List Ad)(E:List Bf)(leads recs out:Value)(w:World)(h:BC w gc n me gl gm nl gi gx ni L E leads recs out)(hl:L.length≤1000) :Calls prog 175 #[.pointer (some ⟨gc,0,none⟩)] w λe w'=>∃v,e=.returned v∧Listed L w.heap.size w' v∧Below w.heap.size w w':=by have KL:=qh (XA gl gm nl L w h.lg hl);have HC:=qh h.hc;clear h;go_in;have d2:=Ag HC.o 2;go_wp2_with fail;refine KL.mono ?_;rintro e w2 ⟨v,rfl,ho,hb⟩;have HP:=qh (And.intro ho hb);clear ho hb KL HC d2;go_wp2_with fail;go_ret;exact⟨v,rfl,HP.1,HP.2⟩
theorem Wp(gl gm nl:Nat)(r s:Int)(V:List Value)(L:List Ad)(w:World)(h:Ap w gl gm nl L)(hL:(⟨r,s,V⟩:Ad)∈L) :Calls prog 82 #[.pointer (some ⟨gl,0,none⟩),.agg #[.int .i64 r,.int .i64 s]] w λe w'=>e=.returned (.tuple #[.agg V.toArray,.bool true])∧Below w.heap.size w w':=by have hw:=h.wf _ hL;refine(MQ gl gm nl _ r s w h hw.1 hw.2).mono ?_;rintro e w' ⟨v,h1,h2,h3,h4,rfl,hb⟩;have hv:=h3 ⟨r,s,V⟩ hL rfl rfl;refine⟨?_,hb⟩;rw[hv,show Fj L r s=true from Hq hL]
theorem QC(gc n me gl gm nl gi:Nat)(r s:Int)(V:List Value)(L:List Ad)(leads recs out:Value)(w:World)(h:Holds w gc 163 (Az n me gl gi leads recs out))(hl:Ap w gl gm nl L)(hL:(⟨r,s,V⟩:Ad)∈L) :Calls prog 176 #[.pointer (some ⟨gc,0,none⟩),.agg #[.int .i64 r,.int .i64 s]] w λe w'=>e=.returned (.tuple #[.agg V.toArray,.bool true])∧Below w.heap.size w w':=by have KL:=qh (λW (h:Ap W gl gm nl L)=>Wp gl gm nl r s V L W h hL);have hV1:V.length=21:=(hl.rows _ hL).1;have hV2:V.toArray.all (·.oneCell')=true:=(hl.rows _ hL).2;have HC:=qh h;have HL:=qh hl;have HB:=qh (Base.start w);clear h hl;go_in;go_upto_region 1 with(fail);go_name_world W hW;obtain⟨HX,HZ,hbW,hsW⟩:=Xf 37 ([.int .i64 r,.int .i64 s]) 45 (zero21) hW;clear hW;obtain⟨HC,HL,HB⟩:=Du hbW HC HL HB;clear hbW hsW;generalize hz0:w.heap.size+1=gz at HZ ⊢;generalize hB0:w.heap.size=B at HX HB hz0 ⊢;obtain⟨HC,HL,HX,HZ,HB⟩:=Fq (AQ _ W) HC HL HX HZ HB;refine EQ [8] 10 (λhSn=>?_);generalize W.drew=wd at HC HL HX HZ HB hSn ⊢;simp only[List.replicate];refine Dz 0 ?_;refine BG 3 [5,6,7,8,9] (λw hSw=>Ag (HC.bel hSw) 2) ?_;refine BG 4 [5,6,7,8,9] (λw hSw=>CU (HX.bel hSw) 0 1) ?_;refine BH 5 rfl (λK hK=>?_);go_simp;refine Ac (KL.o _ (HL.bel hSn)) ?_;rintro w2 hb;have hSn:=AB hSn hb;clear hb;refine BN hK ?_;clear hK;refine FT 6 ?_;refine BH 8 rfl (λK hK=>?_);obtain⟨HZ,HB⟩:=DC hSn HZ HB;refine tB V HZ.o ?_ hV2 (hi:=by rw[hV1];kernel_rfl) (hl:=by rw[hV1];rfl);intro wb hh6 ht6;have HR:=qh hh6.AY;have HB6:=qh (HB.touch ht6 (by omega));clear hh6 ht6;refine BN hK ?_;clear hK;refine CS 9 ?_ (hS:=IJ);refine Dl ?_;clear hSn HC HL HX HZ HB;go_wp2_with fail;refine bodyPost_ret (v:=.tuple #[.agg V.toArray,.bool true]) (results_cell_tmp results176 _ _ gz _ _ _ rfl rfl HR.o underlying45 rfl (by rw[hV1];kernel_rfl)) rfl ?_;exact⟨rfl,hB0▸HB6.below⟩
end
theorem O5{w:World}{base:Nat}{e:TypeId}{v x:Value}(h:w.ownsRow base e 1 v 1 [x]):∃br c L,v=.slice (some ⟨br,0,none⟩) 1 c∧base≤br∧1≤c∧L.length+1=c∧Holds w br e (x :: L):=by
 obtain⟨_,h⟩:=h;rcases h with⟨hc,hn⟩|⟨g,cap,cur,hv,hg,hh,hnc,hcm,hcs,htk⟩
 ·cases hn
 obtain⟨c⟩:=cur;cases c with
 | nil=>simp at htk
 | cons y L=>
  simp at htk;subst htk;exact⟨g,cap,L,hv,hg,hnc,by simpa using hcs,hh⟩
abbrev one1(b:Nat):Value:=.slice (some ⟨b,0,none⟩) 1 1
abbrev Ie(E R:Value)(bi bl bo bp:Nat)(many clock:Int):List Value:=[E,one1 bi,one1 bl,one1 bo,R,one1 bp,.int .i64 many,.int .i64 clock]
structure GW(w:World)(g bi bl bo bp:Nat)(E R:Value)(many clock i l p:Int)(o:Bool):Prop where
 hg:Holds w g 431 (Ie E R bi bl bo bp many clock)
 hi:Holds w bi 3 [.int .i64 i]
 hl:Holds w bl 3 [.int .i64 l]
 ho:Holds w bo 4 [.bool o]
 hp:Holds w bp 3 [.int .i64 p]
 ne:g≠bi∧g≠bl∧g≠bo∧g≠bp∧bi≠bl∧bi≠bo∧bi≠bp∧bl≠bo∧bl≠bp∧bo≠bp
theorem GW.below{w w':World}{g bi bl bo bp:Nat}{E R:Value}{many clock i l p:Int}{o:Bool}(h:GW w g bi bl bo bp E R many clock i l p o)(hb:Below w.heap.size w w'):GW w' g bi bl bo bp E R many clock i l p o:=
 ⟨AC h.hg hb,AC h.hi hb,AC h.hl hb,AC h.ho hb,AC h.hp hb,h.ne⟩
theorem GW.Vm{w w':World}{g bi bl bo bp:Nat}{E R E' R':Value}{many clock i l p many' clock':Int}{o:Bool}(h:GW w g bi bl bo bp E R many clock i l p o)(hh:Holds w' g 431 (Ie E' R' bi bl bo bp many' clock'))(ht:Touch g w w'):GW w' g bi bl bo bp E' R' many' clock' i l p o:=by have:=h.ne;exact⟨hh,h.hi.touch ht (by omega),h.hl.touch ht (by omega),h.ho.touch ht (by omega),h.hp.touch ht (by omega),h.ne⟩
theorem GW.jS{w w':World}{g bi bl bo bp:Nat}{E R:Value}{many clock i l p i':Int}{o:Bool}(h:GW w g bi bl bo bp E R many clock i l p o)(hh:Holds w' bi 3 [.int .i64 i'])(ht:Touch bi w w'):GW w' g bi bl bo bp E R many clock i' l p o:=by have:=h.ne;exact⟨h.hg.touch ht (by omega),hh,h.hl.touch ht (by omega),h.ho.touch ht (by omega),h.hp.touch ht (by omega),h.ne⟩
theorem GW.jT{w w':World}{g bi bl bo bp:Nat}{E R:Value}{many clock i l p l':Int}{o:Bool}(h:GW w g bi bl bo bp E R many clock i l p o)(hh:Holds w' bl 3 [.int .i64 l'])(ht:Touch bl w w'):GW w' g bi bl bo bp E R many clock i l' p o:=by have:=h.ne;exact⟨h.hg.touch ht (by omega),h.hi.touch ht (by omega),hh,h.ho.touch ht (by omega),h.hp.touch ht (by omega),h.ne⟩
theorem GW.dJ{w w':World}{g bi bl bo bp:Nat}{E R:Value}{many clock i l p:Int}{o o':Bool}(h:GW w g bi bl bo bp E R many clock i l p o)(hh:Holds w' bo 4 [.bool o'])(ht:Touch bo w w'):GW w' g bi bl bo bp E R many clock i l p o':=by have:=h.ne;exact⟨h.hg.touch ht (by omega),h.hi.touch ht (by omega),h.hl.touch ht (by omega),hh,h.hp.touch ht (by omega),h.ne⟩
theorem GW.jU{w w':World}{g bi bl bo bp:Nat}{E R:Value}{many clock i l p p':Int}{o:Bool}(h:GW w g bi bl bo bp E R many clock i l p o)(hh:Holds w' bp 3 [.int .i64 p'])(ht:Touch bp w w'):GW w' g bi bl bo bp E R many clock i l p' o:=by have:=h.ne;exact⟨h.hg.touch ht (by omega),h.hi.touch ht (by omega),h.hl.touch ht (by omega),h.ho.touch ht (by omega),hh,h.ne⟩
theorem GW.touch{w w':World}{g bi bl bo bp k:Nat}{E R:Value}{many clock i l p:Int}{o:Bool}(h:GW w g bi bl bo bp E R many clock i l p o)(ht:Touch k w w')(h1:g≠k)(h2:bi≠k)(h3:bl≠k)(h4:bo≠k)(h5:bp≠k):GW w' g bi bl bo bp E R many clock i l p o:=
 ⟨h.hg.touch ht h1,h.hi.touch ht h2,h.hl.touch ht h3,h.ho.touch ht h4,h.hp.touch ht h5,h.ne⟩
theorem GW.lt{w:World}{g bi bl bo bp:Nat}{E R:Value}{many clock i l p:Int}{o:Bool}(h:GW w g bi bl bo bp E R many clock i l p o):g<w.heap.size∧bi<w.heap.size∧bl<w.heap.size∧bo<w.heap.size∧bp<w.heap.size:=⟨h.hg.lt,h.hi.lt,h.hl.lt,h.ho.lt,h.hp.lt⟩
def Xj(B g bi bl bo bp:Nat):Prop:=B≤g∧B≤bi∧B≤bl∧B≤bo∧B≤bp
theorem YB(g bi bl bo bp B:Nat)(E:Value)(w:World)(h:GW w g bi bl bo bp E (.slice none 0 0) 0 0 0 0 0 false)(hB:B≤w.heap.size)(hlo:Xj B g bi bl bo bp) :Calls prog 344 #[.pointer (some ⟨g,0,none⟩),.int .i64 0] w λe w'=>∃br c L,e=.returned (.agg #[.int .i64 0,.int .i64 0])∧GW w' g bi bl bo bp E (.slice (some ⟨br,0,none⟩) 1 c) 0 1 1 1 0 true∧Holds w' br 3 (.int .i64 0 :: L)∧w.heap.size≤br∧1≤c∧L.length+1=c∧Below B w w':=by
 obtain⟨l1,l2,l3,l4,l5⟩:=hlo;have HG:=qh h;obtain⟨t1,t2,t3,t4,t5⟩:=h.lt;clear h;have m7:=Ag HG.hg 7;go_in;go_upto_region 1 with(fail);go_name_world W hW;have hS:Holds W w.heap.size 446 [.int .i64 0,.int .i64 0]:=by rw[←hW];exact AA w _ _
 have HB:=qh (show Below w.heap.size w W by rw[←hW];go_grown);have HS:=qh hS;clear hS hW m7;have HG:=qh (HG.below HB.o);have m7:=Ag HG.hg 7;have HB:=qh (HB.mono hB);have hs:w.heap.size+1≤W.heap.size:=HS.lt;generalize hgs:w.heap.size=gs at HS ⊢;go_wp2_with (first|(refine sC 7 HG.hg (.int .i64 1) ?_;intro w1 hh ht));simp only[Ie,List.set_cons_zero,List.set_cons_succ] at hh;have HB:=qh (HB.trans (ht.below l1 (by have:=HB.size;omega)));have HG:=qh (HG.Vm hh ht);have HS:=qh (HS.touch ht (by omega));have hs:=Nat.le_trans hs ht.size;clear hh ht m7;have HG:=qh (HG.below (AQ _ _));have HB:=qh (HB.trans (AQ _ _));have HS:=qh (show Holds w1.drew gs 446 _ from HS.o);have hs:w.heap.size+1≤w1.drew.heap.size:=hs;refine wp_region_noPanic ?_;refine Bi (S:=λW'=>Holds W' g 431 (Ie E (.slice none 0 0) bi bl bo bp 0 1)) (X0:=[]) (by as_aux_lemma=>kernel_rfl) ?_;generalize w1.drew=wd at HG HB HS hs ⊢;have hSn:=HG.hg;change wpAnyL _ _ _ _ _ _ 29 #[false,false,false,false,false,false,false,false,false,false,false,false,false,false,false,false,false,false,false,false,false,false,false,false,false,false,false,false,false] _ _;refine Dz 0 ?_;refine BG 3 [] (λw hSw=>Ag hSw 1) ?_;refine Jr 4 ?_;refine BG 8 [] (λw hSw=>Ag hSw 2) ?_;refine Jr 9 ?_;refine BG 13 [] (λw hSw=>Ag hSw 3) ?_;refine Jr 14 ?_;refine BG 18 [] (λw hSw=>Ag hSw 7) ?_;refine Dz 19 ?_;refine BG 22 [] (λw hSw=>Ag hSw 7) ?_;refine CS 23 ?_;refine BH 24 rfl (λK hK=>?_);refine tC 0 HG.hi (.int .i64 1) ?_;intro wa hh ht;simp only[List.set_cons_zero] at hh;have HB:=qh (HB.trans (ht.below l2 (by have:=HB.size;omega)));have HG:=qh (HG.jS hh ht);have HS:=qh (HS.touch ht (by omega));have hs:=Nat.le_trans hs ht.size;clear hh ht hSn;have hSn:=HG.hg;refine BN hK ?_;clear hK;refine CS 25 ?_;refine BH 26 rfl (λK hK=>?_);refine tC 0 HG.hl (.int .i64 1) ?_;intro wa hh ht;simp only[List.set_cons_zero] at hh;have HB:=qh (HB.trans (ht.below l3 (by have:=HB.size;omega)));have HG:=qh (HG.jT hh ht);have HS:=qh (HS.touch ht (by omega));have hs:=Nat.le_trans hs ht.size;clear hh ht hSn;have hSn:=HG.hg;refine BN hK ?_;clear hK;refine CS 27 ?_;refine BH 28 rfl (λK hK=>?_);refine tC 0 HG.ho (.bool true) ?_;intro wa hh ht;simp only[List.set_cons_zero] at hh;have HB:=qh (HB.trans (ht.below l4 (by have:=HB.size;omega)));have HG:=qh (HG.dJ hh ht);have HS:=qh (HS.touch ht (by omega));have hs:=Nat.le_trans hs ht.size;clear hh ht hSn;have hSn:=HG.hg;refine BN hK ?_;clear hK;refine Dl ?_;have m4:=Ag HG.hg 4;clear hSn;go_wp2_with (first|(at_builtin;refine AZ rfl (.tmp 42) (.tmp 44) 30 rfl (wa.heap.size+1) 3 (.int .i64 0) 1 8 rfl (by kernel_rfl) rfl (by decide) _ 0 [] rfl (World.ownsRow_nil _ _ _ _) (some ⟨wa.heap.size,0,none⟩) 1 1 [.int .i64 0] rfl rfl ((AA wa _ _).reads 0 _ (λj v hv=>by simpa using hv)) (by intro h;cases h) (by simp[Value.oneCell']) (by unfold maxLen;omega) (by omega) (by simp) ?_;intro v3 w3 ho3 hb3 _;have hb3:=((Below.refl wa.heap.size wa).alloc (Nat.le_refl _) (.cells #[.int .i64 0] 3)).trans (hb3.mono (Nat.le_succ _));have HO3:=qh ho3;have HB3:=qh hb3;have HG3:=qh (HG.below hb3);clear ho3 hb3;obtain⟨br,c,L,rfl,hbr,hc1,hLc,hrow⟩:=O5 HO3.o;have HR:=qh hrow;clear hrow)|(refine sC 4 HG3.hg (.slice (some ⟨br,0,none⟩) 1 c) ?_;intro w4 hh ht;simp only[Ie,List.set_cons_zero,List.set_cons_succ] at hh;have HG4:=qh (HG3.Vm hh ht);have HS4:=qh ((AC HS.o HB3.o).touch ht (by omega));have HR4:=qh (HR.touch ht (by omega));have HT:=qh ht;clear hh ht)|(refine sW [.int .i64 0,.int .i64 0] HS4.o ?_;intro w5 hh ht;have HG5:=qh (HG4.touch ht (by omega) (by omega) (by omega) (by omega) (by omega));have HR5:=qh (HR4.touch ht (by omega));have HT5:=qh ht;clear ht));refine bC hh.AY ?_;refine⟨br,c,L,rfl,HG5.o,HR5.o,by omega,hc1,hLc,?_⟩;have h1:=HB.size;have h3:=HB3.size;have h4:=HT.size;exact((HB.trans (HB3.mono (by omega))).trans (HT.below l1 (by omega))).trans (HT5.below (by omega) (by omega))
theorem Ub(g bi bl bo bp B br c:Nat)(L:List Value)(E:Value)(w:World)(h:GW w g bi bl bo bp E (.slice (some ⟨br,0,none⟩) 1 c) 0 1 1 1 0 true)(hr:Holds w br 3 (.int .i64 0 :: L))(hbr:br≠g∧br≠bo∧br≠bp)(hc:1≤c)(hB:B≤w.heap.size)(hlo:Xj B g bi bl bo bp) :Calls prog 345 #[.pointer (some ⟨g,0,none⟩),.int .i64 0] w λe w'=>e=.returned (.tuple #[])∧GW w' g bi bl bo bp E (.slice (some ⟨br,0,none⟩) 0 c) 1 1 1 1 0 false∧Below B w w':=by
 obtain⟨l1,l2,l3,l4,l5⟩:=hlo;have HG:=qh h;have HR:=qh hr;obtain⟨t1,t2,t3,t4,t5⟩:=h.lt;obtain⟨n1,n2,n3⟩:=hbr;clear h hr;go_in;go_upto_region 0 with(fail);refine wp_region_noPanic ?_;refine Bi (S:=λW'=>GW W' g bi bl bo bp E (.slice (some ⟨br,0,none⟩) 1 c) 0 1 1 1 0 true) (X0:=[]) (by as_aux_lemma=>kernel_rfl) ?_;have HG:=qh (HG.below (AQ _ _));have HR:=qh (show Holds w.drew br 3 _ from HR.o);have HB:=qh (show Below B w w.drew from AQ _ _);generalize w.drew=wd at HG HR HB ⊢;have hSn:=HG.o;change wpAnyL _ _ _ _ _ _ 15 #[false,false,false,false,false,false,false,false,false,false,false,false,false,false,false] _ _;refine Dz 0 ?_;refine BG 3 [] (λw hSw=>Ag hSw.hg 2) ?_;refine FT 4 ?_;refine BG 6 [] (λw hSw=>Ag hSw.hl 0) ?_;refine Dz 7 ?_;refine BG 10 [] (λw hSw=>Ag hSw.hg 1) ?_;refine FT 11 ?_;refine BG 13 [] (λw hSw=>Ag hSw.hi 0) ?_;refine CS 14 ?_;refine Dl ?_;clear hSn
 go_wp2
 go_loopw [4] (λv4 wr=>v4=undef∧wr=wd) (λ_ _=>0);case atStart=>exact⟨rfl,rfl⟩
 case round=>
  obtain⟨rfl,rfl⟩:=hrel;go_upto_region 1 with(fail);have hw0:IntKind.i64.wrap 0=0:=by decide
  refine wp_region_noPanic ?_;refine Bi (S:=λW'=>GW W' g bi bl bo bp E (.slice (some ⟨br,0,none⟩) 1 c) 0 1 1 1 0 true∧Holds W' br 3 (.int .i64 0 :: L)) (X0:=[]) (by as_aux_lemma=>kernel_rfl) ?_;have HG:=qh (HG.below (AQ _ _));have HR:=qh (show Holds wr.drew br 3 _ from HR.o);have HB:=qh (HB.trans (AQ _ _));generalize wr.drew=wd at HG HR HB ⊢;have hSn:=And.intro HG.o HR.o;change wpAnyL _ _ _ _ _ _ 13 #[false,false,false,false,false,false,false,false,false,false,false,false,false] _ _;refine Dz 0 ?_;refine BG 3 [] (λw hSw=>Ag hSw.1.hg 4) ?_;refine Dz 4 ?_;refine BG 7 [] (λw hSw=>Ag hSw.1.hg 4) ?_;refine Dz 8 ?_;refine He 11 [] (some 31) (?vg53) rfl (Or.inl ⟨by rfl,?hg53⟩) hSn ?rg53;case hg53=>
   intro w hSw;have r0:=hSw.2.cell 0;simp only[List.getElem?_cons_zero] at r0;go_simp;try with_reducible rfl
  simp only[Act.put,zA,zB,zC];refine CS 12 ?_;refine Dl ?_;clear hSn;go_upto_region 2 with(fail);refine wp_region_noPanic ?_;refine Bi (S:=λW'=>GW W' g bi bl bo bp E (.slice (some ⟨br,0,none⟩) 1 c) 0 1 1 1 0 true∧Holds W' br 3 (.int .i64 0 :: L)) (X0:=[14]) (by as_aux_lemma=>kernel_rfl) ?_;have HG:=qh (HG.below (AQ _ _));have HR:=qh (show Holds wd.drew br 3 _ from HR.o);have HB:=qh (HB.trans (AQ _ _));generalize wd.drew=wd at HG HR HB ⊢;have hSn:=And.intro HG.o HR.o;change wpAnyL _ _ _ _ _ _ 15 #[false,false,false,false,false,false,false,false,false,false,false,false,false,false,false] _ _;refine Jr 0 ?_;refine BG 4 [11,12,13,14] (λw hSw=>Ag hSw.1.hg 4) ?_;refine Dz 5 ?_;refine BG 8 [9,10,11,12,13,14] (λw hSw=>Ag hSw.1.hg 4) ?_;refine Jr 9 ?_;refine CS 13 ?_;refine BH 14 rfl (λK hK=>?_);refine tC 4 HG.hg (.slice (some ⟨br,0,none⟩) 0 c) ?_;intro wa hh ht;simp only[Ie,List.set_cons_zero,List.set_cons_succ] at hh;have HB:=qh (HB.trans (ht.below l1 (by have:=HB.size;omega)));have HG:=qh (HG.Vm hh ht);have HR:=qh (HR.touch ht n1);clear hh ht hSn;have hSn:=And.intro HG.o HR.o;refine BN hK ?_;clear hK;refine Dl ?_;clear hSn;go_upto_region 3 with(fail);refine wp_region_noPanic ?_;refine Bi (S:=λW'=>Holds W' g 431 (Ie E (.slice (some ⟨br,0,none⟩) 0 c) bi bl bo bp 0 1)) (X0:=[]) (by as_aux_lemma=>kernel_rfl) ?_;have HG:=qh (HG.below (AQ _ _));have HB:=qh (HB.trans (AQ _ _));generalize wa.drew=wd at HG HB ⊢;have hSn:=HG.hg;change wpAnyL _ _ _ _ _ _ 18 #[false,false,false,false,false,false,false,false,false,false,false,false,false,false,false,false,false,false] _ _;refine Dz 0 ?_;refine BG 3 [] (λw hSw=>Ag hSw 3) ?_;refine Jr 4 ?_;refine BG 8 [] (λw hSw=>Ag hSw 5) ?_;refine Jr 9 ?_;refine BG 13 [] (λw hSw=>Ag hSw 6) ?_;refine CS 14 ?_;refine BH 15 rfl (λK hK=>?_);refine tC 0 HG.ho (.bool false) ?_;intro wa hh ht;simp only[List.set_cons_zero] at hh;have HB:=qh (HB.trans (ht.below l4 (by have:=HB.size;omega)));have HG:=qh (HG.dJ hh ht);clear hh ht hSn;have hSn:=HG.hg;refine BN hK ?_;clear hK;refine CS 16 ?_;refine BH 17 rfl (λK hK=>?_);refine tC 0 HG.hp (.int .i64 0) ?_;intro wa hh ht;simp only[List.set_cons_zero] at hh;have HB:=qh (HB.trans (ht.below l5 (by have:=HB.size;omega)));have HG:=qh (HG.jU hh ht);clear hh ht hSn;have hSn:=HG.hg;refine BN hK ?_;clear hK;refine Dl ?_;clear hSn;have m6:=Ag HG.hg 6;go_wp2_with (first|(refine sC 6 HG.hg (.int .i64 1) ?_;intro wb hh ht));simp only[Ie,List.set_cons_zero,List.set_cons_succ] at hh;exact bE ⟨rfl,HG.Vm hh ht,HB.trans (ht.below l1 (by have:=HB.size;omega))⟩
end Go.Proofs.YtimdpiifpibgfaaGreatDoor
