/- A part of the proof of TopReads. -/
import Derived.Shelf.SlSortCmp.WholeK
import Derived.Test.YtimdpiifpibgfaaGreatDoorQr17
set_option linter.all false
set_option maxRecDepth 20000
set_option maxHeartbeats 16000000
open Go.RowKit Go.Maps
namespace Go.Proofs.YtimdpiifpibgfaaGreatDoor
open Tryz
section
theorem AV.Hw{w:World}{v:Value}{ob:Option Nat}{e t:TypeId}{s n:Nat}{xs L:List Value}{a:Nat}(h:AV w v ob e s n xs)(ha:Holds w a t L)(he:e≠t):∀g,ob=some g->g≠a:=λg b=>by
 rcases h.cases with⟨_,c,_⟩|⟨f,_,_,_,c,_,_,d,_⟩
 .rw[c] at b;cases b
 .rw[c] at b;cases b;exact d.ne_of ha he
structure Ld where
 g:Nat
 r:Int
 s:Int
 L:List Value
def Ld.cells(l:Ld):List Value:=AA l.r :: AA l.s :: l.L
def Ld.ptr(l:Ld):Value:=AP l.g
def Ld.is(q s:Int)(l:Ld):Bool:=l.r==q&&l.s==s
structure Bc(w:World)(V:Value)(ob:Option Nat)(ls:List Ld):Prop where
 own:AV w V ob 158 1 ls.length (ls.map Ld.ptr)
 blk:∀l∈ls,Holds w l.g 167 l.cells
 nd:(ls.map Ld.g).Nodup
section
variable {w w':World} {V:Value} {ob:Option Nat} {ls:List Ld}
theorem Bc.bel(h:Bc w V ob ls)(hb:Below w.heap.size w w'):Bc w' V ob ls:=⟨h.own.bel hb,λl a=>(h.blk l a).bel hb,h.nd⟩
instance:Bl w w' (Bc w V ob ls) (Bc w' V ob ls):=⟨λhb h=>Bc.bel h hb⟩
theorem Bc.mv{F:Ap}(h:Bc w V ob ls)(hm:Mv F w w')(h1:∀k,ob=some k->¬F k)(h2:∀l∈ls,¬F l.g):Bc w' V ob ls:=⟨h.own.mv hm h1,λl a=>(h.blk l a).mv hm (h2 l a),h.nd⟩
theorem Bc.slice(h:Bc w V ob ls):∃p c,V=.slice p (ls.length:Nat) c:=by
 rcases h.own.cases with⟨r,_,a,_⟩|⟨_,_,_,r,_⟩
 .rw[r,a];exact⟨_,_,rfl⟩
 .exact⟨_,_,r⟩
theorem Bc.nil(w:World):Bc w AL none []:=⟨AV.nil _ _ _,λl a=>(by cases a),List.nodup_nil⟩
end
theorem lW{α:Type}{p:α->Bool}{ls:List α}{i:Nat}(hi:i<ls.length)(hp:p ls[i]=true)(hn:∀j (hj:j<i),p (ls[j]'(by omega))=false):ls.find? p=some ls[i]:=by rw[List.find?_eq_some_iff_getElem];exact⟨hp,i,hi,rfl,λj hj=>by simp[hn j hj]⟩
theorem lX{α:Type}{p:α->Bool}{ls:List α}(hn:∀j (hj:j<ls.length),p ls[j]=false):ls.find? p=none:=by rw[List.find?_eq_none];intro x a;obtain⟨j,hj,rfl⟩:=List.getElem_of_mem a;simp[hn j hj]
section
variable [In] [CO]
theorem Nr(gc n me gl gi:Nat)(V recs out:Value)(ob:Option Nat)(ls:List Ld)(q s:Int)(w:World)(h:Holds w gc 163 (BG n me gl gi V recs out))(hl:Bc w V ob ls)(hlen:ls.length<=1000) :Calls prog 83 #[.pointer (some ⟨gc,0,none⟩),.agg #[.int .i64 q,.int .i64 s]] w λe w'=>e=.returned (.pointer ((ls.find? (Ld.is q s)).map λl=>⟨l.g,0,none⟩))/\Below w.heap.size w w':=by
 obtain⟨p,c,rfl⟩:=hl.slice;obtain⟨v,b⟩:=WZ h hl;clear h hl;go_in;go_upto_region 1 with(fail);go_name_world W G;obtain⟨r,H,U⟩:=GI 37 ([.int .i64 q,.int .i64 s]) G;clear G;have k:=qh (Base.start w);obtain⟨v,k,b⟩:=D5 H v k b;clear H U;generalize F:w.heap.size=B at r k |-;have P:=Am v.o 4;go_wp2_with fail;clear P;go_loopw [12] (λC wr=>∃i:Nat,C=.int .i64 (i:Int)/\i<=ls.length/\(∀j (a:j<i) (J:j<ls.length),Ld.is q s ls[j]=false)/\Below W.heap.size W wr) (λC _=>ls.length - (intOf C).toNat);case atStart=>exact⟨0,rfl,Nat.zero_le _,λj a=>absurd a BJ,Below.refl _ _⟩
 case round=>
  obtain⟨i,rfl,hi,L,z⟩:=hrel;obtain⟨y,m⟩:=WZ L z;obtain⟨b,r⟩:=Ce z b r;clear L z;by_cases S:i=ls.length
  .subst S;go_wp2_with fail;go_ret;rw[lX (λj a=>y.o j a a)];exact⟨rfl,F▸(k.bel m.o).below⟩
  .have hi2:i<ls.length:=BJ
   obtain⟨g,cc,ad,X,_,aa,ab,I,_⟩:=b.own.blk BJ;cases X;have A:wr.cell? ⟨g,i,none⟩=some (Ld.ptr ls[i]):=by rw[I.cell,List.getElem?_append_left (by simpa using hi2),List.getElem?_map,List.getElem?_eq_getElem hi2];rfl
   obtain⟨l,hl⟩:∃l,l=ls[i]:=⟨_,rfl⟩;have E:=qh (b.blk _ (List.getElem_mem hi2));rw[<-hl] at A E;have x:=qh hl;clear hl I;obtain⟨M,N⟩:=Cf E.o 0 1;obtain⟨Y,Z⟩:=Cf r.o 0 1;have ac:(i:Int)<(ls.length:Int):=BJ
   obtain⟨lg,f,u,lL⟩:=l;simp only[Ld.ptr] at A M N;by_cases t:f=q/\u=s
   .obtain⟨rfl,rfl⟩:=t;go_wp2_with fail;go_quiet (fail);go_wp2_with fail;go_ret;rw[lW hi2 (by rw[<-x.o];simp[Ld.is]) (λj a=>y.o j a BJ),<-x.o];exact⟨rfl,F▸(k.bel m.o).below.trans (Bg _ _ _)⟩
   .have hm1:(f==q&&u==s)=false:=by
     by_cases d:f=q
     .subst d;have Q:¬u=s:=λh=>t ⟨rfl,h⟩;simp[Q]
     .simp[d]
    have K:Ld.is q s ls[i]=false:=by rw[<-x.o];exact hm1
    have O:=qh K;clear K;have R:(f==q)=false\/(f=q/\(u==s)=false):=by
     by_cases d:f=q
     .exact .inr ⟨d,by simp;exact λh=>t ⟨d,h⟩⟩
     .exact .inl (by simp[d])
    clear hm1 t;rcases R with T|⟨rfl,T⟩;all_goals
     go_wp2_with fail;go_quiet (fail);clear M N Y Z A;have D:=qh (m.trans ((Bg _ wr nq).mono m.size));generalize wr.drewN nq=W2 at D |-;go_wp2_with fail;go_roundw;case rel=>exact⟨i+1,by go_num,BJ,λj a J=>by
      by_cases e:j=i
      .subst e;exact O.o
      .exact y.o j BJ J,D.o⟩
     case measure=>simp[intOf];omega
theorem fZ(gx:Nat)(l:Ld)(q s:Int)(w:World)(hx:Holds w gx 37 [AA q,AA s])(hl:Holds w l.g 167 l.cells) :Calls prog 258 #[l.ptr,AP gx] w λe w'=>e=.returned (.bool (l.is q s))/\Below w.heap.size w w':=by
 obtain⟨m,a,c,k⟩:=l;obtain⟨n,o⟩:=Cf hx 0 1;obtain⟨i,j⟩:=Cf hl 0 1;simp only[Ld.ptr,Ld.is];clear hx hl;have f:(a==q&&c==s)=true/\a=q/\c=s\/(a==q&&c==s)=false/\((a==q)=false\/(a=q/\(c==s)=false)):=by
  by_cases b:a=q
  .by_cases h2:c=s
   .exact .inl ⟨by simp[b,h2],b,h2⟩
   .exact .inr ⟨by simp[h2],.inr ⟨b,by simp[h2]⟩⟩
  .exact .inr ⟨by simp[b],.inl (by simp[b])⟩
 rcases f with⟨d,rfl,rfl⟩|⟨d,h|⟨rfl,h⟩⟩;all_goals
  rw[d];clear d;go_in;go_wp2_with fail;go_quiet (fail);go_wp2_with fail;go_ret;exact⟨rfl,Bg _ _ _⟩
theorem fP(gx:Nat)(V:Value)(ob:Option Nat)(ls:List Ld)(q s:Int)(w:World)(hx:Holds w gx 37 [AA q,AA s])(hl:Bc w V ob ls)(hlen:ls.length<=1000) :Calls prog 285 #[V,.func (Fn.func 258) #[] #[AP gx]] w λe w'=>((e=.returned (AA (-1))/\(∀l∈ls,l.is q s=false))\/∃i:Nat,∃(hi:i<ls.length),e=.returned (AA (i:Int))/\ls[i].is q s=true/\∀j (hj:j<i),(ls[j]'(by omega)).is q s=false)/\Below w.heap.size w w':=by
 obtain⟨p,c,rfl⟩:=hl.slice;obtain⟨m,d,K⟩:=bP hx hl (λ(l:Ld) W hx hl=>fZ gx l q s W hx hl);clear hx hl;go_in;go_wp2_with fail;go_loopw [8] (λn wr=>∃i:Nat,n=AA (i:Int)/\i<=ls.length/\(∀j (hj:j<i) (x:j<ls.length),ls[j].is q s=false)/\Below w.heap.size w wr) (λn _=>ls.length - (intOf n).toNat);case atStart=>exact⟨0,rfl,Nat.zero_le _,λj hj=>absurd hj BJ,Below.refl _ _⟩
 case round=>
  obtain⟨i,rfl,hi,y,b⟩:=hrel;obtain⟨k,a⟩:=WZ y b;obtain⟨d,m⟩:=Ce b d m;clear y b;by_cases z:i=ls.length
  .subst z;go_wp2_with fail;go_ret;refine⟨.inl ⟨rfl,λl hl=>?_⟩,a.o⟩;obtain⟨j,hj,rfl⟩:=List.getElem_of_mem hl;exact k.o j hj hj
  .have hi2:i<ls.length:=BJ
   obtain⟨g,B,F,A,_,C,D,v,_⟩:=d.own.blk BJ;cases A;have u:wr.cell? ⟨g,i,none⟩=some (Ld.ptr ls[i]):=by rw[v.cell,List.getElem?_append_left (by simpa using hi2),List.getElem?_map,List.getElem?_eq_getElem hi2];rfl
   obtain⟨l,hl⟩:∃l,l=ls[i]:=⟨_,rfl⟩;have t:=qh (d.blk _ (List.getElem_mem hi2));rw[<-hl] at u t;have r:=qh hl;clear hl v;have E:(i:Int)<(ls.length:Int):=BJ
   go_wp2_with fail;refine Ah (K.out l _ m.o t.o) ?_;rintro G b;have a:=qh (a.trans (b.mono a.size));clear b u;cases f:l.is q s with
   | true=>
    have h:=qh f;clear f;go_wp2_with fail;go_ret;exact⟨.inr ⟨i,hi2,rfl,by rw[<-r.o];exact h.o,λj hj=>k.o j hj BJ⟩,a.o⟩
   | false=>
    have h:=qh f;clear f;go_wp2_with fail;go_roundw;case rel=>exact⟨i+1,by go_num,BJ,λj hj x=>by
     by_cases e:j=i
     .subst e;rw[<-r.o];exact h.o
     .exact k.o j BJ x,a.o⟩
    case measure=>simp[intOf];omega
def Ld.RN(q s:Int)(ls:List Ld):List Ld:=ls.filter λl=>!l.is q s
theorem Jb{q s:Int}{ls:List Ld}(h:∀l∈ls,l.is q s=false):Ld.RN q s ls=ls:=List.filter_eq_self.2 λl a=>by rw[h l a];rfl
theorem WE{q s:Int}{ls:List Ld}{i:Nat}(hi:i<ls.length):Ld.RN q s (ls.take (i+1))=Ld.RN q s (ls.take i)++(if ls[i].is q s then [] else [ls[i]]):=by
 unfold Ld.RN;rw[<-List.take_append_getElem hi,List.filter_append]
 congr 1
 cases h:ls[i].is q s<;>simp[h]
theorem O0{q s:Int}{ls:List Ld}{i:Nat}(hi:i<ls.length)(hm:ls[i].is q s=true)(hn:∀j (hj:j<i),(ls[j]'(by omega)).is q s=false):Ld.RN q s (ls.take (i+1))=ls.take i:=by rw[WE hi,if_pos hm,List.append_nil];refine Jb λl a=>?_;obtain⟨j,hj,rfl⟩:=List.mem_take_iff_getElem.1 a;exact hn j BJ
def pz(g:Nat)(ls:List Ld)(q s:Int)(rest:List Value)(j:Nat)(W:World):Prop:=
 ∃mid:List Value,Holds W g 158 ((Ld.RN q s (ls.take j)).map Ld.ptr++(mid++((ls.drop j).map Ld.ptr++rest)))/\(Ld.RN q s (ls.take j)).length+mid.length=j/\1<=mid.length
theorem lF(gx:Nat)(V:Value)(ob:Option Nat)(ls:List Ld)(q s:Int)(w:World)(hx:Holds w gx 37 [AA q,AA s])(hl:Bc w V ob ls)(hlen:ls.length<=1000) :Calls prog 235 #[V,.func (Fn.func 258) #[] #[AP gx]] w λe w'=>∃V',e=.returned V'/\Bc w' V' ob (Ld.RN q s ls)/\Mv (λk=>ob=some k) w w':=by
 obtain⟨p,c,rfl⟩:=hl.slice;obtain⟨B,n,h,G,K⟩:=dD hx hl (Mv.refl (λk=>ob=some k) w) (fP gx (.slice p (ls.length:Nat) c) ob ls q s w hx hl hlen) (λ(l:Ld) W hx hl=>fZ gx l q s W hx hl);clear hx hl;go_in;go_wp2_with fail;refine G.mono ?_;rintro e P ⟨⟨rfl,aj⟩|⟨i,C,rfl,u,F⟩,t⟩
 .have n:=qh (n.bel t);have h:=D9 t h;clear t G B;go_wp2_with fail;go_ret;exact⟨_,rfl,by rw[Jb aj];exact n.o,h.o⟩
 .have n:=qh (n.bel t);obtain⟨h,B⟩:=Ce t h B;clear t G;obtain⟨g,cc,rest,x,rfl,an,ae,m,Y⟩:=n.own.blk BJ;cases x;have R:=qh n.blk;have ai:((Ld.RN q s ls).map Ld.g).Nodup:=n.nd.sublist (List.filter_sublist.map _);have au:ls.length+rest.length=c:=by simpa using Y
  have S:=qh (show pz g ls q s rest (i+1) P from⟨[ls[i].ptr],by
   rw[O0 C u F];have:(ls.take i).map Ld.ptr++([ls[i].ptr]++((ls.drop (i+1)).map Ld.ptr++rest))=ls.map Ld.ptr++rest:=by
    rw[<-List.append_assoc,<-List.append_assoc]
    congr 1
    rw[show [ls[i].ptr]=[ls[i]].map Ld.ptr from rfl,<-List.map_append,<-List.map_append,List.take_append_getElem C,List.take_append_drop]
   rw[this];exact m,by rw[O0 C u F,List.length_take];simp;omega,Vj⟩)
  have ak:(Ld.RN q s (ls.take (i+1))).length=i:=by rw[O0 C u F,List.length_take];omega
  have X:∀l∈ls,l.g≠g:=λl hl e=>by have f:=R.o l hl;unfold Holds at f m;rw[e,m] at f;injection f with f;injection f with _ f;exact absurd f Iz
  have am:gx≠g:=λe=>by have f:=B.o;unfold Holds at f m;rw[e,m] at f;injection f with f;injection f with _ f;exact absurd f Iz
  clear m Y n u F;unfold maxLen at ae;go_wp2_with fail;go_loopw [5,6] (λvi O wr=>∃j:Nat,vi=AA ((Ld.RN q s (ls.take j)).length:Int)/\O=AA (j:Int)/\j<=ls.length/\pz g ls q s rest j wr/\Mv (λk=>some g=some k) w wr/\Mv (λk=>k=g) P wr) (λ_ O _=>ls.length - (intOf O).toNat);case atStart=>exact⟨i+1,by rw[ak],by go_num,BJ,S.o,h.o,Mv.refl _ _⟩
  case round=>
   clear S h;obtain⟨j,rfl,rfl,hj,hd,Z,J⟩:=hrel;obtain⟨A,m,E,ah⟩:=hd;have I:Mv (λk=>k=g) P wr:=J;obtain⟨ad,Q,h,z⟩:=bY (B.mv I am) (λl hl=>(R.o l hl).mv I (X l hl)) Z J;clear Z J I;have al:=List.length_filter_le (λl:Ld=>!l.is q s) (ls.take j);rw[List.length_take] at al;have L:(Ld.RN q s (ls.take j)).length<=j:=by unfold Ld.RN;omega
   by_cases ag:j=ls.length
   .subst ag;rw[List.take_length,List.drop_length,List.map_nil,List.nil_append] at m;rw[List.take_length] at E L |-;generalize D:Ld.RN q s ls=d at m E L |-;have aq:d.length<ls.length:=BJ
    have ar:(d.length:Int)<(ls.length:Int):=BJ
    have hz:(Builtin.zeroCells (Value.pointer none).cells (ls.length-d.length)).toList=List.replicate (ls.length-d.length) (Value.pointer none):=by
     refine List.eq_replicate_iff.2 ⟨by simp[Builtin.zeroCells,Value.cells],λv x=>?_⟩;simp only[Builtin.zeroCells,Value.cells] at x;rw[Array.mem_toList_iff,Array.mem_map] at x;obtain⟨k,_,rfl⟩:=x;show (#[Value.pointer none]:Array Value)[k % 1]! =_;rw[Nat.mod_one]
     rfl
    go_wp2_with (first|(refine Ff rfl (.tmp 38) 156 rfl rfl 158 (.pointer none) underlying156 ND g d.length (ls.length-d.length) (c-d.length) BJ rfl _ 158 m _ hz (by simp;omega) (λv x=>by rw[(List.mem_replicate.1 x).2];rfl) ?_;intro w5 af ab));have h:=qh (h.touch ab (.inl rfl));go_wp2_with fail;go_ret;rw[D];refine⟨.slice (Ac g) d.length c,rfl,⟨AV.mk' (xs:=d.map Ld.ptr) (rest:=(List.replicate (ls.length-d.length) (Value.pointer none))++rest) ?_ Vj (by simp;omega) BJ (by unfold maxLen;omega),λl hl=>?_,D▸ai⟩,h.o⟩
    .have e:splice (d.map Ld.ptr++(A++rest)) d.length (List.replicate (ls.length-d.length) (Value.pointer none))=d.map Ld.ptr++(List.replicate (ls.length-d.length) (Value.pointer none)++rest):=by
      have hr:ls.length-d.length=A.length:=BJ
      rw[hr];simp[splice,List.take_append,List.drop_append]
     rw[<-e];exact af
    .have f:l∈ls:=by rw[<-D] at hl;exact(List.mem_filter.1 hl).1
     exact(Q.out l f).touch ab (X l f)
   .have hj2:j<ls.length:=BJ
    have T:wr.cell? ⟨g,j,none⟩=some ls[j].ptr:=by
     rw[m.cell,List.getElem?_append_right (by rw[List.length_map];omega),List.getElem?_append_right (by rw[List.length_map];omega),List.getElem?_append_left (by rw[List.length_map,List.length_map,List.length_drop];omega),List.getElem?_map,List.length_map,show j - (Ld.RN q s (ls.take j)).length-A.length=0 by omega,List.getElem?_drop,List.getElem?_eq_getElem BJ]
     rfl
    have ao:(j:Int)<(ls.length:Int):=BJ
    have r:=qh (WE (q:=q) (s:=s) hj2);have U:(ls.drop j).map Ld.ptr=ls[j].ptr :: (ls.drop (j+1)).map Ld.ptr:=by rw[List.drop_eq_getElem_cons hj2];rfl
    rw[U] at m;have n:=qh (Q.out _ (List.getElem_mem hj2));obtain⟨l,hl⟩:∃l,l=ls[j]:=⟨_,rfl⟩;rw[<-hl] at T r m n;have y:=qh m;clear m U hl;generalize D:Ld.RN q s (ls.take j)=d at y E L r |-;have ap:(d.length:Int)<(ls.length:Int):=BJ
    go_wp2_with fail;refine Ah (K.out l _ ad.out n.o) ?_;rintro w2 t;obtain⟨y,h,z⟩:=D5 t y h z;clear t T;cases u:l.is q s with
    | true=>
     rw[u] at r;go_wp2_with fail;go_roundw;case rel=>
      repeat apply Exists.intro
      exact⟨⟨j+1,by rw[r.o];simp,by go_num,BJ,⟨A++[l.ptr],by rw[r.o];simpa using y.o,by rw[r.o];simp;omega,Vj⟩,h.o,z.o⟩,rfl⟩
     case measure=>simp[intOf];omega
    | false=>
     rw[u] at r;obtain⟨N,mid',rfl⟩:∃N mid',A=N :: mid':=by
      cases A with
      | nil=>simp at ah
      | cons a b=>exact⟨a,b,rfl⟩
     have aa:(d.map Ld.ptr++(N :: mid'++(l.ptr :: (ls.drop (j+1)).map Ld.ptr++rest))).set d.length l.ptr=(d++[l]).map Ld.ptr++(mid'++[l.ptr]++((ls.drop (j+1)).map Ld.ptr++rest)):=by rw[List.set_append_right _ _ Vj];simp
     go_wp2_with (first|(refine Bh rfl 158 (.tmp 33) (.tmp 32) rfl rfl g d.length 158 _ y.o (by simp only[List.length_append,List.length_map,List.length_cons];omega) rfl l.ptr rfl rfl ND rfl ?_;intro w7 H M));rw[aa] at H;obtain⟨ac,h,z⟩:=bP H (h.touch M (.inl rfl)) (z.touch M (.inl rfl));clear H M aa y;go_roundw;case rel=>
      repeat apply Exists.intro
      exact⟨⟨j+1,by rw[r.o];simp,by go_num,BJ,⟨mid'++[l.ptr],by rw[r.o];exact ac.o,by rw[r.o];simp at E |-;omega,Vj⟩,h.o,z.o⟩,rfl⟩
     case measure=>simp[intOf];omega
theorem Bc.ne{w:World}{V:Value}{ob:Option Nat}{ls:List Ld}(h:Bc w V ob ls){a:Nat}{t:TypeId}{L:List Value}(ha:Holds w a t L)(h1:158≠t):∀k,ob=some k->k≠a:=AV.Hw h.own ha h1
theorem Bc.qV{w:World}{V:Value}{ob:Option Nat}{ls:List Ld}(h:Bc w V ob ls){a:Nat}{t:TypeId}{L:List Value}(ha:Holds w a t L)(h1:167≠t):∀l∈ls,l.g≠a:=λl b=>(h.blk l b).ne_of ha h1
theorem Oq(gc n me gl gi:Nat)(V recs out:Value)(ob:Option Nat)(ls:List Ld)(q s:Int)(w:World)(h:Holds w gc 163 (BG n me gl gi V recs out))(hl:Bc w V ob ls)(hlen:ls.length<=1000) :Calls prog 211 #[AP gc,.agg #[AA q,AA s]] w λe w'=>e=.returned (.tuple #[])/\∃V',Holds w' gc 163 (BG n me gl gi V' recs out)/\Bc w' V' ob (Ld.RN q s ls)/\Mv (λk=>k=gc\/ob=some k) w w':=by obtain⟨K,b,a⟩:=bP (λf W B hl=>lF f V ob ls q s W B hl hlen) h hl;have t:=hl.ne h Iz;have c:=qh (Mv.refl (λk=>k=gc\/ob=some k) w);clear h hl;go_in;go_upto_region 1 with(fail);go_name_world W l;obtain⟨d,m,A⟩:=GI 37 ([AA q,AA s]) l;clear l;obtain⟨b,a,c⟩:=D5 m b a c;clear m A;have x:=Am b.o 4;generalize w.heap.size=f at d |-;go_wp2_with fail;refine(K.out f _ d.o a.o).mono ?_;rintro e C ⟨V',rfl,hl,g⟩;obtain⟨b,c,a⟩:=bP (b.mv g (λy=>t _ y rfl)) (c.mv g (λk z=>.inl (.inr z))) hl;clear g x d hl K;obtain⟨u,j,rfl⟩:=a.slice;go_wp2_with (first|(refine sC 4 b.o (.slice u (Ld.RN q s ls).length j) ?_;intro w7 p i));obtain⟨v,c⟩:=WZ (show Holds w7 gc 163 (BG n me gl gi (.slice u (Ld.RN q s ls).length j) recs out) from p) (c.touch i (.inl (.inl rfl)));have r:Mv (λk=>k=gc) _ w7:=Mv.AZ i rfl;have a:=qh (a.mv r t (a.qV b.o Iz));clear p i r;go_wp2_with fail;exact bE ⟨rfl,_,v.o,a.o,c.o⟩
end
end
section
open Go.RowKit Go.Sort
def aN:Go.Shelf.Ren:=⟨fun|6=>149|15=>218|14=>217|28=>270|29=>185|20=>262|21=>263|22=>264|23=>265|24=>266|25=>267|26=>268|27=>269|46=>301|47=>302|48=>303|49=>304|50=>305|57=>327|n=>n,fun|22=>99|24=>37|25=>251|3=>3|39=>291|0=>0|53=>274|55=>190|4=>4|46=>371|45=>370|50=>293|5=>5|9=>9|66=>400|70=>404|76=>426|77=>147|n=>n,fun|n=>n⟩
theorem qc:Go.Proofs.SlLaysF0.n6 prog aN:={
 mixed:=ND,
 f6:=⟨f149.name,Iz,func149.trans (congrArg some ND)⟩,
 f14:=⟨f217.name,Iz,func217.trans (congrArg some ND)⟩,
 f15:=func218.trans (congrArg some ND),
 f20:=⟨f262.name,Iz,func262.trans (congrArg some ND)⟩,
 f21:=⟨f263.name,Iz,func263.trans (congrArg some ND)⟩,
 f22:=⟨f264.name,Iz,func264.trans (congrArg some ND)⟩,
 f23:=⟨f265.name,Iz,func265.trans (congrArg some ND)⟩,
 f24:=⟨f266.name,Iz,func266.trans (congrArg some ND)⟩,
 f25:=⟨f267.name,Iz,func267.trans (congrArg some ND)⟩,
 f26:=⟨f268.name,Iz,func268.trans (congrArg some ND)⟩,
 f27:=⟨f269.name,Iz,func269.trans (congrArg some ND)⟩,
 f28:=func270.trans (congrArg some ND),
 f29:=func185.trans (congrArg some ND),
 f46:=⟨f301.name,Iz,func301.trans (congrArg some ND)⟩,
 f47:=func302.trans (congrArg some ND),
 f48:=func303.trans (congrArg some ND),
 f49:=⟨f304.name,Iz,func304.trans (congrArg some ND)⟩,
 f50:=⟨f305.name,Iz,func305.trans (congrArg some ND)⟩,
 f57:=⟨f327.name,Iz,func327.trans (congrArg some ND)⟩,
 t0:=underlying0,
 a0:=isAgg0,
 z0:=sizeOf0,
 v0:=zeroValue0,
 t3:=underlying3,
 a3:=isAgg3,
 z3:=Tryz.sizeOf3,
 v3:=zeroValue3,
 t4:=underlying4,
 a4:=isAgg4,
 z4:=sizeOf4,
 v4:=zeroValue4,
 t5:=underlying5,
 a5:=isAgg5,
 z5:=sizeOf5,
 v5:=zeroValue5,
 t9:=underlying9,
 a9:=isAgg9,
 z9:=sizeOf9,
 v9:=zeroValue9,
 t22:=underlying99,
 a22:=isAgg99,
 z22:=sizeOf99,
 v22:=zeroValue99,
 t25:=underlying251,
 a25:=isAgg251,
 z25:=sizeOf251,
 v25:=zeroValue251,
 t39:=underlying291,
 a39:=isAgg291,
 z39:=sizeOf291,
 v39:=zeroValue291,
 t45:=underlying370,
 a45:=isAgg370,
 z45:=sizeOf370,
 v45:=zeroValue370,
 t46:=underlying371,
 a46:=isAgg371,
 z46:=sizeOf371,
 v46:=zeroValue371,
 t50:=underlying293,
 a50:=isAgg293,
 z50:=sizeOf293,
 v50:=zeroValue293,
 t53:=underlying274,
 a53:=isAgg274,
 z53:=sizeOf274,
 v53:=zeroValue274,
 t55:=underlying190,
 a55:=isAgg190,
 z55:=sizeOf190,
 v55:=zeroValue190,
 t66:=underlying400,
 a66:=isAgg400,
 z66:=sizeOf400,
 v66:=zeroValue400,
 t70:=underlying404,
 a70:=isAgg404,
 z70:=sizeOf404,
 v70:=zeroValue404,
 t76:=underlying426,
 a76:=isAgg426,
 z76:=sizeOf426,
 v76:=zeroValue426,
 t77:=underlying147,
 a77:=isAgg147,
 z77:=sizeOf147,
 v77:=zeroValue147 }
def Ec(x y:Int × Int):Bool:=decide (x.1<y.1)||(x.1==y.1&&decide (x.2<y.2))
def dK(x y:Int × Int):Int:=if Ec x y then -1 else 1
def encI(x:Int × Int):List Value:=[AA x.1,AA x.2]
theorem QW(x y:Int × Int):ltOf dK x y=Ec x y:=by unfold ltOf dK;cases Ec x y<;>rfl
theorem wX:SWO (ltOf dK):=
 ⟨λx=>(by rw[QW];simp[Ec]),λx y z a b=>(by rw[QW] at *;simp[Ec] at *;omega),λx y z a b=>(by rw[QW] at *;simp[Ec] at *;omega)⟩
theorem Xa(x y:Int × Int)(W:World):Calls prog 151 #[.agg #[AA x.1,AA x.2],.agg #[AA y.1,AA y.2]] W λe w'=>e=.returned (.bool (Ec x y))/\∃q os',w'=Go.Sort.grow (W.drewN q) os':=by
 have d:(Ec x y=true/\x.1<y.1)\/(Ec x y=false/\¬x.1<y.1/\(x.1==y.1)=false)\/(¬x.1<y.1/\(x.1==y.1)=true/\Ec x y=decide (x.2<y.2)):=by
  unfold Ec;by_cases a:x.1<y.1
  .exact .inl ⟨by simp[a],a⟩
  .by_cases b:x.1=y.1
   .exact .inr (.inr ⟨a,by simp[b],by simp[b]⟩)
   .exact .inr (.inl ⟨by simp[a,b],a,by simp[b]⟩)
 rcases d with⟨a,b⟩|⟨a,b,c⟩|⟨b,c,a⟩;all_goals
  rw[a];clear a;go_in;go_wp2_with fail;go_ret;exact⟨rfl,0,_,by rw[Go.Sort.alloc_eq_grow,Go.Sort.alloc_eq_grow,Go.Sort.grow_grow];rfl⟩
theorem vM(x y:Int × Int)(W:World):Calls prog 150 #[.agg #[AA x.1,AA x.2],.agg #[AA y.1,AA y.2]] W λe w'=>e=.returned (AA (dK x y))/\∃q os',w'=Go.Sort.grow (W.drewN q) os':=by
 have K:=qh (λW=>Xa x y W);unfold dK;generalize Ec x y=b at K;cases b;all_goals
  go_in;go_wp2_with fail;refine Ah (K.out _) ?_;rintro c ⟨q,a,rfl⟩;go_wp2_with fail;go_ret;exact⟨rfl,q,_,by rw[Go.Sort.alloc_eq_grow,Go.Sort.alloc_eq_grow,Go.Sort.grow_grow];rw[show ∀(a:Array Obj) q,(Go.Sort.grow W a).drewN q=Go.Sort.grow (W.drewN q) a from λ_ _=>rfl,Go.Sort.grow_grow]⟩
theorem kZ(blk off size:Nat)(w:World):CmpLays prog 150 #[] encI 2 dK blk off size w:=λ_ _ _ _ x y=>vM x y _
def insL(P:List (Int × Int)):List Value:=P.flatMap encI
theorem D6(P:List (Int × Int)):(insL P).length=P.length*2:=by
 induction P with
 | nil=>rfl
 | cons x P ih=>rw[insL,List.flatMap_cons,List.length_append,show (encI x).length=2 from rfl,<-insL,ih,List.length_cons];omega
theorem QQ:∀(P:List (Int × Int)) (i c:Nat),i<P.length->c<2->(insL P)[i*2+c]?=some (encI P.toArray[i]!)[c]!
 | [],_,_,h,_=>by cases h
 | x :: P,0,c,_,hc=>by rw[insL,List.flatMap_cons,List.getElem?_append_left (by show _<2;omega)];rcases(show c=0\/c=1 by omega) with rfl|rfl<;>rfl
 | x :: P,i+1,c,h,hc=>by
  rw[insL,List.flatMap_cons,List.getElem?_append_right (by show 2<=_;omega),show (encI x).length=2 from rfl,show (i+1)*2+c-2=i*2+c by omega,<-insL,QQ P i c (by simpa using h) hc];have h1:i<P.length:=by simpa using h
  have a:i+1<(x :: P).length:=h;simp[h1]
theorem Om(P:List (Int × Int)):(flatK encI 2 P.toArray).toList=insL P:=by
 apply List.ext_getElem?;intro t;by_cases h:t<P.length*2
 .have h3:=get_flatK encI 2 P.toArray t (by simpa using h);have a:=QQ P (t / 2) (t % 2) BJ BJ;rw[show t / 2*2+t % 2=t by omega] at a;rw[a,<-h3,List.getElem?_eq_getElem (by simpa using h)];have b:t<(flatK encI 2 P.toArray).size:=by simpa using h
  simp[b];exact(getElem!_pos _ t b).symm
 .rw[List.getElem?_eq_none (by simp;omega),List.getElem?_eq_none (by rw[D6];omega)]
theorem OL{w:World}{g:Nat}{e:TypeId}{L M rest:List Value}(h:Go.Proofs.YtimdpiifpibgfaaGreatDoor.Holds w g e (L++rest))(hl:M.length=L.length):Go.Proofs.YtimdpiifpibgfaaGreatDoor.Holds (putRow id w g 0 M.toArray) g e (M++rest):=by
 unfold Go.Proofs.YtimdpiifpibgfaaGreatDoor.Holds at *;unfold putRow mapBlock;show (w.heap.modify g _)[g]?=_;rw[Array.getElem?_modify,if_pos rfl,h];simp only[Option.map_some,onCells]
 congr 2
 unfold putCells;apply Array.ext
 .simp[hl]
 .intro i h1 h2;simp only[Array.getElem_mapIdx];by_cases a:i<M.length
  .rw[if_pos ⟨Nat.zero_le _,by simpa using a⟩];simp[a,List.getElem_append_left]
  .rw[if_neg (λh=>a (by simpa using h.2))];simp only[List.getElem_toArray];rw[List.getElem_append_right BJ,List.getElem_append_right BJ];simp[hl]
theorem OM(w:World)(g:Nat)(d:Array Value):Touch g w (putRow id w g 0 d):=by
 refine⟨rfl,rfl,rfl,?_,λk b a=>?_⟩
 .show _<=(w.heap.modify g _).size;simp
 .show (w.heap.modify g _)[k]?=_;rw[Array.getElem?_modify,if_neg (Ne.symm a)]
theorem IY(w:World)(os:Array Obj):Below w.heap.size w (Go.Sort.grow w os):=by
 refine⟨rfl,rfl,rfl,?_,λk a=>?_⟩
 .show _<=(w.heap++os).size;rw[Array.size_append];omega
 .show (w.heap++os)[k]?=_;rw[Array.getElem?_append_left a]
theorem Sj{w:World}{g:Nat}{e:TypeId}{P:List (Int × Int)}{rest:List Value}(h:Go.Proofs.YtimdpiifpibgfaaGreatDoor.Holds w g e (insL P++rest)):HoldsK encI 2 w g 0 P.toArray:=by
 intro j a;rw[size_flatK] at a;have f:j<(insL P).length:=by rw[D6];simpa using a
 have c:=h.cell j;have d:w.frozen? ⟨g,0+j,none⟩=false:=by unfold Go.Proofs.YtimdpiifpibgfaaGreatDoor.Holds at h;simp[World.frozen?,h]
 refine⟨?_,d⟩;rw[Nat.zero_add,c,List.getElem?_append_left f,<-Om];have b:j<(flatK encI 2 P.toArray).size:=by rw[size_flatK];exact a
 show (flatK encI 2 P.toArray).toList[j]?=some (flatK encI 2 P.toArray)[j]!;rw[getElem!_pos _ j b];simp[b]
theorem aO(g cap:Nat)(P:List (Int × Int))(w:World)(h:AV w (.slice (Ac g) P.length cap) (some g) 37 2 P.length (insL P))(hl:P.length<=100000) :Calls prog 149 #[.slice (Ac g) P.length cap,.func (.func 150) #[] #[]] w λe w'=>e=.returned (.tuple #[])/\∃P',P'.Perm P/\AV w' (.slice (Ac g) P.length cap) (some g) 37 2 P.length (insL P')/\Touch g w w':=by
 obtain⟨f,c,d,b,z,u,y,i,l⟩:∃f c d,(Value.slice (Ac g) P.length cap)=.slice (Ac f) P.length c/\some g=some f/\P.length<=c/\c<=maxLen/\Go.Proofs.YtimdpiifpibgfaaGreatDoor.Holds w f 37 (insL P++d)/\(insL P++d).length=c*2:=by
  rcases h.cases with⟨b,_⟩|h
  .cases b
  .exact h
 cases z;injection b with _ _ b;subst b;have r:∀j w,(callFunc 150 j).run prog w=.ok (.enter 150 j) w:=enters_of func150 ND rfl;have k:=AnyQ.slices_SortFunc qc 2 isAgg37 sizeOf37 encI (λ_=>rfl) (λx v b=>by simp[encI] at b;rcases b with rfl|rfl<;>rfl) dK wX 150 #[] g 0 cap P.toArray w r (kZ g 0 _ w) (Sj i) i.lt (by simp;omega);rw[show P.toArray.size=P.length by simp] at k;refine Calls.mono (show Calls prog 149 _ _ _ from k) ?_;rintro e w' ⟨rfl,a,n,C,A,_,rfl⟩;obtain⟨o,_,m⟩:=A;refine⟨rfl,a.toList,?_,?_⟩
 .have e1:(a.extract 0 P.length).toList=a.toList:=by rw[show P.length=a.size by rw[o];simp,Array.extract_size]
  have p:(P.toArray.extract 0 P.length).toList=P:=Vj
  rw[e1,p] at m;exact m
 .have hd:a.toList.length=P.length:=by rw[Array.length_toList,o];simp
  have B:Go.Proofs.YtimdpiifpibgfaaGreatDoor.Holds (Go.Sort.ahead w n) g 37 (insL P++d):=i;have s:=OL (M:=insL a.toList) B (by rw[D6,D6,hd]);have q:flatK encI 2 a=(insL a.toList).toArray:=by have:=Om a.toList;rw[<-this]
  have t:Go.Proofs.YtimdpiifpibgfaaGreatDoor.Holds (sortWorldK encI 2 w g 0 n a C) g 37 (insL a.toList++d):=by unfold sortWorldK putRowK;rw[q];exact s.bel (IY _ _)
  refine⟨AV.mk' t (by rw[D6,hd]) (by rw[List.length_append,D6,hd];rw[List.length_append,D6] at l;exact l) u y,?_⟩;unfold sortWorldK putRowK;exact((⟨rfl,rfl,rfl,Ve,λ_ _ _=>rfl⟩:Touch g w (Go.Sort.ahead w n)).trans (OM _ _ _)).trans (Touch.of_below (IY _ _))
end
section
variable [In] [CO]
theorem iH(x y:Int × Int)(W:World):Calls prog 151 #[.agg #[AA x.1,AA x.2],.agg #[AA y.1,AA y.2]] W λe w'=>e=.returned (.bool (Ec x y))/\Below W.heap.size W w':=
 (Xa x y W).mono λe w' ⟨a,q,c,b⟩=>⟨a,by subst b;exact AO (Bg _ W q) (IY _ _)⟩
theorem lw(bs:Nat)(V:Value)(ob:Option Nat)(ls:List Ld)(nl:Ld)(w:World)(h:Holds w bs 158 [nl.ptr])(ho:AV w V ob 158 1 ls.length (ls.map Ld.ptr))(hlen:ls.length<=900) :Calls prog 272 #[V,AA ls.length,.slice (Ac bs) 1 1] w λe w'=>∃V' ob',e=.returned V'/\AV w' V' ob' 158 1 (ls.length+1) (ls.map Ld.ptr++[nl.ptr])/\(ob'=ob\/∃k,ob'=some k/\w.heap.size<=k)/\Mv (λk=>ob=some k) w w':=by
 obtain⟨m,n⟩:=WZ h ho;obtain⟨p,c,rfl⟩:∃p c,V=.slice p (ls.length:Nat) c:=by
  rcases ho.cases with⟨r,_,a,_⟩|⟨_,_,_,r,_⟩
  .rw[r,a];exact⟨_,_,rfl⟩
  .exact⟨_,_,r⟩
 have s:ls.length<=c:=by
  rcases ho.cases with⟨r,_,a,_⟩|⟨_,_,_,r,_,a,_⟩
  .omega
  .cases r;exact a
 clear h ho;go_in;go_wp2_with (first|(at_builtin;refine aS (.pointer none) 1 8 n.o [nl.ptr] (m.reads 0 _ (λj v q=>by rw[Nat.zero_add];exact q)) ?_ (by simp[Ld.ptr,Value.oneCell']);intro u t x i l g));all_goals
  obtain⟨b,f,d⟩:=bP g i l;clear i l g;go_ret;first
  | exact⟨_,_,rfl,f.o,d.o,b.o⟩
  | exact⟨_,rfl,_,f.o,d.o,b.o⟩
theorem jZ(gc n me gl gi:Nat)(V recs out:Value)(ob:Option Nat)(ls:List Ld)(nl:Ld)(w:World)(h:Holds w gc 163 (BG n me gl gi V recs out))(hl:Bc w V ob ls)(hn:Holds w nl.g 167 nl.cells)(hlt:∀l∈ls,Ec (l.r,l.s) (nl.r,nl.s)=true)(hno:∀l∈ls,l.is nl.r nl.s=false)(hfr:∀l∈ls,l.g≠nl.g)(hlen:ls.length<=900) :Calls prog 221 #[AP gc,nl.ptr] w λe w'=>e=.returned (.tuple #[])/\∃V' ob',Holds w' gc 163 (BG n me gl gi V' recs out)/\Bc w' V' ob' (ls++[nl])/\(ob'=ob\/∃k,ob'=some k/\w.heap.size<=k)/\Mv (λk=>k=gc\/ob=some k) w w':=by
 obtain⟨O,KI,KS,j,f,q,m,af⟩:=ed (λW h hl=>Oq gc n me gl gi V recs out ob ls nl.r nl.s W h hl BJ) (λbs V W h ho=>lw bs V ob ls nl W h ho hlen) iH h hl hn (Mv.refl (λk=>k=gc\/ob=some k) w) hlt;have ac:=hl.ne hn Iz;have ak:=hl.ne h Iz;have ai:nl.g≠gc:=hn.ne_of h Iz;have al:=Jb hno;have au:=hl.qV h Iz;clear h hl hn hlt hno;go_in;obtain⟨C,D⟩:=Cf q.o 0 1;obtain⟨E,nr,ns,nL⟩:=nl;simp only[Ld.ptr] at C D |-;go_wp2_with fail;refine Ah (O.o _ j.o f.o) ?_;rintro w1 ⟨V1,T,K,L⟩;rw[al] at K;have j:=qh T;have q:=qh (q.mv L (λt=>by
  rcases t with t|t
  .exact ai t
  .exact ac _ t rfl))
 obtain⟨m,f⟩:=WZ (m.mv L (λk J=>.inl J)) K;clear T L C D K O;go_wp2_with fail;go_loopw [4] (λN wr=>∃i:Nat,N=AA (i:Int)/\i<=ls.length/\Below w1.heap.size w1 wr) (λN _=>ls.length - (intOf N).toNat);case atStart=>exact⟨0,rfl,Nat.zero_le _,Below.refl _ _⟩
 case round=>
  obtain⟨i,rfl,hi,v⟩:=hrel;obtain⟨j,f,q,m⟩:=En v j f q m;have A:=qh v;clear v;obtain⟨p,c,rfl⟩:=f.slice;by_cases ag:i=ls.length
  .subst ag;have y:=Am j.o 4;go_upto_region 2 with(fail);go_quiet (fail);have S:Below wr.heap.size wr (wr.drewN nq):=Bg _ wr nq;obtain⟨j,f,q,m⟩:=En S j f q m;clear S y A;generalize wr.drewN nq=u at j f q m |-;have y:=Am j.o 4;go_wp2_with fail;have x:=qh (AC u 158 [AP E]);have R:Below u.heap.size u (u.alloc (.cells #[AP E] 158)):=by go_grown
   have an:=m.size;obtain⟨j,f,q,m⟩:=En R j f q m;clear R y;generalize u.alloc (.cells #[AP E] 158)=W3 at x j f q m |-;have am:=x.lt;generalize u.heap.size=gn at x an am |-;refine(KI.o gn _ _ x.o f.own).mono ?_;rintro e w5 ⟨P,F,rfl,aa,ab,z⟩;obtain⟨j,m⟩:=WZ (j.mv z (λt=>ak _ t rfl)) (m.mv z (λk J=>.inl (.inr J)));have Y:Bc w5 P F (ls++[⟨E,nr,ns,nL⟩]):=⟨by simpa using aa,λl hl=>by
    rcases List.mem_append.1 hl with hl|hl
    .exact(f.blk l hl).mv z (λt=>f.ne (f.blk l hl) Iz _ t rfl)
    .rw[List.mem_singleton.1 hl];exact q.mv z (λt=>ac _ t rfl),by
    rw[List.map_append];exact List.nodup_append.2 ⟨f.nd,Vj,λa ha b v e=>by
     obtain⟨l,hl,rfl⟩:=List.mem_map.1 ha;rw[List.mem_map] at v;obtain⟨l2,ah,rfl⟩:=v;rw[List.mem_singleton.1 ah] at e;exact hfr l hl e⟩⟩
   have aj:F=ob\/∃k,F=some k/\w.heap.size<=k:=ab.imp id (λ⟨k,h,h2⟩=>⟨k,h,BJ⟩);clear z aa ab x f q;have f:=qh Y;clear Y;obtain⟨p5,Q,rfl⟩:∃p c,P=.slice p (ls.length+1:Nat) c:=by obtain⟨p,c,h⟩:=f.slice;exact⟨p,c,by rw[h];simp⟩
   go_wp2_with (first|(refine sC 4 j.o (.slice p5 (ls.length+1:Nat) Q) ?_;intro w7 X M));obtain⟨ae,m⟩:=WZ (show Holds w7 gc 163 (BG n me gl gi (.slice p5 (ls.length+1:Nat) Q) recs out) from X) (m.touch M (.inl (.inl rfl)));have Z:Mv (λk=>k=gc) _ w7:=Mv.AZ M rfl;have f:=qh (f.mv Z (f.ne j.o Iz) (f.qV j.o Iz));clear X M Z;go_wp2_with fail;exact bE ⟨rfl,_,F,ae.o,f.o,aj,m.o⟩
  .have hi2:i<ls.length:=BJ
   have ar:(i:Int)<(ls.length:Int):=BJ
   obtain⟨g,cc,av,hv,_,ap,aq,U,_⟩:=f.own.blk BJ;cases hv;obtain⟨H,G⟩:=WZ (f.blk _ (List.getElem_mem hi2)) (af.o _ (List.getElem_mem hi2));have B:=λd os=>U.grown d os i;rw[List.getElem?_append_left (by simpa using hi2),List.getElem?_map,List.getElem?_eq_getElem hi2] at B;generalize ls[i]=l at H G B;obtain⟨lg,lr,ao,lL⟩:=l;simp only[Option.map,Ld.ptr] at B;have y:=MK j.o 4;obtain⟨n0,n1⟩:=JO q.o 0 1;obtain⟨C,D⟩:=JO H.o 0 1;have I:=qh (λW=>KS.o (lr,ao) (nr,ns) W);rw[G.o] at I;go_upto_region 2 with(fail);refine wp_region_quiet_below ND ND ?_;repeat go_big_quiet_step (first|(go_at_call 151;with_reducible exact AQ λW _=>I.o W))
   refine wpQuiet_nil ?_;intro w5 ad;have A:=qh (AO A.o (Aa ad));clear ad y n0 n1 C D B H G I U;go_wp2_with fail;go_roundw;case rel=>exact⟨i+1,by go_num,BJ,A.o⟩
   case measure=>simp[intOf];omega
end
end Go.Proofs.YtimdpiifpibgfaaGreatDoor
