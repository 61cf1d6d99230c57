/- A part of the proof of TopReads. -/
import Derived.Maps.RangeWalk
import Derived.Maps.OwnSet
import Derived.DeepKeys4
import Derived.Deep.RegionWith
import Derived.Deep.CutRange
import Derived.Lib.ItoaWalk
import Derived.Laws.StructEq
import Derived.Laws.Cover2
import Derived.IntWalk
import Derived.Laws.Strings
import Derived.Sort.Walk0
import Derived.Lib.MinMaxS
import Derived.Test.YtimdpiifpibgfaaGreatDoorQr2
set_option linter.all false
set_option maxRecDepth 20000
set_option maxHeartbeats 16000000
open Go.RowKit Go.Maps
namespace Go.Proofs.YtimdpiifpibgfaaGreatDoor
open Tryz
theorem gK:(37:TypeId)<prog.types.size:=of_decide_eq_true ND
theorem mJ:laidOutB prog=true:=ND
theorem CV:Keyed prog 37:=Keyed.of_law (deep_law_laid mJ (m:=2) BJ gK ND ND)
theorem Ny:prog.cellsOf 37=2:=ND
theorem intCells:prog.cellsOf 3=1:=ND
theorem keyType:prog.keyType 37=true:=ND
def Dz(r s:Int):Value:=.agg #[AA r,AA s]
def Ia(r s:Int):Lit:=.string (keyBytes [.int .i64 r,.int .i64 s])
theorem UX(d:Nat)(r s:Int)(hr:(Lit.int .i64 r).wf=true)(hs:(Lit.int .i64 s).wf=true):prog.keyLits (d+2) 37 [.int .i64 r,.int .i64 s]=some [.int .i64 r,.int .i64 s]:=by
 have a:∀n,(Lit.int .i64 n).wf=true->prog.keyLits (d+1) 3 [.int .i64 n]=some [.int .i64 n]:=λn b=>by unfold Program.keyLits;rw[underlying3];simp[b]
 unfold Program.keyLits;rw[underlying37];simp[Ny,intCells,a r hr,a s hs]
theorem DX(r s:Int)(hr:(Lit.int .i64 r).wf=true)(hs:(Lit.int .i64 s).wf=true):keyOf prog 37 (Dz r s)=some (Ia r s):=by
 have c:∃d,prog.types.size+1=d+2:=by obtain⟨d,a⟩:=Nat.exists_eq_add_of_le (show 1<=prog.types.size from Nat.le_trans Iz (Nat.le_of_lt gK));exact⟨d,by rw[a,Nat.add_comm 1 d]⟩
 obtain⟨d,a⟩:=c;unfold keyOf;rw[underlying37];have b:(Dz r s).formed prog 37=true:=by simp[Dz,Value.formed,underlying37,Ny]
 simp only[keyType,b,a,Bool.and_self,if_true];simp only[Dz,Value.cells,Array.toList];rw[UX d r s hr hs]
 rfl
theorem Jo{v:Value}{l:Lit}(h:keyOf prog 37 v=some l):∃r s,v=Dz r s/\(Lit.int .i64 r).wf=true/\(Lit.int .i64 s).wf=true:=by
 unfold keyOf at h;rw[underlying37] at h;simp only at h;split at h;case isFalse=>cases h
 rename_i a;simp only[Bool.and_eq_true] at a;obtain⟨_,a⟩:=a;rw[Option.map_eq_some_iff] at h;obtain⟨q,h,_⟩:=h;unfold Value.formed at a;rw[underlying37] at a;cases v<;>simp only[Bool.false_eq_true] at a
 rename_i i;rw[Ny,beq_iff_eq] at a;obtain⟨g⟩:=i
 match g,a with
 | [c0,c1],_=>
  have f:∀(d:Nat) (c:Value) (x:List Lit),prog.keyLits d 3 [c]=some x->∃n,c=AA n/\(Lit.int .i64 n).wf=true:=λd c x b=>by
   cases d
   .simp[Program.keyLits] at b
   unfold Program.keyLits at b;rw[underlying3] at b;cases c<;>simp at b
   obtain⟨⟨rfl,p⟩,_⟩:=b;exact⟨_,rfl,p⟩
  unfold Program.keyLits at h;rw[underlying37] at h;simp[Value.cells,Ny,intCells,Option.bind_eq_some_iff] at h;obtain⟨u,j,y,⟨w,k,_⟩,_⟩:=h;obtain⟨r,rfl,m⟩:=f _ _ _ j;obtain⟨t,rfl,o⟩:=f _ _ _ k;exact⟨r,t,rfl,m,o⟩
def NF(x:Cm)(q:Int):Value:=.agg #[AA x.k,AA x.c,AA x.s,.string x.a,.string x.b,.string x.o,.string x.v,AA q]
structure CY where
 r:Int
 s:Int
 c:Cm
 q:Int
def CY.key(e:CY):Lit:=Ia e.r e.s
def CY.val(e:CY):Value:=NF e.c e.q
def BZ(v:Value):Option (DataW Value × List MemPlace):=some (.held v,[])
structure Lists(D:DataW Value)(l:List CY):Prop where
 tidy:Tidy D
 size:Maps.size D=l.length
 apart:l.Pairwise λx y=>¬(x.r=y.r/\x.s=y.s)
 has:∀k,Maps.has D k=l.any λe=>e.key.sameKey k
 at_:∀e∈l,∀z,D.atKey e.key z=.held e.val
theorem LD{r s r' s':Int}(hr:(Lit.int .i64 r).wf=true)(hs:(Lit.int .i64 s).wf=true)(hr':(Lit.int .i64 r').wf=true)(hs':(Lit.int .i64 s').wf=true)(h:Ia r s=Ia r' s'):r=r'/\s=s':=by have:=CV.inj (DX r s hr hs) (by rw[h];exact DX r' s' hr' hs');simp only[Dz,Value.agg.injEq,Array.mk.injEq,List.cons.injEq,Value.int.injEq] at this;exact⟨this.1.2,this.2.1.2⟩
theorem Jn(r s:Int):WideAt.IsKeyLit (Ia r s):=by unfold Ia;trivial
theorem Lists.empty:Lists (.map []) []:=⟨tidy_empty,rfl,List.Pairwise.nil,λk=>rfl,λe a=>by cases a⟩
def IA(l:List CY)(e:CY):List CY:=if l.any (λx=>x.r==e.r&&x.s==e.s) then l.map (λx=>if x.r=e.r/\x.s=e.s then e else x) else l++[e]
def Wj(l:List CY):Prop:=∀e∈l,(Lit.int .i64 e.r).wf=true/\(Lit.int .i64 e.s).wf=true
theorem Di{r s r' s':Int}(hr:(Lit.int .i64 r).wf=true)(hs:(Lit.int .i64 s).wf=true)(hr':(Lit.int .i64 r').wf=true)(hs':(Lit.int .i64 s').wf=true):(Ia r s).sameKey (Ia r' s')=(r==r'&&s==s'):=by
 by_cases h:r=r'/\s=s'
 .obtain⟨rfl,rfl⟩:=h;rw[WideAt.sameKey_self (Jn r s)];simp
 .rw[Maps.sameKey_ne (λe=>h (LD hr hs hr' hs' e))];symm;rw[Bool.and_eq_false_iff,beq_eq_false_iff_ne,beq_eq_false_iff_ne];by_cases a:r=r'
  .exact .inr λb=>h ⟨a,b⟩
  .exact .inl a
theorem Lists.JU{D:DataW Value}{l:List CY}(h:Lists D l)(hw:Wj l)(r s:Int)(hr:(Lit.int .i64 r).wf=true)(hs:(Lit.int .i64 s).wf=true):Maps.has D (Ia r s)=l.any λx=>x.r==r&&x.s==s:=by
 rw[h.has];rw[Bool.eq_iff_iff,List.any_eq_true,List.any_eq_true];constructor
 .rintro⟨x,hx,hk⟩;exact⟨x,hx,by rw[<-Di (hw x hx).1 (hw x hx).2 hr hs];exact hk⟩
 .rintro⟨x,hx,hk⟩;exact⟨x,hx,by rw[CY.key,Di (hw x hx).1 (hw x hx).2 hr hs];exact hk⟩
theorem Lists.put{D:DataW Value}{l:List CY}(h:Lists D l)(hw:Wj l)(e:CY)(he:(Lit.int .i64 e.r).wf=true/\(Lit.int .i64 e.s).wf=true):Lists (D.put e.key (.held e.val)) (IA l e):=by
 have m:IsMap D:=h.tidy.isMap;have f:WideAt.IsKeyLit e.key:=Jn _ _;have t:=h.JU hw e.r e.s he.1 he.2;refine⟨h.tidy.put f _,?_,?_,λk=>?_,?_⟩
 .rw[Maps.size_put h.tidy,show Maps.has D e.key=_ from t,h.size];unfold IA;split<;>simp
 .unfold IA;split
  .rw[List.pairwise_map];refine h.apart.imp fun {x y} q=>?_;split<;>split<;>rename_i g i
   .exact λ_=>q ⟨g.1.trans i.1.symm,g.2.trans i.2.symm⟩
   .exact λa=>i ⟨a.1.symm,a.2.symm⟩
   .exact λa=>g a
   .exact q
  .rename_i d;refine List.pairwise_append.2 ⟨h.apart,List.pairwise_singleton _ _,λx b y o a=>?_⟩;rw[List.mem_singleton.1 o] at a;exact d (List.any_eq_true.2 ⟨x,b,by simp[a.1,a.2]⟩)
 .by_cases hke:k=e.key
  .rw[hke,Maps.has_put_same m f];symm;rw[List.any_eq_true];refine⟨e,?_,WideAt.sameKey_self f⟩;unfold IA;split
   .rename_i ha;obtain⟨x,b,c⟩:=List.any_eq_true.1 ha;simp only[Bool.and_eq_true,beq_iff_eq] at c;exact List.mem_map.2 ⟨x,b,if_pos c⟩
   .simp
  .rw[Maps.has_put_other hke,h.has];have j:e.key.sameKey k=false:=Maps.sameKey_ne (λa=>hke a.symm);unfold IA;split
   .rw[List.any_map];rw[Bool.eq_iff_iff,List.any_eq_true,List.any_eq_true];refine⟨?_,?_⟩;all_goals
     rintro⟨x,b,c⟩;refine⟨x,b,?_⟩
    .simp only[Function.comp];rw[if_neg]
     .exact c
     .intro a;have:x.key=e.key:=by unfold CY.key;rw[a.1,a.2]
      rw[this,j] at c;cases c
    .simp only[Function.comp] at c;split at c
     .rw[j] at c;cases c
     .exact c
   .simp[j]
 .intro x b z;unfold IA at b;have p:x∈l->¬(x.r=e.r/\x.s=e.s)->(D.put e.key (.held e.val)).atKey x.key z=.held x.val:=λn d=>by rw[Maps.atKey_put_other,h.at_ x n];intro a;exact d (LD (hw x n).1 (hw x n).2 he.1 he.2 a)
  split at b
  .obtain⟨y,o,rfl⟩:=List.mem_map.1 b;split
   .exact Maps.atKey_put_same m f _ _
   .rename_i d;rw[if_neg d] at p;exact p o d
  .rename_i d;rcases List.mem_append.1 b with b|b
   .exact p b λa=>d (List.any_eq_true.2 ⟨x,b,by simp[a.1,a.2]⟩)
   .rw[List.mem_singleton.1 b];exact Maps.atKey_put_same m f _ _
def Ry(l:List CY):Prop:=∀e∈l,(0<=e.r/\e.r<7)/\(1<=e.s/\e.s<=1073741824)/\(0<=e.q/\e.q<=1099511627776)/\e.c.a.size<=16
theorem Ry.wf{l:List CY}(h:Ry l):Wj l:=λe a=>⟨WalkArith.wf_i64 (by have:=(h e a).1;omega),WalkArith.wf_i64 (by have:=(h e a).2.1;omega)⟩
theorem aA{l:List CY}(h:Ry l){e:CY}(he:(0<=e.r/\e.r<7)/\(1<=e.s/\e.s<=1073741824)/\(0<=e.q/\e.q<=1099511627776)/\e.c.a.size<=16):Ry (IA l e):=by
 unfold IA;split
 .intro x b;obtain⟨y,d,rfl⟩:=List.mem_map.1 b;split
  .exact he
  .exact h y d
 .intro x b;rcases List.mem_append.1 b with b|b
  .exact h x b
  .rw[List.mem_singleton.1 b];exact he
def eX(l:List CY)(r s:Int):List CY:=l.filter λx=>!(x.r==r&&x.s==s)
section
theorem LU(n m:Int)(w:World):Calls prog 126 #[AA n,AA m] w λe w'=>e=.returned (.bool (decide (1<=n)&&decide (n<=m)))/\Below w.heap.size w w':=by
 go_in;go_wp2_with fail;all_goals
  go_ret;exact⟨BX (by first|(simp[*];done)|(simp;omega)),by go_grown⟩
theorem fB(a0 a1 a2 b0 b1 b2:Int)(a3 a4 a5 a6 b3 b4 b5 b6:ByteArray)(w:World):(Op.equalIn 10000 23 (.agg #[AA a0,AA a1,AA a2,.string a3,.string a4,.string a5,.string a6]) (.agg #[AA b0,AA b1,AA b2,.string b3,.string b4,.string b5,.string b6])).run prog w=.ok (a0==b0&&(a1==b1&&(a2==b2&&(decide (a3.toList=b3.toList)&&(decide (a4.toList=b4.toList)&&(decide (a5.toList=b5.toList)&&decide (a6.toList=b6.toList))))))) w:=by
 rw[show (10000:Nat)=9999+1 from rfl,run_equalIn_struct w 9999 23 _ _ ND ND];go_simp;by_cases a:a0=b0
 .by_cases h1:a1=b1
  .by_cases h2:a2=b2
   .by_cases h3:a3.toList=b3.toList
    .by_cases h4:a4.toList=b4.toList
     .by_cases h5:a5.toList=b5.toList
      .by_cases h6:a6.toList=b6.toList<;>simp[a,h1,h2,h3,h4,h5,h6]
      .simp[a,h1,h2,h3,h4,h5]
     .simp[a,h1,h2,h3,h4]
    .simp[a,h1,h2,h3]
   .simp[a,h1,h2]
  .simp[a,h1]
 .simp[a]
def ML(k:Int)(b:ByteArray):ByteArray:=if k=5 then b else ⟨#[]⟩
def MM(k:Int)(o:ByteArray):ByteArray:=if k=4 then o else ⟨#[]⟩
def MN(k:Int)(v:ByteArray):ByteArray:=if k=2\/k=4 then v else ⟨#[]⟩
def vU(a b o v b' o' v':ByteArray):Bool:=decide (a.toList=a.toList)&&(decide (b.toList=b'.toList)&&(decide (o.toList=o'.toList)&&decide (v.toList=v'.toList)))
def N9(a b o v:ByteArray):Bool:=decide ((16:Int)<a.size)||(decide ((16:Int)<b.size)||(decide ((64:Int)<o.size)||decide ((64:Int)<v.size)))
def RJ(k c s:Int)(a b o v:ByteArray):Bool:=k==0&&(c==0&&(s==0&&(decide (a.toList=(⟨#[]⟩:ByteArray).toList)&&(decide (b.toList=(⟨#[]⟩:ByteArray).toList)&&(decide (o.toList=(⟨#[]⟩:ByteArray).toList)&&decide (v.toList=(⟨#[]⟩:ByteArray).toList))))))
def EY(k c s:Int)(a b o v:ByteArray):Bool:=RJ k c s a b o v||(((decide (1<=k)&&decide (k<=5))&&((decide (1<=c)&&decide (c<=8))&&(decide (1<=s)&&decide (s<=1099511627776))))&&(vU a b o v (ML k b) (MM k o) (MN k v)&&(!N9 a b o v&&(!decide (a.toList=[])||k==5))))
theorem VR(k c s:Int)(a b o v:ByteArray)(W:World):(binOp .eql 23 (.agg #[AA k,AA c,AA s,.string a,.string b,.string o,.string v]) (.agg #[AA 0,AA 0,AA 0,AU,AU,AU,AU])).run prog W=.ok (.bool (RJ k c s a b o v)) W:=by
 rw[run_eql_struct,fB]
 rfl
set_option maxRecDepth 4000 in
theorem cu(k c s:Int)(a b o v:ByteArray)(w:World):Calls prog 127 #[.agg #[AA k,AA c,AA s,.string a,.string b,.string o,.string v]] w λe w'=>e=.returned (.agg #[AA k,AA c,AA s,.string a,.string (ML k b),.string (MM k o),.string (MN k v)])/\Below w.heap.size w w':=by
 have q:(k=2/\(k==2)=true)\/(k=4/\(k==2)=false/\(k==4)=true)\/(k=5/\(k==2)=false/\(k==4)=false/\(k==5)=true)\/((¬k=2/\¬k=4/\¬k=5)/\(k==2)=false/\(k==4)=false/\(k==5)=false):=by simp only[beq_iff_eq,beq_eq_false_iff_ne];omega
 rcases q with⟨g,h⟩|⟨g,h,i⟩|⟨g,h,i,m⟩|⟨⟨d,n,p⟩,h,i,m⟩
 .have h1:ML k b=⟨#[]⟩:=if_neg BJ;have d:MM k o=⟨#[]⟩:=if_neg BJ;have f:MN k v=v:=if_pos BJ;rw[h1,d,f];clear h1 d f g;go_in;go_wp2_with fail;exact bodyPost_ret (v:=.agg #[AA k,AA c,AA s,.string a,AU,AU,.string v]) (by simp[results,results127,go_sem]) rfl ⟨rfl,by go_grown⟩
 .have h1:ML k b=⟨#[]⟩:=if_neg BJ;have d:MM k o=o:=if_pos BJ;have f:MN k v=v:=if_pos BJ;rw[h1,d,f];clear h1 d f g;go_in;go_upto_region 6 with(fail);go_region;go_wp2_with fail;exact bodyPost_ret (v:=.agg #[AA k,AA c,AA s,.string a,AU,.string o,.string v]) (by simp[results,results127,go_sem]) rfl ⟨rfl,by go_grown⟩
 .have h1:ML k b=b:=if_pos BJ;have d:MM k o=⟨#[]⟩:=if_neg BJ;have f:MN k v=⟨#[]⟩:=if_neg BJ;rw[h1,d,f];clear h1 d f g;go_in;go_wp2_with fail;exact bodyPost_ret (v:=.agg #[AA k,AA c,AA s,.string a,.string b,AU,AU]) (by simp[results,results127,go_sem]) rfl ⟨rfl,by go_grown⟩
 .have h1':ML k b=⟨#[]⟩:=if_neg BJ;have j:MM k o=⟨#[]⟩:=if_neg BJ;have l:MN k v=⟨#[]⟩:=if_neg BJ;rw[h1',j,l];clear h1' j l d n p;go_in;go_wp2_with fail;exact bodyPost_ret (v:=.agg #[AA k,AA c,AA s,.string a,AU,AU,AU]) (by simp[results,results127,go_sem]) rfl ⟨rfl,by go_grown⟩
theorem nI(k c s:Int)(a b o v b' o' v':ByteArray)(W:World):(binOp .neq 23 (.agg #[AA k,AA c,AA s,.string a,.string b,.string o,.string v]) (.agg #[AA k,AA c,AA s,.string a,.string b',.string o',.string v'])).run prog W=.ok (.bool (!vU a b o v b' o' v')) W:=by rw[run_neq_struct,fB];simp[vU]
theorem Xc(a b o v:ByteArray):((16:Int)<a.size/\N9 a b o v=true)\/(¬(16:Int)<a.size/\(16:Int)<b.size/\N9 a b o v=true)\/(¬(16:Int)<a.size/\¬(16:Int)<b.size/\(64:Int)<o.size/\N9 a b o v=true) \/(¬(16:Int)<a.size/\¬(16:Int)<b.size/\¬(64:Int)<o.size/\(64:Int)<v.size/\N9 a b o v=true)\/(¬(16:Int)<a.size/\¬(16:Int)<b.size/\¬(64:Int)<o.size/\¬(64:Int)<v.size/\N9 a b o v=false):=by
 unfold N9;by_cases c:(16:Int)<a.size
 .exact .inl ⟨c,by simp[c]⟩
 by_cases d:(16:Int)<b.size
 .exact .inr (.inl ⟨c,d,by simp[d]⟩)
 by_cases f:(64:Int)<o.size
 .exact .inr (.inr (.inl ⟨c,d,f,by simp[f]⟩))
 by_cases g:(64:Int)<v.size
 .exact .inr (.inr (.inr (.inl ⟨c,d,f,g,by simp[g]⟩)))
 .exact .inr (.inr (.inr (.inr ⟨c,d,f,g,by simp[c,d,f,g]⟩)))
set_option maxRecDepth 4000 in
theorem Eg(k c s:Int)(a b o v:ByteArray)(w:World):Calls prog 70 #[.agg #[AA k,AA c,AA s,.string a,.string b,.string o,.string v]] w λe w'=>e=.returned (.bool (EY k c s a b o v))/\Below w.heap.size w w':=by
 have C:=VR k c s a b o v;have t:=cu k c s a b o v;have r:=nI k c s a b o v (ML k b) (MM k o) (MN k v);have d:=qh (show EY k c s a b o v=(RJ k c s a b o v||(((decide (1<=k)&&decide (k<=5))&&((decide (1<=c)&&decide (c<=8))&&(decide (1<=s)&&decide (s<=1099511627776))))&&(vU a b o v (ML k b) (MM k o) (MN k v)&&(!N9 a b o v&&(!decide (a.toList=[])||k==5))))) from rfl);generalize EY k c s a b o v=R at d |-;generalize RJ k c s a b o v=z at C d;cases z;case true=>
  go_in;go_wp2_with fail;go_ret;exact⟨BX (by rw[d.out];rfl),by go_grown⟩
 generalize vU a b o v (ML k b) (MM k o) (MN k v)=E at r d;generalize ML k b=S,MM k o=T,MN k v=U at t r;have N:=qh t;clear t;have f:=λW=>LU k 5 W;have g:=λW=>LU c 8 W;have i:=λW=>LU s 1099511627776 W;obtain⟨p,y⟩:∃p:Bool,p=(decide (1<=k)&&decide (k<=5)):=⟨_,rfl⟩;obtain⟨j,A⟩:∃p:Bool,p=(decide (1<=c)&&decide (c<=8)):=⟨_,rfl⟩;obtain⟨m,B⟩:∃p:Bool,p=(decide (1<=s)&&decide (s<=1099511627776)):=⟨_,rfl⟩;rw[<-y] at f d;rw[<-A] at g d;rw[<-B] at i d;obtain⟨K,L,M⟩:=bP f g i;clear f g i y A B;have O:p=false\/(p=true/\j=false)\/(p=true/\j=true/\m=false)\/(p=true/\j=true/\m=true/\E=false)\/(p=true/\j=true/\m=true/\E=true):=by cases p<;>cases j<;>cases m<;>cases E<;>simp
 rcases O with rfl|⟨rfl,rfl⟩|⟨rfl,rfl,rfl⟩|⟨rfl,rfl,rfl,rfl⟩|⟨rfl,rfl,rfl,rfl⟩;all_goals
  go_in;go_upto_region 3 with(fail);clear C;go_name_world W n;have l:Holds W w.heap.size 23 [AA k,AA c,AA s,.string a,.string b,.string o,.string v]:=by rw[<-n];exact AC w _ _
  have u:Below w.heap.size w W:=by rw[<-n];go_grown
  clear n;obtain⟨F,P,Q,G,H,I,J⟩:=xP l 0 1 2 3 4 5 6;refine wp_region_quiet_below ND ND ?_;repeat go_big_quiet_step (first|(go_at_call 126;with_reducible exact AQ λW _=>K.out W)|(go_at_call 126;with_reducible exact AQ λW _=>L.out W)|(go_at_call 126;with_reducible exact AQ λW _=>M.out W)|(go_at_call 127;with_reducible exact AQ λW _=>N.o W))
  refine wpQuiet_nil ?_;intro V D;have q:=Aa D;have h:=qh (AO u q);have x:=l.below q l.lt;clear D F P Q G H I J;obtain⟨F,G,H,I,J⟩:=RU x 0 3 4 5 6;clear l x q u r
 .go_wp2_with fail;go_ret;exact⟨BX (by rw[d.out];simp),h.o⟩
 .go_wp2_with fail;go_ret;exact⟨BX (by rw[d.out];simp),h.o⟩
 .go_wp2_with fail;go_ret;exact⟨BX (by rw[d.out];simp),h.o⟩
 .go_wp2_with fail;go_ret;exact⟨BX (by rw[d.out];simp),h.o⟩
 .rcases Xc a b o v with⟨f,hl⟩|⟨f,g,hl⟩|⟨f,g,i,hl⟩|⟨f,g,i,h4,hl⟩|⟨f,g,i,h4,hl⟩;all_goals
   rw[hl] at d;clear hl
  case inr.inr.inr.inr=>
   go_wp2_with fail;all_goals
    go_ret;exact⟨BX (by rw[d.out];simp[*]),h.o⟩
  all_goals
   go_wp2_with fail;go_ret;exact⟨BX (by rw[d.out];simp),h.o⟩
def Cc(r s:Int):Bool:=decide (0<=r)&&(decide (r<7)&&(decide (1<=s)&&decide (s<=1073741824)))
theorem GV(r s:Int):(¬0<=r/\Cc r s=false)\/(0<=r/\¬r<7/\Cc r s=false)\/(0<=r/\r<7/\¬1<=s/\Cc r s=false)\/(0<=r/\r<7/\1<=s/\¬s<=1073741824/\Cc r s=false)\/(0<=r/\r<7/\1<=s/\s<=1073741824/\Cc r s=true):=by
 unfold Cc;by_cases a:0<=r
 .by_cases h2:r<7
  .by_cases h3:1<=s
   .by_cases h4:s<=1073741824
    .exact .inr (.inr (.inr (.inr ⟨a,h2,h3,h4,by simp[a,h2,h3,h4]⟩)))
    .exact .inr (.inr (.inr (.inl ⟨a,h2,h3,h4,by simp[h4]⟩)))
   .exact .inr (.inr (.inl ⟨a,h2,h3,by simp[h3]⟩))
  .exact .inr (.inl ⟨a,h2,by simp[h2]⟩)
 .exact .inl ⟨a,by simp[a]⟩
set_option maxRecDepth 4000 in
theorem E5(r s:Int)(w:World):Calls prog 134 #[.agg #[AA r,AA s]] w λe w'=>e=.returned (.bool (Cc r s))/\Below w.heap.size w w':=by
 rcases GV r s with⟨b,a⟩|⟨b,c,a⟩|⟨b,c,d,a⟩|⟨b,c,d,f,a⟩|⟨b,c,d,f,a⟩;all_goals
  rw[a];clear a;go_in;go_wp2_with fail;go_ret;exact⟨rfl,by go_grown⟩
end
end Go.Proofs.YtimdpiifpibgfaaGreatDoor
namespace SpanP
abbrev T:=ByteArray
def lt(a b:T):Bool:=Go.Op.bytesLess a.toList b.toList
def emp(a:T):Bool:=a.toList.isEmpty
def same(a b:T):Bool:=a.toList==b.toList
def under(k hi:T):Bool:=emp hi||lt k hi
def empty(lo hi:T):Bool:=!under lo hi
def has(lo hi k:T):Bool:=!lt k lo&&under k hi
def meets(al ah bl bh:T):Bool:=!empty al ah&&!empty bl bh&&under al bh&&under bl ah
def succ(k:T):T:=k++⟨#[0]⟩
end SpanP
namespace Go.Proofs.YtimdpiifpibgfaaGreatDoor
open Tryz
theorem MF(k hi:ByteArray)(w:World):Calls prog 291 #[.string k,.string hi] w λe w'=>e=.returned (.bool (SpanP.under k hi))/\w=w':=by
 go_in
 go_wp2
 .go_ret;exact⟨BX (by simp[SpanP.under,SpanP.emp,‹hi.toList=[]›]),rfl⟩
 .go_ret;exact⟨rfl,rfl⟩
theorem empty_any(lo hi:ByteArray)(w:World):Calls prog 326 #[.agg #[.string lo,.string hi]] w λe w'=>e=.returned (.bool (SpanP.empty lo hi))/\Below w.heap.size w w':=by go_in;go_wp2_with (go_at_call 291;refine(MF _ _ _).mono ?_;rintro e w' ⟨rfl,rfl⟩);go_ret;exact⟨rfl,by go_grown⟩
theorem Uf(k:ByteArray)(w:World)(hk:k.size<=140737488351232):Calls prog 325 #[.string k] w λe w'=>e=.returned (.agg #[.string k,.string (SpanP.succ k)])/\Below w.heap.size w w':=by
 go_in
 go_wp2
 exact bodyPost_ret (v:=.agg #[.string k,.string (SpanP.succ k)]) (by simp[results,results325,go_sem,SpanP.succ]) rfl ⟨rfl,by go_grown⟩
theorem Zq(al ah bl bh:ByteArray)(w:World):Calls prog 299 #[.agg #[.string al,.string ah],.agg #[.string bl,.string bh]] w λe w'=>e=.returned (.bool (SpanP.meets al ah bl bh))/\Below w.heap.size w w':=by
 have a:SpanP.meets al ah bl bh=(!SpanP.empty al ah&&!SpanP.empty bl bh&&SpanP.under al bh&&SpanP.under bl ah):=rfl;have b:=λW=>empty_any al ah W;have c:=λW=>empty_any bl bh W;have d:=λW=>MF al bh W;have f:=λW=>MF bl ah W;generalize SpanP.meets al ah bl bh=m at a;generalize SpanP.empty al ah=k at b a;generalize SpanP.empty bl bh=l at c a;generalize SpanP.under al bh=u1 at d a;generalize SpanP.under bl ah=u2 at f a;obtain⟨H,b,c,d,f⟩:=dD a b c d f;clear a;go_in;go_wp2_with fail;refine Ah (b.out _) ?_;rintro w1 h;obtain⟨q,s⟩:=dB h;have i:Below w.heap.size w w1:=AO (by go_grown) h;cases k
 .go_wp2_with fail;refine Ah (c.out _) ?_;rintro w2 j;have n:=h.size;simp at n;have u:w.heap.size<w1.heap.size:=BJ
  have v:w.heap.size+1<w1.heap.size:=BJ
  obtain⟨r,t⟩:=dB j;have g:Below w.heap.size w w2:=AO i j;cases l
  .go_wp2_with fail;refine Ah (d.out _) ?_;rintro p rfl;cases u1
   .go_wp2_with fail;go_ret;exact⟨BX (by rw[H.o];rfl),g⟩
   .go_wp2_with fail;refine Ah (f.out _) ?_;rintro p rfl;go_wp2_with fail;go_ret;exact⟨BX (by rw[H.o];rfl),g⟩
  .go_wp2_with fail;go_ret;exact⟨BX (by rw[H.o];rfl),g⟩
 .go_wp2_with fail;go_ret;exact⟨BX (by rw[H.o];rfl),i⟩
section
theorem Aw{w:World}{g e:Nat}{L:List Value}(h:Holds w g e L)(o:Obj):Holds (w.alloc o) g e L:=by have:=h.lt;exact h.below (B:=w.heap.size) ((Below.refl _ _).alloc Ve o) this
def EN(x:Cm):ByteArray × ByteArray × Bool:=if x.k=1\/x.k=2\/x.k=3\/x.k=4 then (x.a,SpanP.succ x.a,true) else if x.k=5 then (x.a,x.b,true) else (⟨#[]⟩,⟨#[]⟩,false)
def FI(x:Cm):Bool:=x.k==2||(x.k==3||x.k==4)
def IU(x y:Cm):Bool:=(EN x).2.2&&(EN y).2.2&&(x.c==y.c||((FI x||FI y)&&SpanP.meets (EN x).1 (EN x).2.1 (EN y).1 (EN y).2.1))
set_option maxRecDepth 4000 in
theorem Vf(x:Cm)(w:World)(ha:x.a.size<=1000000):Calls prog 297 #[.agg #[AA x.k,AA x.c,AA x.s,.string x.a,.string x.b,.string x.o,.string x.v]] w λe w'=>e=.returned (.tuple #[.agg #[.string (EN x).1,.string (EN x).2.1],.bool (EN x).2.2])/\Below w.heap.size w w':=by
 obtain⟨k,c,s,a,b,o,v⟩:=x;simp only at ha;have D:(k=1\/k=2\/k=3\/k=4)\/k=5\/((k==1)=false/\(k==2)=false/\(k==3)=false/\(k==4)=false/\(k==5)=false):=by simp only[beq_eq_false_iff_ne,ne_eq];omega
 rcases D with E|rfl|⟨y,z,A,B,C⟩
 .have hkk:EN ⟨k,c,s,a,b,o,v⟩=(a,SpanP.succ a,true):=by unfold EN;rw[if_pos (by simp;omega)]
  rw[hkk];clear hkk;rcases E with rfl|rfl|rfl|rfl
  .go_in;go_wp2_with fail;refine Ah (Uf a _ BJ) ?_;rintro t f;have g:=AC (w.alloc (.cells #[AA 1,AA c,AA s,.string a,.string b,.string o,.string v] 23)) 286 [AU,AU];rw[World.size_alloc] at g;have d:=g.below f Vj;have p:=d.cell 0;have q:=d.cell 1;have u:=λi=>d.free i;simp only[yA,yB] at p q;obtain⟨j,l⟩:=WZ (AO (show Below w.heap.size w _ by go_grown) f) d;clear f g d;go_wp2_with fail;have h:=(l.set 0 (.string a)).set 1 (.string (SpanP.succ a));simp only[List.set_cons_zero,List.set_cons_succ] at h;obtain⟨m,n⟩:=Cf h 0 1;have r:=j.o;exact bodyPost_ret (v:=.tuple #[.agg #[.string a,.string (SpanP.succ a)],.bool true]) (by simp[results,results297,go_sem,m,n]) rfl ⟨rfl,by go_grown⟩
  .go_in;go_wp2_with fail;refine Ah (Uf a _ BJ) ?_;rintro t f;have g:=AC (w.alloc (.cells #[AA 2,AA c,AA s,.string a,.string b,.string o,.string v] 23)) 286 [AU,AU];rw[World.size_alloc] at g;have d:=g.below f Vj;have p:=d.cell 0;have q:=d.cell 1;have u:=λi=>d.free i;simp only[yA,yB] at p q;obtain⟨j,l⟩:=WZ (AO (show Below w.heap.size w _ by go_grown) f) d;clear f g d;go_wp2_with fail;have h:=(l.set 0 (.string a)).set 1 (.string (SpanP.succ a));simp only[List.set_cons_zero,List.set_cons_succ] at h;obtain⟨m,n⟩:=Cf h 0 1;have r:=j.o;exact bodyPost_ret (v:=.tuple #[.agg #[.string a,.string (SpanP.succ a)],.bool true]) (by simp[results,results297,go_sem,m,n]) rfl ⟨rfl,by go_grown⟩
  .go_in;go_wp2_with fail;refine Ah (Uf a _ BJ) ?_;rintro t f;have g:=AC (w.alloc (.cells #[AA 3,AA c,AA s,.string a,.string b,.string o,.string v] 23)) 286 [AU,AU];rw[World.size_alloc] at g;have d:=g.below f Vj;have p:=d.cell 0;have q:=d.cell 1;have u:=λi=>d.free i;simp only[yA,yB] at p q;obtain⟨j,l⟩:=WZ (AO (show Below w.heap.size w _ by go_grown) f) d;clear f g d;go_wp2_with fail;have h:=(l.set 0 (.string a)).set 1 (.string (SpanP.succ a));simp only[List.set_cons_zero,List.set_cons_succ] at h;obtain⟨m,n⟩:=Cf h 0 1;have r:=j.o;exact bodyPost_ret (v:=.tuple #[.agg #[.string a,.string (SpanP.succ a)],.bool true]) (by simp[results,results297,go_sem,m,n]) rfl ⟨rfl,by go_grown⟩
  .go_in;go_wp2_with fail;refine Ah (Uf a _ BJ) ?_;rintro t f;have g:=AC (w.alloc (.cells #[AA 4,AA c,AA s,.string a,.string b,.string o,.string v] 23)) 286 [AU,AU];rw[World.size_alloc] at g;have d:=g.below f Vj;have p:=d.cell 0;have q:=d.cell 1;have u:=λi=>d.free i;simp only[yA,yB] at p q;obtain⟨j,l⟩:=WZ (AO (show Below w.heap.size w _ by go_grown) f) d;clear f g d;go_wp2_with fail;have h:=(l.set 0 (.string a)).set 1 (.string (SpanP.succ a));simp only[List.set_cons_zero,List.set_cons_succ] at h;obtain⟨m,n⟩:=Cf h 0 1;have r:=j.o;exact bodyPost_ret (v:=.tuple #[.agg #[.string a,.string (SpanP.succ a)],.bool true]) (by simp[results,results297,go_sem,m,n]) rfl ⟨rfl,by go_grown⟩
 .have hkk:EN ⟨5,c,s,a,b,o,v⟩=(a,b,true):=by unfold EN;rw[if_neg Vj,if_pos rfl]
  rw[hkk];clear hkk;go_in;go_wp2_with fail;exact bodyPost_ret (v:=.tuple #[.agg #[.string a,.string b],.bool true]) (by simp[results,results297,go_sem]) rfl ⟨rfl,by go_grown⟩
 .have hkk:EN ⟨k,c,s,a,b,o,v⟩=(⟨#[]⟩,⟨#[]⟩,false):=by simp only[beq_eq_false_iff_ne,ne_eq] at y z A B C;unfold EN;rw[if_neg (by simp only;omega),if_neg (by simp only;omega)]
  rw[hkk];clear hkk;go_in;go_wp2_with fail;exact bodyPost_ret (v:=.tuple #[.agg #[AU,AU],.bool false]) (by simp[results,results297,go_sem]) rfl ⟨rfl,by go_grown⟩
set_option maxRecDepth 4000 in
theorem RI(x:Cm)(w:World):Calls prog 298 #[.agg #[AA x.k,AA x.c,AA x.s,.string x.a,.string x.b,.string x.o,.string x.v]] w λe w'=>e=.returned (.bool (FI x))/\Below w.heap.size w w':=by
 obtain⟨k,c,s,a,b,o,v⟩:=x;have h:((k==2)=true/\FI ⟨k,c,s,a,b,o,v⟩=true)\/((k==2)=false/\(k==3)=true/\FI ⟨k,c,s,a,b,o,v⟩=true)\/((k==2)=false/\(k==3)=false/\(k==4)=true/\FI ⟨k,c,s,a,b,o,v⟩=true)\/((k==2)=false/\(k==3)=false/\(k==4)=false/\FI ⟨k,c,s,a,b,o,v⟩=false):=by unfold FI;simp only;cases(k==2)<;>cases(k==3)<;>cases(k==4)<;>simp
 rcases h with⟨d,e⟩|⟨d,f,e⟩|⟨d,f,g,e⟩|⟨d,f,g,e⟩;all_goals
  rw[e];clear e;go_in;go_wp2_with fail;go_ret;exact⟨BX (by simp[*]),by go_grown⟩
set_option maxRecDepth 4000 in
theorem ZA(x y:Cm)(w:World)(ha:x.a.size<=1000000)(hb:y.a.size<=1000000):Calls prog 257 #[.agg #[AA x.k,AA x.c,AA x.s,.string x.a,.string x.b,.string x.o,.string x.v],.agg #[AA y.k,AA y.c,AA y.s,.string y.a,.string y.b,.string y.o,.string y.v]] w λe w'=>e=.returned (.bool (IU x y))/\Below w.heap.size w w':=by
 have J:=λW=>Vf x W ha;have K:=λW=>Vf y W hb;have W1:=λW=>RI x W;have W2:=λW=>RI y W;have M:=λW=>Zq (EN x).1 (EN x).2.1 (EN y).1 (EN y).2.1 W;have d:IU x y=((EN x).2.2&&(EN y).2.2&&(x.c==y.c||((FI x||FI y)&&SpanP.meets (EN x).1 (EN x).2.1 (EN y).1 (EN y).2.1))):=rfl;generalize SpanP.meets (EN x).1 (EN x).2.1 (EN y).1 (EN y).2.1=m at M d;generalize FI x=w1 at W1 d;generalize FI y=w2 at W2 d;generalize EN x=kx at J M d;generalize EN y=ky at K M d;obtain⟨R,S,p⟩:=kx;obtain⟨T,U,q⟩:=ky;simp only at J K M d;rw[d];clear d;obtain⟨aj,ak,an,ao,HM⟩:=dD J K W1 W2 M;clear J K W1 W2 M;have ar:((x.c==y.c)=true)\/((x.c==y.c)=false):=by cases(x.c==y.c)<;>simp
 go_in;have O:Holds ((w.alloc (.cells x.cells.toArray 23)).alloc (.cells y.cells.toArray 23)) w.heap.size 23 x.cells:=Aw (AC w _ _) _;have P:Holds ((w.alloc (.cells x.cells.toArray 23)).alloc (.cells y.cells.toArray 23)) (w.heap.size+1) 23 y.cells:=by have:=AC (w.alloc (.cells x.cells.toArray 23)) 23 y.cells;rwa [World.size_alloc] at this
 have ab:Below w.heap.size w ((w.alloc (.cells x.cells.toArray 23)).alloc (.cells y.cells.toArray 23)):=by go_grown
 unfold Cm.cells at O P ab;go_wp2_with fail;refine Ah (aj.o _) ?_;rintro w3 L;obtain⟨H,i,E⟩:=bP (O.below L O.lt) (P.below L P.lt) (AO ab L);clear O P ab L;generalize w.heap.size+1=gy at i |-;generalize w.heap.size=gx at H |-;obtain⟨t,u,z,A,B,C,D⟩:=Gl i.o 0 1 2 3 4 5 6;have ai:=i.lt;have ah:=H.lt;go_wp2_with fail;refine Ah (ak.o _) ?_;rintro w4 l;have g:=AC w3 286 [.string R,.string S];have F:=qh (g.below l g.lt);have af:=Aw H.o (.cells #[.string R,.string S] 286);have aa:=qh (af.below l af.lt);have h:=Aw i.o (.cells #[.string R,.string S] 286);obtain⟨I,f⟩:=WZ (h.below l h.lt) ((E.alloc E.size (.cells #[.string R,.string S] 286)).trans (l.mono (by have:=E.size;simp;omega)));clear af h g l t u z A B C D ai ah H i E;generalize w3.heap.size=gp at F |-;obtain⟨x0,x1,x2,x3,x4,x5,x6⟩:=Gl aa.o 0 1 2 3 4 5 6;obtain⟨t,u,z,A,B,C,D⟩:=Gl I.o 0 1 2 3 4 5 6;have ah:=aa.lt;have ai:=I.lt;have ag:=F.lt;have N:=f.size;clear aj ak;cases p
 .go_wp2_with fail;have j:=f.o;go_ret;exact⟨BX Vj,by go_grown⟩
 cases q
 .go_wp2_with fail;have j:=f.o;go_ret;exact⟨BX Vj,by go_grown⟩
 rcases ar with Q|Q
 .go_wp2_with fail;have j:=f.o;go_ret;exact⟨BX (by simp[Q]),by go_grown⟩
 .go_wp2_with fail;refine Ah (an.o _) ?_;rintro w5 n;have ad:=qh Q;clear x0 x1 x2 x3 x4 x5 x6 t u z A B C D Q;have ae:=AC w4 286 [.string T,.string U];have G:=qh (ae.below n ae.lt);have g:=Aw F.o (.cells #[.string T,.string U] 286);have Z:=qh (g.below n g.lt);have h:=Aw I.o (.cells #[.string T,.string U] 286);obtain⟨ap,V⟩:=WZ (h.below n h.lt) ((f.alloc f.size (.cells #[.string T,.string U] 286)).trans (n.mono (by simp;omega)));clear ae g h n ah ai ag N aa I F f;generalize w4.heap.size=gq at G |-;have N:=V.size;have ag:=Z.lt;have au:=G.lt;cases w1
  ·
   obtain⟨t,u,z,A,B,C,D⟩:=Gl ap.o 0 1 2 3 4 5 6;go_wp2_with fail;refine Ah (ao.o _) ?_;rintro w6 ac;clear t u z A B C D;obtain⟨X,al,am⟩:=bP (V.trans (ac.mono N)) (Z.below ac ag) (G.below ac au);have aq:=X.size;cases w2
   .go_wp2_with fail;have j:=X.o;go_ret;exact⟨BX (by simp[ad.out]),by go_grown⟩
   obtain⟨s0,s1⟩:=Cf al.o 0 1;obtain⟨t0,t1⟩:=Cf am.o 0 1;go_wp2_with fail;refine Ah (HM.o _) ?_;rintro w7 r;have Y:=qh (X.trans (r.mono aq));clear r;cases m;all_goals
    go_wp2_with fail;have j:=Y.o;go_ret;exact⟨BX (by simp[ad.out]),by go_grown⟩
  ·
   obtain⟨s0,s1⟩:=Cf Z.o 0 1;obtain⟨t0,t1⟩:=Cf G.o 0 1;go_wp2_with fail;refine Ah (HM.o _) ?_;rintro w7 r;have Y:=qh (V.trans (r.mono N));clear r;cases m;all_goals
    go_wp2_with fail;have j:=Y.o;go_ret;exact⟨BX (by simp[ad.out]),by go_grown⟩
end
def EM(o:Oper):Oper:={ o with op:=.move (.const undef) }
def lastB(l:List Oper)(o:Oper):Bool:=
 o.guard.isNone&&(o.dst==none&&((l++[o]).zipIdx.all (λy=>y.1.after.toList.all λe=>!Region.binds .any e||decide (e.on<y.2))&&(List.range l.length).all λi=>o.after.toList.any λe=>Region.binds .any e&&e.on==i))
theorem Jy{P:Program}{ops:Array Oper}{C:World->Prop}{Q Q':Act->Prop}{l2:List Oper}(h2:∀a,Q a->wpQuiet P ops C Q' l2 a):∀{l:List Oper} {a:Act},wpQuiet P ops C Q l a->wpQuiet P ops C Q' (l++l2) a
 | [],a,h=>h2 a h
 | o :: l,a,h=>by
  rw[List.cons_append];unfold wpQuiet at h |-;split
  .rename_i hw;rw[if_pos hw] at h;exact Oper.quiet_mono (λa' ha'=>Jy h2 ha') h
  .rename_i hw;rw[if_neg hw] at h;exact Jy h2 h
theorem RH{P:Program}{id:Nat}{Q:Exit->Act->World->Prop}{a:Act}{w:World}{l:List Oper}{o:Oper}(hm:P.follows .mixedOrders=true)(hB:Region.lexB .any (l++[EM o]).toArray=true)(hl:lastB l o=true) (h:wpQuiet P (l++[EM o]).toArray (λw'=>∃p:Regrown,w'=Sort.grow (redrawn w p.d) p.os) (λa'=>∀w',(∃p:Regrown,w'=Sort.grow (redrawn w p.d) p.os)->o.wp P a' w' (λa2 w2=>Q .normal a2 w2) Q) l a):(Code.region id (l++[o]).toArray true).wp P Q a w:=by
 simp only[lastB,Bool.and_eq_true,Option.isNone_iff_eq_none,beq_iff_eq] at hl;obtain⟨F,S,hc,aa⟩:=hl;obtain⟨ops,y⟩:∃ops,ops=(l++[o]).toArray:=⟨_,rfl⟩;obtain⟨b,s⟩:∃b,b=(l++[EM o]).toArray:=⟨_,rfl⟩;have O:ops.size=l.length+1:=by rw[y];simp
 have U:b.size=l.length+1:=by rw[s];simp
 have E:ops[l.length]?=some o:=by rw[y];simp
 have I:b[l.length]?=some (EM o):=by rw[s];simp
 have H:∀i,i<l.length->b[i]?=ops[i]?:=λi c=>by rw[y,s,List.getElem?_toArray,List.getElem?_toArray,List.getElem?_append_left c,List.getElem?_append_left c]
 have Y:∀(i:Nat),(b[i]?).map (·.after)=(ops[i]?).map (·.after):=λi=>by
  by_cases c:i<l.length
  .rw[H i c]
  .by_cases hi2:i=l.length
   .subst hi2;rw[E,I];rfl
   .rw[Array.getElem?_eq_none BJ,Array.getElem?_eq_none BJ]
 have ae:∀(i:Nat),(b[i]?).bind (·.dst)=(ops[i]?).bind (·.dst):=λi=>by
  by_cases c:i<l.length
  .rw[H i c]
  .by_cases hi2:i=l.length
   .subst hi2;rw[E,I];rfl
   .rw[Array.getElem?_eq_none BJ,Array.getElem?_eq_none BJ]
 have ao:∀(t:Array Value),yielded b t=yielded ops t:=λt=>by
  funext j
  unfold yielded;rw[ae j]
 have N:∀L,Region.ready .any b L=Region.ready .any ops L:=λL=>by
  unfold Region.ready;rw[O,U];apply List.filter_congr;intro i _;have:=Y i;cases g:b[i]? with
  | none=>
   rw[g] at this;cases m:ops[i]? with
   | none=>rfl
   | some A=>rw[m] at this;cases this
  | some o1=>
   rw[g] at this;cases m:ops[i]? with
   | none=>rw[m] at this;cases this
   | some A=>
    rw[m] at this;simp only[Option.map_some,Option.some.injEq] at this;simp only[Option.map_some,this]
 have ad:∀(i:Nat) A,ops[i]?=some A->∀e∈A.after,Region.binds .any e=true->e.on<i:=λi A ai e r ac=>by have g:=List.all_eq_true.1 hc _ (Pj (by rw[<-y];exact ai));have m:=List.all_eq_true.1 g e (by simpa using r);rw[ac] at m;simpa using m
 have an:∀i,i<l.length->∃e∈o.after,Region.binds .any e=true/\e.on=i:=λi c=>by have g:=List.all_eq_true.1 aa i (List.mem_range.2 c);simp only[List.any_eq_true,Bool.and_eq_true,beq_iff_eq] at g;obtain⟨e,r,m,W⟩:=g;exact⟨e,by simpa using r,m,W⟩
 have ap:∀(n:Nat) (L:Array Bool) (a:Act) (w1:World),L.size=ops.size->U0 w w1->L.getD l.length false=false ->
   wpAnyQ P .any b (U0 w) (λa'=>∀w',U0 w w'->o.wp P a' w' (λa2 w2=>Q .normal a2 w2) Q) n L a->wpAny P .any ops Q n L a w1:=by
  have T:∀L:Array Bool,L.size=ops.size->L.getD l.length false=false->Region.ready .any ops L≠[]:=λL q u K=>by have:=P7 ad L q K l.length BJ;rw[u] at this;cases this
  intro n;induction n with
  | zero=>
   intro L a w1 q B u z;exact absurd (by rw[<-N];exact z.1) (T L q u)
  | succ n ih=>
   intro L a w1 q B u z;refine⟨λK=>absurd K (T L q u),λi c=>?_⟩;obtain⟨ar,oi,x,Z⟩:=mem_ready.1 c;have k:=z.2 i (by rw[N];exact c);have aq:i<l.length+1:=by rw[<-O];exact(Array.getElem?_eq_some_iff.1 x).1
   by_cases ag:i<l.length
   .have hoi':b[i]?=some oi:=by rw[H i ag];exact x
    unfold qOp at k;unfold wpOp;simp only[hoi'] at k;simp only[x];rw[ao] at k;have R:(L.setIfInBounds i true).size=ops.size:=by rw[Array.size_setIfInBounds];exact q
    have V:(L.setIfInBounds i true).getD l.length false=false:=by rw[Df _ BJ];exact u
    split at k
    .rename_i hw;rw[if_pos hw];exact .inl (Oper.wp_of_quiet B (λa' w' am hk=>ih _ a' w' R am V hk) k)
    .rename_i hw;rw[if_neg hw];exact ih _ _ _ R B V k
   .have hin:i=l.length:=BJ
    subst hin;rw[E] at x;cases x;have ab:∀j,j<ops.size->(L.setIfInBounds l.length true).getD j false=true:=λj G=>by
     by_cases ah:j=l.length
     .subst ah;exact QM (by rw[q];exact G) _
     .obtain⟨e,r,hb,heo⟩:=an j BJ;refine getD_set_true ?_;rw[<-heo];exact Z e r hb
    have M:Region.ready .any ops (L.setIfInBounds l.length true)=[]:=by apply List.eq_nil_iff_forall_not_mem.2;intro j G;obtain⟨al,oj,aj,_⟩:=mem_ready.1 G;have g:=ab j (Array.getElem?_eq_some_iff.1 aj).1;rw[(Si al).2] at g;cases g
    have af:∀(f:Nat) (a2:Act) (w2:World),Q .normal a2 w2->wpAny P .any ops Q f (L.setIfInBounds l.length true) a2 w2:=λf a2 w2 D=>by
     cases f with
     | zero=>exact⟨M,D⟩
     | succ f=>exact⟨λ_=>D,λi c=>by rw[M] at c;cases c⟩
    have ak:∀w',U0 w w'->o.wp P a w' (λa2 w2=>Q .normal a2 w2) Q:=by
     unfold qOp at k;simp only[I] at k;rw[if_pos (by simp[Region.wanted,EM,F])] at k;obtain⟨v,_,J⟩:=k;have r:a.put (EM o).dst v=a:=by show a.put o.dst v=a;rw[S];rfl
     rw[r] at J;cases n with
     | zero=>exact J.2
     | succ f=>exact J.1 (by rw[N];exact M)
    unfold wpOp;simp only[E];rw[if_pos (by simp[Region.wanted,F])];exact .inl (Oper.wp_mono (λa2 w2 D=>af n a2 w2 D) (ak w1 B))
 rw[<-y];refine wp_region_any hm (ap _ _ a _ Vj ⟨⟨w.drawn+1,#[]⟩,by rw[Sort.grow_empty];rfl⟩ ?_ ?_)
 .rw[Array.getD_eq_getD_getElem?,Array.getElem?_replicate];split<;>rfl
 .simp only[Region.lexB,Bool.and_eq_true] at hB;have z:wpQuiet P b (U0 w) (λa'=>∀w',U0 w w'->o.wp P a' w' (λa2 w2=>Q .normal a2 w2) Q) (l++[EM o]) a:=by
   rw[s];refine Jy ?_ h;intro a' X;unfold wpQuiet;rw[if_pos (by simp[Region.wanted,EM,F])];refine⟨undef,λw' _=>?_,?_⟩
   .unfold Oper.quietAt execOp EM;simp only[Sem.run_pure,Sem.run_bind,Result.andThen_ok,Oper.quietUpon,Act.eval];exact⟨trivial,trivial⟩
   .show (λa'=>∀w',U0 w w'->o.wp P a' w' (λa2 w2=>Q .normal a2 w2) Q) (a'.put o.dst undef);rw[S];exact X
  have:=wpAnyQ_lex (P:=P) (ops:=b) (md:=.any) (C:=U0 w) (by rw[s];exact hB.1) (l++[EM o]) 0 (Array.replicate b.size false) a (λj=>by rw[s];simp) (by rw[s];simpa using hB.2) z;rw[O];rw[U] at this;simpa using this
end Go.Proofs.YtimdpiifpibgfaaGreatDoor
