/- A part of the proof that the law TopCopies returns true for every input. -/
import Derived.Maps.RangeWalk
import Derived.Maps.OwnSet
import Derived.DeepKeys4
import Derived.Deep.RegionWith
import Derived.Deep.CutRange
import Derived.Lib.ItoaWalk
import Derived.Laws.StructEq
import Derived.Laws.Cover2
import Derived.IntWalk
import Derived.Laws.Strings
import Derived.Sort.Walk0
import Derived.Lib.MinMaxS
import Derived.Test.YtimdpiifpibgfaaGreatDoorQc2
set_option linter.all false
set_option maxRecDepth 20000
set_option maxHeartbeats 16000000
open Go.RowKit Go.Maps
namespace Go.Proofs.YtimdpiifpibgfaaGreatDoor
open Tryz
theorem Yl:(37:TypeId)<prog.types.size:=of_decide_eq_true (by kernel_rfl)
theorem aI:laidOutB prog=true:=by kernel_rfl
theorem CG:Keyed prog 37:=Keyed.of_law (deep_law_laid aI (m:=2) (by omega) Yl (by kernel_rfl) (by kernel_rfl))
theorem Lj:prog.cellsOf 37=2:=by kernel_rfl
theorem intCells:prog.cellsOf 3=1:=by kernel_rfl
theorem keyType:prog.keyType 37=true:=by kernel_rfl
def DZ(r s:Int):Value:=.agg #[.int .i64 r,.int .i64 s]
def G7(r s:Int):Lit:=.string (keyBytes [.int .i64 r,.int .i64 s])
theorem Qp(d:Nat)(r s:Int)(hr:(Lit.int .i64 r).wf=true)(hs:(Lit.int .i64 s).wf=true):prog.keyLits (d+2) 37 [.int .i64 r,.int .i64 s]=some [.int .i64 r,.int .i64 s]:=by
 have h3:∀n,(Lit.int .i64 n).wf=true→prog.keyLits (d+1) 3 [.int .i64 n]=some [.int .i64 n]:=λn hn=>by unfold Program.keyLits;rw[underlying3];simp[hn]
 unfold Program.keyLits;rw[underlying37];simp[Lj,intCells,h3 r hr,h3 s hs]
theorem Dc(r s:Int)(hr:(Lit.int .i64 r).wf=true)(hs:(Lit.int .i64 s).wf=true):keyOf prog 37 (DZ r s)=some (G7 r s):=by
 have hz:∃d,prog.types.size+1=d+2:=by obtain⟨d,hd⟩:=Nat.exists_eq_add_of_le (show 1≤prog.types.size from Nat.le_trans (by decide) (Nat.le_of_lt Yl));exact⟨d,by rw[hd,Nat.add_comm 1 d]⟩
 obtain⟨d,hd⟩:=hz;unfold keyOf;rw[underlying37];have hf:(DZ r s).formed prog 37=true:=by simp[DZ,Value.formed,underlying37,Lj]
 simp only[keyType,hf,hd,Bool.and_self,if_true];simp only[DZ,Value.cells,Array.toList];rw[Qp d r s hr hs]
 rfl
theorem Hu{v:Value}{l:Lit}(h:keyOf prog 37 v=some l):∃r s,v=DZ r s∧(Lit.int .i64 r).wf=true∧(Lit.int .i64 s).wf=true:=by
 unfold keyOf at h;rw[underlying37] at h;simp only at h;split at h;case isFalse=>cases h
 rename_i hf;simp only[Bool.and_eq_true] at hf;obtain⟨_,hf⟩:=hf;rw[Option.map_eq_some_iff] at h;obtain⟨ls,h,_⟩:=h;unfold Value.formed at hf;rw[underlying37] at hf;cases v<;>simp only[Bool.false_eq_true] at hf
 rename_i cs;rw[Lj,beq_iff_eq] at hf;obtain⟨cl⟩:=cs
 match cl,hf with
 | [c0,c1],_=>
  have h3:∀(d:Nat) (c:Value) (x:List Lit),prog.keyLits d 3 [c]=some x→∃n,c=.int .i64 n∧(Lit.int .i64 n).wf=true:=λd c x hx=>by
   cases d
   ·simp[Program.keyLits] at hx
   unfold Program.keyLits at hx;rw[underlying3] at hx;cases c<;>simp at hx
   obtain⟨⟨rfl,hw⟩,_⟩:=hx;exact⟨_,rfl,hw⟩
  unfold Program.keyLits at h;rw[underlying37] at h;simp[Value.cells,Lj,intCells,Option.bind_eq_some_iff] at h;obtain⟨x0,h0,y,⟨x1,h1,_⟩,_⟩:=h;obtain⟨r,rfl,hr⟩:=h3 _ _ _ h0;obtain⟨t,rfl,ht⟩:=h3 _ _ _ h1;exact⟨r,t,rfl,hr,ht⟩
def LC(x:Cm)(q:Int):Value:=.agg #[.int .i64 x.k,.int .i64 x.c,.int .i64 x.s,.string x.a,.string x.b,.string x.o,.string x.v,.int .i64 q]
structure Bf where
 r:Int
 s:Int
 c:Cm
 q:Int
def Bf.key(e:Bf):Lit:=G7 e.r e.s
def Bf.val(e:Bf):Value:=LC e.c e.q
def BO(v:Value):Option (DataW Value × List MemPlace):=some (.held v,[])
structure Lists(D:DataW Value)(l:List Bf):Prop where
 tidy:Tidy D
 size:Maps.size D=l.length
 apart:l.Pairwise λx y=>¬(x.r=y.r∧x.s=y.s)
 has:∀k,Maps.has D k=l.any λe=>e.key.sameKey k
 at_:∀e∈l,∀z,D.atKey e.key z=.held e.val
theorem JJ{r s r' s':Int}(hr:(Lit.int .i64 r).wf=true)(hs:(Lit.int .i64 s).wf=true)(hr':(Lit.int .i64 r').wf=true)(hs':(Lit.int .i64 s').wf=true)(h:G7 r s=G7 r' s'):r=r'∧s=s':=by have:=CG.inj (Dc r s hr hs) (by rw[h];exact Dc r' s' hr' hs');simp only[DZ,Value.agg.injEq,Array.mk.injEq,List.cons.injEq,Value.int.injEq] at this;exact⟨this.1.2,this.2.1.2⟩
theorem Ik(r s:Int):WideAt.IsKeyLit (G7 r s):=by unfold G7;trivial
theorem Lists.empty:Lists (.map []) []:=⟨tidy_empty,rfl,List.Pairwise.nil,λk=>rfl,λe he=>by cases he⟩
def Gf(l:List Bf)(e:Bf):List Bf:=if l.any (λx=>x.r==e.r&&x.s==e.s) then l.map (λx=>if x.r=e.r∧x.s=e.s then e else x) else l++[e]
def UF(l:List Bf):Prop:=∀e∈l,(Lit.int .i64 e.r).wf=true∧(Lit.int .i64 e.s).wf=true
theorem Dw{r s r' s':Int}(hr:(Lit.int .i64 r).wf=true)(hs:(Lit.int .i64 s).wf=true)(hr':(Lit.int .i64 r').wf=true)(hs':(Lit.int .i64 s').wf=true):(G7 r s).sameKey (G7 r' s')=(r==r'&&s==s'):=by
 by_cases h:r=r'∧s=s'
 ·obtain⟨rfl,rfl⟩:=h;rw[WideAt.sameKey_self (Ik r s)];simp
 ·rw[Maps.sameKey_ne (λe=>h (JJ hr hs hr' hs' e))];symm;rw[Bool.and_eq_false_iff,beq_eq_false_iff_ne,beq_eq_false_iff_ne];by_cases h1:r=r'
  ·exact .inr λh2=>h ⟨h1,h2⟩
  ·exact .inl h1
theorem Lists.IY{D:DataW Value}{l:List Bf}(h:Lists D l)(hw:UF l)(r s:Int)(hr:(Lit.int .i64 r).wf=true)(hs:(Lit.int .i64 s).wf=true):Maps.has D (G7 r s)=l.any λx=>x.r==r&&x.s==s:=by
 rw[h.has];rw[Bool.eq_iff_iff,List.any_eq_true,List.any_eq_true];constructor
 ·rintro⟨x,hx,hk⟩;exact⟨x,hx,by rw[←Dw (hw x hx).1 (hw x hx).2 hr hs];exact hk⟩
 ·rintro⟨x,hx,hk⟩;exact⟨x,hx,by rw[Bf.key,Dw (hw x hx).1 (hw x hx).2 hr hs];exact hk⟩
theorem Lists.put{D:DataW Value}{l:List Bf}(h:Lists D l)(hw:UF l)(e:Bf)(he:(Lit.int .i64 e.r).wf=true∧(Lit.int .i64 e.s).wf=true):Lists (D.put e.key (.held e.val)) (Gf l e):=by
 have hi:IsMap D:=h.tidy.isMap;have hk:WideAt.IsKeyLit e.key:=Ik _ _;have hh:=h.IY hw e.r e.s he.1 he.2;refine⟨h.tidy.put hk _,?_,?_,λk=>?_,?_⟩
 ·rw[Maps.size_put h.tidy,show Maps.has D e.key=_ from hh,h.size];unfold Gf;split<;>simp
 ·unfold Gf;split
  ·rw[List.pairwise_map];refine h.apart.imp fun {x y} hxy=>?_;split<;>split<;>rename_i h1 h2
   ·exact λ_=>hxy ⟨h1.1.trans h2.1.symm,h1.2.trans h2.2.symm⟩
   ·exact λhc=>h2 ⟨hc.1.symm,hc.2.symm⟩
   ·exact λhc=>h1 hc
   ·exact hxy
  ·rename_i hn;refine List.pairwise_append.2 ⟨h.apart,List.pairwise_singleton _ _,λx hx y hy hc=>?_⟩;rw[List.mem_singleton.1 hy] at hc;exact hn (List.any_eq_true.2 ⟨x,hx,by simp[hc.1,hc.2]⟩)
 ·by_cases hke:k=e.key
  ·rw[hke,Maps.has_put_same hi hk];symm;rw[List.any_eq_true];refine⟨e,?_,WideAt.sameKey_self hk⟩;unfold Gf;split
   ·rename_i ha;obtain⟨x,hx,hx2⟩:=List.any_eq_true.1 ha;simp only[Bool.and_eq_true,beq_iff_eq] at hx2;exact List.mem_map.2 ⟨x,hx,if_pos hx2⟩
   ·simp
  ·rw[Maps.has_put_other hke,h.has];have hek:e.key.sameKey k=false:=Maps.sameKey_ne (λhc=>hke hc.symm);unfold Gf;split
   ·rw[List.any_map];rw[Bool.eq_iff_iff,List.any_eq_true,List.any_eq_true];refine⟨?_,?_⟩;all_goals
     rintro⟨x,hx,hx2⟩;refine⟨x,hx,?_⟩
    ·simp only[Function.comp];rw[if_neg]
     ·exact hx2
     ·intro hc;have:x.key=e.key:=by unfold Bf.key;rw[hc.1,hc.2]
      rw[this,hek] at hx2;cases hx2
    ·simp only[Function.comp] at hx2;split at hx2
     ·rw[hek] at hx2;cases hx2
     ·exact hx2
   ·simp[hek]
 ·intro x hx z;unfold Gf at hx;have other:x∈l→¬(x.r=e.r∧x.s=e.s)→(D.put e.key (.held e.val)).atKey x.key z=.held x.val:=λhl hn=>by rw[Maps.atKey_put_other,h.at_ x hl];intro hc;exact hn (JJ (hw x hl).1 (hw x hl).2 he.1 he.2 hc)
  split at hx
  ·obtain⟨y,hy,rfl⟩:=List.mem_map.1 hx;split
   ·exact Maps.atKey_put_same hi hk _ _
   ·rename_i hn;rw[if_neg hn] at other;exact other hy hn
  ·rename_i hn;rcases List.mem_append.1 hx with hx|hx
   ·exact other hx λhc=>hn (List.any_eq_true.2 ⟨x,hx,by simp[hc.1,hc.2]⟩)
   ·rw[List.mem_singleton.1 hx];exact Maps.atKey_put_same hi hk _ _
def Pz(l:List Bf):Prop:=∀e∈l,(0≤e.r∧e.r<7)∧(1≤e.s∧e.s≤1073741824)∧(0≤e.q∧e.q≤1099511627776)∧e.c.a.size≤16
theorem Pz.wf{l:List Bf}(h:Pz l):UF l:=λe he=>⟨WalkArith.wf_i64 (by have:=(h e he).1;omega),WalkArith.wf_i64 (by have:=(h e he).2.1;omega)⟩
theorem XQ{l:List Bf}(h:Pz l){e:Bf}(he:(0≤e.r∧e.r<7)∧(1≤e.s∧e.s≤1073741824)∧(0≤e.q∧e.q≤1099511627776)∧e.c.a.size≤16):Pz (Gf l e):=by
 unfold Gf;split
 ·intro x hx;obtain⟨y,hy,rfl⟩:=List.mem_map.1 hx;split
  ·exact he
  ·exact h y hy
 ·intro x hx;rcases List.mem_append.1 hx with hx|hx
  ·exact h x hx
  ·rw[List.mem_singleton.1 hx];exact he
def YQ(l:List Bf)(r s:Int):List Bf:=l.filter λx=>!(x.r==r&&x.s==s)
section
theorem JY(n m:Int)(w:World):Calls prog 126 #[.int .i64 n,.int .i64 m] w λe w'=>e=.returned (.bool (decide (1≤n)&&decide (n≤m)))∧Below w.heap.size w w':=by
 go_in;go_wp2_with fail;all_goals
  go_ret;exact⟨BL (by first|(simp[*];done)|(simp;omega)),by go_grown⟩
theorem YW(a0 a1 a2 b0 b1 b2:Int)(a3 a4 a5 a6 b3 b4 b5 b6:ByteArray)(w:World):(Op.equalIn 10000 23 (.agg #[.int .i64 a0,.int .i64 a1,.int .i64 a2,.string a3,.string a4,.string a5,.string a6]) (.agg #[.int .i64 b0,.int .i64 b1,.int .i64 b2,.string b3,.string b4,.string b5,.string b6])).run prog w=.ok (a0==b0&&(a1==b1&&(a2==b2&&(decide (a3.toList=b3.toList)&&(decide (a4.toList=b4.toList)&&(decide (a5.toList=b5.toList)&&decide (a6.toList=b6.toList))))))) w:=by
 rw[show (10000:Nat)=9999+1 from rfl,run_equalIn_struct w 9999 23 _ _ (by kernel_rfl) (by kernel_rfl)];go_simp;by_cases h0:a0=b0
 ·by_cases h1:a1=b1
  ·by_cases h2:a2=b2
   ·by_cases h3:a3.toList=b3.toList
    ·by_cases h4:a4.toList=b4.toList
     ·by_cases h5:a5.toList=b5.toList
      ·by_cases h6:a6.toList=b6.toList<;>simp[h0,h1,h2,h3,h4,h5,h6]
      ·simp[h0,h1,h2,h3,h4,h5]
     ·simp[h0,h1,h2,h3,h4]
    ·simp[h0,h1,h2,h3]
   ·simp[h0,h1,h2]
  ·simp[h0,h1]
 ·simp[h0]
def Jw(k:Int)(b:ByteArray):ByteArray:=if k=5 then b else ⟨#[]⟩
def Jy(k:Int)(o:ByteArray):ByteArray:=if k=4 then o else ⟨#[]⟩
def Jz(k:Int)(v:ByteArray):ByteArray:=if k=2∨k=4 then v else ⟨#[]⟩
def jB(a b o v b' o' v':ByteArray):Bool:=decide (a.toList=a.toList)&&(decide (b.toList=b'.toList)&&(decide (o.toList=o'.toList)&&decide (v.toList=v'.toList)))
def J6(a b o v:ByteArray):Bool:=decide ((16:Int)<a.size)||(decide ((16:Int)<b.size)||(decide ((64:Int)<o.size)||decide ((64:Int)<v.size)))
def NW(k c s:Int)(a b o v:ByteArray):Bool:=k==0&&(c==0&&(s==0&&(decide (a.toList=(⟨#[]⟩:ByteArray).toList)&&(decide (b.toList=(⟨#[]⟩:ByteArray).toList)&&(decide (o.toList=(⟨#[]⟩:ByteArray).toList)&&decide (v.toList=(⟨#[]⟩:ByteArray).toList))))))
def EC(k c s:Int)(a b o v:ByteArray):Bool:=NW k c s a b o v||(((decide (1≤k)&&decide (k≤5))&&((decide (1≤c)&&decide (c≤8))&&(decide (1≤s)&&decide (s≤1099511627776))))&&(jB a b o v (Jw k b) (Jy k o) (Jz k v)&&(!J6 a b o v&&(!decide (a.toList=[])||k==5))))
theorem Rz(k c s:Int)(a b o v:ByteArray)(W:World):(binOp .eql 23 (.agg #[.int .i64 k,.int .i64 c,.int .i64 s,.string a,.string b,.string o,.string v]) (.agg #[.int .i64 0,.int .i64 0,.int .i64 0,.string ⟨#[]⟩,.string ⟨#[]⟩,.string ⟨#[]⟩,.string ⟨#[]⟩])).run prog W=.ok (.bool (NW k c s a b o v)) W:=by
 rw[run_eql_struct,YW]
 rfl
set_option maxRecDepth 4000 in
theorem Xw(k c s:Int)(a b o v:ByteArray)(w:World):Calls prog 127 #[.agg #[.int .i64 k,.int .i64 c,.int .i64 s,.string a,.string b,.string o,.string v]] w λe w'=>e=.returned (.agg #[.int .i64 k,.int .i64 c,.int .i64 s,.string a,.string (Jw k b),.string (Jy k o),.string (Jz k v)])∧Below w.heap.size w w':=by
 have hcase:(k=2∧(k==2)=true)∨(k=4∧(k==2)=false∧(k==4)=true)∨(k=5∧(k==2)=false∧(k==4)=false∧(k==5)=true)∨((¬k=2∧¬k=4∧¬k=5)∧(k==2)=false∧(k==4)=false∧(k==5)=false):=by simp only[beq_iff_eq,beq_eq_false_iff_ne];omega
 rcases hcase with⟨hk,e2⟩|⟨hk,e2,e4⟩|⟨hk,e2,e4,e5⟩|⟨⟨h2,h4,h5⟩,e2,e4,e5⟩
 ·have h1:Jw k b=⟨#[]⟩:=if_neg (by omega);have h2:Jy k o=⟨#[]⟩:=if_neg (by omega);have h3:Jz k v=v:=if_pos (by omega);rw[h1,h2,h3];clear h1 h2 h3 hk;go_in;go_wp2_with fail;exact bodyPost_ret (v:=.agg #[.int .i64 k,.int .i64 c,.int .i64 s,.string a,.string ⟨#[]⟩,.string ⟨#[]⟩,.string v]) (by simp[results,results127,go_sem]) rfl ⟨rfl,by go_grown⟩
 ·have h1:Jw k b=⟨#[]⟩:=if_neg (by omega);have h2:Jy k o=o:=if_pos (by omega);have h3:Jz k v=v:=if_pos (by omega);rw[h1,h2,h3];clear h1 h2 h3 hk;go_in;go_upto_region 6 with(fail);go_region;go_wp2_with fail;exact bodyPost_ret (v:=.agg #[.int .i64 k,.int .i64 c,.int .i64 s,.string a,.string ⟨#[]⟩,.string o,.string v]) (by simp[results,results127,go_sem]) rfl ⟨rfl,by go_grown⟩
 ·have h1:Jw k b=b:=if_pos (by omega);have h2:Jy k o=⟨#[]⟩:=if_neg (by omega);have h3:Jz k v=⟨#[]⟩:=if_neg (by omega);rw[h1,h2,h3];clear h1 h2 h3 hk;go_in;go_wp2_with fail;exact bodyPost_ret (v:=.agg #[.int .i64 k,.int .i64 c,.int .i64 s,.string a,.string b,.string ⟨#[]⟩,.string ⟨#[]⟩]) (by simp[results,results127,go_sem]) rfl ⟨rfl,by go_grown⟩
 ·have h1':Jw k b=⟨#[]⟩:=if_neg (by omega);have h2':Jy k o=⟨#[]⟩:=if_neg (by omega);have h3':Jz k v=⟨#[]⟩:=if_neg (by omega);rw[h1',h2',h3'];clear h1' h2' h3' h2 h4 h5;go_in;go_wp2_with fail;exact bodyPost_ret (v:=.agg #[.int .i64 k,.int .i64 c,.int .i64 s,.string a,.string ⟨#[]⟩,.string ⟨#[]⟩,.string ⟨#[]⟩]) (by simp[results,results127,go_sem]) rfl ⟨rfl,by go_grown⟩
theorem aU(k c s:Int)(a b o v b' o' v':ByteArray)(W:World):(binOp .neq 23 (.agg #[.int .i64 k,.int .i64 c,.int .i64 s,.string a,.string b,.string o,.string v]) (.agg #[.int .i64 k,.int .i64 c,.int .i64 s,.string a,.string b',.string o',.string v'])).run prog W=.ok (.bool (!jB a b o v b' o' v')) W:=by rw[run_neq_struct,YW];simp[jB]
theorem Uo(a b o v:ByteArray):((16:Int)<a.size∧J6 a b o v=true)∨(¬(16:Int)<a.size∧(16:Int)<b.size∧J6 a b o v=true)∨(¬(16:Int)<a.size∧¬(16:Int)<b.size∧(64:Int)<o.size∧J6 a b o v=true) ∨(¬(16:Int)<a.size∧¬(16:Int)<b.size∧¬(64:Int)<o.size∧(64:Int)<v.size∧J6 a b o v=true)∨(¬(16:Int)<a.size∧¬(16:Int)<b.size∧¬(64:Int)<o.size∧¬(64:Int)<v.size∧J6 a b o v=false):=by
 unfold J6;by_cases h1:(16:Int)<a.size
 ·exact .inl ⟨h1,by simp[h1]⟩
 by_cases h2:(16:Int)<b.size
 ·exact .inr (.inl ⟨h1,h2,by simp[h2]⟩)
 by_cases h3:(64:Int)<o.size
 ·exact .inr (.inr (.inl ⟨h1,h2,h3,by simp[h3]⟩))
 by_cases h4:(64:Int)<v.size
 ·exact .inr (.inr (.inr (.inl ⟨h1,h2,h3,h4,by simp[h4]⟩)))
 ·exact .inr (.inr (.inr (.inr ⟨h1,h2,h3,h4,by simp[h1,h2,h3,h4]⟩)))
set_option maxRecDepth 4000 in
theorem EU(k c s:Int)(a b o v:ByteArray)(w:World):Calls prog 70 #[.agg #[.int .i64 k,.int .i64 c,.int .i64 s,.string a,.string b,.string o,.string v]] w λe w'=>e=.returned (.bool (EC k c s a b o v))∧Below w.heap.size w w':=by
 have hq:=Rz k c s a b o v;have kb:=Xw k c s a b o v;have hq2:=aU k c s a b o v (Jw k b) (Jy k o) (Jz k v);have hR:=qh (show EC k c s a b o v=(NW k c s a b o v||(((decide (1≤k)&&decide (k≤5))&&((decide (1≤c)&&decide (c≤8))&&(decide (1≤s)&&decide (s≤1099511627776))))&&(jB a b o v (Jw k b) (Jy k o) (Jz k v)&&(!J6 a b o v&&(!decide (a.toList=[])||k==5))))) from rfl);generalize EC k c s a b o v=R at hR ⊢;generalize NW k c s a b o v=z at hq hR;cases z;case true=>
  go_in;go_wp2_with fail;go_ret;exact⟨BL (by rw[hR.out];rfl),by go_grown⟩
 generalize jB a b o v (Jw k b) (Jy k o) (Jz k v)=E at hq2 hR;generalize Jw k b=b',Jy k o=o',Jz k v=v' at kb hq2;have KB:=qh kb;clear kb;have h1:=λW=>JY k 5 W;have h2:=λW=>JY c 8 W;have h3:=λW=>JY s 1099511627776 W;obtain⟨p,hp⟩:∃p:Bool,p=(decide (1≤k)&&decide (k≤5)):=⟨_,rfl⟩;obtain⟨p2,hp2⟩:∃p:Bool,p=(decide (1≤c)&&decide (c≤8)):=⟨_,rfl⟩;obtain⟨p3,hp3⟩:∃p:Bool,p=(decide (1≤s)&&decide (s≤1099511627776)):=⟨_,rfl⟩;rw[←hp] at h1 hR;rw[←hp2] at h2 hR;rw[←hp3] at h3 hR;have K1:=qh h1;have K2:=qh h2;have K3:=qh h3;clear h1 h2 h3 hp hp2 hp3;have hcase:p=false∨(p=true∧p2=false)∨(p=true∧p2=true∧p3=false)∨(p=true∧p2=true∧p3=true∧E=false)∨(p=true∧p2=true∧p3=true∧E=true):=by cases p<;>cases p2<;>cases p3<;>cases E<;>simp
 rcases hcase with rfl|⟨rfl,rfl⟩|⟨rfl,rfl,rfl⟩|⟨rfl,rfl,rfl,rfl⟩|⟨rfl,rfl,rfl,rfl⟩;all_goals
  go_in;go_upto_region 3 with(fail);clear hq;go_name_world W hW;have hX:Holds W w.heap.size 23 [.int .i64 k,.int .i64 c,.int .i64 s,.string a,.string b,.string o,.string v]:=by rw[←hW];exact AA w _ _
  have HB:Below w.heap.size w W:=by rw[←hW];go_grown
  clear hW;obtain⟨x0,x1,x2,x3,x4,x5,x6⟩:=jk hX 0 1 2 3 4 5 6;refine wp_region_quiet_below (by kernel_rfl) (by kernel_rfl) ?_;repeat go_big_quiet_step (first|(go_at_call 126;with_reducible exact AL λW _=>K1.out W)|(go_at_call 126;with_reducible exact AL λW _=>K2.out W)|(go_at_call 126;with_reducible exact AL λW _=>K3.out W)|(go_at_call 127;with_reducible exact AL λW _=>KB.o W))
  refine wpQuiet_nil ?_;intro w2 hw';have hb2:=AP hw';have HB2:=qh (AB HB hb2);have hX2:=hX.below hb2 hX.lt;clear hw' x0 x1 x2 x3 x4 x5 x6;obtain⟨x0,x3,x4,x5,x6⟩:=MG hX2 0 3 4 5 6;clear hX hX2 hb2 HB hq2
 ·go_wp2_with fail;go_ret;exact⟨BL (by rw[hR.out];simp),HB2.o⟩
 ·go_wp2_with fail;go_ret;exact⟨BL (by rw[hR.out];simp),HB2.o⟩
 ·go_wp2_with fail;go_ret;exact⟨BL (by rw[hR.out];simp),HB2.o⟩
 ·go_wp2_with fail;go_ret;exact⟨BL (by rw[hR.out];simp),HB2.o⟩
 ·rcases Uo a b o v with⟨h1,hl⟩|⟨h1,h2,hl⟩|⟨h1,h2,h3,hl⟩|⟨h1,h2,h3,h4,hl⟩|⟨h1,h2,h3,h4,hl⟩;all_goals
   rw[hl] at hR;clear hl
  case inr.inr.inr.inr=>
   go_wp2_with fail;all_goals
    go_ret;exact⟨BL (by rw[hR.out];simp[*]),HB2.o⟩
  all_goals
   go_wp2_with fail;go_ret;exact⟨BL (by rw[hR.out];simp),HB2.o⟩
def Cj(r s:Int):Bool:=decide (0≤r)&&(decide (r<7)&&(decide (1≤s)&&decide (s≤1073741824)))
theorem FV(r s:Int):(¬0≤r∧Cj r s=false)∨(0≤r∧¬r<7∧Cj r s=false)∨(0≤r∧r<7∧¬1≤s∧Cj r s=false)∨(0≤r∧r<7∧1≤s∧¬s≤1073741824∧Cj r s=false)∨(0≤r∧r<7∧1≤s∧s≤1073741824∧Cj r s=true):=by
 unfold Cj;by_cases h1:0≤r
 ·by_cases h2:r<7
  ·by_cases h3:1≤s
   ·by_cases h4:s≤1073741824
    ·exact .inr (.inr (.inr (.inr ⟨h1,h2,h3,h4,by simp[h1,h2,h3,h4]⟩)))
    ·exact .inr (.inr (.inr (.inl ⟨h1,h2,h3,h4,by simp[h4]⟩)))
   ·exact .inr (.inr (.inl ⟨h1,h2,h3,by simp[h3]⟩))
  ·exact .inr (.inl ⟨h1,h2,by simp[h2]⟩)
 ·exact .inl ⟨h1,by simp[h1]⟩
set_option maxRecDepth 4000 in
theorem E5(r s:Int)(w:World):Calls prog 134 #[.agg #[.int .i64 r,.int .i64 s]] w λe w'=>e=.returned (.bool (Cj r s))∧Below w.heap.size w w':=by
 rcases FV r s with⟨h1,hb⟩|⟨h1,h2,hb⟩|⟨h1,h2,h3,hb⟩|⟨h1,h2,h3,h4,hb⟩|⟨h1,h2,h3,h4,hb⟩;all_goals
  rw[hb];clear hb;go_in;go_wp2_with fail;go_ret;exact⟨rfl,by go_grown⟩
end
end Go.Proofs.YtimdpiifpibgfaaGreatDoor
namespace SpanP
abbrev T:=ByteArray
def lt(a b:T):Bool:=Go.Op.bytesLess a.toList b.toList
def emp(a:T):Bool:=a.toList.isEmpty
def same(a b:T):Bool:=a.toList==b.toList
def under(k hi:T):Bool:=emp hi||lt k hi
def empty(lo hi:T):Bool:=!under lo hi
def has(lo hi k:T):Bool:=!lt k lo&&under k hi
def meets(al ah bl bh:T):Bool:=!empty al ah&&!empty bl bh&&under al bh&&under bl ah
def succ(k:T):T:=k++⟨#[0]⟩
end SpanP
namespace Go.Proofs.YtimdpiifpibgfaaGreatDoor
open Tryz
theorem Jn(k hi:ByteArray)(w:World):Calls prog 291 #[.string k,.string hi] w λe w'=>e=.returned (.bool (SpanP.under k hi))∧w=w':=by
 go_in
 go_wp2
 ·go_ret;exact⟨BL (by simp[SpanP.under,SpanP.emp,‹hi.toList=[]›]),rfl⟩
 ·go_ret;exact⟨rfl,rfl⟩
theorem empty_any(lo hi:ByteArray)(w:World):Calls prog 326 #[.agg #[.string lo,.string hi]] w λe w'=>e=.returned (.bool (SpanP.empty lo hi))∧Below w.heap.size w w':=by go_in;go_wp2_with (go_at_call 291;refine(Jn _ _ _).mono ?_;rintro e w' ⟨rfl,rfl⟩);go_ret;exact⟨rfl,by go_grown⟩
theorem Qx(k:ByteArray)(w:World)(hk:k.size≤140737488351232):Calls prog 325 #[.string k] w λe w'=>e=.returned (.agg #[.string k,.string (SpanP.succ k)])∧Below w.heap.size w w':=by
 go_in
 go_wp2
 exact bodyPost_ret (v:=.agg #[.string k,.string (SpanP.succ k)]) (by simp[results,results325,go_sem,SpanP.succ]) rfl ⟨rfl,by go_grown⟩
theorem XE(al ah bl bh:ByteArray)(w:World):Calls prog 299 #[.agg #[.string al,.string ah],.agg #[.string bl,.string bh]] w λe w'=>e=.returned (.bool (SpanP.meets al ah bl bh))∧Below w.heap.size w w':=by
 have hfin:SpanP.meets al ah bl bh=(!SpanP.empty al ah&&!SpanP.empty bl bh&&SpanP.under al bh&&SpanP.under bl ah):=rfl;have E1:=λW=>empty_any al ah W;have E2:=λW=>empty_any bl bh W;have U1:=λW=>Jn al bh W;have U2:=λW=>Jn bl ah W;generalize SpanP.meets al ah bl bh=m at hfin;generalize SpanP.empty al ah=e1 at E1 hfin;generalize SpanP.empty bl bh=e2 at E2 hfin;generalize SpanP.under al bh=u1 at U1 hfin;generalize SpanP.under bl ah=u2 at U2 hfin;have H:=qh hfin;clear hfin;have E1:=qh E1;have E2:=qh E2;have U1:=qh U1;have U2:=qh U2;go_in;go_wp2_with fail;refine Ac (E1.out _) ?_;rintro w1 hb1;obtain⟨hc1,hf1⟩:=Xx hb1;have HB1:Below w.heap.size w w1:=AB (by go_grown) hb1;cases e1
 ·go_wp2_with fail;refine Ac (E2.out _) ?_;rintro w2 hb2;have hz:=hb1.size;simp at hz;have hz0:w.heap.size<w1.heap.size:=by omega
  have hz1:w.heap.size+1<w1.heap.size:=by omega
  obtain⟨hc2,hf2⟩:=Xx hb2;have HB2:Below w.heap.size w w2:=AB HB1 hb2;cases e2
  ·go_wp2_with fail;refine Ac (U1.out _) ?_;rintro w3 rfl;cases u1
   ·go_wp2_with fail;go_ret;exact⟨BL (by rw[H.o];rfl),HB2⟩
   ·go_wp2_with fail;refine Ac (U2.out _) ?_;rintro w3 rfl;go_wp2_with fail;go_ret;exact⟨BL (by rw[H.o];rfl),HB2⟩
  ·go_wp2_with fail;go_ret;exact⟨BL (by rw[H.o];rfl),HB2⟩
 ·go_wp2_with fail;go_ret;exact⟨BL (by rw[H.o];rfl),HB1⟩
section
theorem Ak{w:World}{g e:Nat}{L:List Value}(h:Holds w g e L)(o:Obj):Holds (w.alloc o) g e L:=by have:=h.lt;exact h.below (B:=w.heap.size) ((Below.refl _ _).alloc (Nat.le_refl _) o) this
def Df(x:Cm):ByteArray × ByteArray × Bool:=if x.k=1∨x.k=2∨x.k=3∨x.k=4 then (x.a,SpanP.succ x.a,true) else if x.k=5 then (x.a,x.b,true) else (⟨#[]⟩,⟨#[]⟩,false)
def Et(x:Cm):Bool:=x.k==2||(x.k==3||x.k==4)
def OM(x y:Cm):Bool:=(Df x).2.2&&(Df y).2.2&&(x.c==y.c||((Et x||Et y)&&SpanP.meets (Df x).1 (Df x).2.1 (Df y).1 (Df y).2.1))
set_option maxRecDepth 4000 in
theorem Si(x:Cm)(w:World)(ha:x.a.size≤1000000):Calls prog 297 #[.agg #[.int .i64 x.k,.int .i64 x.c,.int .i64 x.s,.string x.a,.string x.b,.string x.o,.string x.v]] w λe w'=>e=.returned (.tuple #[.agg #[.string (Df x).1,.string (Df x).2.1],.bool (Df x).2.2])∧Below w.heap.size w w':=by
 obtain⟨k,c,s,a,b,o,v⟩:=x;simp only at ha;have hc:(k=1∨k=2∨k=3∨k=4)∨k=5∨((k==1)=false∧(k==2)=false∧(k==3)=false∧(k==4)=false∧(k==5)=false):=by simp only[beq_eq_false_iff_ne,ne_eq];omega
 rcases hc with hk|rfl|⟨e1,e2,e3,e4,e5⟩
 ·have hkk:Df ⟨k,c,s,a,b,o,v⟩=(a,SpanP.succ a,true):=by unfold Df;rw[if_pos (by simp;omega)]
  rw[hkk];clear hkk;rcases hk with rfl|rfl|rfl|rfl
  ·go_in;go_wp2_with fail;refine Ac (Qx a _ (by omega)) ?_;rintro w1 hb;have hz:=AA (w.alloc (.cells #[.int .i64 1,.int .i64 c,.int .i64 s,.string a,.string b,.string o,.string v] 23)) 286 [.string ⟨#[]⟩,.string ⟨#[]⟩];rw[World.size_alloc] at hz;have hz1:=hz.below hb (by simp);have z0:=hz1.cell 0;have z1:=hz1.cell 1;have zf:=λi=>hz1.free i;simp only[yA,yB] at z0 z1;have HB:=qh (AB (show Below w.heap.size w _ by go_grown) hb);clear hb hz;have HZ:=qh hz1;clear hz1;go_wp2_with fail;have hs:=(HZ.set 0 (.string a)).set 1 (.string (SpanP.succ a));simp only[List.set_cons_zero,List.set_cons_succ] at hs;obtain⟨s0,s1⟩:=CU hs 0 1;have hB:=HB.o;exact bodyPost_ret (v:=.tuple #[.agg #[.string a,.string (SpanP.succ a)],.bool true]) (by simp[results,results297,go_sem,s0,s1]) rfl ⟨rfl,by go_grown⟩
  ·go_in;go_wp2_with fail;refine Ac (Qx a _ (by omega)) ?_;rintro w1 hb;have hz:=AA (w.alloc (.cells #[.int .i64 2,.int .i64 c,.int .i64 s,.string a,.string b,.string o,.string v] 23)) 286 [.string ⟨#[]⟩,.string ⟨#[]⟩];rw[World.size_alloc] at hz;have hz1:=hz.below hb (by simp);have z0:=hz1.cell 0;have z1:=hz1.cell 1;have zf:=λi=>hz1.free i;simp only[yA,yB] at z0 z1;have HB:=qh (AB (show Below w.heap.size w _ by go_grown) hb);clear hb hz;have HZ:=qh hz1;clear hz1;go_wp2_with fail;have hs:=(HZ.set 0 (.string a)).set 1 (.string (SpanP.succ a));simp only[List.set_cons_zero,List.set_cons_succ] at hs;obtain⟨s0,s1⟩:=CU hs 0 1;have hB:=HB.o;exact bodyPost_ret (v:=.tuple #[.agg #[.string a,.string (SpanP.succ a)],.bool true]) (by simp[results,results297,go_sem,s0,s1]) rfl ⟨rfl,by go_grown⟩
  ·go_in;go_wp2_with fail;refine Ac (Qx a _ (by omega)) ?_;rintro w1 hb;have hz:=AA (w.alloc (.cells #[.int .i64 3,.int .i64 c,.int .i64 s,.string a,.string b,.string o,.string v] 23)) 286 [.string ⟨#[]⟩,.string ⟨#[]⟩];rw[World.size_alloc] at hz;have hz1:=hz.below hb (by simp);have z0:=hz1.cell 0;have z1:=hz1.cell 1;have zf:=λi=>hz1.free i;simp only[yA,yB] at z0 z1;have HB:=qh (AB (show Below w.heap.size w _ by go_grown) hb);clear hb hz;have HZ:=qh hz1;clear hz1;go_wp2_with fail;have hs:=(HZ.set 0 (.string a)).set 1 (.string (SpanP.succ a));simp only[List.set_cons_zero,List.set_cons_succ] at hs;obtain⟨s0,s1⟩:=CU hs 0 1;have hB:=HB.o;exact bodyPost_ret (v:=.tuple #[.agg #[.string a,.string (SpanP.succ a)],.bool true]) (by simp[results,results297,go_sem,s0,s1]) rfl ⟨rfl,by go_grown⟩
  ·go_in;go_wp2_with fail;refine Ac (Qx a _ (by omega)) ?_;rintro w1 hb;have hz:=AA (w.alloc (.cells #[.int .i64 4,.int .i64 c,.int .i64 s,.string a,.string b,.string o,.string v] 23)) 286 [.string ⟨#[]⟩,.string ⟨#[]⟩];rw[World.size_alloc] at hz;have hz1:=hz.below hb (by simp);have z0:=hz1.cell 0;have z1:=hz1.cell 1;have zf:=λi=>hz1.free i;simp only[yA,yB] at z0 z1;have HB:=qh (AB (show Below w.heap.size w _ by go_grown) hb);clear hb hz;have HZ:=qh hz1;clear hz1;go_wp2_with fail;have hs:=(HZ.set 0 (.string a)).set 1 (.string (SpanP.succ a));simp only[List.set_cons_zero,List.set_cons_succ] at hs;obtain⟨s0,s1⟩:=CU hs 0 1;have hB:=HB.o;exact bodyPost_ret (v:=.tuple #[.agg #[.string a,.string (SpanP.succ a)],.bool true]) (by simp[results,results297,go_sem,s0,s1]) rfl ⟨rfl,by go_grown⟩
 ·have hkk:Df ⟨5,c,s,a,b,o,v⟩=(a,b,true):=by unfold Df;rw[if_neg (by simp),if_pos rfl]
  rw[hkk];clear hkk;go_in;go_wp2_with fail;exact bodyPost_ret (v:=.tuple #[.agg #[.string a,.string b],.bool true]) (by simp[results,results297,go_sem]) rfl ⟨rfl,by go_grown⟩
 ·have hkk:Df ⟨k,c,s,a,b,o,v⟩=(⟨#[]⟩,⟨#[]⟩,false):=by simp only[beq_eq_false_iff_ne,ne_eq] at e1 e2 e3 e4 e5;unfold Df;rw[if_neg (by simp only;omega),if_neg (by simp only;omega)]
  rw[hkk];clear hkk;go_in;go_wp2_with fail;exact bodyPost_ret (v:=.tuple #[.agg #[.string ⟨#[]⟩,.string ⟨#[]⟩],.bool false]) (by simp[results,results297,go_sem]) rfl ⟨rfl,by go_grown⟩
set_option maxRecDepth 4000 in
theorem PT(x:Cm)(w:World):Calls prog 298 #[.agg #[.int .i64 x.k,.int .i64 x.c,.int .i64 x.s,.string x.a,.string x.b,.string x.o,.string x.v]] w λe w'=>e=.returned (.bool (Et x))∧Below w.heap.size w w':=by
 obtain⟨k,c,s,a,b,o,v⟩:=x;have hc:((k==2)=true∧Et ⟨k,c,s,a,b,o,v⟩=true)∨((k==2)=false∧(k==3)=true∧Et ⟨k,c,s,a,b,o,v⟩=true)∨((k==2)=false∧(k==3)=false∧(k==4)=true∧Et ⟨k,c,s,a,b,o,v⟩=true)∨((k==2)=false∧(k==3)=false∧(k==4)=false∧Et ⟨k,c,s,a,b,o,v⟩=false):=by unfold Et;simp only;cases(k==2)<;>cases(k==3)<;>cases(k==4)<;>simp
 rcases hc with⟨e1,e⟩|⟨e1,e2,e⟩|⟨e1,e2,e3,e⟩|⟨e1,e2,e3,e⟩;all_goals
  rw[e];clear e;go_in;go_wp2_with fail;go_ret;exact⟨BL (by simp[*]),by go_grown⟩
set_option maxRecDepth 4000 in
theorem WA(x y:Cm)(w:World)(ha:x.a.size≤1000000)(hb:y.a.size≤1000000):Calls prog 257 #[.agg #[.int .i64 x.k,.int .i64 x.c,.int .i64 x.s,.string x.a,.string x.b,.string x.o,.string x.v],.agg #[.int .i64 y.k,.int .i64 y.c,.int .i64 y.s,.string y.a,.string y.b,.string y.o,.string y.v]] w λe w'=>e=.returned (.bool (OM x y))∧Below w.heap.size w w':=by
 have K1:=λW=>Si x W ha;have K2:=λW=>Si y W hb;have W1:=λW=>PT x W;have W2:=λW=>PT y W;have M:=λW=>XE (Df x).1 (Df x).2.1 (Df y).1 (Df y).2.1 W;have hR:OM x y=((Df x).2.2&&(Df y).2.2&&(x.c==y.c||((Et x||Et y)&&SpanP.meets (Df x).1 (Df x).2.1 (Df y).1 (Df y).2.1))):=rfl;generalize SpanP.meets (Df x).1 (Df x).2.1 (Df y).1 (Df y).2.1=m at M hR;generalize Et x=w1 at W1 hR;generalize Et y=w2 at W2 hR;generalize Df x=kx at K1 M hR;generalize Df y=ky at K2 M hR;obtain⟨p1,p2,p⟩:=kx;obtain⟨q1,q2,q⟩:=ky;simp only at K1 K2 M hR;rw[hR];clear hR;have HK1:=qh K1;have HK2:=qh K2;have HW1:=qh W1;have HW2:=qh W2;have HM:=qh M;clear K1 K2 W1 W2 M;have hxy:((x.c==y.c)=true)∨((x.c==y.c)=false):=by cases(x.c==y.c)<;>simp
 go_in;have hbx:Holds ((w.alloc (.cells x.cells.toArray 23)).alloc (.cells y.cells.toArray 23)) w.heap.size 23 x.cells:=Ak (AA w _ _) _;have hby:Holds ((w.alloc (.cells x.cells.toArray 23)).alloc (.cells y.cells.toArray 23)) (w.heap.size+1) 23 y.cells:=by have:=AA (w.alloc (.cells x.cells.toArray 23)) 23 y.cells;rwa [World.size_alloc] at this
 have hb0:Below w.heap.size w ((w.alloc (.cells x.cells.toArray 23)).alloc (.cells y.cells.toArray 23)):=by go_grown
 unfold Cm.cells at hbx hby hb0;go_wp2_with fail;refine Ac (HK1.o _) ?_;rintro w3 hb3;have HX:=qh (hbx.below hb3 hbx.lt);have HY:=qh (hby.below hb3 hby.lt);have HB:=qh (AB hb0 hb3);clear hbx hby hb0 hb3;generalize w.heap.size+1=gy at HY ⊢;generalize w.heap.size=gx at HX ⊢;obtain⟨y0,y1,y2,y3,y4,y5,y6⟩:=GR HY.o 0 1 2 3 4 5 6;have ylt:=HY.lt;have xlt:=HX.lt;go_wp2_with fail;refine Ac (HK2.o _) ?_;rintro w4 hb4;have hp0:=AA w3 286 [.string p1,.string p2];have HP:=qh (hp0.below hb4 hp0.lt);have hx1:=Ak HX.o (.cells #[.string p1,.string p2] 286);have HX1:=qh (hx1.below hb4 hx1.lt);have hy1:=Ak HY.o (.cells #[.string p1,.string p2] 286);have HY1:=qh (hy1.below hb4 hy1.lt);have HB1:=qh ((HB.alloc HB.size (.cells #[.string p1,.string p2] 286)).trans (hb4.mono (by have:=HB.size;simp;omega)));clear hx1 hy1 hp0 hb4 y0 y1 y2 y3 y4 y5 y6 ylt xlt HX HY HB;generalize w3.heap.size=gp at HP ⊢;obtain⟨x0,x1,x2,x3,x4,x5,x6⟩:=GR HX1.o 0 1 2 3 4 5 6;obtain⟨y0,y1,y2,y3,y4,y5,y6⟩:=GR HY1.o 0 1 2 3 4 5 6;have xlt:=HX1.lt;have ylt:=HY1.lt;have plt:=HP.lt;have hbs:=HB1.size;clear HK1 HK2;cases p
 ·go_wp2_with fail;have hB:=HB1.o;go_ret;exact⟨BL (by simp),by go_grown⟩
 cases q
 ·go_wp2_with fail;have hB:=HB1.o;go_ret;exact⟨BL (by simp),by go_grown⟩
 rcases hxy with hc|hc
 ·go_wp2_with fail;have hB:=HB1.o;go_ret;exact⟨BL (by simp[hc]),by go_grown⟩
 ·go_wp2_with fail;refine Ac (HW1.o _) ?_;rintro w5 hb5;have hcc:=qh hc;clear x0 x1 x2 x3 x4 x5 x6 y0 y1 y2 y3 y4 y5 y6 hc;have hq0:=AA w4 286 [.string q1,.string q2];have HQ2:=qh (hq0.below hb5 hq0.lt);have hp0:=Ak HP.o (.cells #[.string q1,.string q2] 286);have HP2:=qh (hp0.below hb5 hp0.lt);have hy1:=Ak HY1.o (.cells #[.string q1,.string q2] 286);have HY2:=qh (hy1.below hb5 hy1.lt);have HB2:=qh ((HB1.alloc HB1.size (.cells #[.string q1,.string q2] 286)).trans (hb5.mono (by simp;omega)));clear hq0 hp0 hy1 hb5 xlt ylt plt hbs HX1 HY1 HP HB1;generalize w4.heap.size=gq at HQ2 ⊢;have hbs:=HB2.size;have plt:=HP2.lt;have qlt:=HQ2.lt;cases w1
  ·
   obtain⟨y0,y1,y2,y3,y4,y5,y6⟩:=GR HY2.o 0 1 2 3 4 5 6;go_wp2_with fail;refine Ac (HW2.o _) ?_;rintro w6 hb6;clear y0 y1 y2 y3 y4 y5 y6;have HB3:=qh (HB2.trans (hb6.mono hbs));have HP3:=qh (HP2.below hb6 plt);have HQ3:=qh (HQ2.below hb6 qlt);have hbs3:=HB3.size;cases w2
   ·go_wp2_with fail;have hB:=HB3.o;go_ret;exact⟨BL (by simp[hcc.out]),by go_grown⟩
   obtain⟨s0,s1⟩:=CU HP3.o 0 1;obtain⟨t0,t1⟩:=CU HQ3.o 0 1;go_wp2_with fail;refine Ac (HM.o _) ?_;rintro w7 hb7;have HB4:=qh (HB3.trans (hb7.mono hbs3));clear hb7;cases m;all_goals
    go_wp2_with fail;have hB:=HB4.o;go_ret;exact⟨BL (by simp[hcc.out]),by go_grown⟩
  ·
   obtain⟨s0,s1⟩:=CU HP2.o 0 1;obtain⟨t0,t1⟩:=CU HQ2.o 0 1;go_wp2_with fail;refine Ac (HM.o _) ?_;rintro w7 hb7;have HB4:=qh (HB2.trans (hb7.mono hbs));clear hb7;cases m;all_goals
    go_wp2_with fail;have hB:=HB4.o;go_ret;exact⟨BL (by simp[hcc.out]),by go_grown⟩
end
end Go.Proofs.YtimdpiifpibgfaaGreatDoor
