/- For every input the law TopCopies returns true. Condition: the listed variables start as the program's text lays them. -/
import Derived.SizedLaws
import Derived.LaidMore
import Derived.Stop.Joined
import Derived.SevenTiedAt
import Derived.Test.YtimdpiifpibgfaaGreatDoorCards
import Derived.Test.YtimdpiifpibgfaaGreatDoorTie
import Derived.Test.YtimdpiifpibgfaaGreatDoorQc45
set_option linter.all false
set_option maxRecDepth 20000
set_option maxHeartbeats 16000000
namespace Go.Proofs.YtimdpiifpibgfaaGreatDoor
open Go.Proofs.Tryz
section
namespace topCopies
open Go.ChangeShapes Go.WideShapes Go.ChangeAt Go.RowKit
open Go.ChangeMaps (open_string shut_string)
theorem own:ownKnob prog.godebug=none:=by kernel_rfl
theorem laidOut:laidOutB prog=true:=by kernel_rfl
theorem door_met(os:Os)(args:Array Value):laidMetH prog Rows.topCopiesRow.laid ((World.doorLaid prog 62 os).forCall (λ_ _=>0) ⟨#[],args,[]⟩).memory:=
 laidMetH_of_parts3 (fuel:=8) (laidMet_of_run' 8 (by kernel_rfl) (by kernel_rfl)) (by kernel_rfl) (by kernel_rfl)
set_option maxRecDepth 100000 in
theorem lifted(os:Os)(started:os.Started)(H:Type)(enc:TypeId × Value→H) :ReturnsInHanded {} checked os 6 .any (λw args=>(Rows.topCopiesSpec.pre enc prog f6 [] false w args∧laidMetH prog Rows.topCopiesRow.laid w)∧sizedMet enc prog f6 (OpenSpec.ofChange Rows.topCopiesSpec) false w args) (Rows.topCopiesSpec.post enc prog f6 false true false false):=by
 refine returnsInHanded_of_change_and (C:=checked) (X:=λw _=>laidMetH prog Rows.topCopiesRow.laid w) (λ_ _ _ hh h=>h.of_heap hh) own started (by kernel_rfl) func6
  (ChangeSpec.witness_shaped (enc:=enc) (C:=checked) (os:=os) (X:=λw _=>laidMetH prog Rows.topCopiesRow.laid w) false (World.doorLaid prog 62 os) #[.int .i64 0,.slice none 0 0] 8 rfl (World.shaped_of_RefB (by kernel_rfl) (by kernel_rfl)) (by kernel_rfl) (by kernel_rfl) (by kernel_rfl) (door_met os _)) ?_
 intro W base args ds gs before hval0 hW hcnd hsz0 _ _;have hval:∀(j:Nat) t v,f6.params[j]?=some t→args[j]?=some v→Value.okWide prog W .any base t v:=hval0;have hW':=hW;obtain⟨p,q,hA0,hV,rfl,hfz,hnd⟩:=hW;have hA:DataW.TrodAll enc prog W 0 (λ_=>true) true f6.params.toList args.toList ds p:=hA0;have hsz:(DataW.weightsEach prog (f6.params.toList++Rows.topCopiesSpec.plain.varTypes prog) (ds++gs)).all (·≤reachBytes)=true:=hsz0;rw[params6] at hA hval hsz;obtain⟨v0,vs0,d0,ds0,p0,q0,hargs,rfl,rfl,h0,r0⟩:=trodAll_cons hA;obtain⟨v1,vs1,d1,ds1,p1,q1,rfl,rfl,rfl,h1,r1⟩:=trodAll_cons r0;obtain⟨rfl,rfl,rfl⟩:=trodAll_nil r1;obtain rfl:args=#[v0,v1]:=by cases args;simp_all
 obtain⟨rfl,rfl⟩:=trodVars_none hV;have k0:=h0;have lt0:∀x∈p0,x.block<W.heap.size:=by obtain⟨m,hm⟩:=k0;exact DataW.trod_lt m _ _ _ hm
 obtain⟨a0,rfl,ed0,ep0,w0⟩:=open_int underlying3 (hval 0 3 v0 rfl rfl) h0;have k1:=h1;have lt1:∀x∈p1,x.block<W.heap.size:=by obtain⟨m,hm⟩:=k1;exact DataW.trod_lt m _ _ _ hm
 obtain⟨a1,len1,cap1,rfl⟩:=okWide_slice underlying73 (hval 1 73 v1 rfl rfl);obtain⟨b1,w1,y1,c1,m1⟩:=XJ (ls:=[.int .i64,.int .i64,.int .i64,.int .i64,.int .i64,.int .i64,.int .i64,.string,.string,.string,.string,.slice]) underlying73 (by kernel_rfl) (show prog.cellsOf 32=12 from by kernel_rfl) (by decide) h1;clear hA0 hval0;refine(PO a0 a1 len1 cap1 b1 W w0 w1 y1 c1).mono λe W' ⟨he,bel⟩=>?_;subst he;exact⟨_,rfl,_,_,_,[],_,[],hW',trodAll_mk1 (shut_bool underlying4 _),(trodAll_cons_mk (Below.trod laidOut (by kernel_rfl) (of_decide_eq_true (by kernel_rfl)) k0 bel lt0) (trodAll_cons_mk (Below.trod laidOut (by kernel_rfl) (of_decide_eq_true (by kernel_rfl)) k1 bel lt1) trodAll_mk0)),rfl,bel.frame _,λh=>by cases h⟩
theorem c2:mapsRowed prog=true:=by kernel_rfl
theorem c9:(Rows.topCopiesRow.inPlace==prog.inPlace 6)=true:=by kernel_rfl
theorem c10:(Rows.topCopiesRow.unfollowed==prog.unfollowed 6)=true:=by kernel_rfl
theorem c11:(Rows.topCopiesRow.recurses==prog.recurses 6)=true:=by kernel_rfl
theorem c12:(Rows.topCopiesRow.named==prog.varsNamed 6)=true:=by kernel_rfl
theorem c24:prog.stopsHeard=true:=by kernel_rfl
theorem c25:prog.mayEnter=true:=by kernel_rfl
theorem c26:(Rows.topCopiesRow.lifted==prog.liftsFinal)=true:=by kernel_rfl
theorem closed:joinedFacts prog 6 f6 Rows.topCopiesSpec Rows.topCopiesRow=true:=
 Wj (by kernel_rfl) laidOut c2 (by kernel_rfl) (by kernel_rfl) (by kernel_rfl) (by kernel_rfl) (by kernel_rfl) (by kernel_rfl) c9 c10 c11 c12 (by kernel_rfl) (by kernel_rfl) (by kernel_rfl) (by kernel_rfl) (by kernel_rfl) (by kernel_rfl) (by kernel_rfl) (by kernel_rfl) (by kernel_rfl) (by kernel_rfl) (by kernel_rfl) c24 c25 c26 (by kernel_rfl) (by kernel_rfl) (by kernel_rfl) (by kernel_rfl) (by kernel_rfl)
theorem over:Rows.topCopiesRow.holds Tryz.pinned (OpenSpec.ofChange Rows.topCopiesSpec):=
 OpenClaim.holds_of_wide 6 f6 rfl rfl rfl rfl rfl rfl rfl ⟨rfl,rfl,rfl,rfl,rfl⟩ rfl rfl rfl rfl rfl (by kernel_rfl) func6 closed
  (of_decide_eq_true (by kernel_rfl)) (by unfold Func.isWrapper;first|(rw[if_pos (by decide +kernel)];kernel_rfl)|(rw[if_neg (by decide +kernel)];exact⟨rfl,rfl⟩))
  (λos started H enc _=>lifted os started H enc)
theorem plain(f:FuncId)(fn:Func)(hf:Tryz.pinned.checked.prog.funcNamed Rows.topCopiesRow.func=some f)(hfn:Tryz.pinned.checked.prog.funcs[f]?=some fn) :true=Tryz.pinned.checked.prog.looks []∧∀(j:Nat) t,fn.params[j]?=some t→Tryz.pinned.checked.prog.wantsStandIn t=false:=by
 obtain rfl:f=6:=Option.some.inj ((show prog.funcNamed Rows.topCopiesRow.func=some 6 by kernel_rfl).symm.trans hf) |>.symm;obtain rfl:fn=f6:=(Option.some.inj (func6.symm.trans hfn)).symm;refine⟨by kernel_rfl,λj t ht=>?_⟩;rw[params6] at ht;have hm:t∈[3,73]:=by simpa using Array.mem_of_getElem? ht
 have hall:([3,73].all λu=>!prog.wantsStandIn u)=true:=by kernel_rfl
 exact(show prog.wantsStandIn t=false by simpa using List.all_eq_true.1 hall t hm)
theorem proved:Rows.TopCopiesCardSaid:=
 Claim7.holds_tied_plain_at .later [] _ _ _ _ over (λ_ h=>by cases h) (by kernel_rfl) (λ_ h=>by cases h) topCopies_row_tie rfl ⟨rfl,rfl⟩ (by kernel_rfl) rfl plain (by kernel_rfl)
#print axioms proved
end topCopies
end
end Go.Proofs.YtimdpiifpibgfaaGreatDoor
