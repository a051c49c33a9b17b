/- For every list of calls and every number WholeShards returns true, and its arguments read as they did; the row lists package variables of Go's library, and the card ties them to the program's text. No other condition. -/
import Derived.Test.YtojddiieiggpjaaGreatDoorWpF
import Derived.Test.YtojddiieiggpjaaGreatDoorRows
import Derived.ChangeSame
import Derived.ChangeVars
import Derived.JoinedOf
import Derived.RowKit
import Derived.RowKitTokens
import Derived.LaidLaws
import Derived.LaidHandle
import Derived.Lay
import Derived.Stop.Joined
import Derived.SevenTiedAt
namespace Go.Proofs.YtojddiieiggpjaaGreatDoor.wholeShards
open Go.ChangeShapes Go.WideShapes Go.ChangeAt Go.RowKit Go.SL
theorem own:ownKnob Tryz.prog.godebug=none:=by kernel_rfl
theorem laid:laidOutB Tryz.prog=true:=by kernel_rfl
theorem bytes33:Tryz.prog.bytesOf 33=80:=by kernel_rfl
set_option maxRecDepth 100000 in
theorem contract (H:Type) (enc:TypeId × Value→H) (W:World) (base0:Nat) (args:Array Value) (ds gs:List (DataW H)) (before:List MemPlace)
  (hval:∀ (j:Nat) t v,Tryz.f3.params[j]? =some t→args[j]? =some v→Value.okWide Tryz.prog W .any base0 t v)
  (hW:DataW.Whole enc Tryz.prog Tryz.f3.params.toList Rows.wholeShardsSpec.vars false W args.toList ds gs before)
  (hs:(DataW.weightsEach Tryz.prog (Tryz.f3.params.toList++Rows.wholeShardsSpec.plain.varTypes Tryz.prog) (ds++gs)).all (·≤reachBytes)=true):
  Calls Tryz.prog 3 args W fun e W'=>∃ v,e=.returned v∧Rows.wholeShardsSpec.post enc Tryz.prog Tryz.f3 false true false false W args v W':=by
 have hW':=hW
 obtain ⟨p,q,hA0,hV,rfl,hfz,hnd⟩:=hW
 have hA:DataW.TrodAll enc Tryz.prog W 0 (fun _=>true) true Tryz.f3.params.toList args.toList ds p:=hA0
 rw [Tryz.params3] at hA hval hs
 obtain ⟨v0,vs0,d0,ds0,p0,q0,hargs,rfl,rfl,h0,r0⟩:=trodAll_cons hA
 obtain ⟨v1,vs1,d1,ds1,p1,q1,rfl,rfl,rfl,h1,r1⟩:=trodAll_cons r0
 obtain ⟨rfl,rfl,rfl⟩:=trodAll_nil r1
 obtain rfl:args=#[v0,v1]:=by cases args; simp_all
 obtain ⟨rfl,rfl⟩:=trodVars_none hV
 have w0:∀ n∈d0.weights Tryz.prog 22,n≤reachBytes:=fun n hn=>by simpa using List.all_eq_true.1 hs n (DataW.weights_mem_each (j:=0) rfl rfl n hn)
 obtain ⟨A0,c0,xs0,rfl,s0,⟨l0,e0⟩,m0⟩:=arg_slice Tryz.underlying22 (reads_slice Tryz.underlying22 (by kernel_rfl) (by decide) (by rw [bytes33]; decide) (reads_call)) (hval 0 22 v0 rfl rfl) h0 w0
 rw [bytes33] at l0
 obtain ⟨x1,rfl,i1⟩:=arg_int Tryz.underlying3 (hval 1 3 v1 rfl rfl) h1
 have r1:=i64In i1
 have hsep:Sep (Go.SL.base (heapOf W)::sl callR A0 c0 xs0::[]) (heapOf W) Mem.emp:=sep_cons (Mem.le_refl _) (sep_cons s0 sep_nil)
 refine (law_calls hsep (wholeShards_walk x1 (slk (A:=A0) (c:=c0) (R:=callR) (xs:=xs0)))).mono fun e W' ⟨he,hb⟩=> ?_
 subst he
 exact ⟨_,rfl,post_true hW' hb laid (by kernel_rfl) rfl Tryz.underlying4 rfl rfl⟩
set_option maxRecDepth 100000 in
theorem lifted (os:Os) (started:os.Started) (H:Type) (enc:TypeId × Value→H):
  ReturnsInHanded {} Tryz.checked os 3 .any (fun w args=>(Rows.wholeShardsSpec.pre enc Tryz.prog Tryz.f3 [] false w args∧laidMetH Tryz.prog Rows.wholeShardsRow.laid w)∧sizedMet enc Tryz.prog Tryz.f3 (OpenSpec.ofChange Rows.wholeShardsSpec) false w args) (Rows.wholeShardsSpec.post enc Tryz.prog Tryz.f3 false true false false):=by
 refine returnsInHanded_of_change_and (C:=Tryz.checked) (X:=fun w _=>laidMetH Tryz.prog Rows.wholeShardsRow.laid w) (fun _ _ _ hh h=>h.of_heap hh) own started (by kernel_rfl) Tryz.func3
  (ChangeSpec.witness_shaped (enc:=enc) (C:=Tryz.checked) (os:=os) (X:=fun w _=>laidMetH Tryz.prog Rows.wholeShardsRow.laid w) false (World.laidAll Tryz.prog os Rows.wholeShardsRow.laid) #[.slice none 0 0,.int .i64 0] 8 (World.laidAll_os _ _ _)
   (World.shaped_of_ZipB (by kernel_rfl) (by kernel_rfl)) (by kernel_rfl) (by kernel_rfl) (by kernel_rfl)
   (by rw [MakeChecks.laidMetH_plain _ _ _ (by kernel_rfl)]; exact laidMet_laidAll _ (by kernel_rfl) (by kernel_rfl))) ?_
 intro W base args ds gs before hval hW _ hs _ _
 exact contract H enc W base args ds gs before hval hW hs
end Go.Proofs.YtojddiieiggpjaaGreatDoor.wholeShards
