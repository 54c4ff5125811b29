/- Part 12. -/
import Derived.Test.YtpldhemgcoimaaaGreatMEMk
import Derived.RangeFuncBox
import Derived.RangeFuncLeaves
import Derived.RangeFuncWrites
import Derived.Shelf.Abstract
import Derived.OwnWalkIn
import Derived.TacticsInMore
import Derived.LoopNIn
import Derived.LoopIn
set_option linter.unusedSimpArgs false
set_option linter.unusedVariables false
set_option maxRecDepth 4000
namespace Go.HL.Es
open Go.HL Go.Proofs Go.RowKit Go.Shelf
attribute [local go_sem] Oper.semAt_some
set_option maxRecDepth 100000 in
set_option maxHeartbeats 2000000 in
theorem YZ (n:Nat) (hn:1<=n) (l Bs b off len cap:Nat) (fs:List Value) (hreach:len*8<=140737488351232) (J:Nat->World->Prop)
  (hJ:∀k W,J k W->W.cell? ⟨Bs,0,none⟩=some (.slice (some ⟨b,off,none⟩) len cap)/\∀j,j<len->W.cell? ⟨b,off+j,none⟩=some (fs[j]?.getD undef))
  (hY:∀k W,J (k+1) W->k<len->YieldAt Fence.wide (n -1) Tryz.prog l #[.int .i64 (k:Int),fs[k]?.getD undef] W λe W'=>e= .returned (.bool true)/\J k W')
  (W:World) (h0:J len W):
  CallsIn Fence.wide n Tryz.prog 289 #[.func (.yield l) #[] #[],.pointer (some ⟨Bs,0,none⟩)] W λe W'=>(∃v,e= .returned v)/\J 0 W':=by
 refine callsIn_of_wp Tryz.func289 rfl trivial ?_ rfl;have hBs:=(hJ _ _ h0).1;simp only [Tryz.ntmps289,List.size_toArray,List.length_cons,List.length_nil,Nat.reduceAdd,Nat.reduceSub,Array.replicate_succ,Array.replicate_zero,List.push_toArray,List.append_toArray,List.nil_append,List.cons_append]
 gi_wp2
 gi_loopw [3] (λi wr=>∃k:Nat,k<=len/\i= .int .i64 ((k:Int) -1)/\J k wr) (λi _=>(Go.Proofs.intOf i+1).toNat)
 case atStart=>exact ⟨len,Nat.le_refl _,rfl,h0⟩
 case round=>
  obtain ⟨k,hk,rfl,hJs⟩:=hrel;obtain ⟨hc1,hc2⟩:=hJ _ _ hJs;cases k with
  |zero=>
   gi_wp2
   go_end0
   exact ⟨⟨_,rfl⟩,hJs⟩
  |succ k=>
   obtain ⟨fn,tmps,assign,body,hy,hR⟩:=hY _ wr hJs (by omega);have hcx:=hc2 k (by omega);rw [show ((k+1:Nat):Int) -1=(k:Int) by omega]
   gi_wp2
   refine hR.mono ?_;rintro e W3 ⟨rfl,hJ3⟩
   gi_wp2
   go_roundw
   case rel=>exact ⟨k,by omega,rfl,hJ3⟩
   case measure=>simp [Go.Proofs.intOf]
set_option maxRecDepth 100000 in
set_option maxHeartbeats 2000000 in
theorem YY (n:Nat) (l Bs:Nat) (J:World->Prop) (W:World) (hBs:W.cell? ⟨Bs,0,none⟩=some (.slice none 0 0)) (h0:J W):
  CallsIn Fence.wide n Tryz.prog 289 #[.func (.yield l) #[] #[],.pointer (some ⟨Bs,0,none⟩)] W λe W'=>(∃v,e= .returned v)/\J W':=by
 refine callsIn_of_wp Tryz.func289 rfl trivial ?_ rfl;simp only [Tryz.ntmps289,List.size_toArray,List.length_cons,List.length_nil,Nat.reduceAdd,Nat.reduceSub,Array.replicate_succ,Array.replicate_zero,List.push_toArray,List.append_toArray,List.nil_append,List.cons_append]
 gi_wp2
 gi_loopw [3] (λi wr=>i= .int .i64 (-1)/\J wr) (λi _=>0)
 case atStart=>exact ⟨rfl,h0⟩
 case round=>
  obtain ⟨rfl,hJs⟩:=hrel
  gi_wp2
  go_end0
  exact ⟨⟨_,rfl⟩,hJs⟩
end Go.HL.Es
