/- Part 9. -/
import Derived.Test.YtpldhemgcoimaaaGreatMEMh
import Derived.ChangeReads
set_option linter.unusedSimpArgs false
set_option linter.unusedVariables false
set_option maxRecDepth 4000
namespace Go.HL
variable {H:Type} {enc:TypeId×Value->H} {P:Program} {w:World} {base:Nat} {held:Bool} {sp:Nat->Bool}
theorem Rc {a:Addr} {n:Nat} {q:List MemPlace} (hn:0<n) (h:∀p∈MemPlace.row a n++q,sp p.block=true):sp a.block=true:=by have:=h (.cell a.block (a.off+0)) (List.mem_append_left _ (by simp only [MemPlace.row,List.mem_map,List.mem_range];exact ⟨0,hn,rfl⟩));exact this
def CH (P:Program) (L:List TypeId):Bool:=L.all λt=>match P.underlying t with
 |some (.slice e)=>decide (0<P.cellsOf e)&&L.contains e
 |some (.pointer e)=>L.contains e
 |some (.struct fs)=>fs.toList.all λf=>L.contains f.type
 |some (.array _ e)=>L.contains e
 |some (.map _ e)=>L.contains e
 |_=>true
theorem DU {L:List TypeId} (hL:CH P L=true) {r r':TypeId->List Value->Option (DataW H×List MemPlace)} (hr:∀t,t∈L->∀cs x,r t cs=some x->(∀p∈x.2,sp p.block=true)->r' t cs=some x) {t:TypeId} (htL:t∈L) {cs:List Value} {x:DataW H×List MemPlace}
  (h:DataW.trodStep enc P w base (λ_=>true) true r t cs=some x) (hs:∀p∈x.2,sp p.block=true):DataW.trodStep enc P w base sp true r' t cs=some x:=by
 have hk:=List.all_eq_true.1 hL t htL;unfold DataW.trodStep at h⊢
 generalize hu:P.underlying t=u at h hk⊢;split at h
 case h_6=>
  rename_i e a;have hk:e∈L:=List.contains_iff_mem.1 hk;simp only [Option.map_eq_some_iff] at h⊢
  obtain ⟨y,hy,rfl⟩:=h;obtain ⟨cs',h1,h2⟩:=Option.bind_eq_some_iff.1 hy;exact ⟨y,Option.bind_eq_some_iff.2 ⟨cs',h1,hr _ hk _ _ h2 λp hp=>hs p (List.mem_append_right _ hp)⟩,rfl⟩
 case h_8=>
  rename_i e a len cap;simp only [Bool.and_eq_true,decide_eq_true_eq,List.contains_iff_mem] at hk;split at h
  ·rename_i hb
   rw [if_pos hb];obtain ⟨elems,hel,h⟩:=Option.bind_eq_some_iff.1 h;simp only [if_true,Option.map_eq_some_iff] at h;obtain ⟨rest,hrest,rfl⟩:=h;have each:∀i y,y∈elems++rest->((w.cells? base (a.add (i*P.cellsOf e)) (P.cellsOf e)).bind (r e))=some y->((w.cells? base (a.add (i*P.cellsOf e)) (P.cellsOf e)).bind (r' e))=some y:=λi y hy h1=>by obtain ⟨cs',h2,h3⟩:=Option.bind_eq_some_iff.1 h1;exact Option.bind_eq_some_iff.2 ⟨cs',h2,hr _ hk.2 _ _ h3 λp hp=>hs p (List.mem_append_right _ (List.mem_flatMap.2 ⟨y,hy,hp⟩))⟩
   refine Option.bind_eq_some_iff.2 ⟨elems,mapM_carry hel λi y _ hy h1=>each i y (List.mem_append_left _ hy) h1,?_⟩;have hrest':=mapM_carry (g:=λj=>(w.cells? base (a.add ((len+j)*P.cellsOf e)) (P.cellsOf e)).bind (r' e)) hrest λi y _ hy h1=>each _ y (List.mem_append_right _ hy) h1;simp only [Option.map_eq_some_iff];refine ⟨rest,?_,rfl⟩
   by_cases hsp:sp a.block=true
   ·rw [if_pos hsp];exact hrest'
   ·rw [if_neg hsp]
    cases rest with
    |nil=>rfl
    |cons y rest=>exact absurd (Rc (Nat.mul_pos (by simp only [List.length_cons];omega) hk.1) hs) hsp
  ·cases h
 case h_9=>
  simp only [List.all_eq_true,List.contains_iff_mem] at hk;split at h
  ·rename_i hl
   rw [if_pos hl];simp only [Option.map_eq_some_iff] at h⊢
   obtain ⟨xs,hxs,rfl⟩:=h;exact ⟨xs,mapM_carry hxs λf y hf hy h1=>hr _ (hk f hf) _ _ h1 λp hp=>hs p (List.mem_flatMap.2 ⟨y,hy,hp⟩),rfl⟩
  ·cases h
 case h_10=>
  rename_i len e;have hk:e∈L:=List.contains_iff_mem.1 hk;split at h
  ·rename_i hl
   rw [if_pos hl];simp only [Option.map_eq_some_iff] at h⊢
   obtain ⟨xs,hxs,rfl⟩:=h;exact ⟨xs,mapM_carry hxs λf y _ hy h1=>hr _ hk _ _ h1 λp hp=>hs p (List.mem_flatMap.2 ⟨y,hy,hp⟩),rfl⟩
  ·cases h
 case h_12=>exact h
 case h_14=>
  rename_i ky e b;have hk:e∈L:=List.contains_iff_mem.1 hk;split at h
  ·split at h
   ·rename_i hc
    rw [if_pos hc];obtain ⟨entries,he,h⟩:=Option.bind_eq_some_iff.1 h;have hx:x.2= .map b::entries.flatMap (·.2):=by
     simp only at h;split at h
     ·cases h;rfl
     ·cases h
    refine Option.bind_eq_some_iff.2 ⟨entries,mapM_carry he λf y _ hy h1=> ?_,h⟩;obtain ⟨key,hky,h1⟩:=Option.bind_eq_some_iff.1 h1;split at h1
    ·rename_i hf
     simp only [Option.map_eq_some_iff] at h1;obtain ⟨z,hz,rfl⟩:=h1;refine Option.bind_eq_some_iff.2 ⟨key,hky,?_⟩;rw [if_pos hf];simp only [Option.map_eq_some_iff];exact ⟨z,hr _ hk _ _ hz λp hp=>hs p (by rw [hx];exact List.mem_cons_of_mem _ (List.mem_flatMap.2 ⟨_,hy,hp⟩)),rfl⟩
    ·cases h1
   ·cases h
  ·cases h
 all_goals first|exact h|cases h
theorem HU {L:List TypeId} (hL:CH P L=true):∀(n:Nat) (t:TypeId),t∈L->∀(cs:List Value) (x:DataW H×List MemPlace),DataW.trod enc P w base (λ_=>true) true n t cs=some x->(∀p∈x.2,sp p.block=true)->DataW.trod enc P w base sp true n t cs=some x
 |0,t,_,cs,x,h,_=>by simp [DataW.trod] at h
 |n+1,t,ht,cs,x,h,hs=>by
  rw [DataW.trod_step] at h⊢
  exact DU hL (HU hL n) ht h hs
theorem JH {L:List TypeId} (hL:CH P L=true) {w':World} {t:TypeId} (ht:t∈L) {v:Value} {d:DataW H} {ps:List MemPlace} (h:DataW.Trod enc P w base (λ_=>true) true t v d ps) (hw:∀p∈ps,w.sameAt w' p) (hs:∀p∈ps,sp p.block=true):
  DataW.Trod enc P w' base sp true t v d ps:=by
 obtain ⟨n,h⟩:=h;exact ⟨n,HU hL n t ht _ _ (DataW.trod_carry n t _ _ h hw) hs⟩
theorem qh {L:List TypeId} (hL:CH P L=true) {w':World}:∀{ts:List TypeId} {vs:List Value} {ds:List (DataW H)} {ps:List MemPlace},(∀t∈ts,t∈L)->DataW.TrodAll enc P w base (λ_=>true) true ts vs ds ps->(∀p∈ps,w.sameAt w' p)->(∀p∈ps,sp p.block=true)->
  DataW.TrodAll enc P w' base sp true ts vs ds ps
 | [],[],[],_,_,h,_,_=>h
 |t::ts,v::vs,d::ds,ps,ht,⟨p,q,h1,h2,e⟩,hw,hs=>by
  subst e;exact ⟨p,q,JH hL (ht t (List.mem_cons_self ..)) h1 (λx hx=>hw x (List.mem_append_left _ hx)) (λx hx=>hs x (List.mem_append_left _ hx)),
   qh hL (λt' h'=>ht t' (List.mem_cons_of_mem _ h')) h2 (λx hx=>hw x (List.mem_append_right _ hx)) (λx hx=>hs x (List.mem_append_right _ hx)),rfl⟩
end Go.HL
