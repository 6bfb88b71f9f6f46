/-
  The cp_ wrap with a further condition, the world's shape kept.
-/
import Derived.Handed
import Derived.SizedLaws
import Derived.ChangeSame
namespace Go.Sx
variable {H:Type} {enc:TypeId×Value->H}
theorem post_own {P:Program} {f:Func} {s:ChangeSpec} {apart fresh handsOn again:Bool} {W W':World} {args:Array Value} {v:Value} {ds gs:List (DataW H)} {before pa pv:List MemPlace}
  (hW:DataW.Whole enc P f.params.toList s.vars apart W args.toList ds gs before)
  (hres:∀(b:Nat) (sp:Nat->Bool) (hd:Bool),DataW.TrodAll enc P W' b sp hd f.resultTypes.toList (v.resultList f.resultTypes.size) (s.fn H (ds++gs)).results [])
  (hargs:∀sp:Nat->Bool,(∀p∈before,sp p.block=true)->DataW.TrodAll enc P W' 0 sp true f.params.toList args.toList (s.fn H (ds++gs)).args pa)
  (hvars:∀sp:Nat->Bool,(∀p∈before,sp p.block=true)->DataW.TrodVars enc P W' sp s.vars (s.fn H (ds++gs)).vars pv)
  (hps:before=pa++pv) (hk:W.keptBut W' (· ∈before)) (hfz:∀a,a.block<W.heap.size->W'.frozen? a=W.frozen? a)
  (hok:∀(j:Nat) (t:TypeId) (r:Value),f.resultTypes[j]? =some t->(v.resultList f.resultTypes.size)[j]? =some r->Value.okWide P W' .any 0 t r):
  s.post enc P f apart fresh handsOn again W args v W':=by
 have hlt:∀p∈pa++pv,p.block<W.heap.size:=λp hp=>hW.lt p (by rw [hps];exact hp)
 have hsp:∀p∈before,(λb=>decide (b<W.heap.size)) p.block=true:=λp hp=>decide_eq_true (hW.lt p hp)
 refine ⟨ds,gs,before,[],pa,pv,hW,hres _ _ _,hargs _ hsp,hvars _ hsp,World.keptBut_mono (λp hp=>⟨hp,Or.inr ?_⟩) hk,λ_=>⟨hok,_,_,([]++pa)++pv,⟨[]++pa,pv,ChangeShapes.trodAll_append (hargs _ (λ_ _=>rfl)) (hres _ _ _),hvars _ (λ_ _=>rfl),rfl,λb off hp=>?_,λha=>?_⟩,λp hp _=>?_⟩⟩
 .rw [hps]at hp;exact List.mem_append.1 hp
 .obtain ⟨_,_,_,_,_,hz,_⟩:=hW
  rw [List.nil_append]at hp
  rw [hfz _ (hlt _ hp)]
  exact hz b off (by rw [hps];exact hp)
 .obtain ⟨_,_,_,_,_,_,hn⟩:=hW
  have:=hn ha
  rw [hps]at this
  simpa using this
 .rw [hps];simpa using hp
end Go.Sx
