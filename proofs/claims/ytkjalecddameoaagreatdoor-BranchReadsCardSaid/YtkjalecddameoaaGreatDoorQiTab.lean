/- Tables of the functions that the laws of plays call. -/
import Derived.Test.YtkjalecddameoaaGreatDoorQiSame
set_option linter.all false
namespace Go.Pv
open Go Go.RowKit Go.Proofs
set_option maxRecDepth 200000
set_option maxHeartbeats 8000000
def c21:List PV→List Box→Option (PRes × List Box)
 | [],sg=>some (.ret (.bool true),sg)
 | _,_=>none
theorem zOk_of {α:Type} {z:Z} {g:α→PV} {l:List α} (h:z = .n→l = []):zOk z (l.map g) = true:=by
 cases z with
 | n=>rw [h rfl];rfl
 | a=>rfl
 | f=>rfl
def c23:List PV→List Box→Option (PRes × List Box)
 | [v],sg=>match decSt v with
  | some s=>some (.ret (playsR s),sg)
  | none=>none
 | _,_=>none
theorem c23_ok:ConOk Tryz.prog 23 c23:=ConOk.of0 (ent Tryz.func23 rfl) fun args sg r sg' h=>by
 unfold c23 at h
 split at h <;> try (cases h;done)
 split at h <;> cases h
 rename_i s h1
 obtain ⟨rfl,hok⟩:=decSt_inv h1
 exact ⟨_,rfl,rfl,by rw [ltBL_cons,ltB_st];rfl,Plays_23 s hok⟩
def c26:List PV→List Box→Option (PRes × List Box)
 | [v],sg=>match decSt v with
  | some s=>some (.ret (surelyR s),sg)
  | none=>none
 | _,_=>none
theorem c26_ok:ConOk Tryz.prog 26 c26:=ConOk.of0 (ent Tryz.func26 rfl) fun args sg r sg' h=>by
 unfold c26 at h
 split at h <;> try (cases h;done)
 split at h <;> cases h
 rename_i s h1
 obtain ⟨rfl,hok⟩:=decSt_inv h1
 exact ⟨_,rfl,rfl,by rw [ltBL_cons,ltB_st];rfl,Surely_26 s hok⟩
def c24:List PV→List Box→Option (PRes × List Box)
 | [v,w],sg=>match decSt v,decIs1 w with
  | some s,some p=>some (.ret (waysR s p),sg)
  | _,_=>none
 | _,_=>none
theorem c24_ok:ConOk Tryz.prog 24 c24:=ConOk.of0 (ent Tryz.func24 rfl) fun args sg r sg' h=>by
 unfold c24 at h
 split at h <;> try (cases h;done)
 split at h <;> cases h
 rename_i s p h1 h2
 obtain ⟨rfl,hok⟩:=decSt_inv h1
 obtain ⟨z,rfl,hz⟩:=decIs1_inv h2
 exact ⟨_,rfl,rfl,by rw [ltBL_cons,ltB_st,ltBL_cons,ltB_isl];rfl,Ways_24 s hok z p (zOk_of hz)⟩
def c25:List PV→List Box→Option (PRes × List Box)
 | [v,w],sg=>match decSt v,decIs1 w with
  | some s,some p=>some (.ret (rulesR s p),sg)
  | _,_=>none
 | _,_=>none
theorem c25_ok:ConOk Tryz.prog 25 c25:=ConOk.of0 (ent Tryz.func25 rfl) fun args sg r sg' h=>by
 unfold c25 at h
 split at h <;> try (cases h;done)
 split at h <;> cases h
 rename_i s p h1 h2
 obtain ⟨rfl,hok⟩:=decSt_inv h1
 obtain ⟨z,rfl,hz⟩:=decIs1_inv h2
 exact ⟨_,rfl,rfl,by rw [ltBL_cons,ltB_st,ltBL_cons,ltB_isl];rfl,Rules_25 s hok z p (zOk_of hz)⟩
end Go.Pv
