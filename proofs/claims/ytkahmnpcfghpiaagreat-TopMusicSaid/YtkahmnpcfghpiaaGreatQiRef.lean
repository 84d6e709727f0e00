import Derived.Test.YtkahmnpcfghpiaaGreatQiSame
set_option linter.all false
namespace Go.Pv
open Go Go.RowKit Go.Proofs
set_option maxRecDepth 200000
set_option maxHeartbeats 8000000
theorem qy{α:Type}{z:Z}{g:α->PV}{l:List α}(h:z=.n->l=[]):zOk z (l.map g)=true:=by
 cases z with
 |n=>rw[h rfl];rfl
 |a=>rfl
 |f=>rfl
def c23:Tb_
 |[v],sg=>match cS v with
  |some s=>some (.ret (yz s),sg)
  |none=>none
 |_,_=>none
theorem c23_ok:al Tryz.prog 17 c23:=al.of0 (ent Tryz.func17 rfl) fun args sg r sg' h=>by
 unfold c23 at h;split at h <;> try (cases h;done)
 split at h <;> cases h
 rename_i s h1;obtain⟨rfl,hok⟩:=aM h1;exact⟨_,rfl,rfl,by rw[af,cm];rfl,Plays_23 s hok⟩
def c34:Tb_
 |[v,w,.int .i64 a],sg=>match cS v,aN w with
  |some s,some p=>if s.sc.length<=1000∧p.length<=100000 then some (.ret (.bool (Do s.sc.length p a)),sg)else none
  |_,_=>none
 |_,_=>none
theorem c34_ok:al Tryz.prog 18 c34:=al.of0 (ent Tryz.func18 rfl) fun args sg r sg' h=>by
 unfold c34 at h;split at h <;> try (cases h;done)
 split at h <;> try (cases h;done)
 rename_i s p h1 h2;split at h <;> cases h
 rename_i hc;obtain⟨rfl,hok⟩:=aM h1;obtain⟨z,rfl,hz⟩:=aJ h2;exact⟨_,rfl,rfl,by rw[af,cm,af,bt];rfl,List_34 s z p _ hz hc.2 hc.1⟩
end Go.Pv
