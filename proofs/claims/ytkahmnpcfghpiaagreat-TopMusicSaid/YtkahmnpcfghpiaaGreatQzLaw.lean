import Derived.Test.YtkahmnpcfghpiaaGreatQzAgr
set_option linter.all false
namespace Go.Pv
open Go Go.RowKit Go.Proofs
set_option maxRecDepth 200000
set_option maxHeartbeats 8000000
theorem isZ_n{l:List Int}(h:(if l.length=0 then Z.n else Z.a)=.n):l=[]:=by
 split at h
 ·exact Ew.1 (by assumption)
 ·cases h
theorem Kr{s:Sty}(hst:s.story=true){p:List Int}(hp:p∈aX s.e s.sc s.rl):Do s.sc.length p 0=true:=by
 have:=(Sty.story_ok hst).plays_fine p hp
 unfold Do;rw[Ej this.2.1,EJ,D7];exact fun x hx=>bm.2 (by have:=this.2.2 x hx;omega)
theorem areB_of{n:Nat}{l:List Int}{a:Int}(h1:l.length<=10)(h2:∀x∈l,a<=x∧x<n):Do n l a=true:=by
 unfold Do;rw[Ej h1,EJ,D7];exact fun x hx=>bm.2 (by have:=h2 x hx;omega)
end Go.Pv
