/- Plain laws on one changed session. Conditions: lengths below 400. -/
import Derived.Test.YthmajmkgeapfnaaSC
import Derived.Test.YthmajmkgeapfnaaF68
import Derived.Test.YthmajmkgeapfnaaF38
namespace Go.Proofs.Ythmajmkgeapfnaa.A
open Go.RowKit Go.Proofs.YthmajmkgeapfnaaW.PrintWords Go.Proofs.YthmajmkgeapfnaaW.PrintLast Go.Proofs.YthmajmkgeapfnaaW.PrintMore
set_option linter.unusedSimpArgs false
theorem set_ok {l:List S38} {t:ByteArray} {r:Nat} (o:Bool) (p:Int) (q:ByteArray) (hl:l.length ≤ 400) (h:Ev (fun k=>spec_l09At.f k l t) (r:Int)) (hr:r < l.length):Ev (fun k=>spec_l09Set.f k l t t o p q) (l.set r ⟨t,o,p,q⟩,0):=by
 refine evBind h (evNow fun _=>?_)
 rw [if_neg (by omega),Option.bind_some,if_pos (by simp;omega),Option.bind_some,if_pos (by omega),if_pos (by simpa using hr)]
 simp
theorem present_j0 (l:List S38) (t:ByteArray) (p:Int) (q:ByteArray):Ev (fun k=>spec_Present.j0 k l t p q true) ([],2):=evOne fun _=>rfl
end Go.Proofs.Ythmajmkgeapfnaa.A
