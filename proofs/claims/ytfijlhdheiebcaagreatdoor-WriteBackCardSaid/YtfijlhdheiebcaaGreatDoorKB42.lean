/- What the claims of this group lean on: WtBj. No condition. -/
import Derived.Test.YtfijlhdheiebcaaGreatDoorKB36
import Derived.Test.YtfijlhdheiebcaaGreatDoorKB40
import Derived.Test.YtfijlhdheiebcaaGreatDoorKB41
set_option linter.unusedSimpArgs false
set_option linter.unusedVariables false
set_option maxRecDepth 100000
set_option maxHeartbeats 4000000
namespace Cz
open Go Go.RowKit Go.Proofs
namespace Wr
section
variable {off no:Int}{Fr:List SV}{nr:Int}{Fz:List SV}{nz:Int}{Fs:List SV}{ns ns' w w':Int}{st1:Int}{Fo D:List SV}{dn:Int}
theorem data_f {X Y:Ln}{f:Fm}{most cut:Int}(hg:GdL X) (hF:cellsS X.ss=Fs) (hn:ns=ilen X.ss) (hw:w=wdI X.L) (hm:Big most) (hc:Big cut) (hd:dataL X most cut=some (Y,f)) (hw':w'=wdI Y.L) (hfo:plains Fo=true) (hD:cellsB f.da=D) (hdn:dn=ilen f.da) (hns':ns'=ilen Y.ss):
  ∃ ex,(S0 Tryz.prog).call 43 [.p 0 0,.i .i64 (.y most),.i .i64 (.y cut)] [.c (bxK 1 2 off no X.tm Fr nr Fz nz X.se X.re X.ow ns w X.H X.sh),.r false false (.y st1) 7 Fo,.r false false (.y 0) 11 Fs]
   (PostB 3 (λ_ g=>[.c (bxK (g 1) (g 2) off no X.tm Fr nr Fz nz Y.se X.re X.ow ns' w' Y.H X.sh),.r false false (.y st1) 7 Fo,.r false false (.y 0) 11 (cellsS (Y.ss++ex))]) (λ_=>.tp [dtF f.fl f.st D dn,.tt])):=by
 rcases (data_fm hg hd).2.1 with h0|h1
 ·by_cases he:∃ t∈X.ss,t.id=f.st/\t.en=true
  ·obtain⟨t,ht,e2,e3⟩:=he
   refine data_fB hg hF hn hw hm hc hd hw' hfo hD hdn hns' h0 λs hs e=>?_
   have:=quw hg.ss hs ht (e.trans e2.symm)
   subst this;exact e3
  ·refine data_fC hg hF hn hw hm hc hd hw' hfo hD hdn hns' h0 λs hs e=>?_
   cases h:s.en with
   | false=>rfl
   | true=>exact absurd ⟨s,hs,e,h⟩ he
 ·exact data_fA hg hF hn hw hm hc hd hw' hfo hD hdn hns' h1
end
end Wr
end Cz
