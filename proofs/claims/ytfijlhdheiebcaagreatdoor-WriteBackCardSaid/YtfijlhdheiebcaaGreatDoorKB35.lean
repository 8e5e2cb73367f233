/- What the claims of this group lean on: WtB. No condition. -/
import Derived.Test.YtfijlhdheiebcaaGreatDoorKB34
set_option linter.unusedSimpArgs false
set_option linter.unusedVariables false
set_option maxRecDepth 100000
set_option maxHeartbeats 4000000
namespace Cz
open Go Go.RowKit Go.Proofs
namespace Wr
theorem qwl {ss:List St}{sl:Int}{i:Nat}(h:slI ss sl=some i) {j:Nat}{t:St}(hj:j<i) (ht:ss[j]?=some t):t.sl≠sl:=by
 unfold slI at h;rw[List.findIdx?_eq_some_iff_getElem] at h;obtain⟨_,_,h3⟩:=h;obtain⟨q1,rfl⟩:=List.getElem?_eq_some_iff.1 ht;simpa using h3 j hj
section
variable {S:Sy}{l:List Blk}{K:SV->List Blk->Prop}
theorem qwr (hS:S0 Tryz.prog=S) {L L':List (Int×Int)}{H H':Nat->Int}{w s k:Int}{t':Bool}(hR:GoodR L H) (hw:w=wdI L) (t:Bool) (hn:nxtR (allR L H)=((s,k),t)) (ho:outR L H s=((L',H'),t')) (w':Int) (hw':w'=wdI L') (h:K (.tp [.ag (rdyC w' H'),.i .i64 (.y s),.i .i64 (.y k),.b t]) l):
  S.call 104 [.ag (rdyC w H)] l K:=by
 subst hS;exact qai (qae (rbegin_f hR hw hn ho hw') λx _ hx=>⟨_,hx,.rfl⟩) rfl rfl h
theorem qzavd (hS:S0 Tryz.prog=S) {L L':List (Int×Int)}{H H':Nat->Int}{w s u:Int}{inc rd:Bool}(hR:GoodR L H) (hw:w=wdI L) (hs:0<=s/\s<=7) (hu:0<=u/\u<=7) (hn:ofB (allR L H) s=false) (ho:overR L H s u inc rd=(L',H')) (w':Int) (hw':w'=wdI L') (h:K (.tp [.ag (rdyC w' H'),.tt]) l):
  S.call 111 [.ag (rdyC w H),.i .i64 (.y s),.i .i64 (.y u),.b inc,.b rd] l K:=by
 subst hS;exact qai (qae (rover_f hR hw hs hu hn ho hw') λx _ hx=>⟨_,hx,.rfl⟩) rfl rfl h
theorem lay_u (hS:S0 Tryz.prog=S) (p k1 k2:Nat) {cs:List SV}{lit1 lit2:Bool}{z1 z2:Z}{ss:List St}{off no tm:Int}{Fr:List SV}{nr:Int}{Fz:List SV}{nz se re ow:Int}{Fs Fs':List SV}{ns ns' w:Int}{H:Nat->Int}{sh:Bool}{Fo D:List SV}{dn:Int}{i:Int}{s0 s:St}
  (hp:lget l p=.c cs) (h1:lget l k1=.r false lit1 z1 7 Fo) (h2:lget l k2=.r false lit2 z2 11 Fs) (hz:z2.v=0) (hne:nodupN [p,k1,k2]=true) (hc:SubL cs (bxK k1 k2 off no tm Fr nr Fz nz se re ow ns w H sh))
  (hF:cellsS ss=Fs) (hn:ns=ilen ss) (h8:ns<=1000) (h0:0<=i) (hi:i<ns) (hs0:ss[i.toNat]?=some s0) (ok:StOk s) (ok0:StOk s0) (hD:cellsB s.o=D) (hdn:dn=ilen s.o) (hF':cellsS (laidX ss i.toNat s0 s)=Fs') (hn':ns'=ilen (laidI ss i.toNat s0 s)) (hfo:plains Fo=true)
  (hK:K .any (lays (fOf [p,k1,k2]) 3 0 [.c (bxK k1 k2 off no tm Fr nr Fz nz se re ow ns' w H sh),.r false false (.y z1.v) 7 Fo,.r false false (.y 0) 11 Fs'] l)):
  S.call 78 [.p p 0,.i .i64 (.y i),.ag (stK s D dn)] l K:=by
 refine quk hS [p,k1,k2] (lay_f (st1:=z1.v) (off:=off) (no:=no) (tm:=tm) (Fr:=Fr) (nr:=nr) (Fz:=Fz) (nz:=nz) (se:=se) (re:=re) (ow:=ow) (w:=w) (H:=H) (sh:=sh) hF hn h8 h0 hi hs0 ok ok0 hD hdn hF' hn' hfo) rfl hne (.cons .rfl (.cons .rfl (.cons .rfl .nil))) ⟨?_,?_,?_,trivial⟩ rfl λsts=>hK
 ·show BUp 3 (fOf [p,k1,k2]) (lget l p) _
  rw[hp];exact .c hc rfl
 ·show BUp 3 (fOf [p,k1,k2]) (lget l k1) _
  rw[h1];exact .r .rfl hfo rfl
 ·show BUp 3 (fOf [p,k1,k2]) (lget l k2) _
  rw[h2];exact .r .rfl (hF▸qak _) hz
end
def dtF (fl id:Int) (D:List SV) (n:Int):SV:=.ag [.i .u8 (.l 0),.i .u8 (.y fl),.i .i64 (.y id),.v false 1 D (.y n),.i .i64 (.l 0),.i .i64 (.l 0),.i .i64 (.l 0),.i .u32 (.l 0),.v true 2 [] (.l 0),.ff,.ff,.i .i64 (.l 0),.i .u8 (.l 0)]
def MinI (a r:Int):Prop:=min a 16384=r
theorem s_mne {S:Sy}(hS:S0 Tryz.prog=S) {k:IntKind}{a r:Int}{K:Int->Prop}(hr:MinI a r) (h:K r):S.ar .min k a 16384 K:=qcg hS r (by unfold MinI at hr;rw[<-hr];simp only[arS];split<;>omega) h
theorem qzalr {a b:Int}(h:Big (a-b)):arS .sub .i64 a b=a-b:=qgy h.1 h.2
theorem sent_o {s:St}{n:Int}(h0:0<=n) (h1:n<=ilen s.o):(sentS s n).o=[]↔n=ilen s.o:=by
 unfold sentS ilen at *;dsimp only;rw[List.drop_eq_nil_iff];omega
theorem qrr {b:List Int}{F:List SV}{n:Int}(hF:cellsB b=F):(F.drop ((0:Int).toNat*1)).take (n.toNat*1)=cellsB (b.take n.toNat):=by
 subst hF;rw[qex,qex];simp [List.map_take]
theorem qzamn {b:List Int}{F:List SV}{n m:Int}(hF:cellsB b=F) (h0:0<=n) (hm:m=ilen b-n):(F.drop (n.toNat*1)).take (m.toNat*1)=cellsB (b.drop n.toNat):=by
 subst hF;rw[qex,qex];rw[Nat.mul_one,Nat.mul_one,<-List.map_drop,List.take_of_length_le];rw[List.length_map,List.length_drop,hm];unfold ilen;omega
end Wr
end Cz
