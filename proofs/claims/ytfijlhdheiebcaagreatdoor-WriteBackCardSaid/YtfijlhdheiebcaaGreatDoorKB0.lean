/- What the claims of this group lean on: E0. No condition. -/
import Derived.Calls
set_option linter.unusedSimpArgs false
set_option linter.unusedVariables false
namespace Cz
open Go
inductive Ex where
 | normal
 | exit (id:Nat)
 | goto (l:Nat)
 | ret
def fat (b:Frame) (a:Act) (todo:List Item):Frame:={ b with tmps:=a.tmps,todo:=todo,defers:=a.defers,mode:=.run }
theorem qzafh (b:Frame) (a:Act) (todo:List Item) (x:Operand):(fat b a todo).eval x=a.eval x:=by cases x<;>rfl
theorem eval_fat' (b:Frame) (a:Act) (todo:List Item):(fat b a todo).eval=a.eval:=funext (qzafh b a todo)
def Arr (P:Program) (b:Frame) (m:Machine) (k:List Item) (cs:List Frame):Ex->Act->World->Prop
 | .normal,a,w=>Steps P m (lone (fat b a k) cs w)
 | .exit id,a,w=>∃ kk,exitTo id kk=exitTo id k/\Steps P m (lone (fat b a (.code (.exit id)::kk)) cs w)
 | .goto l,a,w=>∃ kk,gotoIn l kk=gotoIn l k/\Steps P m (lone (fat b a (.code (.goto l)::kk)) cs w)
 | .ret,a,w=>∃ kk,Steps P m (lone (fat b a (.code .ret::kk)) cs w)
theorem Arr.of_steps {P:Program}{b:Frame}{m m₁:Machine}{k:List Item}{cs:List Frame}{e:Ex}{a:Act}{w:World}
  (h:Steps P m m₁) (h':Arr P b m₁ k cs e a w):Arr P b m k cs e a w:=by
 cases e with
 | normal=>exact h.trans h'
 | exit id=>obtain⟨kk,e,s⟩:=h';exact⟨kk,e,h.trans s⟩
 | goto l=>obtain⟨kk,e,s⟩:=h';exact⟨kk,e,h.trans s⟩
 | ret=>obtain⟨kk,s⟩:=h';exact⟨kk,h.trans s⟩
abbrev Post:=Ex->Act->World->Prop
def From (P:Program) (ro:Option Nat) (k₀:List Item) (Q:Post) (a:Act) (w:World):Prop:=
 ∀ b:Frame,b.roundOf=ro->∀ k cs,∃ e a' w',Q e a' w'/\Arr P b (lone (fat b a (k₀++k)) cs w) k cs e a' w'
def Wp (P:Program) (ro:Option Nat) (c:Code) (Q:Post) (a:Act) (w:World):Prop:=From P ro [.code c] Q a w
section moves
variable {P:Program}{b:Frame}{a:Act}{k:List Item}{cs:List Frame}{w:World}
theorem st_skip:step P (lone (fat b a (.code .skip::k)) cs w)=.next (lone (fat b a k) cs w):=
 step_lone_go (by simp [stepG,stepG.exec,fat])
theorem st_label {l:Nat}:step P (lone (fat b a (.code (.label l)::k)) cs w)=.next (lone (fat b a k) cs w):=
 step_lone_go (by simp [stepG,stepG.exec,fat])
theorem st_inBlock {id:Nat}:step P (lone (fat b a (.inBlock id::k)) cs w)=.next (lone (fat b a k) cs w):=
 step_lone_go (by simp [stepG,stepG.exec,fat])
theorem st_inScope {c:Code}:step P (lone (fat b a (.inScope c::k)) cs w)=.next (lone (fat b a k) cs w):=
 step_lone_go (by simp [stepG,stepG.exec,fat])
theorem st_seq {x y:Code}:step P (lone (fat b a (.code (.seq x y)::k)) cs w)=.next (lone (fat b a (.code x::.code y::k)) cs w):=
 step_lone_go (by simp [stepG,stepG.exec,fat])
theorem st_cond {c:Operand}{x y:Code}{t:Bool}(h:a.eval c=.bool t):
  step P (lone (fat b a (.code (.cond c x y)::k)) cs w)=.next (lone (fat b a (.code (if t then x else y)::k)) cs w):=
 step_lone_go (by
  have:=qzafh b a (.code (.cond c x y)::k) c
  simp only[fat] at this;simp [stepG,stepG.exec,fat,this,h])
theorem st_block {id:Nat}{c:Code}:step P (lone (fat b a (.code (.block id c)::k)) cs w)=.next (lone (fat b a (.code c::.inBlock id::k)) cs w):=
 step_lone_go (by simp [stepG,stepG.exec,fat])
theorem st_loop {c:Code}:step P (lone (fat b a (.code (.loop c)::k)) cs w)=.next (lone (fat b a (.code c::.inLoop c::k)) cs w):=
 step_lone_go (by simp [stepG,stepG.exec,fat])
theorem st_inLoop {c:Code}:step P (lone (fat b a (.inLoop c::k)) cs w)=.next (lone (fat b a (.code c::.inLoop c::k)) cs w):=
 step_lone_go (by simp [stepG,stepG.exec,fat])
theorem st_scope {c:Code}:step P (lone (fat b a (.code (.scope c)::k)) cs w)=.next (lone (fat b a (.code c::.inScope c::k)) cs w):=
 step_lone_go (by simp [stepG,stepG.exec,fat])
theorem st_exit {id:Nat}{k':List Item}(h:exitTo id k=some k'):
  step P (lone (fat b a (.code (.exit id)::k)) cs w)=.next (lone (fat b a k') cs w):=
 step_lone_go (by simp [stepG,stepG.exec,fat,h])
theorem st_goto {l:Nat}{k':List Item}(h:gotoIn l k=some k'):
  step P (lone (fat b a (.code (.goto l)::k)) cs w)=.next (lone (fat b a k') cs w):=
 step_lone_go (by simp [stepG,stepG.exec,fat,h])
end moves
theorem Steps.tail {P:Program}{m m₁ t:Machine}(h:Steps P m t) (hne:m≠t) (hs:step P m=.next m₁):Steps P m₁ t:=by
 obtain⟨n,hn⟩:=h;cases n with
 | zero=>simp [runN] at hn;exact absurd hn hne
 | succ n=>
  simp only[runN,hs] at hn;exact⟨n,hn⟩
theorem From.step {P:Program}{ro:Option Nat}{k₀ k₁:List Item}{Q:Post}{a a':Act}{w w':World}
  (hs:∀ b k cs,b.roundOf=ro->Go.step P (lone (fat b a (k₀++k)) cs w)=.next (lone (fat b a' (k₁++k)) cs w'))
  (h:From P ro k₁ Q a' w'):From P ro k₀ Q a w:=λb hb k cs=>by
 obtain⟨e,a2,w2,q,r⟩:=h b hb k cs;exact⟨e,a2,w2,q,.of_steps (.one (hs b k cs hb)) r⟩
def Ex.then (next:Act->World->Prop) (Q:Post):Post
 | .normal,a,w=>next a w
 | e,a,w=>Q e a w
theorem From.cons {P:Program}{ro:Option Nat}{x:Item}{k₁:List Item}{Q:Post}{a:Act}{w:World}
  (h:From P ro [x] (Ex.then (From P ro k₁ Q) Q) a w) (hx:∀ y∈k₁,y.plain=true):From P ro (x::k₁) Q a w:=by
 intro b hb k cs;obtain⟨e,a1,w1,q,r⟩:=h b hb (k₁++k) cs;have he:∀ id,exitTo id (k₁++k)=exitTo id k:=λid=>by
  clear h r q
  induction k₁ with
  | nil=>rfl
  | cons y l ih=>
   have:=hx y (by simp)
   cases y<;>simp_all [Item.plain,exitTo]
 have hg:∀ id,gotoIn id (k₁++k)=gotoIn id k:=λid=>by
  clear h r q he
  induction k₁ with
  | nil=>rfl
  | cons y l ih=>
   have:=hx y (by simp)
   cases y<;>simp_all [Item.plain,gotoIn]
 cases e with
 | normal=>
  obtain⟨e2,a2,w2,q2,r2⟩:=q b hb k cs;exact⟨e2,a2,w2,q2,.of_steps r r2⟩
 | exit id=>obtain⟨kk,e1,s⟩:=r;exact⟨_,a1,w1,q,kk,e1.trans (he id),s⟩
 | goto l=>obtain⟨kk,e1,s⟩:=r;exact⟨_,a1,w1,q,kk,e1.trans (hg l),s⟩
 | ret=>exact⟨_,a1,w1,q,r⟩
section rules
variable {P:Program}{ro:Option Nat}{Q:Post}{a:Act}{w:World}
theorem From.nil (h:Q .normal a w):From P ro [] Q a w:=λ_ _ _ _=>⟨.normal,a,w,h,Steps.refl _ _⟩
theorem From.mono {k₀:List Item}{Q':Post}(h:From P ro k₀ Q a w) (hq:∀ e a w,Q e a w->Q' e a w):From P ro k₀ Q' a w:=
 λb hb k cs=>let ⟨e,a',w',q,r⟩:=h b hb k cs;⟨e,a',w',hq _ _ _ q,r⟩
theorem Wp.mono {c:Code}{Q':Post}(h:Wp P ro c Q a w) (hq:∀ e a w,Q e a w->Q' e a w):Wp P ro c Q' a w:=From.mono h hq
theorem wp_skip (h:Q .normal a w):Wp P ro .skip Q a w:=From.step (k₁:=[]) (λ_ _ _ _=>st_skip) (.nil h)
theorem wp_label {l:Nat}(h:Q .normal a w):Wp P ro (.label l) Q a w:=From.step (k₁:=[]) (λ_ _ _ _=>st_label) (.nil h)
theorem wp_exit {id:Nat}(h:Q (.exit id) a w):Wp P ro (.exit id) Q a w:=λ_ _ k _=>⟨.exit id,a,w,h,k,rfl,Steps.refl _ _⟩
theorem wp_goto {l:Nat}(h:Q (.goto l) a w):Wp P ro (.goto l) Q a w:=λ_ _ k _=>⟨.goto l,a,w,h,k,rfl,Steps.refl _ _⟩
theorem wp_ret (h:Q .ret a w):Wp P ro .ret Q a w:=λ_ _ k _=>⟨.ret,a,w,h,k,Steps.refl _ _⟩
theorem wp_seq {x y:Code}(h:Wp P ro x (Ex.then (Wp P ro y Q) Q) a w):Wp P ro (.seq x y) Q a w:=
 From.step (k₁:=[.code x,.code y]) (λ_ _ _ _=>st_seq) (.cons h (by simp [Item.plain]))
theorem wp_cond {c:Operand}{x y:Code}{t:Bool}(hc:a.eval c=.bool t) (h:Wp P ro (if t then x else y) Q a w):
  Wp P ro (.cond c x y) Q a w:=
 From.step (k₁:=[.code (if t then x else y)]) (λ_ _ _ _=>st_cond hc) h
def Ex.inBlock (id:Nat) (Q:Post):Post
 | .exit id',a,w=>if id'=id then Q .normal a w else Q (.exit id') a w
 | e,a,w=>Q e a w
theorem wp_block {id:Nat}{c:Code}(h:Wp P ro c (Ex.inBlock id Q) a w):Wp P ro (.block id c) Q a w:=by
 intro b hb k cs;obtain⟨e,a1,w1,q,r⟩:=h b hb (.inBlock id::k) cs;have s0:Steps P (lone (fat b a ([.code (.block id c)]++k)) cs w) (lone (fat b a (.code c::.inBlock id::k)) cs w):=.one st_block;cases e with
 | normal=>exact⟨.normal,a1,w1,q,(s0.trans r).trans (.one st_inBlock)⟩
 | exit id'=>
  obtain⟨kk,e1,s⟩:=r;by_cases hid:id'=id
  ·simp only[Ex.inBlock,hid,if_true] at q
   exact⟨.normal,a1,w1,q,(s0.trans s).trans (.one (st_exit (by rw[e1];simp [exitTo,hid])))⟩
  ·simp only[Ex.inBlock,hid,if_false] at q
   have:(id==id')=false:=by simp;exact λh=>hid h.symm
   exact⟨.exit id',a1,w1,q,kk,by rw[e1];simp [exitTo,this],s0.trans s⟩
 | goto l=>obtain⟨kk,e1,s⟩:=r;exact⟨_,a1,w1,q,kk,by rw[e1];rfl,s0.trans s⟩
 | ret=>obtain⟨kk,s⟩:=r;exact⟨_,a1,w1,q,kk,s0.trans s⟩
theorem wp_loop {c:Code}(h:Wp P ro c (Ex.then (Wp P ro (.loop c) Q) Q) a w):Wp P ro (.loop c) Q a w:=by
 refine From.step (k₁:=[.code c,.inLoop c]) (λ_ _ _ _=>st_loop) (.cons ?_ (by simp [Item.plain]));refine From.mono h ?_;intro e a1 w1 q;cases e with
 | normal=>
  intro b hb k cs;obtain⟨e2,a2,w2,q2,r2⟩:=q b hb k cs;refine⟨e2,a2,w2,q2,?_⟩;have hs:step P (lone (fat b a1 ([.code (.loop c)]++k)) cs w1)=.next (lone (fat b a1 (.code c::.inLoop c::k)) cs w1):=st_loop;have hi:Steps P (lone (fat b a1 ([.inLoop c]++k)) cs w1) (lone (fat b a1 (.code c::.inLoop c::k)) cs w1):=.one st_inLoop;have todo_ne:∀ (m m':Machine),(m.gs[0]?.map λg=>g.frame.todo)≠(m'.gs[0]?.map λg=>g.frame.todo)->m≠m':=λm m' h e=>h (by rw[e]);cases e2 with
  | normal=>
   refine hi.trans (Steps.tail r2 (todo_ne _ _ ?_) hs);simp only[lone,fat];intro hh
   have:=congrArg (λx=>(x.map List.length)) hh
   simp at this
  | exit id=>
   obtain⟨kk,e1,s⟩:=r2;refine⟨kk,e1,hi.trans (Steps.tail s (todo_ne _ _ ?_) hs)⟩;simp [lone,fat]
  | goto l=>
   obtain⟨kk,e1,s⟩:=r2;refine⟨kk,e1,hi.trans (Steps.tail s (todo_ne _ _ ?_) hs)⟩;simp [lone,fat]
  | ret=>
   obtain⟨kk,s⟩:=r2;refine⟨kk,hi.trans (Steps.tail s (todo_ne _ _ ?_) hs)⟩;simp [lone,fat]
 | exit id=>exact q
 | goto l=>exact q
 | ret=>exact q
def InScope (P:Program) (ro:Option Nat) (body c:Code) (Q:Post) (a:Act) (w:World):Prop:=From P ro [.code c,.inScope body] Q a w
def Ex.inScope (P:Program) (ro:Option Nat) (body:Code) (Q:Post):Post
 | .goto l,a,w=>match findLabel body l with
  | some rest=>InScope P ro body rest Q a w
  | none=>Q (.goto l) a w
 | e,a,w=>Q e a w
theorem qzalf {body c:Code}(h:Wp P ro c (Ex.inScope P ro body Q) a w):InScope P ro body c Q a w:=by
 intro b hb k cs;obtain⟨e,a1,w1,q,r⟩:=h b hb (.inScope body::k) cs;cases e with
 | normal=>exact⟨.normal,a1,w1,q,Steps.trans r (.one st_inScope)⟩
 | exit id=>obtain⟨kk,e1,s⟩:=r;exact⟨_,a1,w1,q,kk,by rw[e1];rfl,s⟩
 | ret=>exact⟨_,a1,w1,q,r⟩
 | goto l=>
  obtain⟨kk,e1,s⟩:=r;simp only[Ex.inScope] at q;cases hf:findLabel body l with
  | none=>
   simp only[hf] at q;exact⟨_,a1,w1,q,kk,by rw[e1];simp [gotoIn,hf],s⟩
  | some rest=>
   simp only[hf] at q;obtain⟨e2,a2,w2,q2,r2⟩:=q b hb k cs;exact⟨e2,a2,w2,q2,.of_steps (Steps.trans s (.one (st_goto (by rw[e1];simp [gotoIn,hf])))) r2⟩
theorem wp_scope {body:Code}(h:InScope P ro body body Q a w):Wp P ro (.scope body) Q a w:=
 From.step (k₁:=[.code body,.inScope body]) (λ_ _ _ _=>st_scope) h
end rules
def setO (w:World) (r:Nat) (o:Obj):World:={ w with heap:=w.heap.setIfInBounds r o }
def isDefer:Op->Bool
 | .defer _=>true
 | _=>false
def RoundR (P:Program) (l:Nat) (f:FuncId) (tmps:Array Value) (asg body:Code) (w:World) (R:Value->World->Prop):Prop:=
 ∀ (c:Frame) (cs:List Frame),∃ v w',R v w'/\Steps P (lone (Frame.round l f tmps asg body .normal) (c::cs) w) (lone (c.finish v) cs w')
def NextR (P:Program) (R:Value->World->Prop):Result Next->Prop
 | .ok (.value v) w'=>R v w'
 | .ok .skip w'=>R undef w'
 | .ok (.enter f args) w'=>Calls P f args w' λe w''=>∃ v,e=.returned v/\R v w''
 | .ok (.round l f tmps asg body) w'=>RoundR P l f tmps asg body w' R
 | _=>False
def OpRuns (P:Program) (o:Oper) (a:Act) (w:World) (R:Value->World->Prop):Prop:=
 isDefer o.op=false/\NextR P R ((execOp a.eval o).run P w)
def Rg (P:Program) (ops:Array Oper) (Q:Act->World->Prop):List Nat->Act->World->Prop
 | [],a,w=>Q a w
 | i::rest,a,w=>match ops[i]? with
  | none=>Rg P ops Q rest a w
  | some o=>if Region.wanted o (yielded ops a.tmps) then OpRuns P o a w (λv w'=>Rg P ops Q rest (a.put o.dst v) w') else Rg P ops Q rest (a.put o.dst undef) w
section
variable {P:Program}{b:Frame}{a:Act}{k:List Item}{cs:List Frame}{w:World}{ops:Array Oper}
theorem qzali (i:Nat) (rest:List Nat) (v:Value):
  (fat b a (.inRegion ops (i::rest)::k)).finish v=fat b (a.put ((ops[i]?).bind (·.dst)) v) (.inRegion ops rest::k):=by
 cases h:(ops[i]?).bind (·.dst)<;>simp [Frame.finish,fat,Act.put,h]
theorem st_region {id:Nat}:step P (lone (fat b a (.code (.region id ops false)::k)) cs w)=.next (lone (fat b a (.inRegion ops (List.range ops.size)::k)) cs w):=
 step_lone_go (by simp [stepG,stepG.exec,fat])
theorem qzajd {id:Nat}:
  step P (lone (fat b a (.code (.region id ops true)::k)) cs w) =
   .next (lone (fat b a (.inRegion ops (Region.schedule (P.follows .mixedOrders) ops (w.tape w.drawn (.order b.fn id)))::k)) cs { w with drawn:=w.drawn+1 }):=
 step_lone_go (by simp [stepG,stepG.exec,fat,choose,Sem.run,Question.forced,Question.cut])
theorem qzamu:step P (lone (fat b a (.inRegion ops []::k)) cs w)=.next (lone (fat b a k) cs w):=
 step_lone_go (by simp [stepG,stepG.exec,fat])
theorem qzakt {i:Nat}{rest:List Nat}(h:((ops[i]?).map (Region.wanted · (yielded ops a.tmps))).getD false=false):
  step P (lone (fat b a (.inRegion ops (i::rest)::k)) cs w) =
   .next (lone (fat b (a.put ((ops[i]?).bind (·.dst)) undef) (.inRegion ops rest::k)) cs w):=by
 rw[<-qzali];exact step_lone_go (by
  have h':=h;simp only[fat] at *;simp [stepG,stepG.exec,h'])
theorem stG_op {i:Nat}{rest:List Nat}{o:Oper}(ho:ops[i]?=some o) (hw:Region.wanted o (yielded ops a.tmps)=true) (hd:isDefer o.op=false):
  stepG P true { frame:=fat b a (.inRegion ops (i::rest)::k),callers:=cs,status:=.running,dying:=none } w =
   stepG.apply P true (fat b a (.inRegion ops (i::rest)::k)) cs none (execOp a.eval o) w:=by
 have he:=eval_fat' b a (.inRegion ops (i::rest)::k);simp only[fat] at he;simp [stepG,stepG.exec,stepG.oper,Frame.oper?,fat,ho,hw,he];split
 ·rename_i h;rw[h] at hd;simp [isDefer] at hd
 ·rfl
end
theorem rg_sound {P:Program}{ops:Array Oper}{Q:Act->World->Prop}(l:List Nat):
  ∀ (a:Act) (w:World),Rg P ops Q l a w->∀ (b:Frame) (k:List Item) (cs:List Frame),
   ∃ a' w',Q a' w'/\Steps P (lone (fat b a (.inRegion ops l::k)) cs w) (lone (fat b a' k) cs w'):=by
 induction l with
 | nil=>exact λa w h b k cs=>⟨a,w,h,.one qzamu⟩
 | cons i rest ih=>
  intro a w h b k cs;simp only[Rg] at h;cases ho:ops[i]? with
  | none=>
   simp only[ho] at h;obtain⟨a',w',hq,r⟩:=ih a w h b k cs;have hs:=qzakt (P:=P) (b:=b) (a:=a) (k:=k) (cs:=cs) (w:=w) (ops:=ops) (i:=i) (rest:=rest) (by simp [ho]);simp only[ho,Option.bind_none,Act.put] at hs;exact⟨a',w',hq,.head hs r⟩
  | some o=>
   simp only[ho] at h;by_cases hw:Region.wanted o (yielded ops a.tmps)=true
   ·simp only[hw,if_true] at h
    obtain⟨hd,h⟩:=h;have hg:=stG_op (P:=P) (b:=b) (k:=k) (cs:=cs) (w:=w) (rest:=rest) ho hw hd;have hfin:∀ v,(fat b a (.inRegion ops (i::rest)::k)).finish v=fat b (a.put o.dst v) (.inRegion ops rest::k):=by
     intro v;rw[qzali,ho];rfl
    unfold NextR at h;split at h
    ·rename_i v w' hr
     obtain⟨a',w'',hq,r⟩:=ih _ _ h b k cs;refine⟨a',w'',hq,.head (step_lone_go ?_) r⟩;rw[hg,<-hfin];simp [stepG.apply,hr]
    ·rename_i w' hr
     obtain⟨a',w'',hq,r⟩:=ih _ _ h b k cs;refine⟨a',w'',hq,.head (step_lone_go ?_) r⟩;rw[hg,<-hfin];simp [stepG.apply,hr]
    ·rename_i f args w' hr
     obtain⟨e,w'',fr,⟨v,rfl,hR⟩,hsteps,_,hleave⟩:=h (fat b a (.inRegion ops (i::rest)::k)::cs);have henter:step P (lone (fat b a (.inRegion ops (i::rest)::k)) cs w) =
       .next (lone (Frame.enter P f args .normal) (fat b a (.inRegion ops (i::rest)::k)::cs) w'):=
      step_lone_go (by rw[hg];simp [stepG.apply,hr,fat])
     obtain⟨a',w₃,hq,r⟩:=ih _ _ hR b k cs;refine⟨a',w₃,hq,.head henter (Steps.trans hsteps (.head ?_ r))⟩;rw[<-hfin];exact step_leave_returned hleave
    ·rename_i l f tmps asg body w' hr
     obtain⟨v,w'',hR,hsteps⟩:=h (fat b a (.inRegion ops (i::rest)::k)) cs;have henter:step P (lone (fat b a (.inRegion ops (i::rest)::k)) cs w) =
       .next (lone (Frame.round l f tmps asg body .normal) (fat b a (.inRegion ops (i::rest)::k)::cs) w'):=
      step_lone_go (by rw[hg];simp [stepG.apply,hr,fat])
     obtain⟨a',w₃,hq,r⟩:=ih _ _ hR b k cs;refine⟨a',w₃,hq,.head henter (Steps.trans hsteps ?_)⟩;rw[hfin];exact r
    ·exact h.elim
   ·simp only[hw,if_false,Bool.false_eq_true] at h
    obtain⟨a',w',hq,r⟩:=ih _ _ h b k cs;have hs:=qzakt (P:=P) (b:=b) (a:=a) (k:=k) (cs:=cs) (w:=w) (ops:=ops) (i:=i) (rest:=rest)
     (by simp [ho];simpa using hw)
    simp only[ho,Option.bind_some] at hs;exact⟨a',w',hq,.head hs r⟩
theorem wp_region {P:Program}{ro:Option Nat}{id:Nat}{ops:Array Oper}{Q:Post}{a:Act}{w:World}
  (h:Rg P ops (Q .normal) (List.range ops.size) a w):Wp P ro (.region id ops false) Q a w:=
 λb _ k cs=>let ⟨a',w',q,r⟩:=rg_sound _ a w h b k cs;⟨.normal,a',w',q,.head st_region r⟩
theorem qzaiw {P:Program}{ro:Option Nat}{id:Nat}{ops:Array Oper}{Q:Post}{a:Act}{w:World}
  (h:∀ t,Rg P ops (Q .normal) (Region.schedule (P.follows .mixedOrders) ops t) a { w with drawn:=w.drawn+1 }):Wp P ro (.region id ops true) Q a w:=
 λb _ k cs=>let ⟨a',w',q,r⟩:=rg_sound _ a _ (h _) b k cs;⟨.normal,a',w',q,.head qzajd r⟩
def Ex.jump:Ex->Option Code
 | .normal=>none
 | .exit id=>some (.exit id)
 | .goto l=>some (.goto l)
 | .ret=>some .ret
def roundFrame (l:Nat) (f:FuncId):Frame:={ (default:Frame) with fn:=f,kind:=.normal,roundOf:=some l }
theorem qzarb {P:Program}{l:Nat}{j:Option Code}{w:World}{r:Loop}(h:w.heap[l]?=some (.loop r)):
  (Instr.endRound l j).run P w=.ok (.bool j.isNone) (setO w l (.loop { r with state:=if j.isNone then .ready else .done,pending:=j })):=by
 simp [Instr.endRound,Instr.getLoop,getObj,setObj,bind,Sem.bind,Sem.run,h,setO,pure]
theorem qzamv {P : Program} {b : Frame} {a : Act} {k : List Item} {cs : List Frame} {w : World} {l : Nat} {r : Loop} (hb : b.roundOf = some l)
    (h : w.heap[l]? = some (.loop r)) (hr : r.state = .ready) :
    step P (lone (fat b a (.beginRound :: k)) cs w) = .next (lone (fat b a k) cs (setO w l (.loop { r with state := .busy }))) := by
  apply step_lone_go
  have hrun : (do Instr.beginRound l; pure Next.skip : Sem Next).run P w = .ok .skip (setO w l (.loop { r with state := .busy })) := by
    simp [Instr.beginRound, Instr.getLoop, getObj, setObj, bind, Sem.bind, Sem.run, h, setO, pure, hr]
  simp [stepG, stepG.exec, fat, hb, stepG.apply, hrun, Frame.finish]
theorem qzaev {P:Program}{a:Act}{kk:List Item}{c:Frame}{cs:List Frame}{w:World}{l:Nat}{f:FuncId}{r:Loop}{e:Ex}
  (h:w.heap[l]?=some (.loop r)) (he:match e with
   | .normal=>kk=[]
   | .exit id=>∃ k2,kk=.code (.exit id)::k2/\exitTo id k2=none
   | .goto g=>∃ k2,kk=.code (.goto g)::k2/\gotoIn g k2=none
   | .ret=>∃ k2,kk=.code .ret::k2):
  step P (lone (fat (roundFrame l f) a kk) (c::cs) w) =
   .next (lone (c.finish (.bool e.jump.isNone)) cs (setO w l (.loop { r with state:=if e.jump.isNone then .ready else .done,pending:=e.jump }))):=by
 apply step_lone_go;have hrun:=qzarb (P:=P) (j:=e.jump) h;cases e with
 | normal=>subst he;simp only[Ex.jump] at *;simp [stepG,stepG.exec,fat,roundFrame,hrun,doReturn]
 | exit id=>obtain⟨k2,rfl,h2⟩:=he;simp only[Ex.jump] at *;simp [stepG,stepG.exec,fat,roundFrame,hrun,doReturn,h2]
 | goto g=>obtain⟨k2,rfl,h2⟩:=he;simp only[Ex.jump] at *;simp [stepG,stepG.exec,fat,roundFrame,hrun,doReturn,h2]
 | ret=>obtain⟨k2,rfl⟩:=he;simp only[Ex.jump] at *;simp [stepG,stepG.exec,fat,roundFrame,hrun,doReturn]
theorem round_of {P:Program}{l:Nat}{f:FuncId}{tmps:Array Value}{asg body:Code}{w:World}{R:Value->World->Prop}
  (h:Wp P (some l) asg (λe a1 w1=>e=.normal/\∃ r1,w1.heap[l]?=some (.loop r1)/\r1.state=.ready /\
   Wp P (some l) body (λe _ w2=>∃ r2,w2.heap[l]?=some (.loop r2) /\
    R (.bool e.jump.isNone) (setO w2 l (.loop { r2 with state:=if e.jump.isNone then .ready else .done,pending:=e.jump })))
    a1 (setO w1 l (.loop { r1 with state:=.busy }))) { tmps,defers:=[] } w):
  RoundR P l f tmps asg body w R:=by
 intro c cs;have h0:Frame.round l f tmps asg body .normal=fat (roundFrame l f) { tmps,defers:=[] } [.code asg,.beginRound,.code body]:=rfl;obtain⟨e,a1,w1,⟨rfl,r1,hr1,hs1,hb⟩,s1⟩:=h (roundFrame l f) rfl [.beginRound,.code body] (c::cs);obtain⟨e2,_,w2,⟨r2,hr2,hR⟩,s2⟩:=hb (roundFrame l f) rfl [] (c::cs);refine⟨_,_,hR,?_⟩;rw[h0];refine Steps.trans s1 (.head (qzamv rfl hr1 hs1) ?_);cases e2 with
 | normal=>exact Steps.trans s2 (.one (qzaev (e:=.normal) hr2 rfl))
 | exit id=>obtain⟨kk,e1,s⟩:=s2;exact Steps.trans s (.one (qzaev (e:=.exit id) hr2 ⟨kk,rfl,e1⟩))
 | goto g=>obtain⟨kk,e1,s⟩:=s2;exact Steps.trans s (.one (qzaev (e:=.goto g) hr2 ⟨kk,rfl,e1⟩))
 | ret=>obtain⟨kk,s⟩:=s2;exact Steps.trans s (.one (qzaev (e:=.ret) hr2 ⟨kk,rfl⟩))
def mark (r:Nat):Deferred:={ target:=.collected r,args:=#[] }
def Taken:List Nat->World->World->Prop
 | [],w,w'=>w'=w
 | r::ms,w,w'=>w.heap[r]?=some (.deferred (some []))/\Taken ms (setO w r (.deferred none)) w'
def RetOk (P:Program) (fn:Func) (R:Ending->World->Prop) (e:Ex) (a:Act) (w:World):Prop:=
 (e=.normal∨e=.ret)/\∃ ms w' v,a.defers=ms.map mark/\Taken ms w w'/\(results fn a.tmps).run P w'=.ok v w'/\R (.returned v) w'
theorem qzaup {P:Program}{b:Frame}{tmps:Array Value}{k:List Item}{cs:List Frame}(ms:List Nat):∀ (w w':World),Taken ms w w' ->
  Steps P (lone { fat b { tmps,defers:=ms.map mark } k with mode:=.returning } cs w) (lone { fat b { tmps,defers:=[] } k with mode:=.returning } cs w'):=by
 induction ms with
 | nil=>intro w w' h;obtain rfl:=h;exact Steps.refl _ _
 | cons r ms ih=>
  intro w w' h;obtain⟨h1,h2⟩:=h;refine .head (step_lone_go ?_) (ih _ _ h2);have hrun:(Instr.takeDeferred r).run P w=.ok [] (setO w r (.deferred none)):=by
   simp [Instr.takeDeferred,getObj,setObj,bind,Sem.bind,Sem.run,h1,setO,pure]
  simp [stepG,unwind,fat,mark,hrun]
theorem qzawl {P:Program}{f:FuncId}{fn:Func}{c:Code}{args:Array Value}{w:World}{R:Ending->World->Prop}
  (hf:P.funcs[f]?=some fn) (hb:fn.body=some c)
  (h:Wp P none c (RetOk P fn R) { tmps:=args++Array.replicate (fn.ntmps-args.size) undef,defers:=[] } w):
  Calls P f args w R:=by
 intro cs
 let b:Frame:={ fn:=f,tmps:=#[],todo:=[],defers:=[],mode:=.run,kind:=.normal,roundOf:=none }
 have henter:Frame.enter P f args .normal =
   fat b { tmps:=args++Array.replicate (fn.ntmps-args.size) undef,defers:=[] } [.code c]:=by
  simp [Frame.enter,fat,hf,hb,b]
 obtain⟨e,a',w',⟨he,ms,w2,v,hd,ht,hr,hR⟩,harr⟩:=h b rfl [] cs;rw[henter];obtain⟨tm,df⟩:=a';obtain rfl:df=ms.map mark:=hd;have key:∃ k,Steps P (lone (fat b { tmps:=args++Array.replicate (fn.ntmps-args.size) undef,defers:=[] } [.code c]) cs w)
   (lone { fat b { tmps:=tm,defers:=ms.map mark } k with mode:=.returning } cs w'):=by
  rcases he with rfl|rfl
  ·refine⟨[],Steps.trans harr (.one (step_lone_go ?_))⟩
   simp [stepG,stepG.exec,fat,b]
  ·obtain⟨kk,s⟩:=harr
   refine⟨.code .ret::kk,Steps.trans s (.one (step_lone_go ?_))⟩;simp [stepG,stepG.exec,fat,b]
 obtain⟨k,hk⟩:=key;exact⟨.returned v,w2,_,hR,Steps.trans hk (qzaup ms _ _ ht),rfl,rfl,rfl,rfl,fn,hf,hr⟩
def EndLoop (Q:Post) (a:Act) (l:Nat) (w2:World):Prop:=
 ∃ r,w2.heap[l]?=some (.loop r)/\r.state≠.busy/\∃ ex:Ex,ex.jump=r.pending/\Q ex a (setO w2 l (.loop { r with state:=.exhausted }))
theorem qzauz {P:Program}{l:Nat}{w:World}{r:Loop}(h:w.heap[l]?=some (.loop r)) (hs:r.state≠.busy):
  (Instr.endLoop l).run P w=.ok r.pending (setO w l (.loop { r with state:=.exhausted })):=by
 simp [Instr.endLoop,Instr.getLoop,getObj,setObj,bind,Sem.bind,Sem.run,h,setO,pure,hs]
theorem qzafx {P:Program}{b:Frame}{a:Act}{k:List Item}{cs:List Frame}{w:World}{l:Nat}{r:Loop}
  (h:w.heap[l]?=some (.loop r)) (hs:r.state≠.busy):
  step P (lone (fat b a (.endRangeFunc l::k)) cs w) =
   .next (lone (fat b a ((r.pending.map Item.code).toList++k)) cs (setO w l (.loop { r with state:=.exhausted }))):=by
 apply step_lone_go;have hrun:=qzauz (P:=P) h hs;simp [stepG,stepG.exec,fat,hrun]
def loopOf (a:Act) (fid:FuncId) (ps:Array Tmp) (asg body:Code) (D:Nat):Loop:=
 { state:=.ready,pending:=none,fn:=fid,tmps:=a.tmps,params:=ps,assign:=asg,body:=body,defers:=D }
theorem qzals {P:Program}{b:Frame}{a:Act}{k:List Item}{cs:List Frame}{w2:World}{l:Nat}{Q:Post}(h:EndLoop Q a l w2):
  ∃ e a' w',Q e a' w'/\Arr P b (lone (fat b a (.endRangeFunc l::k)) cs w2) k cs e a' w':=by
 obtain⟨r,hr,hs,ex,he,q⟩:=h;have s:=Steps.one (qzafx (P:=P) (b:=b) (a:=a) (k:=k) (cs:=cs) hr hs);rw[show (r.pending.map Item.code).toList=(ex.jump.map Item.code).toList by rw[he]] at s;refine⟨ex,a,_,q,?_⟩;cases ex with
 | normal=>exact s
 | exit id=>exact⟨k,rfl,s⟩
 | goto g=>exact⟨k,rfl,s⟩
 | ret=>exact⟨k,s⟩
theorem qzagb {P : Program} {ρ : Operand → Value} {x : Operand} {g : FuncId} {first captured : Array Value} {ops : Array Operand} {tys : Array TypeId} {ty : TypeId}
    (hx : ρ x = .func (.func g) first captured) (hg : ∀ args w, (callFunc g args).run P w = .ok (.enter g args) w) (W : World) :
    (do let d ← resolve ρ { callee := .value x, args := ops, argTypes := tys } ty; invoke d.target d.args : Sem Next).run P W =
      .ok (.enter g (first ++ ops.map ρ ++ captured)) W := by
  have h2 := hg (first ++ ops.map ρ ++ captured) W
  have e : (resolve ρ { callee := .value x, args := ops, argTypes := tys } ty) = Sem.pure { target := .fn (.func g) captured, args := first ++ ops.map ρ } := by
    simp only [resolve, hx, Deferred.ofValue]
    rfl
  rw [e]
  exact h2
theorem qzail {P:Program}{fr:Frame}{cs:List Frame}{s:Sem Next}{w w':World}{f:FuncId}{args:Array Value}{l:Nat}{k:List Item}
  (h:s.run P w=.ok (.enter f args) w') (ht:fr.todo=.inRangeFunc l::k):
  (stepG.apply P true fr cs none s w).bare=.go { frame:=Frame.enter P f args .normal,callers:=fr::cs,status:=.running,dying:=none } w':=by
 simp [stepG.apply,h,ht]
theorem qzaqt {P : Program} {b : Frame} {ro : Option Nat} {a : Act} {x : Operand} {ps : Array Tmp} {asg body : Code} {k : List Item} {cs : List Frame} {w w1 : World} {l : Nat} {ms : List Deferred}
    (hb : b.roundOf = ro) (hrun : (Instr.enterLoop b.fn a.tmps ps asg body ro).run P w = .ok (l, ms) w1) :
    (stepG P true { frame := fat b a (.code (.rangeFunc x ps asg body) :: k), callers := cs, status := .running, dying := none } w).bare =
      (stepG.apply P true (fat b { tmps := a.tmps, defers := ms ++ a.defers } (.inRangeFunc l :: k)) cs none
        (do let d ← resolve (fat b { tmps := a.tmps, defers := ms ++ a.defers } (.inRangeFunc l :: k)).eval { callee := .value x, args := #[.const (.func (.yield l) #[] #[])], argTypes := #[] } 0
            invoke d.target d.args) w1).bare := by
  subst hb
  simp only [stepG, stepG.exec, fat, Sem.runT_eq, hrun, GStep.bare_after]
theorem qzava {P : Program} {ρ : Operand → Value} {x : Operand} {g : FuncId} {first captured : Array Value} {ops : Array Operand} {tys : Array TypeId} {ty : TypeId}
    (hx : ρ x = .func (.func g) first captured) (W : World) :
    (do let d ← resolve ρ { callee := .value x, args := ops, argTypes := tys } ty; invoke d.target d.args : Sem Next).run P W =
      (callFunc g (first ++ ops.map ρ ++ captured)).run P W := by
  have e : (resolve ρ { callee := .value x, args := ops, argTypes := tys } ty) = Sem.pure { target := .fn (.func g) captured, args := first ++ ops.map ρ } := by
    simp only [resolve, hx, Deferred.ofValue]
    rfl
  rw [e]
  rfl
theorem qzapu {P:Program}{x:Operand}{ps:Array Tmp}{asg body:Code}{Q:Post}{a:Act}{w:World}{g:FuncId}{first captured:Array Value}
  (hx:a.eval x=.func (.func g) first captured) (hg:∀ args w,(callFunc g args).run P w=.ok (.enter g args) w)
  (h:∀ fid:FuncId,Calls P g (first++#[.func (.yield (w.heap.size+1)) #[] #[]]++captured)
   { w with heap:=(w.heap.push (.deferred (some []))).push (.loop (loopOf a fid ps asg body w.heap.size)) }
   (λe w2=>(∃ v,e=.returned v)/\EndLoop Q { tmps:=a.tmps,defers:=mark w.heap.size::a.defers } (w.heap.size+1) w2)):
  Wp P none (.rangeFunc x ps asg body) Q a w:=by
 intro b hb k cs;obtain⟨e,w2,fr,⟨⟨v,rfl⟩,hE⟩,hsteps,_,hleave⟩:=
  h b.fn (fat b { tmps:=a.tmps,defers:=mark w.heap.size::a.defers } (.inRangeFunc (w.heap.size+1)::k)::cs)
 have hfin:(fat b { tmps:=a.tmps,defers:=mark w.heap.size::a.defers } (.inRangeFunc (w.heap.size+1)::k)).finish v =
  fat b { tmps:=a.tmps,defers:=mark w.heap.size::a.defers } (.endRangeFunc (w.heap.size+1)::k):=rfl
 obtain⟨ex,a',w',q,r⟩:=qzals (P:=P) (b:=b) (k:=k) (cs:=cs) hE;refine⟨ex,a',w',q,Arr.of_steps ?_ r⟩;refine Steps.trans (Steps.one ?_) (Steps.trans hsteps (Steps.one ?_))
 ·apply step_lone_go
  have hrun:(Instr.enterLoop b.fn a.tmps ps asg body none).run P w=.ok (w.heap.size+1,[mark w.heap.size])
    { w with heap:=(w.heap.push (.deferred (some []))).push (.loop (loopOf a b.fn ps asg body w.heap.size)) }:=by
   simp [Instr.enterLoop,newObj,bind,Sem.bind,Sem.run,pure,mark,loopOf]
  have hxx:(fat b { tmps:=a.tmps,defers:=mark w.heap.size::a.defers } (.inRangeFunc (w.heap.size+1)::k)).eval x=.func (.func g) first captured:=by
   rw[qzafh];cases x<;>exact hx
  have hrun2:=qzagb (P:=P) (ops:=#[.const (.func (.yield (w.heap.size+1)) #[] #[])]) (tys:=#[]) (ty:=0) hxx hg;simp only[List.map_toArray,List.map_cons,List.map_nil,Frame.eval] at hrun2;rw[List.singleton_append,qzaqt hb hrun];exact qzail (hrun2 _) rfl
 ·rw[step_leave_returned hleave,hfin]
theorem qzafo {P:Program}{l₀:Nat}{r₀:Loop}{x:Operand}{ps:Array Tmp}{asg body:Code}{Q:Post}{a:Act}{w:World}{g:FuncId}{first captured:Array Value}
  (h0:w.heap[l₀]?=some (.loop r₀))
  (hx:a.eval x=.func (.func g) first captured) (hg:∀ args w,(callFunc g args).run P w=.ok (.enter g args) w)
  (h:∀ fid:FuncId,Calls P g (first++#[.func (.yield w.heap.size) #[] #[]]++captured)
   { w with heap:=w.heap.push (.loop (loopOf a fid ps asg body r₀.defers)) }
   (λe w2=>(∃ v,e=.returned v)/\EndLoop Q a w.heap.size w2)):
  Wp P (some l₀) (.rangeFunc x ps asg body) Q a w:=by
 intro b hb k cs;obtain⟨e,w2,fr,⟨⟨v,rfl⟩,hE⟩,hsteps,_,hleave⟩:=h b.fn (fat b a (.inRangeFunc w.heap.size::k)::cs);have hfin:(fat b a (.inRangeFunc w.heap.size::k)).finish v=fat b a (.endRangeFunc w.heap.size::k):=rfl;obtain⟨ex,a',w',q,r⟩:=qzals (P:=P) (b:=b) (k:=k) (cs:=cs) hE;refine⟨ex,a',w',q,Arr.of_steps ?_ r⟩;refine Steps.trans (Steps.one ?_) (Steps.trans hsteps (Steps.one ?_))
 ·apply step_lone_go
  have hrun:(Instr.enterLoop b.fn a.tmps ps asg body (some l₀)).run P w=.ok (w.heap.size,[])
    { w with heap:=w.heap.push (.loop (loopOf a b.fn ps asg body r₀.defers)) }:=by
   simp [Instr.enterLoop,Instr.getLoop,getObj,newObj,bind,Sem.bind,Sem.run,pure,loopOf,h0]
  have hxx:(fat b a (.inRangeFunc w.heap.size::k)).eval x=.func (.func g) first captured:=by
   rw[qzafh];exact hx
  have hrun2:=qzagb (P:=P) (ops:=#[.const (.func (.yield w.heap.size) #[] #[])]) (tys:=#[]) (ty:=0) hxx hg;simp only[List.map_toArray,List.map_cons,List.map_nil,Frame.eval] at hrun2;rw[List.singleton_append,qzaqt hb hrun];exact qzail (hrun2 _) rfl
 ·rw[step_leave_returned hleave,hfin]
end Cz
