/-
 Part 3 of the proof of Rows.DumpLinesCardSaid. Under the conditions that its statements name (EnvOK and the like).
-/
import Derived.Test.YtihkphfmnnndfaaGreatDoorT02
import Derived.Laws.StructEq
import Derived.WideKeyMaps
namespace Go.PanE
structure EnvOK(P:Program)(env:Env):Prop where
 und:∀ t d,env.und t=some d→P.underlying t=some d
 size:∀ t n,env.size t=some n→∃ i,P.info? t=some i∧i.size=n
 bytes:∀ t n,env.bytes t=some n→∃ i,P.info? t=some i∧i.bytes=n
 zero:∀ t z,env.zero t=some z→(∃ i,P.info? t=some i∧i.zero=some z)∧∀ μ,VRel μ z z
 fn:∀ f fn,env.fn f=some fn→P.funcs[f]? =some fn∧(fn.name== "runtime.NumGoroutine")=false∧fn.body.isSome=true
 plain:∀ t,env.plain t=true→P.stoodInHeld t=false∧P.eqGuardType P.depth t=false
 key:∀ t v,env.key t v=true→WideMaps.KeyLaw P t∧∃ l,keyOf P t v=some l
 ext:∀ f x,env.ext f=some x→∀ args h v h',x.run args h=some (v,h')→∀ (μ:Loc) (w:World) (args':Vs),Rep μ h w→zh μ args args'→
  ∃ u ν v',(callFunc f ⟨args'⟩).run P w= .ok (.value v') u∧Go1 μ h w ν h' u∧VRel ν v v'
section
variable {P:Program} {env:Env} {μ:Loc} {h:Heap} {w:World} {tm:T Value} {tmps:Array Value}
theorem EnvOK.runUnd(E:EnvOK P env){t:TypeId}{d:TypeDesc}(e:env.und t=some d)(w:World):(underlying t).run P w= .ok d w:=by
 simp[underlying,E.und t d e]
theorem EnvOK.runInfo(_E:EnvOK P env){t:TypeId}{i:TypeInfo}(e:P.info? t=some i)(w:World):(typeInfo t).run P w= .ok i w:=by
 simp[typeInfo,e]
theorem EnvOK.runSize(E:EnvOK P env){t:TypeId}{n:Nat}(e:env.size t=some n)(w:World):(sizeOf t).run P w= .ok n w:=by
 obtain⟨i,hi,rfl⟩:=E.size t n e
 simp[sizeOf,typeInfo,hi]
theorem EnvOK.runZero(E:EnvOK P env){t:TypeId}{z:Value}(e:env.zero t=some z)(w:World):(zeroValue t).run P w= .ok z w:=by
 obtain⟨⟨i,hi,hz⟩,_⟩:=E.zero t z e
 simp[zeroValue,typeInfo,hi,hz]
theorem EnvOK.runIsAgg(E:EnvOK P env){t:TypeId}{d:TypeDesc}(e:env.und t=some d)(w:World):(isAgg t).run P w= .ok (yz d) w:=by
 simp only[isAgg,Sem.run_bind,E.runUnd e,Result.andThen_ok]
 cases d <;>rfl
def wi(μ:Loc)(tm:T Value)(tmps:Array Value):Prop:=zhp μ∧∀ t,VRel μ (rdT tm t) (tmps.getD t undef)
theorem wi.mono{ν:Loc}(l:μ.le ν)(r:wi μ tm tmps):wi ν tm tmps:=⟨r.1.mono l,fun t=>(r.2 t).mono l⟩
theorem plainV_rel{v:Value}(e:zb3 v=true):VRel μ v v:=by
 unfold zb3 at e
 split at e
 ·exact .int _ _
 ·exact .bool _
 ·exact .str _
 ·exact .nili
 ·exact .nilf
 ·exact .nilp
 ·exact .nilm
 ·exact .nils
 ·simp at e
theorem zQ(R:wi μ tm tmps){ds:List Deferred}{x:Operand}{v:Value}(e:rd tm x=some v):VRel μ v (Act.eval ⟨tmps,ds⟩ x):=by
 cases x with
 |tmp t=>simp only[rd,sJ] at e;subst e;exact R.2 t
 |const v=>
  simp only[rd] at e
  split at e
  ·rename_i hp
   simp only[sJ] at e;subst e
   exact plainV_rel hp
  ·simp at e
 |global g=>
  simp only[rd] at e
  split at e
  ·rename_i hg
   simp only[sJ] at e;subst e
   obtain⟨p,h1,h2,h3⟩:=R.1 g (by simpa using hg)
   have:=VRel.ptr (μ:=μ) g 0 p h1
   rw[h2,h3] at this
   exact this
  ·simp at e
 |func f=>
  simp only[rd,sJ] at e;subst e
  exact .func _ _ _ _ _ rfl (fun i x x' h=>by simp at h) rfl (fun i x x' h=>by simp at h)
theorem vG(R:wi μ tm tmps){ds:List Deferred}:∀ {l:List Operand} {vs:Vs},rds tm l=some vs→zh μ vs (l.map (Act.eval ⟨tmps,ds⟩)):=by
 intro l
 induction l with
 |nil=>intro vs e;simp only[rds,sJ] at e;subst e;exact .nil
 |cons x l ih=>
  intro vs e
  simp only[rds] at e
  split at e
  ·rename_i v hv
   split at e
   ·rename_i us hu
    simp only[sJ] at e;subst e
    exact .cons (zQ R hv) (ih hu)
   ·simp at e
  ·simp at e
theorem zng{p:Place}{e:TypeId}{cells:Vs}{opn:Nat}{ro:Bool}(r:jK μ w p (.row e cells opn ro)){k:Nat}{v:Value}(hv:cells[k]? =some v):
  ∃ v',w.cell? ⟨p.pb,p.po+k,none⟩=some v'∧VRel μ v v':=by
 obtain⟨arr,fr,h1,h2,h3,h4,h5,h6,h7⟩:=r
 obtain⟨v',hv',rv⟩:=h6.get hv
 refine⟨v',?_,rv⟩
 rw[cell_of_row w p.pb (p.po+k) arr e fr h1]
 rw[List.getElem?_take] at hv'
 split at hv'
 ·rw[List.getElem?_drop] at hv'
  simpa using hv'
 ·simp at hv'
theorem jj(b o n:Nat):(⟨b,o,none⟩:Addr).add n=⟨b,o+n,none⟩:=by
 unfold Addr.add;split
 ·rename_i h;subst h;rfl
 ·rfl
theorem zbM{p:Place}{e:TypeId}{cells:Vs}{opn:Nat}{ro:Bool}(r:jK μ w p (.row e cells opn ro)){o n:Nat}(hl:((cells.drop o).take n).length=n):
  ∃ l:Vs,(∀ w1:World,w1.heap=w.heap→(loadCells ⟨p.pb,p.po+o,none⟩ n).run P w1= .ok ⟨l⟩ w1)∧zh μ ((cells.drop o).take n) l:=by
 have r':=r
 obtain⟨arr,fr,h1,h2,h3,h4,h5,h6,h7⟩:=r'
 have hlen:o+n≤cells.length∨n=0:=by simp at hl;omega
 refine⟨(arr.toList.drop (p.po+o)).take n,?_,?_⟩
 ·intro w1 hw1
  rw[run_loadCells (P:=P) w1 ⟨p.pb,p.po+o,none⟩ n (fun j=>arr.getD (p.po+o+j) undef) ?_]
  ·congr 1
   apply Array.ext'
   apply List.ext_getElem?
   intro j
   rw[List.getElem?_take,List.getElem?_drop]
   by_cases hj:j < n
   ·rw[if_pos hj]
    simp[hj]
    rw[Array.getElem?_eq_getElem (by omega)]
    simp
   ·rw[if_neg hj]
    simp[hj]
  ·intro j hj
   rw[jj,cell_of_row w1 p.pb _ arr e fr (by rw[hw1];exact h1)]
   rw[Array.getElem?_eq_getElem (by omega)]
   simp[Array.getD]
   omega
 ·have:=(h6.drop o).take n
  rw[List.drop_take,List.drop_drop] at this
  rw[List.take_take] at this
  rw[show min n (p.size - o)=n by omega] at this
  exact this
theorem zfb{p:Place}{e:TypeId}{cells:Vs}{opn:Nat}{ro:Bool}(r:jK μ w p (.row e cells opn ro)){o n:Nat}(hl:((cells.drop o).take n).length=n):
  ∃ l:Vs,(loadCells ⟨p.pb,p.po+o,none⟩ n).run P w= .ok ⟨l⟩ w∧zh μ ((cells.drop o).take n) l:=by
 obtain⟨l,h1,h2⟩:=zbM (P:=P) r hl
 exact⟨l,h1 w rfl,h2⟩
theorem zgT(E:EnvOK P env)(R:Rep μ h w){t:TypeId}{a:Addr}{v va:Value}(hva:VRel μ (.pointer (some a)) va)(e:ui env h t a=some v):
  ∃ v',(Instr.loadAt t va).run P w= .ok v' w∧VRel μ v v':=by
 unfold ui at e
 split at e
 ·rename_i el cells opn ro d n hg hd hn hs
  obtain⟨p,hp,ho⟩:=R.live _ _ hg
  cases hva with
  |ptr b o p' hp'=>
   simp only at hp hs hg
   rw[hp] at hp';simp only[sJ] at hp';subst hp'
   split at e
   ·rename_i hag
    simp only at e
    split at e
    ·rename_i hl
     simp only[sJ] at e;subst e
     obtain⟨l,hrun,hrel⟩:=zfb (P:=P) ho (nB_ hl)
     refine⟨.agg ⟨l⟩,?_,zh.agg.2 hrel⟩
     simp only[Instr.loadAt,Instr.sureAddr,Sem.run_bind,Sem.run_pure,Result.andThen_ok,loadVar,E.runIsAgg hd,hag,if_true,E.runSize hn,hrun]
    ·simp at e
   ·rename_i hag
    have:cells[o]? =some v:=by
     rw[← e];simp only;rw[List.head?_drop]
    obtain⟨v',hv',rv⟩:=zng ho this
    refine⟨v',?_,rv⟩
    have hag':yz d=false:=by simpa using hag
    simp only[Instr.loadAt,Instr.sureAddr,Sem.run_bind,Sem.run_pure,Result.andThen_ok,loadVar,E.runIsAgg hd,hag',Bool.false_eq_true,if_false,run_load,hv']
 ·simp at e
theorem zcC(E:EnvOK P env){t:TypeId}{cs cs':Array Value}{off:Nat}{v:Value}(hr:zh μ cs.toList cs'.toList)(e:zcD env t cs off=some v):
  ∃ v',(part t cs' off).run P w= .ok v' w∧VRel μ v v':=by
 unfold zcD at e
 split at e
 ·rename_i d n hd hn
  split at e
  ·rename_i hag
   simp only at e
   split at e
   ·rename_i hl
    have hl:=nB_ hl
    simp only[sJ] at e;subst e
    refine⟨.agg (cs'.extract off (off+n)),?_,zh.agg.2 ?_⟩
    ·simp only[part,Sem.run_bind,E.runIsAgg hd,Result.andThen_ok,hag,if_true,E.runSize hn,Sem.run_pure]
    ·have:=(hr.drop off).take n
     simp only[Array.toList_extract,List.extract_eq_take_drop]
     rw[show off+n - off=n by omega]
     exact this
   ·simp at e
  ·rename_i hag
   have hag':yz d=false:=by simpa using hag
   rw[List.head?_drop] at e
   obtain⟨v',hv',rv⟩:=hr.get e
   refine⟨v',?_,rv⟩
   simp only[part,Sem.run_bind,E.runIsAgg hd,Result.andThen_ok,hag',Bool.false_eq_true,if_false]
   rw[show cs'[off]? =some v' by simpa using hv']
   rfl
 ·simp at e
theorem zxQ(a b:BA):(a==b)=(a.data.toList==b.data.toList):=by
 rw[beq_toListBytes,ByteArray.toList_eq,ByteArray.toList_eq]
theorem zup(E:EnvOK P env):∀ (d:Nat) (t:TypeId) (x y x' y':Value) (r:Bool),VRel μ x x'→VRel μ y y'→eqA env d t x y=some r→
  ∀ D,d≤D→(Op.equalIn D t x' y').run P w= .ok r w:=by
 intro d
 induction d with
 |zero=>intro t x y x' y' r hx hy e;simp[eqA] at e
 |succ d ih=>
  intro t x y x' y' r hx hy e D hD
  obtain⟨D,rfl⟩:∃ k,D=k+1:=⟨D - 1,by omega⟩
  unfold eqA at e
  split at e
  ·rename_i hu
   split at e
   ·simp only[sJ] at e;subst e
    cases hx;cases hy
    simp[Op.equalIn,E.runUnd hu]
   ·simp at e
  ·rename_i hu
   split at e
   ·split at e
    ·simp only[sJ] at e;subst e
     cases hx;cases hy
     rename_i hk
     simp[Op.equalIn,E.runUnd hu,hk]
    ·simp at e
   ·simp at e
  ·rename_i hu
   split at e
   ·simp only[sJ] at e;subst e
    cases hx;cases hy
    simp[Op.equalIn,E.runUnd hu,zxQ]
   ·simp at e
  ·rename_i hu
   split at e
   ·simp only[sJ] at e;subst e
    cases hx;cases hy
    simp[Op.equalIn,E.runUnd hu]
   ·simp only[sJ] at e;subst e
    cases hx;cases hy
    simp[Op.equalIn,E.runUnd hu]
   ·simp only[sJ] at e;subst e
    cases hx;cases hy
    simp[Op.equalIn,E.runUnd hu]
   ·simp at e
  ·rename_i hu
   split at e
   ·simp only[sJ] at e;subst e
    cases hx;cases hy
    simp[Op.equalIn,E.runUnd hu]
   ·simp only[sJ] at e;subst e
    cases hx;cases hy
    simp[Op.equalIn,E.runUnd hu]
   ·simp only[sJ] at e;subst e
    cases hx;cases hy
    simp[Op.equalIn,E.runUnd hu]
   ·simp at e
  ·rename_i hu
   split at e
   ·simp only[sJ] at e;subst e
    cases hx;cases hy
    simp[Op.equalIn,E.runUnd hu]
   ·simp only[sJ] at e;subst e
    cases hx;cases hy
    simp[Op.equalIn,E.runUnd hu]
   ·simp only[sJ] at e;subst e
    cases hx;cases hy
    simp[Op.equalIn,E.runUnd hu]
   ·simp at e
  ·rename_i fs hu
   split at e
   ·rename_i xs ys
    split at e
    ·rename_i hp
     have hf:P.fieldsOf t=fs:=by simp[Program.fieldsOf,E.und _ _ hu]
     have hl:=E.plain t hp
     have hxl:∃ xs',x'= .agg xs'∧zh μ xs.toList xs'.toList:=by
      cases hx with
      |agg _ xs' h1 h2=>exact⟨xs',rfl,zh.agg.1 (.agg _ _ h1 h2)⟩
     have hyl:∃ ys',y'= .agg ys'∧zh μ ys.toList ys'.toList:=by
      cases hy with
      |agg _ ys' h1 h2=>exact⟨ys',rfl,zh.agg.1 (.agg _ _ h1 h2)⟩
     obtain⟨xs',rfl,rx⟩:=hxl
     obtain⟨ys',rfl,ry⟩:=hyl
     rw[run_equalIn_struct w D t xs' ys' (by rw[hf];exact E.und _ _ hu) hl.1,hf]
     have key:∀ (l:List Field),yD (eqA env d) (zcD env) xs ys l=some r→(Op.eqFields D xs' ys' l).run P w= .ok r w:=by
      intro l
      induction l with
      |nil=>intro e;simp only[yD,sJ] at e;subst e;simp[Op.eqFields]
      |cons f l ihl=>
       intro e
       simp only[yD] at e
       split at e
       ·rename_i hn
        split at e
        ·rename_i a b ha hb
         obtain⟨a',ra,va⟩:=zcC (w:=w) E rx ha
         obtain⟨b',rb,vb⟩:=zcC (w:=w) E ry hb
         simp only[Op.eqFields,hn,if_true,ne_eq,not_false_eq_true,Sem.run_bind,ra,rb,Result.andThen_ok]
         split at e
         ·rename_i he
          rw[ih f.type a b a' b' true va vb he D (by omega)]
          simp only[Result.andThen_ok,Bool.not_true,Bool.false_eq_true,if_false]
          exact ihl e
         ·rename_i he
          simp only[sJ] at e;subst e
          rw[ih f.type a b a' b' false va vb he D (by omega)]
          simp
         ·simp at e
        ·simp at e
       ·simp at e
     exact key _ e
    ·simp at e
   ·simp at e
  ·simp at e
end
section
variable {P:Program} {env:Env} {μ:Loc} {h:Heap} {w:World} {tm:T Value} {tmps:Array Value}
theorem intBin_ok{op:BinOp}{k:IntKind}{x y:Int}{v:Value}(hs:op≠.shl∧op≠.shr)(e:wF op k x y=some v)(t:TypeId):
  (binOp op t (.int k x) (.int k y)).run P w= .ok v w∧VRel μ v v:=by
 cases op <;>simp only[wF] at e <;>first
  |(simp at hs;done)
  |(split at e
    ·simp at e
    ·rename_i hy
     simp only[sJ] at e;subst e
     exact⟨by simp[binOp,Op.intDiv,hy],.int _ _⟩)
  |(simp only[sJ] at e;subst e
    first
     |(refine⟨?_,.int _ _⟩;simp only[binOp,ne_eq,not_true_eq_false,if_false,Op.intArith,Sem.run_pure];done)
     |(refine⟨?_,.int _ _⟩;simp only[binOp,ne_eq,not_true_eq_false,if_false,Op.intBits,Sem.run_pure];done)
     |(refine⟨?_,.bool _⟩;simp only[binOp,ne_eq,not_true_eq_false,if_false,Op.intCmp,Sem.run_pure];done))
theorem zkI{op:BinOp}{x y:BA}{v:Value}(e:jn op x y=some v)(t:TypeId):
  (binOp op t (.string x) (.string y)).run P w= .ok v w∧VRel μ v v:=by
 cases op <;>simp only[jn] at e <;>first
  |(simp at e;done)
  |(split at e
    ·simp at e
    ·rename_i hy
     simp only[sJ] at e;subst e
     exact⟨by simp only[binOp,Op.stringOp];rw[if_neg hy];rfl,.str _⟩)
  |(simp only[sJ] at e;subst e
    exact⟨by simp[binOp,Op.stringOp,ByteArray.toList_eq],.bool _⟩)
theorem zd7(E:EnvOK P env){op:BinOp}{t:TypeId}{ox oy:Operand}{x y x' y':Value}(hx:VRel μ x x')(hy:VRel μ y y')
  (e:zcL env t ox oy x y=true):(eqGuard op t ox oy x' y').run P w= .ok () w:=by
 cases op <;>first
  |rfl
  |(simp only[eqGuard,Bool.not_true,Bool.false_eq_true,if_false]
    split
    ·cases hx;cases hy
     simp only[zcL,Bool.or_eq_true] at e
     rcases e with e|e
     ·cases ox <;>simp[zbv] at e
      simp
     ·cases oy <;>simp[zbv] at e
      simp
    ·cases hx;cases hy
     simp only[zcL] at e
     simp[(E.plain t e).2]
    ·rfl)
theorem zl2(E:EnvOK P env){t:TypeId}{ox oy:Operand}{x y x' y':Value}{b:Bool}(hx:VRel μ x x')(hy:VRel μ y y')
  (hm:zcL env t ox oy x y=true) (he:eqA env 20 t x y=some b):
  (eqGuard .eql t ox oy x' y').run P w= .ok () w∧(eqGuard .neq t ox oy x' y').run P w= .ok () w∧(Op.equal t x' y').run P w= .ok b w:=
 ⟨zd7 E hx hy hm,zd7 E hx hy hm,zup E 20 t x y x' y' b hx hy he 10000 (by omega)⟩
theorem zuV(E:EnvOK P env){op:BinOp}{t:TypeId}{ox oy:Operand}{x y x' y' v:Value}(hx:VRel μ x x')(hy:VRel μ y y')
  (e:bin env op t ox oy x y=some v):
  ∃ v',(do eqGuard op t ox oy x' y';binOp op t x' y':Sem Value).run P w= .ok v' w∧VRel μ v v':=by
 unfold bin at e
 split at e
 ·rename_i k a k' b
  cases hx;cases hy
  refine⟨v,?_⟩
  have hg:(eqGuard op t ox oy (.int k a) (.int k' b)).run P w= .ok () w:=by
   unfold eqGuard;split <;>rfl
  simp only[Sem.run_bind,hg,Result.andThen_ok]
  split at e
  ·split at e
   ·simp at e
   ·rename_i hb
    simp only[sJ] at e;subst e
    exact⟨by simp[binOp,Op.shift,hb],.int _ _⟩
  ·split at e
   ·simp at e
   ·rename_i hb
    simp only[sJ] at e;subst e
    exact⟨by simp[binOp,Op.shift,hb],.int _ _⟩
  ·rename_i h1 h2
   split at e
   ·rename_i hk
    subst hk
    exact intBin_ok ⟨h1,h2⟩ e t
   ·simp at e
 ·rename_i a b
  cases hx;cases hy
  refine⟨v,?_⟩
  have hg:(eqGuard op t ox oy (.string a) (.string b)).run P w= .ok () w:=by
   unfold eqGuard;split <;>rfl
  simp only[Sem.run_bind,hg,Result.andThen_ok]
  exact zkI e t
 ·rename_i hi hs
  split at e
  ·split at e
   ·rename_i hm
    split at e
    ·rename_i b he
     simp only[sJ] at e;subst e
     obtain⟨g1,g2,g3⟩:=zl2 (P:=P) (w:=w) E hx hy hm he
     refine⟨.bool b,?_,.bool b⟩
     simp only[Sem.run_bind,g1,Result.andThen_ok]
     have:binOp .eql t x' y'=(do pure (.bool (← Op.equal t x' y')):Sem Value):=by
      cases hx <;>cases hy <;>first
       |rfl
       |(exfalso;exact hi _ _ _ _ rfl rfl)
       |(exfalso;exact hs _ _ rfl rfl)
     rw[this]
     simp[g3]
    ·simp at e
   ·simp at e
  ·split at e
   ·rename_i hm
    split at e
    ·rename_i b he
     simp only[sJ] at e;subst e
     obtain⟨g1,g2,g3⟩:=zl2 (P:=P) (w:=w) E hx hy hm he
     refine⟨.bool (!b),?_,.bool _⟩
     simp only[Sem.run_bind,g2,Result.andThen_ok]
     have:binOp .neq t x' y'=(do pure (.bool (!(← Op.equal t x' y'))):Sem Value):=by
      cases hx <;>cases hy <;>first
       |rfl
       |(exfalso;exact hi _ _ _ _ rfl rfl)
       |(exfalso;exact hs _ _ rfl rfl)
     rw[this]
     simp[g3]
    ·simp at e
   ·simp at e
  ·simp at e
theorem zvr{op:UnOp}{x x' v:Value}(hx:VRel μ x x')(e:un op x=some v):∃ v',(Op.unary op x').run P w= .ok v' w∧VRel μ v v':=by
 unfold un at e
 split at e
 ·cases hx
  simp only[sJ] at e;subst e
  exact⟨_,by simp[Op.unary,Op.intArith],.int _ _⟩
 ·cases hx
  simp only[wF,sJ] at e;subst e
  exact⟨_,by simp only[Op.unary,Op.intBits];rfl,.int _ _⟩
 ·cases hx
  simp only[sJ] at e;subst e
  exact⟨_,by simp[Op.unary],.bool _⟩
 ·simp at e
theorem zg6(E:EnvOK P env){t:TypeId}{x x' v:Value}{f:Nat}(hx:VRel μ x x')(e:zbD env t x f=some v):
  ∃ v',(Instr.fieldAt t x' f).run P w= .ok v' w∧VRel μ v v':=by
 unfold zbD at e
 split at e
 ·rename_i fs b o hu
  split at e
  ·rename_i fl hf
   split at e
   ·rename_i n hn
    split at e
    ·simp at e
    ·rename_i hn0
     simp only[sJ] at e;subst e
     cases hx with
     |ptr _ _ p hp=>
      refine⟨.pointer (some ⟨p.pb,p.po+(o+fl.offset),none⟩),?_,.ptr _ _ p hp⟩
      simp[Instr.fieldAt,E.runUnd hu,hf,Instr.sureAddr,fieldPlace,E.runSize hn,hn0,jj,Nat.add_assoc]
   ·simp at e
  ·simp at e
 ·simp at e
theorem zgW(E:EnvOK P env){t:TypeId}{x x' i i' v:Value}(hx:VRel μ x x')(hi:VRel μ i i')(e:wd env t x i=some v):
  ∃ v',(Instr.indexAt t x' i').run P w= .ok v' w∧VRel μ v v':=by
 unfold wd at e
 split at e
 ·rename_i el b o len cap k n hu
  split at e
  ·rename_i s hs
   split at e
   ·rename_i hb
    simp only[sJ] at e;subst e
    cases hi
    cases hx with
    |slice _ _ _ _ c' p hp hc=>
     refine⟨.pointer (some ⟨p.pb,p.po+(o+n.toNat * s),none⟩),?_,.ptr _ _ p hp⟩
     simp[Instr.indexAt,asIntOf,E.runUnd hu,hb,E.runSize hs,jj,Nat.add_assoc]
   ·simp at e
  ·simp at e
 ·rename_i len el b o k n hu
  split at e
  ·rename_i s hs
   split at e
   ·rename_i hb
    simp only[sJ] at e;subst e
    cases hi
    cases hx with
    |ptr _ _ p hp=>
     refine⟨.pointer (some ⟨p.pb,p.po+(o+n.toNat * s),none⟩),?_,.ptr _ _ p hp⟩
     simp[Instr.indexAt,asIntOf,E.runUnd hu,hb,E.runSize hs,jj,Nat.add_assoc,Instr.sureAddr]
   ·simp at e
  ·simp at e
 ·simp at e
theorem zoB(E:EnvOK P env){t:TypeId}{x x' v:Value}{f:Nat}(hx:VRel μ x x')(e:zg7 env t x f=some v):
  ∃ v',(Instr.field t x' f).run P w= .ok v' w∧VRel μ v v':=by
 unfold zg7 at e
 split at e
 ·rename_i fs cs hu
  split at e
  ·rename_i fl hf
   cases hx with
   |agg _ cs' h1 h2=>
    obtain⟨v',hr,rv⟩:=zcC (w:=w) E (zh.agg.1 (.agg _ _ h1 h2)) e
    exact⟨v',by simp[Instr.field,E.runUnd hu,hf,asAgg,hr],rv⟩
  ·simp at e
 ·simp at e
theorem zol(E:EnvOK P env){t:TypeId}{x x' i i' v:Value}(hx:VRel μ x x')(hi:VRel μ i i')(e:za8 env t x i=some v):
  ∃ v',(Instr.index t x' i').run P w= .ok v' w∧VRel μ v v':=by
 unfold za8 at e
 split at e
 ·rename_i s k n hu
  split at e
  ·rename_i hn
   split at e
   ·rename_i b hb
    simp only[sJ] at e;subst e
    cases hi;cases hx
    rw[List.head?_drop] at hb
    have hb':s[n.toNat]? =some b:=by
     obtain⟨⟨l⟩⟩:=s
     simp only at hb
     obtain⟨hlt,hv⟩:=List.getElem?_eq_some_iff.1 hb
     show(if h:n.toNat < l.length then some l[n.toNat] else none)=some b
     rw[dif_pos hlt,hv]
    exact⟨.int .u8 b.toNat,by simp[Instr.index,asIntOf,E.runUnd hu,hn,hb'],.int _ _⟩
   ·simp at e
  ·simp at e
 ·rename_i len el cs k n hu
  split at e
  ·rename_i s hs
   split at e
   ·rename_i hb
    cases hi
    cases hx with
    |agg _ cs' h1 h2=>
     obtain⟨v',hr,rv⟩:=zcC (w:=w) E (zh.agg.1 (.agg _ _ h1 h2)) e
     exact⟨v',by simp[Instr.index,asIntOf,E.runUnd hu,hb,E.runSize hs,hr],rv⟩
   ·simp at e
  ·simp at e
 ·simp at e
theorem zj2{x x' v:Value}{i:Nat}(hx:VRel μ x x')(e:zdr x i=some v):∃ v',(Instr.extract x' i).run P w= .ok v' w∧VRel μ v v':=by
 unfold zdr at e
 split at e
 ·cases hx with
  |tuple _ xs' h1 h2=>
   obtain⟨v',hv,rv⟩:=(zh.tuple.1 (.tuple _ _ h1 h2)).get e
   exact⟨v',by simp at hv;simp[Instr.extract,hv],rv⟩
 ·simp at e
end
section
variable {P:Program} {env:Env} {μ:Loc} {h:Heap} {w:World} {tm:T Value} {tmps:Array Value}
def qO(μ:Loc)(v:Option (Option Value))(v':Option Value):Prop:=(v=none∧v'=none)∨(v=some none∧v'.isSome=true)∨∃ x x',v=some (some x)∧v'=some x'∧VRel μ x x'
theorem qO.of(R:wi μ tm tmps){ds:List Deferred}(x:Option Operand):qO μ (x.map (rd tm)) (x.map (Act.eval ⟨tmps,ds⟩)):=by
 cases x with
 |none=>exact .inl ⟨rfl,rfl⟩
 |some x=>
  simp only[Option.map_some]
  cases e:rd tm x with
  |none=>exact .inr (.inl ⟨rfl,rfl⟩)
  |some v=>exact .inr (.inr ⟨v,_,rfl,rfl,zQ R e⟩)
theorem qF{v:Option (Option Value)}{x:Value}{most most' dflt n:Nat}{code:BoundsCode}(hv:qO μ v (some x))(e:zO v most dflt=some n)(hm:most≤most'):
  (Instr.sliceBound x most' code).run P w= .ok n w∧n≤most:=by
 rcases hv with⟨_,h⟩|⟨h,_⟩|⟨a,a',h,h',r⟩
 ·simp at h
 ·subst h;simp[zO] at e
 ·subst h
  simp only[sJ] at h';subst h'
  unfold zO at e
  split at e
  ·simp_all
  ·rename_i k i heq
   simp only[sJ] at heq;subst heq
   cases r
   split at e
   ·rename_i hb
    simp only[sJ] at e;subst e
    refine⟨?_,by omega⟩
    have hb':0≤i∧i≤(most':Int):=⟨hb.1,by omega⟩
    simp[Instr.sliceBound,asIntOf,hb']
   ·simp at e
  ·simp at e
theorem qO.none_iff{v:Option (Option Value)}(r:qO μ v none):v=none:=by
 rcases r with⟨h,_⟩|⟨_,h⟩|⟨_,_,_,h,_⟩ <;>simp_all
theorem qO.some_iff{v:Option (Option Value)}{x:Value}(r:qO μ v (some x)):∃ y,v=some y:=by
 rcases r with⟨_,h⟩|⟨h,_⟩|⟨_,_,h,_,_⟩ <;>simp_all
theorem vl{isSlice:Bool}{lo hi mx:Option (Option Value)}{lo' hi' mx':Option Value}{len cap cap' m hh l:Nat}(hc:cap≤cap')
  (rl:qO μ lo lo') (rh:qO μ hi hi') (rm:qO μ mx mx') (em:zO mx cap cap=some m)
  (eh:zaM mx hi m cap len=some hh) (el:zO lo hh 0=some l):
  (Instr.sliceBounds isSlice len cap' lo' hi' mx').run P w= .ok (l,hh,if mx.isNone then cap' else m) w∧l≤hh:=by
 have lle:l≤hh:=by
  cases lo' with
  |none=>rw[rl.none_iff] at el;simp[zO] at el;omega
  |some v'=>exact(qF (P:=P) (w:=w) (code:=.sliceB) rl el (nL_ _)).2
 refine⟨?_,lle⟩
 have low:∀ code v,lo'=some v→(Instr.sliceBound v hh code).run P w= .ok l w:=by
  intro code v hv
  subst hv
  exact(qF rl el (nL_ _)).1
 have low0:lo'=none→l=0:=by
  intro hv
  subst hv
  rw[rl.none_iff] at el;simp[zO] at el;omega
 unfold Instr.sliceBounds
 cases mx' with
 |none=>
  have hmx:=rm.none_iff
  subst hmx
  simp only[zaM] at eh
  cases hi' with
  |none=>
   have hhi:=rh.none_iff
   subst hhi
   simp only[zO,sJ] at eh;subst eh
   cases lo' with
   |none=>simp[low0 rfl]
   |some v=>simp[low _ v rfl]
  |some v=>
   have:=(qF (P:=P) (w:=w) (code:=if isSlice then .sliceAcap else .sliceAlen) rh eh hc).1
   cases lo' with
   |none=>simp[low0 rfl,this]
   |some v=>simp[low _ v rfl,this]
 |some vm=>
  obtain⟨xm,rfl⟩:=rm.some_iff
  have hm1:=(qF (P:=P) (w:=w) (code:=if isSlice then .slice3Acap else .slice3Alen) rm em hc).1
  cases hi' with
  |none=>
   have hhi:=rh.none_iff
   subst hhi
   simp[zaM] at eh
  |some v=>
   obtain⟨xh,rfl⟩:=rh.some_iff
   simp only[zaM] at eh
   have:=(qF (P:=P) (w:=w) (code:=.slice3B) rh eh (nL_ _)).1
   cases lo' with
   |none=>simp[low0 rfl,this,hm1]
   |some v=>simp[low _ v rfl,this,hm1]
theorem zee(s:BA)(l n:Nat):s.extract l n=⟨⟨(s.data.toList.drop l).take (n - l)⟩⟩:=by
 obtain⟨⟨a⟩⟩:=s
 apply ByteArray.ext
 simp
theorem yd(E:EnvOK P env)(R:Rep μ h w){e:TypeId}{b o c c':Nat}{p:Place}{fo:Bool}{s:Nat}(hp:μ b=some p)(hc:p.capOk o c c')
  (hs:env.size e=some s) (ef:jy env h e b o c=some fo):
  (fo=false→c'=c)∧(fo=true→p.es=s∧s≠0∧o+c * s=p.size):=by
 have _:=E
 unfold jy at ef
 split at ef
 ·rename_i el cells es ro s' hg hs'
  rw[hs] at hs';simp only[sJ] at hs';subst hs'
  obtain⟨q,hq,ho⟩:=R.live _ _ hg
  rw[hp] at hq;simp only[sJ] at hq;subst hq
  obtain⟨arr,fr,h1,h2,h3,h4,h5,h6,h7⟩:=ho
  split at ef
  ·rename_i he0
   simp only[sJ] at ef;subst ef
   refine⟨fun _=>?_,fun h=>by simp at h⟩
   rcases hc with hc|⟨hc,_⟩
   ·exact hc
   ·omega
  ·rename_i he0
   split at ef
   ·rename_i hes
    simp only[sJ] at ef
    subst hes
    refine⟨fun hf=>?_,fun hf=>?_⟩
    ·rcases hc with hc|⟨_,hc2,_⟩
     ·exact hc
     ·rw[hf] at ef
      rw[h3] at hc2
      rw[hc2,h2] at ef
      simp at ef
    ·rw[hf] at ef
     have:=nB_ ef
     exact⟨h3,he0,by omega⟩
   ·simp at ef
 ·simp at ef
theorem zm8(E:EnvOK P env)(R:Rep μ h w){t:TypeId}{x x' v:Value}{lo hi mx:Option (Option Value)}{lo' hi' mx':Option Value}(hx:VRel μ x x')
  (rl:qO μ lo lo') (rh:qO μ hi hi') (rm:qO μ mx mx') (e:qG env h t x lo hi mx=some v):
  ∃ v',(Instr.sliceAt t x' lo' hi' mx').run P w= .ok v' w∧VRel μ v v':=by
 unfold qG at e
 split at e
 · -- a text
  rename_i s hu
  cases hx
  split at e
  ·simp at e
  ·have hmx:mx'=none:=by cases mx' <;>simp_all [qO]
   subst hmx
   split at e
   ·rename_i hh eh
    split at e
    ·rename_i l el
     simp only[sJ] at e;subst e
     have hsz:s.data.toList.length=s.size:=by simp
     rw[hsz] at eh
     have hb:=(vl (P:=P) (w:=w) (isSlice:=false) (cap:=s.size) (m:=s.size) (nL_ _) rl rh (.inl ⟨rfl,rfl⟩) rfl (by simpa[zaM] using eh) el).1
     refine⟨_,?_,.str _⟩
     simp[Instr.sliceAt,E.runUnd hu,Instr.slice,hb,zee]
    ·simp at e
   ·simp at e
 · -- the nil slice
  rename_i el len cap hu
  cases hx
  split at e
  ·simp at e
  ·simp at e
  ·rename_i sz hsz
   have hmx:mx'=none:=by cases mx' <;>simp_all [qO]
   subst hmx
   split at e
   ·rename_i hh eh
    split at e
    ·rename_i l el2
     split at e
     ·rename_i hl
      split at e
      ·rename_i hh0
       simp only[sJ] at e;subst e
       subst hl;subst hh0
       have hb:=(vl (P:=P) (w:=w) (isSlice:=true) (cap:=0) (m:=0) (nL_ _) rl rh (.inl ⟨rfl,rfl⟩) rfl (by simpa[zaM] using eh) el2).1
       refine⟨.slice none 0 0,?_,.nils⟩
       simp[Instr.sliceAt,E.runUnd hu,Instr.slice,hb,E.runSize hsz]
      ·simp at e
     ·simp at e
    ·simp at e
   ·simp at e
 · -- a slice
  rename_i el b o len cap hu
  split at e
  ·rename_i m fo s em ef hs
   split at e
   ·rename_i hh eh
    split at e
    ·rename_i l el2
     split at e
     ·simp at e
     ·rename_i hamb
      split at e
      ·simp at e
      rename_i hhm0
      have hhm:hh≤m:=by simpa using hhm0
      simp only[sJ] at e;subst e
      cases hx with
      |slice _ _ _ _ c' p hp hc=>
       have hcc:cap≤c':=by rcases hc with hc|⟨_,_,hc,_⟩ <;>omega
       obtain⟨hb,hlh⟩:=vl (P:=P) (w:=w) (isSlice:=true) hcc rl rh rm em eh el2
       obtain⟨f1,f2⟩:=yd E R hp hc hs ef
       simp only[Instr.sliceAt,Sem.run_bind,E.runUnd hu,Result.andThen_ok,Instr.slice,hb,E.runSize hs,Sem.run_pure,Option.map_some]
       refine⟨_,rfl,?_⟩
       by_cases hf:fo=true∧mx=none
       ·obtain⟨hf,hm0⟩:=hf
        subst hm0
        simp only[zO,sJ] at em
        obtain⟨hes,hs0,hfull⟩:=f2 hf
        simp only[hf,Option.isNone_none,Bool.true_and,bA,Bool.not_eq_true',not_and,Bool.not_eq_false] at hamb
        have hml:m=l→l=0:=by
         intro hml
         have:=hamb (by rw[hml];exact Nat.beq_refl l)
         exact nB_ this
        have hcap2:c'=cap∨(cap≤c'∧o+c' * p.es≤p.size+p.extra):=by
         rcases hc with hc|⟨_,_,hc,hc2⟩
         ·exact .inl hc
         ·exact .inr ⟨hc,hc2⟩
        subst em
        have hlm:l≤cap:=nT hlh hhm
        have e1:∀ k,l≤k→l * s+(k - l) * s=k * s:=fun k hk=>by rw[← Nat.add_mul];congr 1;omega
        simp only[Option.isNone_none,if_true]
        by_cases hl0:l=0
        ·subst hl0
         simp only[Nat.zero_mul,Nat.add_zero,Nat.sub_zero,ite_self]
         rw[jj]
         simp only[Nat.add_zero,ite_self]
         exact .slice _ _ _ _ _ p hp hc
        ·rw[if_neg (fun hh=>hl0 (hml hh)),if_neg (by have:=fun hh=>hl0 (hml hh);omega),jj,Nat.add_assoc]
         refine .slice _ _ _ _ _ p hp ?_
         rcases hcap2 with hc|⟨hc1,hc2⟩
         ·left;omega
         ·right
          have g1:=e1 cap hlm
          have g2:=e1 c' (by omega)
          rw[hes] at hc2 ⊢
          exact⟨hs0,by omega,by omega,by omega⟩
       ·have hcm:(if mx.isNone=true then c' else m)=m:=by
         cases mx with
         |none=>
          have:fo=false:=by cases fo <;>simp_all
          have:=f1 this
          simp only[zO,sJ] at em
          simp;omega
         |some _=>simp
        rw[hcm]
        by_cases hml:m=l
        ·rw[if_pos hml,if_pos hml]
         exact .slice _ _ _ _ _ p hp (.inl rfl)
        ·rw[if_neg hml,if_neg hml,jj,Nat.add_assoc]
         exact .slice _ _ _ _ _ p hp (.inl rfl)
    ·simp at e
   ·simp at e
  ·simp at e
 · -- an array's cells
  rename_i n el b o hu
  split at e
  ·rename_i m s ec cells ro em hs hg
   split at e
   ·rename_i hh eh
    split at e
    ·rename_i l el2
     simp only[sJ] at e;subst e
     cases hx with
     |ptr _ _ p hp=>
      obtain⟨hb,hlh⟩:=vl (P:=P) (w:=w) (isSlice:=false) (nL_ n) rl rh rm em eh el2
      simp only[Instr.sliceAt,Sem.run_bind,E.runUnd hu,Result.andThen_ok,Instr.sureAddr,hb,E.runSize hs,Sem.run_pure]
      refine⟨_,rfl,?_⟩
      have hcm:(if mx.isNone=true then n else m)=m:=by
       cases mx with
       |none=>simp only[zO,sJ] at em;simp;omega
       |some _=>simp
      rw[hcm]
      by_cases hml:m=l
      ·rw[if_pos hml,if_pos hml]
       exact .slice _ _ _ _ _ p hp (.inl rfl)
      ·rw[if_neg hml,if_neg hml,jj,Nat.add_assoc]
       exact .slice _ _ _ _ _ p hp (.inl rfl)
    ·simp at e
   ·simp at e
  ·simp at e
 ·simp at e
theorem zkb:∀ {l:Vs} {bs:Bsy} {l':Vs} (acc:BA),vt l=some bs→zh μ l l'→
  (forIn (m:=Sem) l' acc (fun c s=>match c with
   | .int .u8 n=>pure (.yield (s.push (UInt8.ofNat n.toNat)))
   |_=>do
    stuck "bytesToString: byte expected"
    pure (.yield s))).run P w= .ok ⟨⟨acc.data.toList++bs⟩⟩ w:=by
 intro l
 induction l with
 |nil=>
  intro bs l' acc e r
  simp only[vt,sJ] at e;subst e
  have:l'=[]:=by have:=r.1;simpa using this.symm
  subst this
  simp
 |cons x l ih=>
  intro bs l' acc e r
  cases l' with
  |nil=>have:=r.1;simp at this
  |cons y l'=>
   have hxy:VRel μ x y:=r.2 0 x y rfl rfl
   have hr:zh μ l l':=⟨by have:=r.1;simpa using this,fun i a b ha hb=>r.2 (i+1) a b (by simpa using ha) (by simpa using hb)⟩
   unfold vt at e
   split at e
   ·rename_i heq;simp at heq
   ·rename_i n l2 heq
    simp only[List.cons.injEq] at heq
    obtain⟨rfl,rfl⟩:=heq
    split at e
    ·rename_i r' hr'
     simp only[sJ] at e;subst e
     cases hxy
     simp only[List.forIn_cons,Sem.run_bind,Sem.run_pure,Result.andThen_ok]
     rw[ih (acc.push (UInt8.ofNat n.toNat)) hr' hr]
     simp[ByteArray.push]
    ·simp at e
   ·simp at e
theorem zrV(E:EnvOK P env)(R:Rep μ h w){s d:TypeId}{x x' v:Value}(hx:VRel μ x x')(e:conv env h s d x=some v):
  ∃ v',(convert s d x').run P w= .ok v' w∧VRel μ v v':=by
 unfold conv at e
 split at e
 ·rename_i ds k k' n hs hd
  simp only[sJ] at e;subst e
  cases hx
  refine⟨_,?_,.int _ _⟩
  simp only[convert,Sem.run_bind,E.runUnd hs,E.runUnd hd,Result.andThen_ok]
  cases ds <;>simp[Conv.intToInt]
 ·rename_i ds b hs hd
  simp only[sJ] at e;subst e
  cases hx
  refine⟨_,?_,.str _⟩
  simp only[convert,Sem.run_bind,E.runUnd hs,E.runUnd hd,Result.andThen_ok]
  cases ds <;>simp
 ·rename_i el l c hs hd
  split at e
  ·rename_i he
   simp only[sJ] at e;subst e
   cases hx
   refine⟨_,?_,.str _⟩
   simp only[convert,Sem.run_bind,E.runUnd hs,E.runUnd hd,Result.andThen_ok,E.runUnd he]
   simp[Conv.bytesToString]
  ·simp at e
 ·rename_i el a n c hs hd
  split at e
  ·rename_i ec cells opn ro he hg hsp
   simp only at e
   split at e
   ·rename_i hl
    split at e
    ·rename_i bs hbs
     simp only[sJ] at e;subst e
     cases hx with
     |slice b o _ _ c' p hp hc=>
      obtain⟨q,hq,ho⟩:=R.live _ _ hg
      simp only at hq
      rw[hp] at hq;simp only[sJ] at hq;subst hq
      obtain⟨l,hrun,hrel⟩:=zfb (P:=P) ho (nB_ hl)
      refine⟨_,?_,.str _⟩
      simp only[convert,Sem.run_bind,E.runUnd hs,E.runUnd hd,Result.andThen_ok,E.runUnd he,Conv.bytesToString,hrun]
      rw[← Array.forIn_toList]
      have:=zkb (P:=P) (w:=w) .empty hbs hrel
      refine(congrArg (fun r=>Result.andThen r fun a w'=>Sem.run P (pure (Value.string a)) w') (Eq.trans ?_ this)).trans ?_
      ·congr 1
      ·simp
    ·simp at e
   ·simp at e
  ·simp at e
 ·simp at e
end
section
variable {P:Program} {env:Env} {μ:Loc} {h:Heap} {w:World} {tm:T Value} {tmps:Array Value}
theorem zeA{α β:Type}(f:α→Sem β)(g:α→β):∀ (l:List α),(∀ a,a∈l→(f a).run P w= .ok (g a) w)→(l.mapM f).run P w= .ok (l.map g) w:=by
 intro l
 induction l with
 |nil=>intro _;simp
 |cons a l ih=>
  intro hf
  have h1:=hf a (by simp)
  have h2:=ih (fun b hb=>hf b (by simp[hb]))
  simp[List.mapM_cons,h1,h2]
theorem zeB{α β:Type}(f:α→Sem β)(g:α→β)(xs:Array α)(hf:∀ a,a∈xs.toList→(f a).run P w= .ok (g a) w):(xs.mapM f).run P w= .ok (xs.map g) w:=by
 rw[Array.mapM_eq_mapM_toList]
 simp only[Sem.run_map,zeA f g xs.toList hf,Result.andThen_ok]
 congr 1
 apply Array.ext'
 simp
theorem zh.len{l l':Vs}(r:zh μ l l'):l.length=l'.length:=r.1
theorem zh.head{x x':Value}{l l':Vs}(r:zh μ (x::l) (x'::l')):VRel μ x x':=r.2 0 x x' rfl rfl
theorem zh.tail{x x':Value}{l l':Vs}(r:zh μ (x::l) (x'::l')):zh μ l l':=
 ⟨by have:=r.1;simpa using this,fun i a b ha hb=>r.2 (i+1) a b (by simpa using ha) (by simpa using hb)⟩
theorem zh.cases{l l':Vs}(r:zh μ l l'):(l=[]∧l'=[])∨∃ x x' m m',l=x::m∧l'=x'::m'∧VRel μ x x'∧zh μ m m':=by
 cases l with
 |nil=>
  have:l'=[]:=by have:=r.1;simpa using this.symm
  exact .inl ⟨rfl,this⟩
 |cons x m=>
  cases l' with
  |nil=>have:=r.1;simp at this
  |cons x' m'=>exact .inr ⟨x,x',m,m',rfl,rfl,r.head,r.tail⟩
theorem zg3:∀ (vs vs':Vs) (k:Nat) (cs:Vs) (cs':Array Value) (off:Nat),zh μ vs vs'→zh μ cs cs'.toList→
  zh μ (zam cs (off+k) vs) ((vs'.zipIdx k).foldl (fun(cs:Array Value) (x:Value×Nat)=>cs.setIfInBounds (off+x.2) x.1) cs').toList:=by
 intro vs
 induction vs with
 |nil=>
  intro vs' k cs cs' off r rc
  rcases r.cases with⟨_,rfl⟩|⟨x,x',m,m',h,_⟩
  ·simpa[zam] using rc
  ·simp at h
 |cons v vs ih=>
  intro vs' k cs cs' off r rc
  rcases r.cases with⟨h,_⟩|⟨x,x',m,m',h,rfl,rx,rm⟩
  ·simp at h
  ·simp only[List.cons.injEq] at h
   obtain⟨rfl,rfl⟩:=h
   simp only[zam,List.zipIdx_cons,List.foldl_cons]
   have:=ih m' (k+1) (cs.set (off+k) v) (cs'.setIfInBounds (off+k) x') off rm (by simpa using rc.set (off+k) rx)
   rw[show off+k+1=off+(k+1) by omega]
   exact this
theorem zeW{place place':Nat→Option (Nat×Nat)}(hp:∀ i r,place i=some r→place' i=some r):∀ (ps:List (Nat×Value)) (ps':List (Nat×Value)) (cs:Vs) (cs':Array Value) (out:Vs),
  ps.map (·.1)=ps'.map (·.1)→zh μ (ps.map (·.2)) (ps'.map (·.2))→zh μ cs cs'.toList→zbC place cs ps=some out→
  ∃ out':Array Value,Instr.fill place' cs' ps'=some out'∧zh μ out out'.toList:=by
 intro ps
 induction ps with
 |nil=>
  intro ps' cs cs' out hi hv hc e
  simp only[zbC,sJ] at e;subst e
  have:ps'=[]:=by simpa using hi.symm
  subst this
  exact⟨cs',rfl,hc⟩
 |cons p ps ih=>
  intro ps' cs cs' out hi hv hc e
  obtain⟨i,v⟩:=p
  cases ps' with
  |nil=>simp at hi
  |cons p' ps'=>
   obtain⟨i',v'⟩:=p'
   simp only[List.map_cons,List.cons.injEq] at hi
   replace hv:zh μ (v::ps.map (·.2)) (v'::ps'.map (·.2)):=hv
   obtain⟨rfl,hi⟩:=hi
   simp only[zbC] at e
   split at e
   ·simp at e
   ·rename_i off size hpl
    split at e
    ·rename_i hb
     simp only[bA,Nat.ble_eq] at hb
     have hb1:=nB_ hb.1
     have rv:=zh.cells hv.head
     have hl:=rv.1
     have hcl:=hc.1
     obtain⟨out',ho,ro⟩:=ih ps' _ ((v'.cells.zipIdx.foldl (fun cs (c,j)=>cs.setIfInBounds (off+j) c) cs')) out hi hv.tail (by
      have:=zg3 v.cells.toList v'.cells.toList 0 cs cs' off rv hc
      simp only[Nat.add_zero] at this
      rw[← Array.foldl_toList,Array.toList_zipIdx]
      exact this) e
     refine⟨out',?_,ro⟩
     simp only[Instr.fill,hp _ _ hpl]
     rw[if_neg]
     ·exact ho
     ·simp only[Array.length_toList] at hb1 hl hcl hb
      simp
      omega
    ·simp at e
theorem zdP(R:wi μ tm tmps){ds:List Deferred}:∀ {l:List (Nat×Operand)} {vs:List (Nat×Value)},vp tm l=some vs→
  vs.map (·.1)=l.map (·.1)∧zh μ (vs.map (·.2)) (l.map fun p=>Act.eval ⟨tmps,ds⟩ p.2):=by
 intro l
 induction l with
 |nil=>intro vs e;simp only[vp,sJ] at e;subst e;exact⟨rfl,.nil⟩
 |cons p l ih=>
  obtain⟨i,x⟩:=p
  intro vs e
  simp only[vp] at e
  split at e
  ·rename_i v r hv hr
   simp only[sJ] at e;subst e
   obtain⟨h1,h2⟩:=ih hr
   exact⟨by simp[h1],.cons (zQ R hv) h2⟩
  ·simp at e
theorem zhC(_E:EnvOK P env):∀ (l:List Field),zbJ env l=true→∀ f,f∈l→∃ n,env.size f.type=some n:=by
 intro l
 induction l with
 |nil=>intro _ f hf;simp at hf
 |cons g l ih=>
  intro e f hf
  simp only[zbJ,bA] at e
  simp only[List.mem_cons] at hf
  rcases hf with rfl|hf
  ·exact Option.isSome_iff_exists.1 e.1
  ·exact ih e.2 f hf
theorem zpd(E:EnvOK P env){t:TypeId}{ps ps':List (Nat×Value)}{v:Value}(hi:ps.map (·.1)=ps'.map (·.1))(hv:zh μ (ps.map (·.2)) (ps'.map (·.2)))
  (e:zhl env t ps=some v):∃ v',(Instr.build t ⟨ps'⟩).run P w= .ok v' w∧VRel μ v v':=by
 unfold zhl at e
 split at e
 ·rename_i fs z hu hz
  split at e
  ·rename_i hs
   split at e
   ·rename_i cs hf
    simp only[sJ] at e;subst e
    have zr:=(E.zero t z hz).2 μ
    have hrun:(fs.mapM (fun f=>do pure (f.offset,← sizeOf f.type):Field→Sem (Nat×Nat))).run P w= .ok (fs.map (fun f=>(f.offset,(env.size f.type).getD 0))) w:=by
     apply zeB
     intro f hf
     obtain⟨n,hn⟩:=zhC E _ hs f hf
     simp[E.runSize hn,hn]
    obtain⟨out',ho,ro⟩:=zeW (place:=fieldPlaces env fs) (place':=fun i=>(fs.map (fun f=>(f.offset,(env.size f.type).getD 0)))[i]?) (by
     intro i r hr
     unfold fieldPlaces at hr
     split at hr
     ·rename_i f hf
      split at hr
      ·rename_i n hn
       simp only[sJ] at hr;subst hr
       simp at hf
       simp[hf,hn]
      ·simp at hr
     ·simp at hr) ps ps' z.cells.toList z.cells cs hi hv (zh.cells zr) hf
    refine⟨.agg out',?_,zh.agg.2 ro⟩
    simp only[Instr.build,Sem.run_bind,E.runZero hz,Result.andThen_ok,E.runUnd hu,hrun,ho,Sem.run_pure]
   ·simp at e
  ·simp at e
 ·rename_i n el z hu hz
  split at e
  ·rename_i s hs
   split at e
   ·rename_i cs hf
    simp only[sJ] at e;subst e
    have zr:=(E.zero t z hz).2 μ
    obtain⟨out',ho,ro⟩:=zeW (place:=fun i=>some (i * s,s)) (place':=fun i=>some (i * s,s)) (fun _ _ h=>h) ps ps' z.cells.toList z.cells cs hi hv (zh.cells zr) hf
    refine⟨.agg out',?_,zh.agg.2 ro⟩
    simp only[Instr.build,Sem.run_bind,E.runZero hz,Result.andThen_ok,E.runUnd hu,E.runSize hs,ho,Sem.run_pure]
   ·simp at e
  ·simp at e
 ·simp at e
theorem zt6(E:EnvOK P env){ts:Array TypeId}{t rt:TypeId}{x x' v:Value}{rest:Vs}(ht:ts[0]? =some t)(hx:VRel μ x x')(e:lenA env t x=some v):
  ∃ v',(Builtin.len_ ts rt ⟨x'::rest⟩).run P w= .ok v' w∧VRel μ v v':=by
 unfold lenA at e
 split at e
 ·rename_i s hu
  cases hx
  simp only[sJ] at e;subst e
  exact⟨goInt s.size,by simp[Builtin.len_,ht,E.runUnd hu],by simp;exact .int _ _⟩
 ·rename_i n el hu
  simp only[sJ] at e;subst e
  refine⟨goInt n,?_,.int _ _⟩
  simp only[Builtin.len_,ht]
  cases hx <;>simp[E.runUnd hu]
 ·rename_i el a n c hu
  simp only[sJ] at e;subst e
  cases hx
  ·exact⟨goInt (0:Nat),by simp[Builtin.len_,ht,E.runUnd hu],.int _ _⟩
  ·exact⟨goInt n,by simp[Builtin.len_,ht,E.runUnd hu],.int _ _⟩
 ·simp at e
end
end Go.PanE
