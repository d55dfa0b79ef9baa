/-
 Part 3 of the proof of Rows.DumpReadsCardSaid: The small machine: operations that make memory or write it, statements, calls.
 What the small machine's quiet operations make is what the model's make: values alike, the world as it was. Under the condition that the small machine asks the program truly (EnvOK).
 The small machine's quiet operations, the rest: arithmetic, texts, addresses, parts. Under the condition that it asks the program truly (EnvOK).
 The small machine's quiet operations: slices, conversions, literals, lengths; and all of them together. Under the condition that it asks the program truly (EnvOK).
-/
import Derived.Test.YtihkphfmnnndfaaGreatDoorT02
import Derived.Laws.StructEq
import Derived.WideKeyMaps
namespace Go.PanE
def rep(n:Nat)(l:List Value):List Value:=
 match n with
 |0=>[]
 |n+1=>l++rep n l
/-- What an operation that makes one new object makes: its value, by the object's number, and the object. -/
def opA(env:Env)(tm:T Value)(op:Op):Option ((Nat→Value)×AObj):=
 match op with
 | .alloc t=>match env.zero t with
  |some z=>some (fun b=>.pointer (some ⟨b,0,none⟩),.row t z.cells.toList 0 false)
  |none=>none
 | .box t x=>match rd tm x with
  |some v=>some (fun b=>.pointer (some ⟨b,0,none⟩),.row t v.cells.toList 0 false)
  |none=>none
 | .buildSlice t len ps=>match env.und t,rdParts tm ps.toList with
  |some (.slice e),some vs=>match env.size e,env.zero e with
   |some s,some z=>
    if Nat.beq z.cells.toList.length s && !Nat.beq s 0 && Nat.ble (len * s) 16777216 then
     match fillA (fun i=>some (i * s,s)) (rep len z.cells.toList) vs with
     |some cs=>some (fun b=>.slice (some ⟨b,0,none⟩) len len,.row e cs 0 false)
     |none=>none
    else none
   |_,_=>none
  |_,_=>none
 | .makeSlice t l c=>match env.und t,rd tm l,rd tm c with
  |some (.slice e),some (.int _ l),some (.int _ c)=>match env.size e,env.zero e,env.bytes e with
   |some s,some z,some by_=>
    if Nat.beq z.cells.toList.length s && !Nat.beq s 0 && decide (0≤l) && decide (l≤c) && decide (c * by_≤281474976710656) && decide (c≤281474976710656) then
     some (fun b=>.slice (some ⟨b,0,none⟩) l.toNat c.toNat,.row e (rep c.toNat z.cells.toList) 0 false)
    else none
   |_,_,_=>none
  |_,_,_=>none
 | .makeMap t none=>match env.und t with
  |some (.map _ _)=>some (fun b=>.map (some b),.map [])
  |_=>none
 | .range t x=>match env.und t,rd tm x with
  |some .string,some (.string s)=>some (fun b=>.pointer (some ⟨b,0,none⟩),.siter s 0)
  |_,_=>none
 | .convert s d x=>match env.und s,env.und d,rd tm x with
  |some .string,some (.slice e),some (.string b)=>match env.und e,env.size e with
   |some (.int .u8),some 1=>
    if Nat.ble b.data.toList.length 140737488355328 then
     some (fun k=>.slice (some ⟨k,0,none⟩) b.data.toList.length b.data.toList.length,.row e (b.data.toList.map fun x=>.int .u8 (x.toNat:Int)) 1 false)
    else none
   |_,_=>none
  |_,_,_=>none
 |_=>none
/-- The cells that are appended or copied. -/
def srcCells(h:Heap)(sz:Nat)(n:Option Nat):Value→Option (List Value)
 | .slice none _ _=>some []
 | .slice (some a) l _=>match h.get a.block,a.spot with
  |some (.row _ cells _ _),none=>
   let r:=(cells.drop a.off).take (n.getD l * sz)
   if Nat.beq r.length (n.getD l * sz) then some r else none
  |_,_=>none
 | .string s=>match n with
  |none=>some (s.data.toList.map fun x=>.int .u8 (x.toNat:Int))
  |some m=>some ((s.data.toList.take m).map fun x=>.int .u8 (x.toNat:Int))
 |_=>none
def srcLen:Value→Option Nat
 | .slice _ l _=>some l
 | .string s=>some s.data.toList.length
 |_=>none
def isIntD:TypeDesc→Bool
 | .int _=>true
 |_=>false
/-- append, not of a make. -/
def appendA(env:Env)(h:Heap)(ts:Array TypeId)(s x:Value):Option (Value×Heap):=
 match ts[0]?,ts[1]? with
 |some st,some xt=>
  match env.und st,env.und xt,s with
  |some (.slice e),some dx,.slice base l c=>
   match env.size e,env.bytes e,env.zero e,srcLen x with
   |some sz,some by_,some z,some n=>
    match srcCells h sz none x with
    |some xs=>
     if isIntD dx || Nat.beq sz 0 || !Nat.beq xs.length (n * sz) || !Nat.beq z.cells.size sz then none
     else if Nat.beq n 0 then(if Nat.ble l c then some (s,h) else none)
     else if Nat.ble (l+n) c then
      match base with
      |some ⟨b,o,none⟩=>match storeC h ⟨b,o+l * sz,none⟩ xs with
       |some h'=>some (.slice (some ⟨b,o,none⟩) (l+n) c,h')
       |none=>none
      |_=>none
     else if Nat.ble ((2 * (l+n)+1000) * (by_+1)) 281474976710656 then
      match base with
      |none=>some (.slice (some ⟨h.nx,0,none⟩) (l+n) (l+n),h.alloc (.row e xs sz false))
      |some ⟨b,o,none⟩=>match fullOpen env h e b o c,srcCells h sz (some l) s with
       |some false,some old=>some (.slice (some ⟨h.nx,0,none⟩) (l+n) (l+n),h.alloc (.row e (old++xs) sz false))
       |some true,some old=>match h.get b with
        |some (.row e' _ _ false)=>if Nat.beq e' e && xs.all oneCell && Nat.ble l c && Nat.beq o 0 then some (.slice (some ⟨h.nx,0,none⟩) (l+n) (l+n),(h.kill b).alloc (.row e (old++xs) sz false)) else none
        |_=>none
       |_,_=>none
      |_=>none
     else none
    |none=>none
   |_,_,_,_=>none
  |_,_,_=>none
 |_,_=>none
def copyA(env:Env)(h:Heap)(ts:Array TypeId)(d s:Value):Option (Value×Heap):=
 match ts[0]? with
 |some dt=>match env.und dt,d with
  |some (.slice e),.slice base l _=>match env.size e,srcLen s with
   |some sz,some n=>
    let k:=Nat.min n l
    match srcCells h sz (some k) s with
    |some xs=>match base,xs with
     |_,[]=>some (goInt k,h)
     |none,_=>some (goInt k,h)
     |some a,_=>match storeC h a xs with
      |some h'=>some (goInt k,h')
      |none=>none
    |none=>none
   |_,_=>none
  |_,_=>none
 |none=>none
/-- What an operation that writes memory, or calls, makes; `call`: what calls make. -/
def opE(env:Env)(call:FuncId→List Value→Heap→Option (Value×Heap))(h:Heap)(tm:T Value)(op:Op):Option (Value×Heap):=
 match op with
 | .store t a x=>match rd tm a,rd tm x with
  |some (.pointer (some a)),some v=>match storeV env h t a v with
   |some h'=>some (undef,h')
   |none=>none
  |_,_=>none
 | .mapUpdate t m k x=>match rd tm m,rd tm k,rd tm x with
  |some (.map (some b)),some kv,some v=>match env.und t,h.get b,keyV kv with
   |some (.map kt _),some (.map es),some kn=>if env.key kt kv then
     match findA env kt kn es with
     |some none=>some (undef,h.put b (.map (es++[(kv,v)])))
     |_=>none
    else none
   |_,_,_=>none
  |_,_,_=>none
 | .next it true=>match rd tm it with
  |some (.pointer (some ⟨b,0,none⟩))=>match h.get b with
   |some (.siter s pos)=>
    if pos < s.size then
     let(c,width):=Utf8.decode s pos
     some (.tuple #[.bool true,goInt pos,.int .i32 c],h.put b (.siter s (pos+width)))
    else some (.tuple #[.bool false],h)
   |_=>none
  |_=>none
 | .call ⟨.value f,az,_⟩=>match rd tm f,rds tm az.toList with
  |some (.func (.func g) fi ca),some vs=>match env.fn g with
   |some _=>call g (fi.toList++vs++ca.toList) h
   |none=>match env.ext g with
    |some x=>x.run (fi.toList++vs++ca.toList) h
    |none=>none
  |_,_=>none
 | .call ⟨.builtin .append,az,ts⟩=>match rds tm az.toList with
  |some [s,x]=>appendA env h ts s x
  |_=>none
 | .call ⟨.builtin .copy,az,ts⟩=>match rds tm az.toList with
  |some [d,s]=>copyA env h ts d s
  |_=>none
 |_=>none
structure St where
 tm:T Value
 h:Heap
inductive Ex where
 |normal
 |exit (id:Nat)
 |ret
/-- A value is put into its slot. -/
def putD(nt:Nat)(dst:Option Tmp)(v:Value)(tm:T Value):Option (T Value):=
 match dst with
 |none=>some tm
 |some d=>if Nat.blt d nt then some (tm.put d v) else none
/-- What an operation has yielded as a guard. -/
def guardV(ops:List Oper)(tm:T Value)(j:Nat):Option Bool:=
 match ops[j]? with
 |some o=>match o.dst with
  |some d=>match rdT tm d with
   | .bool b=>some b
   |_=>none
  |none=>none
 |none=>none
def wantedA(ops:List Oper)(tm:T Value)(o:Oper):Bool:=
 match o.guard with
 |none=>true
 |some (j,want)=>match guardV ops tm j with
  |some b=>b==want
  |none=>false
/-- Which kind an operation is of: 0 quiet, 1 it makes an object, 2 it writes or calls. -/
def kindOf(env:Env):Op→Nat
 | .alloc _| .box _ _| .buildSlice .. | .makeSlice .. | .makeMap .. | .range .. =>1
 | .convert s _ _=>match env.und s with
  |some .string=>1
  |_=>0
 | .store .. | .next .. | .mapUpdate .. | .insert .. =>2
 | .call ⟨.builtin .len,_,_⟩| .call ⟨.builtin .cap,_,_⟩| .call ⟨.builtin .min,_,_⟩| .call ⟨.builtin .max,_,_⟩=>0
 | .call _=>2
 |_=>0
variable (env:Env) (call:FuncId→List Value→Heap→Option (Value×Heap)) (nt:Nat)
/-- One operation. -/
def op1(s:St)(o:Oper):Option St:=
 match opQ env s.h s.tm o.op with
 |some v=>match putD nt o.dst v s.tm with
  |some tm=>some ⟨tm,s.h⟩
  |none=>none
 |none=>match opA env s.tm o.op with
  |some (mk,obj)=>match putD nt o.dst (mk s.h.nx) s.tm with
   |some tm=>some ⟨tm,s.h.alloc obj⟩
   |none=>none
  |none=>match opE env call s.h s.tm o.op with
   |some (v,h')=>match putD nt o.dst v s.tm with
    |some tm=>some ⟨tm,h'⟩
    |none=>none
   |none=>none
/-- Operations, in their order. -/
def opsA(ops:List Oper):List Oper→St→Option St
 |[],s=>some s
 |o::l,s=>
  if wantedA ops s.tm o then
   match op1 env call nt s o with
   |some s'=>opsA ops l s'
   |none=>none
  else match putD nt o.dst undef s.tm with
   |some tm=>opsA ops l ⟨tm,s.h⟩
   |none=>none
end Go.PanE
namespace Go.PanE
structure EnvOK(P:Program)(env:Env):Prop where
 und:∀ t d,env.und t=some d→P.underlying t=some d
 size:∀ t n,env.size t=some n→∃ i,P.info? t=some i∧i.size=n
 bytes:∀ t n,env.bytes t=some n→∃ i,P.info? t=some i∧i.bytes=n
 zero:∀ t z,env.zero t=some z→(∃ i,P.info? t=some i∧i.zero=some z)∧∀ μ,VRel μ z z
 fn:∀ f fn,env.fn f=some fn→P.funcs[f]? =some fn∧(fn.name== "runtime.NumGoroutine")=false∧fn.body.isSome=true
 plain:∀ t,env.plain t=true→P.stoodInHeld t=false∧P.eqGuardType P.depth t=false
 key:∀ t v,env.key t v=true→WideMaps.KeyLaw P t∧∃ l,keyOf P t v=some l
 ext:∀ f x,env.ext f=some x→∀ args h v h',x.run args h=some (v,h')→∀ (μ:Loc) (w:World) (args':List Value),Rep μ h w→LRel μ args args'→
  ∃ u ν v',(callFunc f ⟨args'⟩).run P w= .ok (.value v') u∧Go1 μ h w ν h' u∧VRel ν v v'
section
variable {P:Program} {env:Env} {μ:Loc} {h:Heap} {w:World} {tm:T Value} {tmps:Array Value}
theorem EnvOK.runUnd(E:EnvOK P env){t:TypeId}{d:TypeDesc}(e:env.und t=some d)(w:World):(underlying t).run P w= .ok d w:=by
 simp[underlying,E.und t d e]
theorem EnvOK.runInfo(_E:EnvOK P env){t:TypeId}{i:TypeInfo}(e:P.info? t=some i)(w:World):(typeInfo t).run P w= .ok i w:=by
 simp[typeInfo,e]
theorem EnvOK.runSize(E:EnvOK P env){t:TypeId}{n:Nat}(e:env.size t=some n)(w:World):(sizeOf t).run P w= .ok n w:=by
 obtain⟨i,hi,rfl⟩:=E.size t n e
 simp[sizeOf,typeInfo,hi]
theorem EnvOK.runZero(E:EnvOK P env){t:TypeId}{z:Value}(e:env.zero t=some z)(w:World):(zeroValue t).run P w= .ok z w:=by
 obtain⟨⟨i,hi,hz⟩,_⟩:=E.zero t z e
 simp[zeroValue,typeInfo,hi,hz]
theorem EnvOK.runIsAgg(E:EnvOK P env){t:TypeId}{d:TypeDesc}(e:env.und t=some d)(w:World):(isAgg t).run P w= .ok (isAggD d) w:=by
 simp only[isAgg,Sem.run_bind,E.runUnd e,Result.andThen_ok]
 cases d <;>rfl
def TRel(μ:Loc)(tm:T Value)(tmps:Array Value):Prop:=GRel μ∧∀ t,VRel μ (rdT tm t) (tmps.getD t undef)
theorem TRel.mono{ν:Loc}(l:μ.le ν)(r:TRel μ tm tmps):TRel ν tm tmps:=⟨r.1.mono l,fun t=>(r.2 t).mono l⟩
theorem plainV_rel{v:Value}(e:plainV v=true):VRel μ v v:=by
 unfold plainV at e
 split at e
 ·exact .int _ _
 ·exact .bool _
 ·exact .str _
 ·exact .nili
 ·exact .nilf
 ·exact .nilp
 ·exact .nilm
 ·exact .nils
 ·simp at e
theorem rd_ok(R:TRel μ tm tmps){ds:List Deferred}{x:Operand}{v:Value}(e:rd tm x=some v):VRel μ v (Act.eval ⟨tmps,ds⟩ x):=by
 cases x with
 |tmp t=>simp only[rd,Option.some.injEq] at e;subst e;exact R.2 t
 |const v=>
  simp only[rd] at e
  split at e
  ·rename_i hp
   simp only[Option.some.injEq] at e;subst e
   exact plainV_rel hp
  ·simp at e
 |global g=>
  simp only[rd] at e
  split at e
  ·rename_i hg
   simp only[Option.some.injEq] at e;subst e
   obtain⟨p,h1,h2,h3⟩:=R.1 g (by simpa using hg)
   have:=VRel.ptr (μ:=μ) g 0 p h1
   rw[h2,h3] at this
   exact this
  ·simp at e
 |func f=>
  simp only[rd,Option.some.injEq] at e;subst e
  exact .func _ _ _ _ _ rfl (fun i x x' h=>by simp at h) rfl (fun i x x' h=>by simp at h)
theorem rds_ok(R:TRel μ tm tmps){ds:List Deferred}:∀ {l:List Operand} {vs:List Value},rds tm l=some vs→LRel μ vs (l.map (Act.eval ⟨tmps,ds⟩)):=by
 intro l
 induction l with
 |nil=>intro vs e;simp only[rds,Option.some.injEq] at e;subst e;exact .nil
 |cons x l ih=>
  intro vs e
  simp only[rds] at e
  split at e
  ·rename_i v hv
   split at e
   ·rename_i us hu
    simp only[Option.some.injEq] at e;subst e
    exact .cons (rd_ok R hv) (ih hu)
   ·simp at e
  ·simp at e
/-- A row's cell as the world has it. -/
theorem row_cell{p:Place}{e:TypeId}{cells:List Value}{opn:Nat}{ro:Bool}(r:ORel μ w p (.row e cells opn ro)){k:Nat}{v:Value}(hv:cells[k]? =some v):
  ∃ v',w.cell? ⟨p.pb,p.po+k,none⟩=some v'∧VRel μ v v':=by
 obtain⟨arr,fr,h1,h2,h3,h4,h5,h6,h7⟩:=r
 obtain⟨v',hv',rv⟩:=h6.get hv
 refine⟨v',?_,rv⟩
 rw[cell_of_row w p.pb (p.po+k) arr e fr h1]
 rw[List.getElem?_take] at hv'
 split at hv'
 ·rw[List.getElem?_drop] at hv'
  simpa using hv'
 ·simp at hv'
theorem addr_add(b o n:Nat):(⟨b,o,none⟩:Addr).add n=⟨b,o+n,none⟩:=by
 unfold Addr.add;split
 ·rename_i h;subst h;rfl
 ·rfl
/-- Some cells of a row. -/
theorem row_cells_any{p:Place}{e:TypeId}{cells:List Value}{opn:Nat}{ro:Bool}(r:ORel μ w p (.row e cells opn ro)){o n:Nat}(hl:((cells.drop o).take n).length=n):
  ∃ l:List Value,(∀ w1:World,w1.heap=w.heap→(loadCells ⟨p.pb,p.po+o,none⟩ n).run P w1= .ok ⟨l⟩ w1)∧LRel μ ((cells.drop o).take n) l:=by
 have r':=r
 obtain⟨arr,fr,h1,h2,h3,h4,h5,h6,h7⟩:=r'
 have hlen:o+n≤cells.length∨n=0:=by simp at hl;omega
 refine⟨(arr.toList.drop (p.po+o)).take n,?_,?_⟩
 ·intro w1 hw1
  rw[run_loadCells (P:=P) w1 ⟨p.pb,p.po+o,none⟩ n (fun j=>arr.getD (p.po+o+j) undef) ?_]
  ·congr 1
   apply Array.ext'
   apply List.ext_getElem?
   intro j
   rw[List.getElem?_take,List.getElem?_drop]
   by_cases hj:j < n
   ·rw[if_pos hj]
    simp[hj]
    rw[Array.getElem?_eq_getElem (by omega)]
    simp
   ·rw[if_neg hj]
    simp[hj]
  ·intro j hj
   rw[addr_add,cell_of_row w1 p.pb _ arr e fr (by rw[hw1];exact h1)]
   rw[Array.getElem?_eq_getElem (by omega)]
   simp[Array.getD]
   omega
 ·have:=(h6.drop o).take n
  rw[List.drop_take,List.drop_drop] at this
  rw[List.take_take] at this
  rw[show min n (p.size - o)=n by omega] at this
  exact this
theorem row_cells{p:Place}{e:TypeId}{cells:List Value}{opn:Nat}{ro:Bool}(r:ORel μ w p (.row e cells opn ro)){o n:Nat}(hl:((cells.drop o).take n).length=n):
  ∃ l:List Value,(loadCells ⟨p.pb,p.po+o,none⟩ n).run P w= .ok ⟨l⟩ w∧LRel μ ((cells.drop o).take n) l:=by
 obtain⟨l,h1,h2⟩:=row_cells_any (P:=P) r hl
 exact⟨l,h1 w rfl,h2⟩
theorem loadV_ok(E:EnvOK P env)(R:Rep μ h w){t:TypeId}{a:Addr}{v va:Value}(hva:VRel μ (.pointer (some a)) va)(e:loadV env h t a=some v):
  ∃ v',(Instr.loadAt t va).run P w= .ok v' w∧VRel μ v v':=by
 unfold loadV at e
 split at e
 ·rename_i el cells opn ro d n hg hd hn hs
  obtain⟨p,hp,ho⟩:=R.live _ _ hg
  cases hva with
  |ptr b o p' hp'=>
   simp only at hp hs hg
   rw[hp] at hp';simp only[Option.some.injEq] at hp';subst hp'
   split at e
   ·rename_i hag
    simp only at e
    split at e
    ·rename_i hl
     simp only[Option.some.injEq] at e;subst e
     obtain⟨l,hrun,hrel⟩:=row_cells (P:=P) ho (Nat.eq_of_beq_eq_true hl)
     refine⟨.agg ⟨l⟩,?_,LRel.agg.2 hrel⟩
     simp only[Instr.loadAt,Instr.sureAddr,Sem.run_bind,Sem.run_pure,Result.andThen_ok,loadVar,E.runIsAgg hd,hag,if_true,E.runSize hn,hrun]
    ·simp at e
   ·rename_i hag
    have:cells[o]? =some v:=by
     rw[← e];simp only;rw[List.head?_drop]
    obtain⟨v',hv',rv⟩:=row_cell ho this
    refine⟨v',?_,rv⟩
    have hag':isAggD d=false:=by simpa using hag
    simp only[Instr.loadAt,Instr.sureAddr,Sem.run_bind,Sem.run_pure,Result.andThen_ok,loadVar,E.runIsAgg hd,hag',Bool.false_eq_true,if_false,run_load,hv']
 ·simp at e
theorem part_ok(E:EnvOK P env){t:TypeId}{cs cs':Array Value}{off:Nat}{v:Value}(hr:LRel μ cs.toList cs'.toList)(e:partA env t cs off=some v):
  ∃ v',(part t cs' off).run P w= .ok v' w∧VRel μ v v':=by
 unfold partA at e
 split at e
 ·rename_i d n hd hn
  split at e
  ·rename_i hag
   simp only at e
   split at e
   ·rename_i hl
    have hl:=Nat.eq_of_beq_eq_true hl
    simp only[Option.some.injEq] at e;subst e
    refine⟨.agg (cs'.extract off (off+n)),?_,LRel.agg.2 ?_⟩
    ·simp only[part,Sem.run_bind,E.runIsAgg hd,Result.andThen_ok,hag,if_true,E.runSize hn,Sem.run_pure]
    ·have:=(hr.drop off).take n
     simp only[Array.toList_extract,List.extract_eq_take_drop]
     rw[show off+n - off=n by omega]
     exact this
   ·simp at e
  ·rename_i hag
   have hag':isAggD d=false:=by simpa using hag
   rw[List.head?_drop] at e
   obtain⟨v',hv',rv⟩:=hr.get e
   refine⟨v',?_,rv⟩
   simp only[part,Sem.run_bind,E.runIsAgg hd,Result.andThen_ok,hag',Bool.false_eq_true,if_false]
   rw[show cs'[off]? =some v' by simpa using hv']
   rfl
 ·simp at e
theorem ba_eq(a b:ByteArray):(a==b)=(a.data.toList==b.data.toList):=by
 rw[beq_toListBytes,ByteArray.toList_eq,ByteArray.toList_eq]
theorem eqA_ok(E:EnvOK P env):∀ (d:Nat) (t:TypeId) (x y x' y':Value) (r:Bool),VRel μ x x'→VRel μ y y'→eqA env d t x y=some r→
  ∀ D,d≤D→(Op.equalIn D t x' y').run P w= .ok r w:=by
 intro d
 induction d with
 |zero=>intro t x y x' y' r hx hy e;simp[eqA] at e
 |succ d ih=>
  intro t x y x' y' r hx hy e D hD
  obtain⟨D,rfl⟩:∃ k,D=k+1:=⟨D - 1,by omega⟩
  unfold eqA at e
  split at e
  ·rename_i hu
   split at e
   ·simp only[Option.some.injEq] at e;subst e
    cases hx;cases hy
    simp[Op.equalIn,E.runUnd hu]
   ·simp at e
  ·rename_i hu
   split at e
   ·split at e
    ·simp only[Option.some.injEq] at e;subst e
     cases hx;cases hy
     rename_i hk
     simp[Op.equalIn,E.runUnd hu,hk]
    ·simp at e
   ·simp at e
  ·rename_i hu
   split at e
   ·simp only[Option.some.injEq] at e;subst e
    cases hx;cases hy
    simp[Op.equalIn,E.runUnd hu,ba_eq]
   ·simp at e
  ·rename_i hu
   split at e
   ·simp only[Option.some.injEq] at e;subst e
    cases hx;cases hy
    simp[Op.equalIn,E.runUnd hu]
   ·simp only[Option.some.injEq] at e;subst e
    cases hx;cases hy
    simp[Op.equalIn,E.runUnd hu]
   ·simp only[Option.some.injEq] at e;subst e
    cases hx;cases hy
    simp[Op.equalIn,E.runUnd hu]
   ·simp at e
  ·rename_i hu
   split at e
   ·simp only[Option.some.injEq] at e;subst e
    cases hx;cases hy
    simp[Op.equalIn,E.runUnd hu]
   ·simp only[Option.some.injEq] at e;subst e
    cases hx;cases hy
    simp[Op.equalIn,E.runUnd hu]
   ·simp only[Option.some.injEq] at e;subst e
    cases hx;cases hy
    simp[Op.equalIn,E.runUnd hu]
   ·simp at e
  ·rename_i hu
   split at e
   ·simp only[Option.some.injEq] at e;subst e
    cases hx;cases hy
    simp[Op.equalIn,E.runUnd hu]
   ·simp only[Option.some.injEq] at e;subst e
    cases hx;cases hy
    simp[Op.equalIn,E.runUnd hu]
   ·simp only[Option.some.injEq] at e;subst e
    cases hx;cases hy
    simp[Op.equalIn,E.runUnd hu]
   ·simp at e
  ·rename_i fs hu
   split at e
   ·rename_i xs ys
    split at e
    ·rename_i hp
     have hf:P.fieldsOf t=fs:=by simp[Program.fieldsOf,E.und _ _ hu]
     have hl:=E.plain t hp
     have hxl:∃ xs',x'= .agg xs'∧LRel μ xs.toList xs'.toList:=by
      cases hx with
      |agg _ xs' h1 h2=>exact⟨xs',rfl,LRel.agg.1 (.agg _ _ h1 h2)⟩
     have hyl:∃ ys',y'= .agg ys'∧LRel μ ys.toList ys'.toList:=by
      cases hy with
      |agg _ ys' h1 h2=>exact⟨ys',rfl,LRel.agg.1 (.agg _ _ h1 h2)⟩
     obtain⟨xs',rfl,rx⟩:=hxl
     obtain⟨ys',rfl,ry⟩:=hyl
     rw[run_equalIn_struct w D t xs' ys' (by rw[hf];exact E.und _ _ hu) hl.1,hf]
     have key:∀ (l:List Field),eqFieldsA (eqA env d) (partA env) xs ys l=some r→(Op.eqFields D xs' ys' l).run P w= .ok r w:=by
      intro l
      induction l with
      |nil=>intro e;simp only[eqFieldsA,Option.some.injEq] at e;subst e;simp[Op.eqFields]
      |cons f l ihl=>
       intro e
       simp only[eqFieldsA] at e
       split at e
       ·rename_i hn
        split at e
        ·rename_i a b ha hb
         obtain⟨a',ra,va⟩:=part_ok (w:=w) E rx ha
         obtain⟨b',rb,vb⟩:=part_ok (w:=w) E ry hb
         simp only[Op.eqFields,hn,if_true,ne_eq,not_false_eq_true,Sem.run_bind,ra,rb,Result.andThen_ok]
         split at e
         ·rename_i he
          rw[ih f.type a b a' b' true va vb he D (by omega)]
          simp only[Result.andThen_ok,Bool.not_true,Bool.false_eq_true,if_false]
          exact ihl e
         ·rename_i he
          simp only[Option.some.injEq] at e;subst e
          rw[ih f.type a b a' b' false va vb he D (by omega)]
          simp
         ·simp at e
        ·simp at e
       ·simp at e
     exact key _ e
    ·simp at e
   ·simp at e
  ·simp at e
end
end Go.PanE
namespace Go.PanE
section
variable {P:Program} {env:Env} {μ:Loc} {h:Heap} {w:World} {tm:T Value} {tmps:Array Value}
theorem intBin_ok{op:BinOp}{k:IntKind}{x y:Int}{v:Value}(hs:op≠.shl∧op≠.shr)(e:intBin op k x y=some v)(t:TypeId):
  (binOp op t (.int k x) (.int k y)).run P w= .ok v w∧VRel μ v v:=by
 cases op <;>simp only[intBin] at e <;>first
  |(simp at hs;done)
  |(split at e
    ·simp at e
    ·rename_i hy
     simp only[Option.some.injEq] at e;subst e
     exact⟨by simp[binOp,Op.intDiv,hy],.int _ _⟩)
  |(simp only[Option.some.injEq] at e;subst e
    first
     |(refine⟨?_,.int _ _⟩;simp only[binOp,ne_eq,not_true_eq_false,if_false,Op.intArith,Sem.run_pure];done)
     |(refine⟨?_,.int _ _⟩;simp only[binOp,ne_eq,not_true_eq_false,if_false,Op.intBits,Sem.run_pure];done)
     |(refine⟨?_,.bool _⟩;simp only[binOp,ne_eq,not_true_eq_false,if_false,Op.intCmp,Sem.run_pure];done))
theorem strBin_ok{op:BinOp}{x y:ByteArray}{v:Value}(e:strBin op x y=some v)(t:TypeId):
  (binOp op t (.string x) (.string y)).run P w= .ok v w∧VRel μ v v:=by
 cases op <;>simp only[strBin] at e <;>first
  |(simp at e;done)
  |(split at e
    ·simp at e
    ·rename_i hy
     simp only[Option.some.injEq] at e;subst e
     exact⟨by simp only[binOp,Op.stringOp];rw[if_neg hy];rfl,.str _⟩)
  |(simp only[Option.some.injEq] at e;subst e
    exact⟨by simp[binOp,Op.stringOp,ByteArray.toList_eq],.bool _⟩)
theorem eqGuard_ok(E:EnvOK P env){op:BinOp}{t:TypeId}{ox oy:Operand}{x y x' y':Value}(hx:VRel μ x x')(hy:VRel μ y y')
  (e:eqMay env t ox oy x y=true):(eqGuard op t ox oy x' y').run P w= .ok () w:=by
 cases op <;>first
  |rfl
  |(simp only[eqGuard,Bool.not_true,Bool.false_eq_true,if_false]
    split
    ·cases hx;cases hy
     simp only[eqMay,Bool.or_eq_true] at e
     rcases e with e|e
     ·cases ox <;>simp[isConstO] at e
      simp
     ·cases oy <;>simp[isConstO] at e
      simp
    ·cases hx;cases hy
     simp only[eqMay] at e
     simp[(E.plain t e).2]
    ·rfl)
theorem eq2_ok(E:EnvOK P env){t:TypeId}{ox oy:Operand}{x y x' y':Value}{b:Bool}(hx:VRel μ x x')(hy:VRel μ y y')
  (hm:eqMay env t ox oy x y=true) (he:eqA env 20 t x y=some b):
  (eqGuard .eql t ox oy x' y').run P w= .ok () w∧(eqGuard .neq t ox oy x' y').run P w= .ok () w∧(Op.equal t x' y').run P w= .ok b w:=
 ⟨eqGuard_ok E hx hy hm,eqGuard_ok E hx hy hm,eqA_ok E 20 t x y x' y' b hx hy he 10000 (by omega)⟩
theorem bin_ok(E:EnvOK P env){op:BinOp}{t:TypeId}{ox oy:Operand}{x y x' y' v:Value}(hx:VRel μ x x')(hy:VRel μ y y')
  (e:bin env op t ox oy x y=some v):
  ∃ v',(do eqGuard op t ox oy x' y';binOp op t x' y':Sem Value).run P w= .ok v' w∧VRel μ v v':=by
 unfold bin at e
 split at e
 ·rename_i k a k' b
  cases hx;cases hy
  refine⟨v,?_⟩
  have hg:(eqGuard op t ox oy (.int k a) (.int k' b)).run P w= .ok () w:=by
   unfold eqGuard;split <;>rfl
  simp only[Sem.run_bind,hg,Result.andThen_ok]
  split at e
  ·split at e
   ·simp at e
   ·rename_i hb
    simp only[Option.some.injEq] at e;subst e
    exact⟨by simp[binOp,Op.shift,hb],.int _ _⟩
  ·split at e
   ·simp at e
   ·rename_i hb
    simp only[Option.some.injEq] at e;subst e
    exact⟨by simp[binOp,Op.shift,hb],.int _ _⟩
  ·rename_i h1 h2
   split at e
   ·rename_i hk
    subst hk
    exact intBin_ok ⟨h1,h2⟩ e t
   ·simp at e
 ·rename_i a b
  cases hx;cases hy
  refine⟨v,?_⟩
  have hg:(eqGuard op t ox oy (.string a) (.string b)).run P w= .ok () w:=by
   unfold eqGuard;split <;>rfl
  simp only[Sem.run_bind,hg,Result.andThen_ok]
  exact strBin_ok e t
 ·rename_i hi hs
  split at e
  ·split at e
   ·rename_i hm
    split at e
    ·rename_i b he
     simp only[Option.some.injEq] at e;subst e
     obtain⟨g1,g2,g3⟩:=eq2_ok (P:=P) (w:=w) E hx hy hm he
     refine⟨.bool b,?_,.bool b⟩
     simp only[Sem.run_bind,g1,Result.andThen_ok]
     have:binOp .eql t x' y'=(do pure (.bool (← Op.equal t x' y')):Sem Value):=by
      cases hx <;>cases hy <;>first
       |rfl
       |(exfalso;exact hi _ _ _ _ rfl rfl)
       |(exfalso;exact hs _ _ rfl rfl)
     rw[this]
     simp[g3]
    ·simp at e
   ·simp at e
  ·split at e
   ·rename_i hm
    split at e
    ·rename_i b he
     simp only[Option.some.injEq] at e;subst e
     obtain⟨g1,g2,g3⟩:=eq2_ok (P:=P) (w:=w) E hx hy hm he
     refine⟨.bool (!b),?_,.bool _⟩
     simp only[Sem.run_bind,g2,Result.andThen_ok]
     have:binOp .neq t x' y'=(do pure (.bool (!(← Op.equal t x' y'))):Sem Value):=by
      cases hx <;>cases hy <;>first
       |rfl
       |(exfalso;exact hi _ _ _ _ rfl rfl)
       |(exfalso;exact hs _ _ rfl rfl)
     rw[this]
     simp[g3]
    ·simp at e
   ·simp at e
  ·simp at e
theorem un_ok{op:UnOp}{x x' v:Value}(hx:VRel μ x x')(e:un op x=some v):∃ v',(Op.unary op x').run P w= .ok v' w∧VRel μ v v':=by
 unfold un at e
 split at e
 ·cases hx
  simp only[Option.some.injEq] at e;subst e
  exact⟨_,by simp[Op.unary,Op.intArith],.int _ _⟩
 ·cases hx
  simp only[intBin,Option.some.injEq] at e;subst e
  exact⟨_,by simp only[Op.unary,Op.intBits];rfl,.int _ _⟩
 ·cases hx
  simp only[Option.some.injEq] at e;subst e
  exact⟨_,by simp[Op.unary],.bool _⟩
 ·simp at e
theorem fieldAddr_ok(E:EnvOK P env){t:TypeId}{x x' v:Value}{f:Nat}(hx:VRel μ x x')(e:fieldAddrA env t x f=some v):
  ∃ v',(Instr.fieldAt t x' f).run P w= .ok v' w∧VRel μ v v':=by
 unfold fieldAddrA at e
 split at e
 ·rename_i fs b o hu
  split at e
  ·rename_i fl hf
   split at e
   ·rename_i n hn
    split at e
    ·simp at e
    ·rename_i hn0
     simp only[Option.some.injEq] at e;subst e
     cases hx with
     |ptr _ _ p hp=>
      refine⟨.pointer (some ⟨p.pb,p.po+(o+fl.offset),none⟩),?_,.ptr _ _ p hp⟩
      simp[Instr.fieldAt,E.runUnd hu,hf,Instr.sureAddr,fieldPlace,E.runSize hn,hn0,addr_add,Nat.add_assoc]
   ·simp at e
  ·simp at e
 ·simp at e
theorem indexAddr_ok(E:EnvOK P env){t:TypeId}{x x' i i' v:Value}(hx:VRel μ x x')(hi:VRel μ i i')(e:indexAddrA env t x i=some v):
  ∃ v',(Instr.indexAt t x' i').run P w= .ok v' w∧VRel μ v v':=by
 unfold indexAddrA at e
 split at e
 ·rename_i el b o len cap k n hu
  split at e
  ·rename_i s hs
   split at e
   ·rename_i hb
    simp only[Option.some.injEq] at e;subst e
    cases hi
    cases hx with
    |slice _ _ _ _ c' p hp hc=>
     refine⟨.pointer (some ⟨p.pb,p.po+(o+n.toNat * s),none⟩),?_,.ptr _ _ p hp⟩
     simp[Instr.indexAt,asIntOf,E.runUnd hu,hb,E.runSize hs,addr_add,Nat.add_assoc]
   ·simp at e
  ·simp at e
 ·rename_i len el b o k n hu
  split at e
  ·rename_i s hs
   split at e
   ·rename_i hb
    simp only[Option.some.injEq] at e;subst e
    cases hi
    cases hx with
    |ptr _ _ p hp=>
     refine⟨.pointer (some ⟨p.pb,p.po+(o+n.toNat * s),none⟩),?_,.ptr _ _ p hp⟩
     simp[Instr.indexAt,asIntOf,E.runUnd hu,hb,E.runSize hs,addr_add,Nat.add_assoc,Instr.sureAddr]
   ·simp at e
  ·simp at e
 ·simp at e
theorem field_ok(E:EnvOK P env){t:TypeId}{x x' v:Value}{f:Nat}(hx:VRel μ x x')(e:fieldA env t x f=some v):
  ∃ v',(Instr.field t x' f).run P w= .ok v' w∧VRel μ v v':=by
 unfold fieldA at e
 split at e
 ·rename_i fs cs hu
  split at e
  ·rename_i fl hf
   cases hx with
   |agg _ cs' h1 h2=>
    obtain⟨v',hr,rv⟩:=part_ok (w:=w) E (LRel.agg.1 (.agg _ _ h1 h2)) e
    exact⟨v',by simp[Instr.field,E.runUnd hu,hf,asAgg,hr],rv⟩
  ·simp at e
 ·simp at e
theorem index_ok(E:EnvOK P env){t:TypeId}{x x' i i' v:Value}(hx:VRel μ x x')(hi:VRel μ i i')(e:indexA env t x i=some v):
  ∃ v',(Instr.index t x' i').run P w= .ok v' w∧VRel μ v v':=by
 unfold indexA at e
 split at e
 ·rename_i s k n hu
  split at e
  ·rename_i hn
   split at e
   ·rename_i b hb
    simp only[Option.some.injEq] at e;subst e
    cases hi;cases hx
    rw[List.head?_drop] at hb
    have hb':s[n.toNat]? =some b:=by
     obtain⟨⟨l⟩⟩:=s
     simp only at hb
     obtain⟨hlt,hv⟩:=List.getElem?_eq_some_iff.1 hb
     show(if h:n.toNat < l.length then some l[n.toNat] else none)=some b
     rw[dif_pos hlt,hv]
    exact⟨.int .u8 b.toNat,by simp[Instr.index,asIntOf,E.runUnd hu,hn,hb'],.int _ _⟩
   ·simp at e
  ·simp at e
 ·rename_i len el cs k n hu
  split at e
  ·rename_i s hs
   split at e
   ·rename_i hb
    cases hi
    cases hx with
    |agg _ cs' h1 h2=>
     obtain⟨v',hr,rv⟩:=part_ok (w:=w) E (LRel.agg.1 (.agg _ _ h1 h2)) e
     exact⟨v',by simp[Instr.index,asIntOf,E.runUnd hu,hb,E.runSize hs,hr],rv⟩
   ·simp at e
  ·simp at e
 ·simp at e
theorem extract_ok{x x' v:Value}{i:Nat}(hx:VRel μ x x')(e:extractA x i=some v):∃ v',(Instr.extract x' i).run P w= .ok v' w∧VRel μ v v':=by
 unfold extractA at e
 split at e
 ·cases hx with
  |tuple _ xs' h1 h2=>
   obtain⟨v',hv,rv⟩:=(LRel.tuple.1 (.tuple _ _ h1 h2)).get e
   exact⟨v',by simp at hv;simp[Instr.extract,hv],rv⟩
 ·simp at e
end
end Go.PanE
namespace Go.PanE
section
variable {P:Program} {env:Env} {μ:Loc} {h:Heap} {w:World} {tm:T Value} {tmps:Array Value}
/-- A bound that may be missing. -/
def BRel(μ:Loc)(v:Option (Option Value))(v':Option Value):Prop:=(v=none∧v'=none)∨(v=some none∧v'.isSome=true)∨∃ x x',v=some (some x)∧v'=some x'∧VRel μ x x'
theorem BRel.of(R:TRel μ tm tmps){ds:List Deferred}(x:Option Operand):BRel μ (x.map (rd tm)) (x.map (Act.eval ⟨tmps,ds⟩)):=by
 cases x with
 |none=>exact .inl ⟨rfl,rfl⟩
 |some x=>
  simp only[Option.map_some]
  cases e:rd tm x with
  |none=>exact .inr (.inl ⟨rfl,rfl⟩)
  |some v=>exact .inr (.inr ⟨v,_,rfl,rfl,rd_ok R e⟩)
theorem sliceBound_ok{v:Option (Option Value)}{x:Value}{most most' dflt n:Nat}{code:BoundsCode}(hv:BRel μ v (some x))(e:boundA v most dflt=some n)(hm:most≤most'):
  (Instr.sliceBound x most' code).run P w= .ok n w∧n≤most:=by
 rcases hv with⟨_,h⟩|⟨h,_⟩|⟨a,a',h,h',r⟩
 ·simp at h
 ·subst h;simp[boundA] at e
 ·subst h
  simp only[Option.some.injEq] at h';subst h'
  unfold boundA at e
  split at e
  ·simp_all
  ·rename_i k i heq
   simp only[Option.some.injEq] at heq;subst heq
   cases r
   split at e
   ·rename_i hb
    simp only[Option.some.injEq] at e;subst e
    refine⟨?_,by omega⟩
    have hb':0≤i∧i≤(most':Int):=⟨hb.1,by omega⟩
    simp[Instr.sliceBound,asIntOf,hb']
   ·simp at e
  ·simp at e
theorem BRel.none_iff{v:Option (Option Value)}(r:BRel μ v none):v=none:=by
 rcases r with⟨h,_⟩|⟨_,h⟩|⟨_,_,_,h,_⟩ <;>simp_all
theorem BRel.some_iff{v:Option (Option Value)}{x:Value}(r:BRel μ v (some x)):∃ y,v=some y:=by
 rcases r with⟨_,h⟩|⟨h,_⟩|⟨_,_,h,_,_⟩ <;>simp_all
/-- All three bounds. -/
theorem sliceBounds_ok{isSlice:Bool}{lo hi mx:Option (Option Value)}{lo' hi' mx':Option Value}{len cap cap' m hh l:Nat}(hc:cap≤cap')
  (rl:BRel μ lo lo') (rh:BRel μ hi hi') (rm:BRel μ mx mx') (em:boundA mx cap cap=some m)
  (eh:highA mx hi m cap len=some hh) (el:boundA lo hh 0=some l):
  (Instr.sliceBounds isSlice len cap' lo' hi' mx').run P w= .ok (l,hh,if mx.isNone then cap' else m) w∧l≤hh:=by
 have lle:l≤hh:=by
  cases lo' with
  |none=>rw[rl.none_iff] at el;simp[boundA] at el;omega
  |some v'=>exact(sliceBound_ok (P:=P) (w:=w) (code:=.sliceB) rl el (Nat.le_refl _)).2
 refine⟨?_,lle⟩
 have low:∀ code v,lo'=some v→(Instr.sliceBound v hh code).run P w= .ok l w:=by
  intro code v hv
  subst hv
  exact(sliceBound_ok rl el (Nat.le_refl _)).1
 have low0:lo'=none→l=0:=by
  intro hv
  subst hv
  rw[rl.none_iff] at el;simp[boundA] at el;omega
 unfold Instr.sliceBounds
 cases mx' with
 |none=>
  have hmx:=rm.none_iff
  subst hmx
  simp only[highA] at eh
  cases hi' with
  |none=>
   have hhi:=rh.none_iff
   subst hhi
   simp only[boundA,Option.some.injEq] at eh;subst eh
   cases lo' with
   |none=>simp[low0 rfl]
   |some v=>simp[low _ v rfl]
  |some v=>
   have:=(sliceBound_ok (P:=P) (w:=w) (code:=if isSlice then .sliceAcap else .sliceAlen) rh eh hc).1
   cases lo' with
   |none=>simp[low0 rfl,this]
   |some v=>simp[low _ v rfl,this]
 |some vm=>
  obtain⟨xm,rfl⟩:=rm.some_iff
  have hm1:=(sliceBound_ok (P:=P) (w:=w) (code:=if isSlice then .slice3Acap else .slice3Alen) rm em hc).1
  cases hi' with
  |none=>
   have hhi:=rh.none_iff
   subst hhi
   simp[highA] at eh
  |some v=>
   obtain⟨xh,rfl⟩:=rh.some_iff
   simp only[highA] at eh
   have:=(sliceBound_ok (P:=P) (w:=w) (code:=.slice3B) rh eh (Nat.le_refl _)).1
   cases lo' with
   |none=>simp[low0 rfl,this,hm1]
   |some v=>simp[low _ v rfl,this,hm1]
theorem ba_extract(s:ByteArray)(l n:Nat):s.extract l n=⟨⟨(s.data.toList.drop l).take (n - l)⟩⟩:=by
 obtain⟨⟨a⟩⟩:=s
 apply ByteArray.ext
 simp
theorem fullOpen_ok(E:EnvOK P env)(R:Rep μ h w){e:TypeId}{b o c c':Nat}{p:Place}{fo:Bool}{s:Nat}(hp:μ b=some p)(hc:p.capOk o c c')
  (hs:env.size e=some s) (ef:fullOpen env h e b o c=some fo):
  (fo=false→c'=c)∧(fo=true→p.es=s∧s≠0∧o+c * s=p.size):=by
 have _:=E
 unfold fullOpen at ef
 split at ef
 ·rename_i el cells es ro s' hg hs'
  rw[hs] at hs';simp only[Option.some.injEq] at hs';subst hs'
  obtain⟨q,hq,ho⟩:=R.live _ _ hg
  rw[hp] at hq;simp only[Option.some.injEq] at hq;subst hq
  obtain⟨arr,fr,h1,h2,h3,h4,h5,h6,h7⟩:=ho
  split at ef
  ·rename_i he0
   simp only[Option.some.injEq] at ef;subst ef
   refine⟨fun _=>?_,fun h=>by simp at h⟩
   rcases hc with hc|⟨hc,_⟩
   ·exact hc
   ·omega
  ·rename_i he0
   split at ef
   ·rename_i hes
    simp only[Option.some.injEq] at ef
    subst hes
    refine⟨fun hf=>?_,fun hf=>?_⟩
    ·rcases hc with hc|⟨_,hc2,_⟩
     ·exact hc
     ·rw[hf] at ef
      rw[h3] at hc2
      rw[hc2,h2] at ef
      simp at ef
    ·rw[hf] at ef
     have:=Nat.eq_of_beq_eq_true ef
     exact⟨h3,he0,by omega⟩
   ·simp at ef
 ·simp at ef
theorem slice_ok(E:EnvOK P env)(R:Rep μ h w){t:TypeId}{x x' v:Value}{lo hi mx:Option (Option Value)}{lo' hi' mx':Option Value}(hx:VRel μ x x')
  (rl:BRel μ lo lo') (rh:BRel μ hi hi') (rm:BRel μ mx mx') (e:sliceA env h t x lo hi mx=some v):
  ∃ v',(Instr.sliceAt t x' lo' hi' mx').run P w= .ok v' w∧VRel μ v v':=by
 unfold sliceA at e
 split at e
 · -- a text
  rename_i s hu
  cases hx
  split at e
  ·simp at e
  ·have hmx:mx'=none:=by cases mx' <;>simp_all [BRel]
   subst hmx
   split at e
   ·rename_i hh eh
    split at e
    ·rename_i l el
     simp only[Option.some.injEq] at e;subst e
     have hsz:s.data.toList.length=s.size:=by simp
     rw[hsz] at eh
     have hb:=(sliceBounds_ok (P:=P) (w:=w) (isSlice:=false) (cap:=s.size) (m:=s.size) (Nat.le_refl _) rl rh (.inl ⟨rfl,rfl⟩) rfl (by simpa[highA] using eh) el).1
     refine⟨_,?_,.str _⟩
     simp[Instr.sliceAt,E.runUnd hu,Instr.slice,hb,ba_extract]
    ·simp at e
   ·simp at e
 · -- the nil slice
  rename_i el len cap hu
  cases hx
  split at e
  ·simp at e
  ·simp at e
  ·rename_i sz hsz
   have hmx:mx'=none:=by cases mx' <;>simp_all [BRel]
   subst hmx
   split at e
   ·rename_i hh eh
    split at e
    ·rename_i l el2
     split at e
     ·rename_i hl
      split at e
      ·rename_i hh0
       simp only[Option.some.injEq] at e;subst e
       subst hl;subst hh0
       have hb:=(sliceBounds_ok (P:=P) (w:=w) (isSlice:=true) (cap:=0) (m:=0) (Nat.le_refl _) rl rh (.inl ⟨rfl,rfl⟩) rfl (by simpa[highA] using eh) el2).1
       refine⟨.slice none 0 0,?_,.nils⟩
       simp[Instr.sliceAt,E.runUnd hu,Instr.slice,hb,E.runSize hsz]
      ·simp at e
     ·simp at e
    ·simp at e
   ·simp at e
 · -- a slice
  rename_i el b o len cap hu
  split at e
  ·rename_i m fo s em ef hs
   split at e
   ·rename_i hh eh
    split at e
    ·rename_i l el2
     split at e
     ·simp at e
     ·rename_i hamb
      split at e
      ·simp at e
      rename_i hhm0
      have hhm:hh≤m:=by simpa using hhm0
      simp only[Option.some.injEq] at e;subst e
      cases hx with
      |slice _ _ _ _ c' p hp hc=>
       have hcc:cap≤c':=by rcases hc with hc|⟨_,_,hc,_⟩ <;>omega
       obtain⟨hb,hlh⟩:=sliceBounds_ok (P:=P) (w:=w) (isSlice:=true) hcc rl rh rm em eh el2
       obtain⟨f1,f2⟩:=fullOpen_ok E R hp hc hs ef
       simp only[Instr.sliceAt,Sem.run_bind,E.runUnd hu,Result.andThen_ok,Instr.slice,hb,E.runSize hs,Sem.run_pure,Option.map_some]
       refine⟨_,rfl,?_⟩
       by_cases hf:fo=true∧mx=none
       ·obtain⟨hf,hm0⟩:=hf
        subst hm0
        simp only[boundA,Option.some.injEq] at em
        obtain⟨hes,hs0,hfull⟩:=f2 hf
        simp only[hf,Option.isNone_none,Bool.true_and,Bool.and_eq_true,Bool.not_eq_true',not_and,Bool.not_eq_false] at hamb
        have hml:m=l→l=0:=by
         intro hml
         have:=hamb (by rw[hml];exact Nat.beq_refl l)
         exact Nat.eq_of_beq_eq_true this
        have hcap2:c'=cap∨(cap≤c'∧o+c' * p.es≤p.size+p.extra):=by
         rcases hc with hc|⟨_,_,hc,hc2⟩
         ·exact .inl hc
         ·exact .inr ⟨hc,hc2⟩
        subst em
        have hlm:l≤cap:=Nat.le_trans hlh hhm
        have e1:∀ k,l≤k→l * s+(k - l) * s=k * s:=fun k hk=>by rw[← Nat.add_mul];congr 1;omega
        simp only[Option.isNone_none,if_true]
        by_cases hl0:l=0
        ·subst hl0
         simp only[Nat.zero_mul,Nat.add_zero,Nat.sub_zero,ite_self]
         rw[addr_add]
         simp only[Nat.add_zero,ite_self]
         exact .slice _ _ _ _ _ p hp hc
        ·rw[if_neg (fun hh=>hl0 (hml hh)),if_neg (by have:=fun hh=>hl0 (hml hh);omega),addr_add,Nat.add_assoc]
         refine .slice _ _ _ _ _ p hp ?_
         rcases hcap2 with hc|⟨hc1,hc2⟩
         ·left;omega
         ·right
          have g1:=e1 cap hlm
          have g2:=e1 c' (by omega)
          rw[hes] at hc2 ⊢
          exact⟨hs0,by omega,by omega,by omega⟩
       ·have hcm:(if mx.isNone=true then c' else m)=m:=by
         cases mx with
         |none=>
          have:fo=false:=by cases fo <;>simp_all
          have:=f1 this
          simp only[boundA,Option.some.injEq] at em
          simp;omega
         |some _=>simp
        rw[hcm]
        by_cases hml:m=l
        ·rw[if_pos hml,if_pos hml]
         exact .slice _ _ _ _ _ p hp (.inl rfl)
        ·rw[if_neg hml,if_neg hml,addr_add,Nat.add_assoc]
         exact .slice _ _ _ _ _ p hp (.inl rfl)
    ·simp at e
   ·simp at e
  ·simp at e
 · -- an array's cells
  rename_i n el b o hu
  split at e
  ·rename_i m s ec cells ro em hs hg
   split at e
   ·rename_i hh eh
    split at e
    ·rename_i l el2
     simp only[Option.some.injEq] at e;subst e
     cases hx with
     |ptr _ _ p hp=>
      obtain⟨hb,hlh⟩:=sliceBounds_ok (P:=P) (w:=w) (isSlice:=false) (Nat.le_refl n) rl rh rm em eh el2
      simp only[Instr.sliceAt,Sem.run_bind,E.runUnd hu,Result.andThen_ok,Instr.sureAddr,hb,E.runSize hs,Sem.run_pure]
      refine⟨_,rfl,?_⟩
      have hcm:(if mx.isNone=true then n else m)=m:=by
       cases mx with
       |none=>simp only[boundA,Option.some.injEq] at em;simp;omega
       |some _=>simp
      rw[hcm]
      by_cases hml:m=l
      ·rw[if_pos hml,if_pos hml]
       exact .slice _ _ _ _ _ p hp (.inl rfl)
      ·rw[if_neg hml,if_neg hml,addr_add,Nat.add_assoc]
       exact .slice _ _ _ _ _ p hp (.inl rfl)
    ·simp at e
   ·simp at e
  ·simp at e
 ·simp at e
theorem bytesOf_ok:∀ {l:List Value} {bs:List UInt8} {l':List Value} (acc:ByteArray),bytesOf l=some bs→LRel μ l l'→
  (forIn (m:=Sem) l' acc (fun c s=>match c with
   | .int .u8 n=>pure (.yield (s.push (UInt8.ofNat n.toNat)))
   |_=>do
    stuck "bytesToString: byte expected"
    pure (.yield s))).run P w= .ok ⟨⟨acc.data.toList++bs⟩⟩ w:=by
 intro l
 induction l with
 |nil=>
  intro bs l' acc e r
  simp only[bytesOf,Option.some.injEq] at e;subst e
  have:l'=[]:=by have:=r.1;simpa using this.symm
  subst this
  simp
 |cons x l ih=>
  intro bs l' acc e r
  cases l' with
  |nil=>have:=r.1;simp at this
  |cons y l'=>
   have hxy:VRel μ x y:=r.2 0 x y rfl rfl
   have hr:LRel μ l l':=⟨by have:=r.1;simpa using this,fun i a b ha hb=>r.2 (i+1) a b (by simpa using ha) (by simpa using hb)⟩
   unfold bytesOf at e
   split at e
   ·rename_i heq;simp at heq
   ·rename_i n l2 heq
    simp only[List.cons.injEq] at heq
    obtain⟨rfl,rfl⟩:=heq
    split at e
    ·rename_i r' hr'
     simp only[Option.some.injEq] at e;subst e
     cases hxy
     simp only[List.forIn_cons,Sem.run_bind,Sem.run_pure,Result.andThen_ok]
     rw[ih (acc.push (UInt8.ofNat n.toNat)) hr' hr]
     simp[ByteArray.push]
    ·simp at e
   ·simp at e
theorem conv_ok(E:EnvOK P env)(R:Rep μ h w){s d:TypeId}{x x' v:Value}(hx:VRel μ x x')(e:conv env h s d x=some v):
  ∃ v',(convert s d x').run P w= .ok v' w∧VRel μ v v':=by
 unfold conv at e
 split at e
 ·rename_i ds k k' n hs hd
  simp only[Option.some.injEq] at e;subst e
  cases hx
  refine⟨_,?_,.int _ _⟩
  simp only[convert,Sem.run_bind,E.runUnd hs,E.runUnd hd,Result.andThen_ok]
  cases ds <;>simp[Conv.intToInt]
 ·rename_i ds b hs hd
  simp only[Option.some.injEq] at e;subst e
  cases hx
  refine⟨_,?_,.str _⟩
  simp only[convert,Sem.run_bind,E.runUnd hs,E.runUnd hd,Result.andThen_ok]
  cases ds <;>simp
 ·rename_i el l c hs hd
  split at e
  ·rename_i he
   simp only[Option.some.injEq] at e;subst e
   cases hx
   refine⟨_,?_,.str _⟩
   simp only[convert,Sem.run_bind,E.runUnd hs,E.runUnd hd,Result.andThen_ok,E.runUnd he]
   simp[Conv.bytesToString]
  ·simp at e
 ·rename_i el a n c hs hd
  split at e
  ·rename_i ec cells opn ro he hg hsp
   simp only at e
   split at e
   ·rename_i hl
    split at e
    ·rename_i bs hbs
     simp only[Option.some.injEq] at e;subst e
     cases hx with
     |slice b o _ _ c' p hp hc=>
      obtain⟨q,hq,ho⟩:=R.live _ _ hg
      simp only at hq
      rw[hp] at hq;simp only[Option.some.injEq] at hq;subst hq
      obtain⟨l,hrun,hrel⟩:=row_cells (P:=P) ho (Nat.eq_of_beq_eq_true hl)
      refine⟨_,?_,.str _⟩
      simp only[convert,Sem.run_bind,E.runUnd hs,E.runUnd hd,Result.andThen_ok,E.runUnd he,Conv.bytesToString,hrun]
      rw[← Array.forIn_toList]
      have:=bytesOf_ok (P:=P) (w:=w) .empty hbs hrel
      refine(congrArg (fun r=>Result.andThen r fun a w'=>Sem.run P (pure (Value.string a)) w') (Eq.trans ?_ this)).trans ?_
      ·congr 1
      ·simp
    ·simp at e
   ·simp at e
  ·simp at e
 ·simp at e
end
end Go.PanE
