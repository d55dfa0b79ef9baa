/-
 Part 2 of the proof of Rows.DumpLinesCardSaid. No conditions.
-/
import Derived.Calls
import Derived.Laws.Cells
import Derived.Laws.Rows
namespace Go.PanE
inductive T(α:Type) where
 |nil
 |node (l:T α) (v:Option α) (r:T α)
namespace T
variable {α:Type}
def get:T α→Nat→Option α
 | .nil,_=>none
 | .node l v r,n=>bif Nat.beq n 0 then v else bif Nat.beq (n % 2) 1 then get l (n / 2) else get r (n / 2 - 1)
def set:Nat→T α→Nat→Option α→T α
 |0,t,_,_=>t
 |d+1,.nil,n,x=>bif Nat.beq n 0 then .node .nil x .nil else bif Nat.beq (n % 2) 1 then .node (set d .nil (n / 2) x) none .nil else .node .nil none (set d .nil (n / 2 - 1) x)
 |d+1,.node l v r,n,x=>bif Nat.beq n 0 then .node l x r else bif Nat.beq (n % 2) 1 then .node (set d l (n / 2) x) v r else .node l v (set d r (n / 2 - 1) x)
theorem beq_false{n m:Nat}(h:n≠m):Nat.beq n m=false:=by
 cases e:Nat.beq n m
 ·rfl
 ·exact absurd (Nat.eq_of_beq_eq_true e) h
theorem beq_self(n:Nat):Nat.beq n n=true:=Nat.beq_refl n
@[simp] theorem get_nil(n:Nat):get (.nil:T α) n=none:=rfl
theorem get_odd(l r:T α)(v:Option α)(n:Nat)(h:n % 2=1):get (.node l v r) n=get l (n / 2):=by
 have h0:n≠0:=by omega
 simp only[get,beq_false h0,h,beq_self,cond_true,cond_false]
theorem get_even(l r:T α)(v:Option α)(n:Nat)(h0:n≠0)(h:n % 2≠1):get (.node l v r) n=get r (n / 2 - 1):=by
 simp only[get,beq_false h0,beq_false h,cond_false]
theorem get_set(x:Option α):∀ (d:Nat) (t:T α) (n m:Nat),n < 2 ^ d - 1→get (set d t n x) m=if m=n then x else get t m:=by
 intro d
 induction d with
 |zero=>intro t n m h;simp at h
 |succ d ih=>
  intro t n m h
  have hp:2 ^ (d+1)=2 * 2 ^ d:=by rw[Nat.pow_succ];omega
  have hp1:1≤2 ^ d:=Nat.one_le_two_pow
  by_cases n0:n=0
  ·subst n0
   by_cases m0:m=0
   ·subst m0
    cases t <;>rfl
   ·rw[if_neg m0]
    cases t with
    |nil=>
     show get (.node .nil x .nil) m=none
     by_cases mo:m % 2=1
     ·rw[get_odd _ _ _ _ mo];rfl
     ·rw[get_even _ _ _ _ m0 mo];rfl
    |node l v r=>
     show get (.node l x r) m=get (.node l v r) m
     by_cases mo:m % 2=1
     ·rw[get_odd _ _ _ _ mo,get_odd _ _ _ _ mo]
     ·rw[get_even _ _ _ _ m0 mo,get_even _ _ _ _ m0 mo]
  ·by_cases no:n % 2=1
   ·have hn:n / 2 < 2 ^ d - 1:=by omega
    have key:∀ l r:T α,∀ v,get (.node (set d l (n / 2) x) v r) m=if m=n then x else get (.node l v r) m:=by
     intro l r v
     by_cases m0:m=0
     ·subst m0;rw[if_neg (by omega)];rfl
     by_cases mo:m % 2=1
     ·rw[get_odd _ _ _ _ mo,get_odd _ _ _ _ mo,ih l (n / 2) (m / 2) hn]
      by_cases e:m=n
      ·subst e;simp
      ·rw[if_neg e,if_neg (by omega)]
     ·rw[get_even _ _ _ _ m0 mo,get_even _ _ _ _ m0 mo,if_neg (by omega)]
    cases t with
    |nil=>
     have:=key .nil .nil none
     rw[show set (d+1) (.nil:T α) n x= .node (set d .nil (n / 2) x) none .nil by simp only[set,beq_false n0,no,beq_self,cond_true,cond_false],this]
     congr 1
     by_cases m0:m=0
     ·subst m0;rfl
     by_cases mo:m % 2=1
     ·rw[get_odd _ _ _ _ mo];rfl
     ·rw[get_even _ _ _ _ m0 mo];rfl
    |node l v r=>
     rw[show set (d+1) (.node l v r:T α) n x= .node (set d l (n / 2) x) v r by simp only[set,beq_false n0,no,beq_self,cond_true,cond_false]]
     exact key l r v
   ·have hn:n / 2 - 1 < 2 ^ d - 1:=by omega
    have key:∀ l r:T α,∀ v,get (.node l v (set d r (n / 2 - 1) x)) m=if m=n then x else get (.node l v r) m:=by
     intro l r v
     by_cases m0:m=0
     ·subst m0;rw[if_neg (by omega)];rfl
     by_cases mo:m % 2=1
     ·rw[get_odd _ _ _ _ mo,get_odd _ _ _ _ mo,if_neg (by omega)]
     ·rw[get_even _ _ _ _ m0 mo,get_even _ _ _ _ m0 mo,ih r (n / 2 - 1) (m / 2 - 1) hn]
      by_cases e:m=n
      ·subst e;simp
      ·rw[if_neg e,if_neg (by omega)]
    cases t with
    |nil=>
     have:=key .nil .nil none
     rw[show set (d+1) (.nil:T α) n x= .node .nil none (set d .nil (n / 2 - 1) x) by simp only[set,beq_false n0,beq_false no,cond_false],this]
     congr 1
     by_cases m0:m=0
     ·subst m0;rfl
     by_cases mo:m % 2=1
     ·rw[get_odd _ _ _ _ mo];rfl
     ·rw[get_even _ _ _ _ m0 mo];rfl
    |node l v r=>
     rw[show set (d+1) (.node l v r:T α) n x= .node l v (set d r (n / 2 - 1) x) by simp only[set,beq_false n0,beq_false no,cond_false]]
     exact key l r v
def put(t:T α)(n:Nat)(x:α):T α:=set (Nat.log2 n+2) t n (some x)
def drop(t:T α)(n:Nat):T α:=set (Nat.log2 n+2) t n none
theorem deep(n:Nat):n < 2 ^ (Nat.log2 n+2) - 1:=by
 have h:n < 2 ^ (Nat.log2 n+1):=Nat.lt_log2_self
 have e:2 ^ (Nat.log2 n+2)=2 * 2 ^ (Nat.log2 n+1):=by rw[Nat.pow_succ];omega
 omega
theorem set_set(x y:Option α):∀ (d:Nat) (t:T α) (n:Nat),set d (set d t n x) n y=set d t n y:=by
 intro d
 induction d with
 |zero=>intro t n;rfl
 |succ d ih=>
  intro t n
  cases h0:Nat.beq n 0
  ·cases h1:Nat.beq (n % 2) 1
   ·cases t <;>simp only[set,h0,h1,cond_false,ih]
   ·cases t <;>simp only[set,h0,h1,cond_true,cond_false,ih]
  ·cases t <;>simp only[set,h0,cond_true]
theorem put_put(t:T α)(n:Nat)(x y:α):(t.put n x).put n y=t.put n y:=set_set _ _ _ _ _
theorem get_put(t:T α)(n m:Nat)(x:α):(t.put n x).get m=if m=n then some x else t.get m:=get_set (some x) _ t n m (deep n)
theorem get_drop(t:T α)(n m:Nat):(t.drop n).get m=if m=n then none else t.get m:=get_set none _ t n m (deep n)
end T
theorem sJ{α:Type _}(a b:α):(some a=some b)=(a=b):=Option.some.injEq a b
theorem pJ{α β:Type _}(a:α)(b:β)(c:α)(d:β):((a,b)=(c,d))=(a=c∧b=d):=Prod.mk.injEq a b c d
theorem lC{α:Type _}{a:α}{l:List α}:(a::l).length=l.length+1:=List.length_cons
theorem lN{α:Type _}:([]:List α).length=0:=rfl
theorem lA{α:Type _}{l m:List α}:(l++m).length=l.length+m.length:=List.length_append
theorem nL_(n:Nat):n≤n:=Nat.le_refl n
theorem nS(n:Nat):n<n+1:=Nat.lt_succ_self n
theorem nT{a b c:Nat}(h:a≤b)(g:b≤c):a≤c:=Nat.le_trans h g
theorem nU{a b c:Nat}(h:a<b)(g:b≤c):a<c:=Nat.lt_of_lt_of_le h g
theorem dT{p:Prop}[inst:Decidable p](h:p):decide p=true:=decide_eq_true h
theorem dF{p:Prop}[inst:Decidable p](h:¬p):decide p=false:=decide_eq_false h
theorem bA(a b:Bool):((a&&b)=true)=(a=true∧b=true):=Bool.and_eq_true a b
theorem nB_{a b:Nat}(h:Nat.beq a b=true):a=b:=Nat.eq_of_beq_eq_true h
abbrev Bsy:=List UInt8
abbrev Vs:=List Value
abbrev OA:=Option Addr
abbrev BA:=ByteArray
structure Place where
 pb:Nat
 po:Nat
 size:Nat
 extra:Nat
 es:Nat
 ob:Option Obj
abbrev Loc:=Nat→Option Place
def Loc.le(μ ν:Loc):Prop:=∀ b p,μ b=some p→ν b=some p
theorem Loc.le_refl(μ:Loc):μ.le μ:=fun _ _ h=>h
theorem Loc.le_trans{μ ν ξ:Loc}(h:μ.le ν)(g:ν.le ξ):μ.le ξ:=fun b p e=>g b p (h b p e)
def Place.capOk(p:Place)(o c c':Nat):Prop:=c'=c∨(p.es≠0∧o+c * p.es=p.size∧c≤c'∧o+c' * p.es≤p.size+p.extra)
inductive VRel(μ:Loc):Value→Value→Prop
 |bool (b:Bool):VRel μ (.bool b) (.bool b)
 |int (k:IntKind) (n:Int):VRel μ (.int k n) (.int k n)
 |str (s:BA):VRel μ (.string s) (.string s)
 |nilp:VRel μ (.pointer none) (.pointer none)
 |ptr (b o:Nat) (p:Place) (h:μ b=some p):VRel μ (.pointer (some ⟨b,o,none⟩)) (.pointer (some ⟨p.pb,p.po+o,none⟩))
 |nils:VRel μ (.slice none 0 0) (.slice none 0 0)
 |slice (b o l c c':Nat) (p:Place) (h:μ b=some p) (hc:p.capOk o c c'):VRel μ (.slice (some ⟨b,o,none⟩) l c) (.slice (some ⟨p.pb,p.po+o,none⟩) l c')
 |nilm:VRel μ (.map none) (.map none)
 |map (b:Nat) (p:Place) (h:μ b=some p):VRel μ (.map (some b)) (.map (some p.pb))
 |nilf:VRel μ .nilFunc .nilFunc
 |func (fn:Fn) (xs xs' ys ys':Array Value) (h1:xs.size=xs'.size) (h2:∀ (i:Nat) x x',xs[i]? =some x→xs'[i]? =some x'→VRel μ x x')
   (h3:ys.size=ys'.size) (h4:∀ (i:Nat) x x',ys[i]? =some x→ys'[i]? =some x'→VRel μ x x'):VRel μ (.func fn xs ys) (.func fn xs' ys')
 |nili:VRel μ .nilIface .nilIface
 |iface (t:TypeId) (v v':Value) (h:VRel μ v v'):VRel μ (.iface t v) (.iface t v')
 |agg (xs xs':Array Value) (h1:xs.size=xs'.size) (h2:∀ (i:Nat) x x',xs[i]? =some x→xs'[i]? =some x'→VRel μ x x'):VRel μ (.agg xs) (.agg xs')
 |tuple (xs xs':Array Value) (h1:xs.size=xs'.size) (h2:∀ (i:Nat) x x',xs[i]? =some x→xs'[i]? =some x'→VRel μ x x'):VRel μ (.tuple xs) (.tuple xs')
theorem VRel.mono{μ ν:Loc}(h:μ.le ν){v v':Value}(r:VRel μ v v'):VRel ν v v':=by
 induction r with
 |bool b=>exact .bool b
 |int k n=>exact .int k n
 |str s=>exact .str s
 |nilp=>exact .nilp
 |ptr b o p e=>exact .ptr b o p (h b p e)
 |nils=>exact .nils
 |slice b o l c c' p e hc=>exact .slice b o l c c' p (h b p e) hc
 |nilm=>exact .nilm
 |map b p e=>exact .map b p (h b p e)
 |nilf=>exact .nilf
 |func fn xs xs' ys ys' h1 _ h3 _ ih1 ih2=>exact .func fn xs xs' ys ys' h1 ih1 h3 ih2
 |nili=>exact .nili
 |iface t v v' _ ih=>exact .iface t v v' ih
 |agg xs xs' h1 _ ih=>exact .agg xs xs' h1 ih
 |tuple xs xs' h1 _ ih=>exact .tuple xs xs' h1 ih
theorem VRel.undef{μ:Loc}:VRel μ Go.undef Go.undef:=.tuple #[] #[] rfl (fun i x x' h=>by simp at h)
def zh(μ:Loc)(l l':Vs):Prop:=l.length=l'.length∧∀ (i:Nat) x x',l[i]? =some x→l'[i]? =some x'→VRel μ x x'
theorem zh.mono{μ ν:Loc}(h:μ.le ν){l l':Vs}(r:zh μ l l'):zh ν l l':=⟨r.1,fun i x x' a b=>(r.2 i x x' a b).mono h⟩
theorem zh.nil{μ:Loc}:zh μ [] []:=⟨rfl,fun i x x' h=>by simp at h⟩
theorem zh.cons{μ:Loc}{x x':Value}{l l':Vs}(h:VRel μ x x')(r:zh μ l l'):zh μ (x::l) (x'::l'):=by
 refine⟨by simp[r.1],fun i a a' ha ha'=>?_⟩
 cases i with
 |zero=>simp at ha ha';subst ha;subst ha';exact h
 |succ i=>simp at ha ha';exact r.2 i a a' ha ha'
theorem zh.append{μ:Loc}{l l' m m':Vs}(h:zh μ l l')(g:zh μ m m'):zh μ (l++m) (l'++m'):=by
 refine⟨by simp[h.1,g.1],fun i a a' ha ha'=>?_⟩
 by_cases hi:i < l.length
 ·rw[List.getElem?_append_left hi] at ha
  rw[List.getElem?_append_left (by have:=h.1;omega)] at ha'
  exact h.2 i a a' ha ha'
 ·rw[List.getElem?_append_right (by omega)] at ha
  rw[List.getElem?_append_right (by have:=h.1;omega),← h.1] at ha'
  exact g.2 _ a a' ha ha'
theorem zh.take{μ:Loc}{l l':Vs}(h:zh μ l l')(n:Nat):zh μ (l.take n) (l'.take n):=by
 refine⟨by simp[h.1],fun i a a' ha ha'=>?_⟩
 rw[List.getElem?_take] at ha ha'
 split at ha
 ·rename_i hi;rw[if_pos hi] at ha';exact h.2 i a a' ha ha'
 ·simp at ha
theorem zh.drop{μ:Loc}{l l':Vs}(h:zh μ l l')(n:Nat):zh μ (l.drop n) (l'.drop n):=by
 refine⟨by simp[h.1],fun i a a' ha ha'=>?_⟩
 rw[List.getElem?_drop] at ha ha'
 exact h.2 _ a a' ha ha'
theorem zh.set{μ:Loc}{l l':Vs}(h:zh μ l l')(n:Nat){x x':Value}(r:VRel μ x x'):zh μ (l.set n x) (l'.set n x'):=by
 refine⟨by simp[h.1],fun i a a' ha ha'=>?_⟩
 rw[List.getElem?_set] at ha ha'
 split at ha
 ·rename_i e
  rw[if_pos e] at ha'
  split at ha
  ·rename_i e2
   rw[if_pos (by have:=h.1;omega)] at ha'
   simp at ha ha';subst ha;subst ha';exact r
  ·simp at ha
 ·rename_i e
  rw[if_neg e] at ha'
  exact h.2 i a a' ha ha'
theorem zh.get{μ:Loc}{l l':Vs}(h:zh μ l l'){i:Nat}{x:Value}(hx:l[i]? =some x):∃ x',l'[i]? =some x'∧VRel μ x x':=by
 have hi:i < l.length:=by
  rcases Nat.lt_or_ge i l.length with h|h
  ·exact h
  ·rw[List.getElem?_eq_none h] at hx;simp at hx
 have hi':i < l'.length:=by have:=h.1;omega
 exact⟨l'[i],by rw[List.getElem?_eq_getElem hi'],h.2 i x _ hx (by rw[List.getElem?_eq_getElem hi'])⟩
theorem zh.getD{μ:Loc}{l l':Vs}(h:zh μ l l'){d d':Value}(hd:VRel μ d d')(i:Nat):VRel μ (l[i]?.getD d) (l'[i]?.getD d'):=by
 cases e:l[i]? with
 |some x=>
  obtain⟨x',hx',r⟩:=h.get e
  rw[hx'];exact r
 |none=>
  have:l'[i]? =none:=by
   rw[List.getElem?_eq_none_iff] at e ⊢
   have:=h.1;omega
  rw[this];exact hd
theorem zh.agg{μ:Loc}{xs xs':Array Value}:VRel μ (.agg xs) (.agg xs')↔zh μ xs.toList xs'.toList:=by
 constructor
 ·intro h
  cases h with
  |agg _ _ h1 h2=>exact⟨by simpa using h1,fun i x x' a b=>h2 i x x' (by simpa using a) (by simpa using b)⟩
 ·intro h
  exact .agg _ _ (by simpa using h.1) (fun i x x' a b=>h.2 i x x' (by simpa using a) (by simpa using b))
theorem zh.tuple{μ:Loc}{xs xs':Array Value}:VRel μ (.tuple xs) (.tuple xs')↔zh μ xs.toList xs'.toList:=by
 constructor
 ·intro h
  cases h with
  |tuple _ _ h1 h2=>exact⟨by simpa using h1,fun i x x' a b=>h2 i x x' (by simpa using a) (by simpa using b)⟩
 ·intro h
  exact .tuple _ _ (by simpa using h.1) (fun i x x' a b=>h.2 i x x' (by simpa using a) (by simpa using b))
theorem zh.cells{μ:Loc}{v v':Value}(h:VRel μ v v'):zh μ v.cells.toList v'.cells.toList:=by
 cases h with
 |agg xs xs' h1 h2=>exact zh.agg.1 (.agg _ _ h1 h2)
 |bool b=>exact .cons (.bool b) .nil
 |int k n=>exact .cons (.int k n) .nil
 |str s=>exact .cons (.str s) .nil
 |nilp=>exact .cons .nilp .nil
 |ptr b o p e=>exact .cons (.ptr b o p e) .nil
 |nils=>exact .cons .nils .nil
 |slice b o l c c' p e hc=>exact .cons (.slice b o l c c' p e hc) .nil
 |nilm=>exact .cons .nilm .nil
 |map b p e=>exact .cons (.map b p e) .nil
 |nilf=>exact .cons .nilf .nil
 |func fn xs xs' ys ys' h1 h2 h3 h4=>exact .cons (.func fn xs xs' ys ys' h1 h2 h3 h4) .nil
 |nili=>exact .cons .nili .nil
 |iface t v v' h=>exact .cons (.iface t v v' h) .nil
 |tuple xs xs' h1 h2=>exact .cons (.tuple _ _ h1 h2) .nil
inductive AObj where
 |row (elem:TypeId) (cells:Vs) (es:Nat) (ro:Bool)
 |map (entries:List (Value×Value))
 |siter (s:BA) (pos:Nat)
def AObj.ro:AObj→Bool
 | .row _ _ _ r=>r
 |_=>false
structure Heap where
 t:T AObj
 nx:Nat
 wm:Nat
def Heap.get(h:Heap)(b:Nat):Option AObj:=bif Nat.blt b h.nx then h.t.get b else none
def Heap.put(h:Heap)(b:Nat)(o:AObj):Heap:={t:=h.t.put b o,nx:=h.nx,wm:=bif Nat.blt b h.wm then b else h.wm}
def Heap.kill(h:Heap)(b:Nat):Heap:={t:=h.t.drop b,nx:=h.nx,wm:=bif Nat.blt b h.wm then b else h.wm}
def Heap.alloc(h:Heap)(o:AObj):Heap:={t:=h.t.put h.nx o,nx:=h.nx+1,wm:=h.wm}
theorem wo(h:Heap)(b:Nat):h.get b=if b < h.nx then h.t.get b else none:=by
 unfold Heap.get
 cases e:Nat.blt b h.nx
 ·have:¬ b < h.nx:=by
   intro hl
   have:Nat.blt b h.nx=true:=by rw[Nat.blt_eq];exact hl
   rw[e] at this;simp at this
  rw[if_neg this];rfl
 ·rw[if_pos (by rwa[Nat.blt_eq] at e)];rfl
theorem za{h:Heap}{b:Nat}{o:AObj}(e:h.get b=some o):b < h.nx:=by
 rw[wo] at e
 split at e
 ·assumption
 ·simp at e
theorem Heap.get_put(h:Heap)(b c:Nat)(o:AObj)(hb:b < h.nx):(h.put b o).get c=if c=b then some o else h.get c:=by
 rw[wo,wo]
 show(if c < h.nx then(h.t.put b o).get c else none)=_
 rw[T.get_put]
 by_cases e:c=b
 ·subst e;simp[hb]
 ·simp[e]
theorem Heap.put_put(h:Heap)(b:Nat)(x y:AObj):(h.put b x).put b y=h.put b y:=by
 unfold Heap.put
 simp only[T.put_put]
 congr 1
 cases e:Nat.blt b h.wm
 ·simp[e]
 ·simp only[cond_true]
  have:Nat.blt b b=false:=by
   cases g:Nat.blt b b
   ·rfl
   ·rw[Nat.blt_eq] at g;omega
  rw[this];rfl
theorem qJ(h:Heap)(b c:Nat):(h.kill b).get c=if c=b then none else h.get c:=by
 rw[wo,wo]
 show(if c < h.nx then(h.t.drop b).get c else none)=_
 rw[T.get_drop]
 by_cases e:c=b
 ·subst e;simp
 ·simp[e]
theorem wB(h:Heap)(c:Nat)(o:AObj):(h.alloc o).get c=if c=h.nx then some o else h.get c:=by
 rw[wo,wo]
 show(if c < h.nx+1 then(h.t.put h.nx o).get c else none)=_
 rw[T.get_put]
 by_cases e:c=h.nx
 ·subst e;simp
 ·simp only[e,if_false]
  by_cases g:c < h.nx
  ·rw[if_pos g,if_pos (by omega)]
  ·rw[if_neg g,if_neg (by omega)]
def jK(μ:Loc)(w:World)(p:Place):AObj→Prop
 | .row elem cells opn ro=>∃ (arr:Array Value) (fr:Nat×Nat),w.heap[p.pb]? =some (.cells arr elem fr)∧p.size=cells.length∧p.es=opn∧arr.size=p.po+p.size+p.extra∧
   ((opn=0→p.extra=0)∧(ro=false→p.po=0))∧zh μ cells ((arr.toList.drop p.po).take p.size)∧((ro=false→∀ i,p.po≤i→¬ (fr.1≤i∧i < fr.2∧i < arr.size))∧(ro=true→elem≠5→w.heap[p.pb]? =p.ob))
 | .map entries=>∃ (es:Array MapEntry) (clock:Nat),w.heap[p.pb]? =some (.map es clock)∧es.size=entries.length∧
   (∀ (i:Nat) e kv,es[i]? =some e→entries[i]? =some kv→VRel μ kv.1 e.key∧VRel μ kv.2 e.val)∧
   (∀ (i:Nat) e,es[i]? =some e→e.born < clock)∧(∀ (i j:Nat) e e',es[i]? =some e→es[j]? =some e'→e.born=e'.born→i=j)
 | .siter s pos=>w.heap[p.pb]? =some (.stringIter s pos)∧p.po=0
def ngl:Nat:=11
def zhp(μ:Loc):Prop:=∀ g,g < ngl→∃ p,μ g=some p∧p.pb=g∧p.po=0
theorem zhp.mono{μ ν:Loc}(l:μ.le ν)(r:zhp μ):zhp ν:=fun g hg=>by
 obtain⟨p,h1,h2⟩:=r g hg
 exact⟨p,l _ _ h1,h2⟩
structure Rep(μ:Loc)(h:Heap)(w:World):Prop where
 live:∀ b o,h.get b=some o→∃ p,μ b=some p∧jK μ w p o
 inj:∀ b b' o o' p p',h.get b=some o→h.get b'=some o'→μ b=some p→μ b'=some p'→p.pb=p'.pb→(o.ro && o'.ro)=false→b=b'
 fh:∀ b,h.nx≤b→μ b=none
 bound:∀ b p,μ b=some p→p.pb < w.heap.size
 glob:zhp μ
def Own(μ:Loc)(h:Heap)(k:Nat):Prop:=∃ b o p,h.get b=some o∧μ b=some p∧p.pb=k
structure Go1(μ:Loc)(h:Heap)(w:World)(ν:Loc)(g:Heap)(u:World):Prop where
 ext:μ.le ν
 rep:Rep ν g u
 size:w.heap.size≤u.heap.size
 own:∀ k,Own ν g k→k < w.heap.size→Own μ h k
 frame:∀ k,k < w.heap.size→¬ Own μ h k→u.heap[k]? =w.heap[k]?
 os:u.os=w.os
 out:u.output=w.output
 tape:u.tape=w.tape
 nx:h.nx≤g.nx
 low:∀ b,b < h.nx→ν b=μ b
theorem Go1.refl{μ:Loc}{h:Heap}{w:World}(r:Rep μ h w):Go1 μ h w μ h w:=
 ⟨μ.le_refl,r,nL_ _,fun _ h _=>h,fun _ _ _=>rfl,rfl,rfl,rfl,nL_ _,fun _ _=>rfl⟩
theorem Go1.trans{μ ν ξ:Loc}{h g f:Heap}{w u x:World}(a:Go1 μ h w ν g u)(b:Go1 ν g u ξ f x):Go1 μ h w ξ f x:=
 ⟨Loc.le_trans a.ext b.ext,b.rep,nT a.size b.size,fun k o hk=>a.own k (b.own k o (nU hk a.size)) hk,
  fun k hk ho=>by
   rw[b.frame k (nU hk a.size) (fun o=>ho (a.own k o hk)),a.frame k hk ho],
  b.os.trans a.os,b.out.trans a.out,b.tape.trans a.tape,nT a.nx b.nx,fun k hk=>(b.low k (nU hk a.nx)).trans (a.low k hk)⟩
theorem jK.mono{μ ν:Loc}(h:μ.le ν){w:World}{p:Place}{o:AObj}(r:jK μ w p o):jK ν w p o:=by
 cases o with
 |row elem cells opn ro=>
  obtain⟨arr,fr,h1,h2,h3,h4,h5,h6,h7⟩:=r
  exact⟨arr,fr,h1,h2,h3,h4,h5,h6.mono h,h7⟩
 |map es=>
  obtain⟨e,c,h1,h2,h3,h4⟩:=r
  exact⟨e,c,h1,h2,fun i a b x y=>⟨(h3 i a b x y).1.mono h,(h3 i a b x y).2.mono h⟩,h4⟩
 |siter s pos=>exact r
theorem jK.world{μ:Loc}{w u:World}{p:Place}{o:AObj}(e:u.heap[p.pb]? =w.heap[p.pb]?)(r:jK μ w p o):jK μ u p o:=by
 cases o with
 |row elem cells opn ro=>
  obtain⟨arr,fr,h1,h2,h3,h4,h5,h6,h7,h8⟩:=r
  exact⟨arr,fr,e.trans h1,h2,h3,h4,h5,h6,h7,fun a b=>e.trans (h8 a b)⟩
 |map es=>
  obtain⟨a,c,h1,h2⟩:=r
  exact⟨a,c,e.trans h1,h2⟩
 |siter s pos=>exact⟨e.trans r.1,r.2⟩
structure Keep(h g:Heap):Prop where
 nx:h.nx≤g.nx
 wm:g.wm≤h.wm
 get:∀ b,b < h.nx→b < g.wm→g.get b=h.get b
 no:∀ b,b < h.nx→h.get b=none→g.get b=none
structure Ext where
 run:Vs→Heap→Option (Value×Heap)
 keep:∀ args h v h',run args h=some (v,h')→Keep h h'
structure Env where
 und:TypeId→Option TypeDesc
 size:TypeId→Option Nat
 bytes:TypeId→Option Nat
 zero:TypeId→Option Value
 fn:FuncId→Option Func
 plain:TypeId→Bool
 key:TypeId→Value→Bool
 ext:FuncId→Option Ext
def rdT(tm:T Value)(t:Tmp):Value:=(tm.get t).getD undef
def zb3:Value→Bool
 | .int .. | .bool _| .string _| .nilIface| .nilFunc| .pointer none| .map none=>true
 | .slice none 0 0=>true
 |_=>false
def rd(tm:T Value):Operand→Option Value
 | .tmp t=>some (rdT tm t)
 | .const v=>if zb3 v then some v else none
 | .global g=>if Nat.blt g ngl then some (.pointer (some ⟨g,0,none⟩)) else none
 | .func f=>some (.func (.func f) #[] #[])
def rds(tm:T Value):List Operand→Option (Vs)
 |[]=>some []
 |x::l=>match rd tm x with
  |some v=>match rds tm l with
   |some vs=>some (v::vs)
   |none=>none
  |none=>none
def yz:TypeDesc→Bool
 | .struct _| .array _ _=>true
 |_=>false
def ui(env:Env)(h:Heap)(t:TypeId)(a:Addr):Option Value:=
 match h.get a.block,env.und t,env.size t,a.spot with
 |some (.row _ cells _ _),some d,some n,none=>
  if yz d then
   let l:=(cells.drop a.off).take n
   if Nat.beq l.length n then some (.agg ⟨l⟩) else none
  else(cells.drop a.off).head?
 |_,_,_,_=>none
def jh:Value→Bool
 | .agg _| .tuple _=>false
 |_=>true
def uG(l:Vs)(k:Nat):Vs→Option (Vs)
 |[]=>some l
 |v::vs=>if jh v then(if k < l.length then uG (l.set k v) (k+1) vs else none) else none
def jd(h:Heap)(a:Addr)(vs:Vs):Option Heap:=
 match h.get a.block,a.spot with
 |some (.row e cells es false),none=>
  match uG cells a.off vs with
  |some cells'=>some (h.put a.block (.row e cells' es false))
  |none=>none
 |_,_=>none
def ym(env:Env)(h:Heap)(t:TypeId)(a:Addr)(v:Value):Option Heap:=
 match env.size t with
 |some n=>if v.cells.size=n then jd h a v.cells.toList else none
 |none=>none
def wF(op:BinOp)(k:IntKind)(x y:Int):Option Value:=
 match op with
 | .add=>some (.int k (k.wrap (x+y)))
 | .sub=>some (.int k (k.wrap (x - y)))
 | .mul=>some (.int k (k.wrap (x * y)))
 | .quo=>if y=0 then none else some (.int k (k.wrap (x.tdiv y)))
 | .rem=>if y=0 then none else some (.int k (x.tmod y))
 | .and=>some (.int k (k.wrap ((BitVec.ofInt k.bits x &&& BitVec.ofInt k.bits y).toNat)))
 | .or=>some (.int k (k.wrap ((BitVec.ofInt k.bits x ||| BitVec.ofInt k.bits y).toNat)))
 | .xor=>some (.int k (k.wrap ((BitVec.ofInt k.bits x ^^^ BitVec.ofInt k.bits y).toNat)))
 | .andNot=>some (.int k (k.wrap ((BitVec.ofInt k.bits x &&& ~~~ BitVec.ofInt k.bits y).toNat)))
 | .eql=>some (.bool (x==y))
 | .neq=>some (.bool (x !=y))
 | .lss=>some (.bool (decide (x < y)))
 | .leq=>some (.bool (decide (x≤y)))
 | .gtr=>some (.bool (decide (x>y)))
 | .geq=>some (.bool (decide (x≥y)))
 |_=>none
def jn(op:BinOp)(x y:BA):Option Value:=
 match op with
 | .add=>if((x.size+y.size:Nat):Int)>IntKind.i64.max then none else some (.string (x++y))
 | .eql=>some (.bool (x.data.toList==y.data.toList))
 | .neq=>some (.bool (!(x.data.toList==y.data.toList)))
 | .lss=>some (.bool (Op.bytesLess x.data.toList y.data.toList))
 | .leq=>some (.bool (Op.bytesLess x.data.toList y.data.toList || x.data.toList==y.data.toList))
 | .gtr=>some (.bool !(Op.bytesLess x.data.toList y.data.toList || x.data.toList==y.data.toList))
 | .geq=>some (.bool !(Op.bytesLess x.data.toList y.data.toList))
 |_=>none
def yD(eq:TypeId→Value→Value→Option Bool)(part:TypeId→Array Value→Nat→Option Value)(xs ys:Array Value):List Field→Option Bool
 |[]=>some true
 |f::fs=>
  if f.name≠ "_" then
   match part f.type xs f.offset,part f.type ys f.offset with
   |some a,some b=>match eq f.type a b with
    |some true=>yD eq part xs ys fs
    |some false=>some false
    |none=>none
   |_,_=>none
  else none
def zcD(env:Env)(t:TypeId)(cs:Array Value)(off:Nat):Option Value:=
 match env.und t,env.size t with
 |some d,some n=>
  if yz d then
   let l:=(cs.toList.drop off).take n
   if Nat.beq l.length n then some (.agg ⟨l⟩) else none
  else(cs.toList.drop off).head?
 |_,_=>none
def eqA(env:Env):Nat→TypeId→Value→Value→Option Bool
 |0,_,_,_=>none
 |d+1,t,x,y=>
  match env.und t with
  |some .bool=>match x,y with
   | .bool a,.bool b=>some (a==b)
   |_,_=>none
  |some (.int _)=>match x,y with
   | .int k a,.int k' b=>if k=k' then some (a==b) else none
   |_,_=>none
  |some .string=>match x,y with
   | .string a,.string b=>some (a.data.toList==b.data.toList)
   |_,_=>none
  |some (.pointer _)=>match x,y with
   | .pointer none,.pointer none=>some true
   | .pointer none,.pointer (some _)| .pointer (some _),.pointer none=>some false
   |_,_=>none
  |some (.interface _)=>match x,y with
   | .nilIface,.nilIface=>some true
   | .nilIface,.iface _ _| .iface _ _,.nilIface=>some false
   |_,_=>none
  |some (.slice _)=>match x,y with
   | .slice none _ _,.slice none _ _=>some true
   | .slice none _ _,.slice (some _) _ _| .slice (some _) _ _,.slice none _ _=>some false
   |_,_=>none
  |some (.struct fs)=>match x,y with
   | .agg xs,.agg ys=>if env.plain t then yD (eqA env d) (zcD env) xs ys fs.toList else none
   |_,_=>none
  |_=>none
def zbv:Operand→Bool
 | .const _=>true
 |_=>false
def zcL(env:Env)(t:TypeId)(x y:Operand):Value→Value→Bool
 | .nilIface,.nilIface=>zbv x || zbv y
 | .agg _,.agg _=>env.plain t
 |_,_=>true
def bin(env:Env)(op:BinOp)(t:TypeId)(ox oy:Operand)(x y:Value):Option Value:=
 match x,y with
 | .int k a,.int k' b=>
  match op with
  | .shl=>if b < 0 then none else some (.int k (k.wrap (a * 2 ^ (min b.toNat k.bits))))
  | .shr=>if b < 0 then none else some (.int k (a.fdiv (2 ^ (min b.toNat k.bits))))
  |_=>if k=k' then wF op k a b else none
 | .string a,.string b=>jn op a b
 |_,_=>
  match op with
  | .eql=>if zcL env t ox oy x y then(match eqA env 20 t x y with|some r=>some (.bool r)|none=>none) else none
  | .neq=>if zcL env t ox oy x y then(match eqA env 20 t x y with|some r=>some (.bool (!r))|none=>none) else none
  |_=>none
def un(op:UnOp)(x:Value):Option Value:=
 match op,x with
 | .neg,.int k n=>some (.int k (k.wrap (0 - n)))
 | .xor,.int k n=>wF .xor k (if k.signed then -1 else k.max) n
 | .not,.bool b=>some (.bool !b)
 |_,_=>none
def vt:Vs→Option (Bsy)
 |[]=>some []
 | .int .u8 n::l=>match vt l with
  |some r=>some (UInt8.ofNat n.toNat::r)
  |none=>none
 |_=>none
def conv(env:Env)(h:Heap)(s d:TypeId)(x:Value):Option Value:=
 match env.und s,env.und d,x with
 |some _,some (.int k),.int _ n=>some (.int k (k.wrap n))
 |some _,some .string,.string b=>some (.string b)
 |some (.slice e),some .string,.slice none _ _=>match env.und e with
  |some (.int .u8)=>some (.string .empty)
  |_=>none
 |some (.slice e),some .string,.slice (some a) n _=>match env.und e,h.get a.block,a.spot with
  |some (.int .u8),some (.row _ cells _ _),none=>
   let l:=(cells.drop a.off).take n
   if Nat.beq l.length n then(match vt l with|some bs=>some (.string ⟨⟨bs⟩⟩)|none=>none) else none
  |_,_,_=>none
 |_,_,_=>none
def zbD(env:Env)(t:TypeId)(x:Value)(f:Nat):Option Value:=
 match env.und t,x with
 |some (.struct fs),.pointer (some ⟨b,o,none⟩)=>match fs[f]? with
  |some fl=>match env.size fl.type with
   |some n=>if n=0 then none else some (.pointer (some ⟨b,o+fl.offset,none⟩))
   |none=>none
  |none=>none
 |_,_=>none
def wd(env:Env)(t:TypeId)(x i:Value):Option Value:=
 match env.und t,x,i with
 |some (.slice e),.slice (some ⟨b,o,none⟩) len _,.int _ n=>match env.size e with
  |some s=>if 0≤n∧n < len then some (.pointer (some ⟨b,o+n.toNat * s,none⟩)) else none
  |none=>none
 |some (.array len e),.pointer (some ⟨b,o,none⟩),.int _ n=>match env.size e with
  |some s=>if 0≤n∧n < len then some (.pointer (some ⟨b,o+n.toNat * s,none⟩)) else none
  |none=>none
 |_,_,_=>none
def zg7(env:Env)(t:TypeId)(x:Value)(f:Nat):Option Value:=
 match env.und t,x with
 |some (.struct fs),.agg cs=>match fs[f]? with
  |some fl=>zcD env fl.type cs fl.offset
  |none=>none
 |_,_=>none
def za8(env:Env)(t:TypeId)(x i:Value):Option Value:=
 match env.und t,x,i with
 |some .string,.string s,.int _ n=>if 0≤n then(match(s.data.toList.drop n.toNat).head? with|some b=>some (.int .u8 b.toNat)|none=>none) else none
 |some (.array len e),.agg cs,.int _ n=>match env.size e with
  |some s=>if 0≤n∧n < len then zcD env e cs (n.toNat * s) else none
  |none=>none
 |_,_,_=>none
def zdr(x:Value)(i:Nat):Option Value:=
 match x with
 | .tuple vs=>vs.toList[i]?
 |_=>none
def zO(v:Option (Option Value))(most dflt:Nat):Option Nat:=
 match v with
 |none=>some dflt
 |some (some (.int _ n))=>if 0≤n∧n≤most then some n.toNat else none
 |_=>none
def zaM(mx hi:Option (Option Value))(m cap len:Nat):Option Nat:=
 match mx with
 |some _=>match hi with
  |none=>none
  |some _=>zO hi m len
 |none=>zO hi cap len
def jy(env:Env)(h:Heap)(e:TypeId)(b o c:Nat):Option Bool:=
 match h.get b,env.size e with
 |some (.row _ cells es _),some s=>if es=0 then some false else if es=s then some (Nat.beq (o+c * s) cells.length) else none
 |_,_=>none
def qG(env:Env)(h:Heap)(t:TypeId)(x:Value)(lo hi mx:Option (Option Value)):Option Value:=
 match env.und t,x with
 |some .string,.string s=>
  match mx with
  |some _=>none
  |none=>
   match zO hi s.data.toList.length s.data.toList.length with
   |some hh=>match zO lo hh 0 with
    |some l=>some (.string ⟨⟨(s.data.toList.drop l).take (hh - l)⟩⟩)
    |none=>none
   |none=>none
 |some (.slice e),.slice none len cap=>
  match mx,env.size e with
  |some _,_=>none
  |_,none=>none
  |none,some _=>match zO hi cap len with
   |some hh=>match zO lo hh 0 with
    |some l=>if l=0 then(if hh=0 then some (.slice none 0 0) else none) else none
    |none=>none
   |none=>none
 |some (.slice e),.slice (some ⟨b,o,none⟩) len cap=>
  match zO mx cap cap,jy env h e b o cap,env.size e with
  |some m,some fo,some s=>
   match zaM mx hi m cap len with
   |some hh=>match zO lo hh 0 with
    |some l=>
     if fo && mx.isNone && Nat.beq m l && !Nat.beq l 0 then none else
     if !Nat.ble hh m then none else
     some (.slice (some (if m=l then⟨b,o,none⟩ else⟨b,o+l * s,none⟩)) (hh - l) (m - l))
    |none=>none
   |none=>none
  |_,_,_=>none
 |some (.array n e),.pointer (some ⟨b,o,none⟩)=>
  match zO mx n n,env.size e,h.get b with
  |some m,some s,some (.row _ _ 0 _)=>
   match zaM mx hi m n n with
   |some hh=>match zO lo hh 0 with
    |some l=>some (.slice (some (if m=l then⟨b,o,none⟩ else⟨b,o+l * s,none⟩)) (hh - l) (m - l))
    |none=>none
   |none=>none
  |_,_,_=>none
 |_,_=>none
def zam(cs:Vs)(off:Nat):Vs→Vs
 |[]=>cs
 |v::vs=>zam (cs.set off v) (off+1) vs
def zbC(place:Nat→Option (Nat×Nat))(cells:Vs):List (Nat×Value)→Option (Vs)
 |[]=>some cells
 |(i,v)::rest=>
  match place i with
  |none=>none
  |some (off,size)=>
   let vs:=v.cells.toList
   if Nat.beq vs.length size && Nat.ble (off+vs.length) cells.length then zbC place (zam cells off vs) rest else none
def vp(tm:T Value):List (Nat×Operand)→Option (List (Nat×Value))
 |[]=>some []
 |(i,x)::l=>match rd tm x,vp tm l with
  |some v,some r=>some ((i,v)::r)
  |_,_=>none
def fieldPlaces(env:Env)(fs:Array Field)(i:Nat):Option (Nat×Nat):=
 match fs.toList[i]? with
 |some f=>match env.size f.type with
  |some n=>some (f.offset,n)
  |none=>none
 |none=>none
def zbJ(env:Env):List Field→Bool
 |[]=>true
 |f::fs=>(env.size f.type).isSome && zbJ env fs
def zhl(env:Env)(t:TypeId)(parts:List (Nat×Value)):Option Value:=
 match env.und t,env.zero t with
 |some (.struct fs),some z=>if zbJ env fs.toList then(match zbC (fieldPlaces env fs) z.cells.toList parts with|some cs=>some (.agg ⟨cs⟩)|none=>none) else none
 |some (.array _ e),some z=>match env.size e with
  |some s=>match zbC (fun i=>some (i * s,s)) z.cells.toList parts with
   |some cs=>some (.agg ⟨cs⟩)
   |none=>none
  |none=>none
 |_,_=>none
def zid:TypeDesc→Bool
 | .interface _=>true
 |_=>false
def jS(less:Int→Int→Bool):Value→Vs→Option Value
 | .int k x,[]=>some (.int k x)
 | .int k x,.int _ y::l=>jS less (.int k (if less y x then y else x)) l
 |_,_=>none
def lenA(env:Env)(t:TypeId)(x:Value):Option Value:=
 match env.und t,x with
 |some .string,.string s=>some (goInt s.data.toList.length)
 |some (.array n _),_=>some (goInt n)
 |some (.slice _),.slice _ n _=>some (goInt n)
 |_,_=>none
def zpb(env:Env)(h:Heap)(t:TypeId)(x:Value):Option Value:=
 match env.und t,x with
 |some (.slice _),.slice none _ n=>some (goInt n)
 |some (.slice e),.slice (some ⟨b,o,none⟩) _ n=>match jy env h e b o n with
  |some false=>some (goInt n)
  |_=>none
 |_,_=>none
def keyNums:Vs→Option (List Int)
 |[]=>some []
 | .int .i64 n::l=>match keyNums l with
  |some r=>some (n::r)
  |none=>none
 |_=>none
def qA:Value→Option (List Int)
 | .agg cs=>keyNums cs.toList
 |_=>none
def findA(env:Env)(kt:TypeId)(k:List Int):List (Value×Value)→Option (Option Value)
 |[]=>some none
 |e::es=>if env.key kt e.1 then match qA e.1,findA env kt k es with
   |some a,some r=>if a=k then(match r with|none=>some (some e.2)|some _=>none) else some r
   |_,_=>none
  else none
def zeR(env:Env)(h:Heap)(t:TypeId)(x k:Value)(ok:Bool):Option Value:=
 match env.und t,x with
 |some (.map kt el),.map (some b)=>match h.get b,env.key kt k,qA k,env.zero el with
  |some (.map es),true,some kn,some z=>match findA env kt kn es with
   |some (some v)=>some (if ok then .tuple #[v,.bool true] else v)
   |some none=>some (if ok then .tuple #[z,.bool false] else z)
   |none=>none
  |_,_,_,_=>none
 |_,_=>none
def lenM(env:Env)(h:Heap)(t:TypeId)(x:Value):Option Value:=
 match env.und t,x with
 |some (.map _ _),.map (some b)=>match h.get b with
  |some (.map es)=>some (goInt es.length)
  |_=>none
 |_,_=>none
def opQ(env:Env)(h:Heap)(tm:T Value)(op:Op):Option Value:=
 match op with
 | .move x| .assign x=>rd tm x
 | .pick c a b=>match rd tm c,rd tm a,rd tm b with
  |some (.bool c),some a,some b=>some (if c then a else b)
  |_,_,_=>none
 | .load t a=>match rd tm a with
  |some (.pointer (some a))=>ui env h t a
  |_=>none
 | .binOp op t x y _=>match rd tm x,rd tm y with
  |some a,some b=>bin env op t x y a b
  |_,_=>none
 | .unOp op _ x=>match rd tm x with
  |some a=>un op a
  |none=>none
 | .convert s d x=>match rd tm x with
  |some a=>conv env h s d a
  |none=>none
 | .makeInterface t x=>match rd tm x,env.und t with
  |some a,some d=>if zid d then none else some (.iface t a)
  |_,_=>none
 | .makeFunc fn fi ca=>match rds tm fi.toList,rds tm ca.toList with
  |some a,some b=>some (.func fn ⟨a⟩ ⟨b⟩)
  |_,_=>none
 | .fieldAddr t x f=>match rd tm x with
  |some a=>zbD env t a f
  |none=>none
 | .field t x f=>match rd tm x with
  |some a=>zg7 env t a f
  |none=>none
 | .indexAddr t x i=>match rd tm x,rd tm i with
  |some a,some b=>wd env t a b
  |_,_=>none
 | .index t x i=>match rd tm x,rd tm i with
  |some a,some b=>za8 env t a b
  |_,_=>none
 | .extract x i=>match rd tm x with
  |some a=>zdr a i
  |none=>none
 | .nilCheck x=>match rd tm x with
  |some (.pointer (some a))=>some (.pointer (some a))
  |_=>none
 | .slice t x lo hi mx=>match rd tm x with
  |some a=>qG env h t a (lo.map (rd tm)) (hi.map (rd tm)) (mx.map (rd tm))
  |none=>none
 | .build t ps=>match vp tm ps.toList with
  |some vs=>zhl env t vs
  |none=>none
 | .call ⟨.builtin .len,az,ts⟩=>match rds tm az.toList,ts[0]? with
  |some (x::_),some t=>match lenA env t x with
   |some v=>some v
   |none=>lenM env h t x
  |_,_=>none
 | .lookup t x k ok=>match rd tm x,rd tm k with
  |some a,some b=>zeR env h t a b ok
  |_,_=>none
 | .call ⟨.builtin .cap,az,ts⟩=>match rds tm az.toList,ts[0]? with
  |some (x::_),some t=>zpb env h t x
  |_,_=>none
 | .call ⟨.builtin .min,az,_⟩=>match rds tm az.toList with
  |some (x::l)=>jS (fun y x=>decide (y < x)) x l
  |_=>none
 | .call ⟨.builtin .max,az,_⟩=>match rds tm az.toList with
  |some (x::l)=>jS (fun y x=>decide (y>x)) x l
  |_=>none
 |_=>none
def rep(n:Nat)(l:Vs):Vs:=
 match n with
 |0=>[]
 |n+1=>l++rep n l
def opA(env:Env)(tm:T Value)(op:Op):Option ((Nat→Value)×AObj):=
 match op with
 | .alloc t=>match env.zero t with
  |some z=>some (fun b=>.pointer (some ⟨b,0,none⟩),.row t z.cells.toList 0 false)
  |none=>none
 | .box t x=>match rd tm x with
  |some v=>some (fun b=>.pointer (some ⟨b,0,none⟩),.row t v.cells.toList 0 false)
  |none=>none
 | .buildSlice t len ps=>match env.und t,vp tm ps.toList with
  |some (.slice e),some vs=>match env.size e,env.zero e with
   |some s,some z=>
    if Nat.beq z.cells.toList.length s && !Nat.beq s 0 && Nat.ble (len * s) 16777216 then
     match zbC (fun i=>some (i * s,s)) (rep len z.cells.toList) vs with
     |some cs=>some (fun b=>.slice (some ⟨b,0,none⟩) len len,.row e cs 0 false)
     |none=>none
    else none
   |_,_=>none
  |_,_=>none
 | .makeSlice t l c=>match env.und t,rd tm l,rd tm c with
  |some (.slice e),some (.int _ l),some (.int _ c)=>match env.size e,env.zero e,env.bytes e with
   |some s,some z,some by_=>
    if Nat.beq z.cells.toList.length s && !Nat.beq s 0 && decide (0≤l) && decide (l≤c) && decide (c * by_≤281474976710656) && decide (c≤281474976710656) then
     some (fun b=>.slice (some ⟨b,0,none⟩) l.toNat c.toNat,.row e (rep c.toNat z.cells.toList) 0 false)
    else none
   |_,_,_=>none
  |_,_,_=>none
 | .makeMap t none=>match env.und t with
  |some (.map _ _)=>some (fun b=>.map (some b),.map [])
  |_=>none
 | .range t x=>match env.und t,rd tm x with
  |some .string,some (.string s)=>some (fun b=>.pointer (some ⟨b,0,none⟩),.siter s 0)
  |_,_=>none
 | .convert s d x=>match env.und s,env.und d,rd tm x with
  |some .string,some (.slice e),some (.string b)=>match env.und e,env.size e with
   |some (.int .u8),some 1=>
    if Nat.ble b.data.toList.length 140737488355328 then
     some (fun k=>.slice (some ⟨k,0,none⟩) b.data.toList.length b.data.toList.length,.row e (b.data.toList.map fun x=>.int .u8 (x.toNat:Int)) 1 false)
    else none
   |_,_=>none
  |_,_,_=>none
 |_=>none
def zY(h:Heap)(sz:Nat)(n:Option Nat):Value→Option (Vs)
 | .slice none _ _=>some []
 | .slice (some a) l _=>match h.get a.block,a.spot with
  |some (.row _ cells _ _),none=>
   let r:=(cells.drop a.off).take (n.getD l * sz)
   if Nat.beq r.length (n.getD l * sz) then some r else none
  |_,_=>none
 | .string s=>match n with
  |none=>some (s.data.toList.map fun x=>.int .u8 (x.toNat:Int))
  |some m=>some ((s.data.toList.take m).map fun x=>.int .u8 (x.toNat:Int))
 |_=>none
def jA:Value→Option Nat
 | .slice _ l _=>some l
 | .string s=>some s.data.toList.length
 |_=>none
def vI:TypeDesc→Bool
 | .int _=>true
 |_=>false
def zu(env:Env)(h:Heap)(ts:Array TypeId)(s x:Value):Option (Value×Heap):=
 match ts[0]?,ts[1]? with
 |some st,some xt=>
  match env.und st,env.und xt,s with
  |some (.slice e),some dx,.slice base l c=>
   match env.size e,env.bytes e,env.zero e,jA x with
   |some sz,some by_,some z,some n=>
    match zY h sz none x with
    |some xs=>
     if vI dx || Nat.beq sz 0 || !Nat.beq xs.length (n * sz) || !Nat.beq z.cells.size sz then none
     else if Nat.beq n 0 then(if Nat.ble l c then some (s,h) else none)
     else if Nat.ble (l+n) c then
      match base with
      |some ⟨b,o,none⟩=>match jd h ⟨b,o+l * sz,none⟩ xs with
       |some h'=>some (.slice (some ⟨b,o,none⟩) (l+n) c,h')
       |none=>none
      |_=>none
     else if Nat.ble ((2 * (l+n)+1000) * (by_+1)) 281474976710656 then
      match base with
      |none=>some (.slice (some ⟨h.nx,0,none⟩) (l+n) (l+n),h.alloc (.row e xs sz false))
      |some ⟨b,o,none⟩=>match jy env h e b o c,zY h sz (some l) s with
       |some false,some old=>some (.slice (some ⟨h.nx,0,none⟩) (l+n) (l+n),h.alloc (.row e (old++xs) sz false))
       |some true,some old=>match h.get b with
        |some (.row e' _ _ false)=>if Nat.beq e' e && xs.all jh && Nat.ble l c && Nat.beq o 0 then some (.slice (some ⟨h.nx,0,none⟩) (l+n) (l+n),(h.kill b).alloc (.row e (old++xs) sz false)) else none
        |_=>none
       |_,_=>none
      |_=>none
     else none
    |none=>none
   |_,_,_,_=>none
  |_,_,_=>none
 |_,_=>none
def zfZ(env:Env)(h:Heap)(ts:Array TypeId)(d s:Value):Option (Value×Heap):=
 match ts[0]? with
 |some dt=>match env.und dt,d with
  |some (.slice e),.slice base l _=>match env.size e,jA s with
   |some sz,some n=>
    let k:=Nat.min n l
    match zY h sz (some k) s with
    |some xs=>match base,xs with
     |_,[]=>some (goInt k,h)
     |none,_=>some (goInt k,h)
     |some a,_=>match jd h a xs with
      |some h'=>some (goInt k,h')
      |none=>none
    |none=>none
   |_,_=>none
  |_,_=>none
 |none=>none
def opE(env:Env)(call:FuncId→Vs→Heap→Option (Value×Heap))(h:Heap)(tm:T Value)(op:Op):Option (Value×Heap):=
 match op with
 | .store t a x=>match rd tm a,rd tm x with
  |some (.pointer (some a)),some v=>match ym env h t a v with
   |some h'=>some (undef,h')
   |none=>none
  |_,_=>none
 | .mapUpdate t m k x=>match rd tm m,rd tm k,rd tm x with
  |some (.map (some b)),some kv,some v=>match env.und t,h.get b,qA kv with
   |some (.map kt _),some (.map es),some kn=>if env.key kt kv then
     match findA env kt kn es with
     |some none=>some (undef,h.put b (.map (es++[(kv,v)])))
     |_=>none
    else none
   |_,_,_=>none
  |_,_,_=>none
 | .next it true=>match rd tm it with
  |some (.pointer (some ⟨b,0,none⟩))=>match h.get b with
   |some (.siter s pos)=>
    if pos < s.size then
     let(c,width):=Utf8.decode s pos
     some (.tuple #[.bool true,goInt pos,.int .i32 c],h.put b (.siter s (pos+width)))
    else some (.tuple #[.bool false],h)
   |_=>none
  |_=>none
 | .call ⟨.value f,az,_⟩=>match rd tm f,rds tm az.toList with
  |some (.func (.func g) fi ca),some vs=>match env.fn g with
   |some _=>call g (fi.toList++vs++ca.toList) h
   |none=>match env.ext g with
    |some x=>x.run (fi.toList++vs++ca.toList) h
    |none=>none
  |_,_=>none
 | .call ⟨.builtin .append,az,ts⟩=>match rds tm az.toList with
  |some [s,x]=>zu env h ts s x
  |_=>none
 | .call ⟨.builtin .copy,az,ts⟩=>match rds tm az.toList with
  |some [d,s]=>zfZ env h ts d s
  |_=>none
 |_=>none
structure St where
 tm:T Value
 h:Heap
inductive Ex where
 |normal
 |exit (id:Nat)
 |ret
def jB(nt:Nat)(dst:Option Tmp)(v:Value)(tm:T Value):Option (T Value):=
 match dst with
 |none=>some tm
 |some d=>if Nat.blt d nt then some (tm.put d v) else none
def um(ops:List Oper)(tm:T Value)(j:Nat):Option Bool:=
 match ops[j]? with
 |some o=>match o.dst with
  |some d=>match rdT tm d with
   | .bool b=>some b
   |_=>none
  |none=>none
 |none=>none
def wM(ops:List Oper)(tm:T Value)(o:Oper):Bool:=
 match o.guard with
 |none=>true
 |some (j,want)=>match um ops tm j with
  |some b=>b==want
  |none=>false
def qH(env:Env):Op→Nat
 | .alloc _| .box _ _| .buildSlice .. | .makeSlice .. | .makeMap .. | .range .. =>1
 | .convert s _ _=>match env.und s with
  |some .string=>1
  |_=>0
 | .store .. | .next .. | .mapUpdate .. | .insert .. =>2
 | .call ⟨.builtin .len,_,_⟩| .call ⟨.builtin .cap,_,_⟩| .call ⟨.builtin .min,_,_⟩| .call ⟨.builtin .max,_,_⟩=>0
 | .call _=>2
 |_=>0
variable (env:Env) (call:FuncId→Vs→Heap→Option (Value×Heap)) (nt:Nat)
def op1(s:St)(o:Oper):Option St:=
 match opQ env s.h s.tm o.op with
 |some v=>match jB nt o.dst v s.tm with
  |some tm=>some ⟨tm,s.h⟩
  |none=>none
 |none=>match opA env s.tm o.op with
  |some (mk,obj)=>match jB nt o.dst (mk s.h.nx) s.tm with
   |some tm=>some ⟨tm,s.h.alloc obj⟩
   |none=>none
  |none=>match opE env call s.h s.tm o.op with
   |some (v,h')=>match jB nt o.dst v s.tm with
    |some tm=>some ⟨tm,h'⟩
    |none=>none
   |none=>none
def zaa(ops:List Oper):List Oper→St→Option St
 |[],s=>some s
 |o::l,s=>
  if wM ops s.tm o then
   match op1 env call nt s o with
   |some s'=>zaa ops l s'
   |none=>none
  else match jB nt o.dst undef s.tm with
   |some tm=>zaa ops l ⟨tm,s.h⟩
   |none=>none
end Go.PanE
