/-
 Part 28 of the proof of Rows.DumpReadsCardSaid: The parser of the first text, small parts: paths printed by sx.py (m10.py).
 The parser of the first text, small parts: their laws.
 The parser of the first text, its levels: paths printed by sx.py (m11.py).
 No conditions.
-/
import Derived.Test.YtihkphfmnnndfaaGreatDoorT27
namespace Go.PanE
open Go.Proofs
noncomputable section
abbrev y2_1(b T k E:Nat):AObj:=.row 274 [sv b 0 T T,iv (k:Int),iv E] 0 false
abbrev y2_2(ts:List Tk):AObj:=.row 199 (tkC ts) 4 false
abbrev y2_3(s:List UInt8)(h:Heap):Value:=.agg #[iv 5,iv 0,iv 0,.string ⟨#[]⟩,iv 0,iv 0,iv 0,iv 0,.string ⟨⟨s⟩⟩,sv (h.nx+3) 0 2 2]
abbrev y2_4:Value:=.tuple #[.string ⟨#[]⟩,.bool false]
abbrev y2_5(q n0:Nat)(t:ByteArray)(i:Nat):List (Nat×Value):=[(0,sv q 0 n0 n0),(1,.string t),(7,iv n0),(8,iv (i:Int))]
abbrev y2_6(r:Option Addr)(T k E:Nat):AObj:=.row 274 [.slice r T T,iv (k:Int),iv E] 0 false
theorem ix_on(h:Heap)(q n0 i:Nat)(t s:ByteArray)(n:Nat)(_h1:i < n0)(_h2:n0 < 4611686018427387904)(a0:decide (((i:Int):Int) < n0)=true)(a1:LD h 9 q (0+i * 1) (.string s))(a2:bqS t s=false):Bd n 19 [1,0,1,0,0] Tryz.f228 (y2_5 q n0 t i) h .normal [(0,sv q 0 n0 n0),(1,.string t),(7,iv n0),(8,iv ((i:Int)+1))] h:=
 bdF (kZ h) [yT a0,iA 32 9 1 q n0 i,yE a1,yF a2,yW ((i:Int)+1),.z 0]
theorem ix_hit(h:Heap)(q n0 i:Nat)(t s:ByteArray)(n:Nat)(_h1:i < n0)(_h2:n0 < 4611686018427387904)(a0:decide (((i:Int):Int) < n0)=true)(a1:LD h 9 q (0+i * 1) (.string s))(a2:bqS t s=true):Bd n 19 [1,0,1,0,0] Tryz.f228 (y2_5 q n0 t i) h .ret [(4,iv (i:Int))] h:=
 bdF (kZ h) [yT a0,iA 32 9 1 q n0 i,yE a1,yT a2,.z 0]
theorem ix_end(h:Heap)(q n0 i:Nat)(t:ByteArray)(n:Nat)(a0:decide (((i:Int):Int) < n0)=false):Bd n 19 [1,0,1,0,0] Tryz.f228 (y2_5 q n0 t i) h (.exit 0) [] h:=
 bdF (kZ h) [yF a0]
theorem ix_p1(h:Heap)(q n0:Nat)(t:ByteArray)(v:Int)(n:Nat)(a0:Lf n 19 [1,0,1,0,0] Tryz.f228 [(0,sv q 0 n0 n0),(1,.string t),(4,iv 0),(6,sv q 0 n0 n0),(7,iv n0),(8,iv 0)] h.fresh .ret [(4,iv v)] (Heap.fresh h)):Fn n 228 [sv q 0 n0 n0,.string t] h (iv v) (Heap.fresh h):=
 fnV (kZ h) [yS a0 (kZ (Heap.fresh h)),.z 0]
theorem ix_p2(h:Heap)(q n0:Nat)(t:ByteArray)(n:Nat)(a0:Lf n 19 [1,0,1,0,0] Tryz.f228 [(0,sv q 0 n0 n0),(1,.string t),(4,iv 0),(6,sv q 0 n0 n0),(7,iv n0),(8,iv 0)] h.fresh (.exit 0) [] (Heap.fresh h)):Fn n 228 [sv q 0 n0 n0,.string t] h (iv (-1)) (Heap.fresh h):=
 fnV (kZ h) [yS a0 (kZ (Heap.fresh h)),.z 0]
theorem cn_t(h:Heap)(q n0:Nat)(t:ByteArray)(v:Int)(n:Nat)(a0:Pu n 228 [sv q 0 n0 n0,.string t] (iv v) h.fresh)(a1:decide ((v:Int)≥0)=true):Fn n 212 [sv q 0 n0 n0,.string t] h (.bool true) h.fresh:=
 fnV (kZ h) [yP a0,yT a1,.z 0]
theorem cn_f(h:Heap)(q n0:Nat)(t:ByteArray)(v:Int)(n:Nat)(a0:Pu n 228 [sv q 0 n0 n0,.string t] (iv v) h.fresh)(a1:decide ((v:Int)≥0)=false):Fn n 212 [sv q 0 n0 n0,.string t] h (.bool false) h.fresh:=
 fnV (kZ h) [yP a0,yF a1,.z 0]
theorem pl_in(h:Heap)(p b k T E:Nat)(ts:List Tk)(x:Tk)(n:Nat)(hp:h.get p=some (y2_1 b T k E))(hb:h.get b=some (y2_2 ts))(hx:ts[k]? =some x)(_h1:k < T)(a0:decide (((k:Int):Int) < T)=true):Fn n 202 [pv p 0] h (iv (x.at_:Int)) h.fresh:=
 fnV (kJ (ko hp) (kx hb hx)) [.l 0 3 1,.l 0 155 0,yT a0,yN h.nx,.q (.l 0 3 1),.q (.l 0 155 0),yQ (iv T),.l 0 155 0,.l 0 3 1,iA 155 199 4 b T k,.k 1 3 2,yN h.nx,.q (.l 0 155 0),.q (.l 0 3 1),.q (.k 1 3 2),.z 0]
theorem pl_end(h:Heap)(p k T E:Nat)(r:Option Addr)(n:Nat)(hp:h.get p=some (y2_6 r T k E))(a0:decide (((k:Int):Int) < T)=false):Fn n 202 [pv p 0] h (iv E) h.fresh:=
 fnV (kI (ko hp)) [.l 0 3 1,.l 0 155 0,yF a0,yN h.nx,.q (.l 0 3 1),.q (.l 0 155 0),yQ (iv T),.l 0 3 2,.z 0]
theorem fl(h:Heap)(p e:Nat)(n:Nat)(a0:Pu n 202 [pv p 0] (iv (e:Int)) h.fresh):∃ H,Fn n 177 [pv p 0] h (.iface 242 (pv h.nx 0)) H∧tw0 h h.fresh.wm (h.nx+1) H (H.get h.nx=some (.row 245 [iv (e:Int),iv 13] 0 false)):=
 exV (kZ h) [yP a0,aS 245 [iv (e:Int),iv 13],.z 0] [0]
theorem dp_t(h:Heap)(d:Nat)(n:Nat)(a0:decide (((d:Int):Int)>40)=true):∃ H,Fn n 198 [iv (d:Int)] h (.iface 242 (pv h.nx 0)) H∧tw0 h h.fresh.wm (h.nx+1) H (H.get h.nx=some (.row 245 [iv 0,iv 14] 0 false)):=
 exV (kZ h) [yT a0,aS 245 [iv 0,iv 14],.z 0] [0]
theorem dp_f(h:Heap)(d:Nat)(n:Nat)(a0:decide (((d:Int):Int)>40)=false):Fn n 198 [iv (d:Int)] h .nilIface h.fresh:=
 fnV (kZ h) [yF a0,.z 0]
theorem op_end(h:Heap)(p k T E:Nat)(r:Option Addr)(n:Nat)(hp:h.get p=some (y2_6 r T k E))(_h1:k < 4611686018427387904)(a0:decide (((k:Int)+1:Int) < T)=false):Fn n 252 [pv p 0] h (.bool false) h.fresh:=
 fnV (kI (ko hp)) [.l 0 3 1,yW ((k:Int)+1),.l 0 155 0,yF a0,yN h.nx,.q (.l 0 3 1),.q (.l 0 155 0),yQ (iv T),.z 0]
theorem op_k(h:Heap)(p b k T E:Nat)(ts:List Tk)(x:Tk)(n:Nat)(hp:h.get p=some (y2_1 b T k E))(hb:h.get b=some (y2_2 ts))(hx:ts[k+1]? =some x)(_h1:k+1 < T)(_h2:T < 4611686018427387904)(a0:decide (((k:Int)+1:Int) < T)=true)(a1:(((x.k:Int):Int)==4)=false):Fn n 252 [pv p 0] h (.bool false) h.fresh:=
 fnV (kJ (ko hp) (kx hb hx)) [.l 0 3 1,yW ((k:Int)+1),.l 0 155 0,yT a0,.l 0 155 0,.l 0 3 1,yW ((k:Int)+1),iB 155 199 4 b T k,.k 1 3 0,yF a1,yN h.nx,.q (.l 0 3 1),.q (.l 0 155 0),yQ (iv T),.q (.l 0 155 0),.q (.l 0 3 1),.q (.k 1 3 0),.z 0]
theorem op_t(h:Heap)(p b k T E:Nat)(ts:List Tk)(x:Tk)(n:Nat)(hp:h.get p=some (y2_1 b T k E))(hb:h.get b=some (y2_2 ts))(hx:ts[k+1]? =some x)(_h1:k+1 < T)(_h2:T < 4611686018427387904)(a0:decide (((k:Int)+1:Int) < T)=true)(a1:(((x.k:Int):Int)==4)=true)(a2:bqS ⟨⟨x.t⟩⟩ ⟨#[40]⟩=false):Fn n 252 [pv p 0] h (.bool false) h.fresh:=
 fnV (kJ (ko hp) (kx hb hx)) [.l 0 3 1,yW ((k:Int)+1),.l 0 155 0,yT a0,.l 0 155 0,.l 0 3 1,yW ((k:Int)+1),iB 155 199 4 b T k,.k 1 3 0,yT a1,.l 0 155 0,.l 0 3 1,yW ((k:Int)+1),iB 155 199 4 b T k,.k 1 9 1,yF a2,yN h.nx,.q (.l 0 3 1),.q (.l 0 155 0),yQ (iv T),.q (.l 0 155 0),.q (.l 0 3 1),.q (.k 1 3 0),.q (.l 0 155 0),.q (.l 0 3 1),.q (.k 1 9 1),.z 0]
theorem op_y(h:Heap)(p b k T E:Nat)(ts:List Tk)(x:Tk)(n:Nat)(hp:h.get p=some (y2_1 b T k E))(hb:h.get b=some (y2_2 ts))(hx:ts[k+1]? =some x)(_h1:k+1 < T)(_h2:T < 4611686018427387904)(a0:decide (((k:Int)+1:Int) < T)=true)(a1:(((x.k:Int):Int)==4)=true)(a2:bqS ⟨⟨x.t⟩⟩ ⟨#[40]⟩=true):Fn n 252 [pv p 0] h (.bool true) h.fresh:=
 fnV (kJ (ko hp) (kx hb hx)) [.l 0 3 1,yW ((k:Int)+1),.l 0 155 0,yT a0,.l 0 155 0,.l 0 3 1,yW ((k:Int)+1),iB 155 199 4 b T k,.k 1 3 0,yT a1,.l 0 155 0,.l 0 3 1,yW ((k:Int)+1),iB 155 199 4 b T k,.k 1 9 1,yT a2,yN h.nx,.q (.l 0 3 1),.q (.l 0 155 0),yQ (iv T),.q (.l 0 155 0),.q (.l 0 3 1),.q (.k 1 3 0),.q (.l 0 155 0),.q (.l 0 3 1),.q (.k 1 9 1),.z 0]
theorem sg_end(h:Heap)(p k T E q n0:Nat)(r:Option Addr)(n:Nat)(hp:h.get p=some (y2_6 r T k E))(a0:(((k:Int):Int)==T)=true):Fn n 200 [pv p 0,sv q 0 n0 n0] h y2_4 h.fresh:=
 fnT (kI (ko hp)) [.l 0 3 1,.l 0 155 0,yT a0,yN h.nx,.q (.l 0 3 1),.q (.l 0 155 0),yQ (iv T),.z 0]
theorem sg_k(h:Heap)(p b k T E q n0:Nat)(ts:List Tk)(x:Tk)(n:Nat)(hp:h.get p=some (y2_1 b T k E))(hb:h.get b=some (y2_2 ts))(hx:ts[k]? =some x)(_h1:k < T)(_h2:T < 4611686018427387904)(a0:(((k:Int):Int)==T)=false)(a1:(((x.k:Int):Int) !=4)=true):Fn n 200 [pv p 0,sv q 0 n0 n0] h y2_4 h.fresh:=
 fnT (kJ (ko hp) (kx hb hx)) [.l 0 3 1,.l 0 155 0,yF a0,.l 0 155 0,.l 0 3 1,iA 155 199 4 b T k,.k 1 3 0,yT a1,yN h.nx,.q (.l 0 3 1),.q (.l 0 155 0),yQ (iv T),.q (.l 0 155 0),.q (.l 0 3 1),.q (.k 1 3 0),.z 0]
theorem sg_n(h:Heap)(p b k T E q n0:Nat)(ts:List Tk)(x:Tk)(n:Nat)(hp:h.get p=some (y2_1 b T k E))(hb:h.get b=some (y2_2 ts))(hx:ts[k]? =some x)(_h1:k < T)(_h2:T < 4611686018427387904)(a0:(((k:Int):Int)==T)=false)(a1:(((x.k:Int):Int) !=4)=false)(a2:Pu n 212 [sv q 0 n0 n0,.string ⟨⟨x.t⟩⟩] (.bool false) h.fresh):Fn n 200 [pv p 0,sv q 0 n0 n0] h y2_4 h.fresh:=
 fnT (kJ (ko hp) (kx hb hx)) [.l 0 3 1,.l 0 155 0,yF a0,.l 0 155 0,.l 0 3 1,iA 155 199 4 b T k,.k 1 3 0,yF a1,.l 0 155 0,.l 0 3 1,iA 155 199 4 b T k,.k 1 9 1,yP a2,yN h.nx,.q (.l 0 3 1),.q (.l 0 155 0),yQ (iv T),.q (.l 0 155 0),.q (.l 0 3 1),.q (.k 1 3 0),.q (.l 0 155 0),.q (.l 0 3 1),.q (.k 1 9 1),.z 0]
theorem sg_y(h:Heap)(p b k T E q n0:Nat)(ts:List Tk)(x:Tk)(n:Nat)(hp:h.get p=some (y2_1 b T k E))(hb:h.get b=some (y2_2 ts))(hx:ts[k]? =some x)(_h1:k < T)(_h2:T < 4611686018427387904)(_hl:p < h.nx)(_hpb:b≠p)(a0:(((k:Int):Int)==T)=false)(a1:(((x.k:Int):Int) !=4)=false)(a2:Pu n 212 [sv q 0 n0 n0,.string ⟨⟨x.t⟩⟩] (.bool true) h.fresh):∃ H,Fn n 200 [pv p 0,sv q 0 n0 n0] h (.tuple #[.string ⟨⟨x.t⟩⟩,.bool true]) H∧tw1 h h.fresh.wm p h.nx H (H.get p=some (.row 274 [sv b 0 T T,iv ((k:Int)+1),iv E] 0 false)):=
 exT (kJ (ko hp) (kx hb hx)) [.l 0 3 1,.l 0 155 0,yF a0,.l 0 155 0,.l 0 3 1,iA 155 199 4 b T k,.k 1 3 0,yF a1,.l 0 155 0,.l 0 3 1,iA 155 199 4 b T k,.k 1 9 1,yP a2,yN h.nx,.q (.l 0 3 1),.q (.l 0 155 0),yQ (iv T),.q (.l 0 155 0),.q (.l 0 3 1),.q (.k 1 3 0),.q (.l 0 155 0),.q (.l 0 3 1),.q (.k 1 9 1),.l 0 3 1,yW ((k:Int)+1),.w 0 3 1 (iv ((k:Int)+1)),.l 0 155 0,.l 0 3 1,yW (((k:Int)+1) - 1),iD 155 199 4 b T k,.k 1 9 1,yN h.nx,.q (.l 0 155 0),.q (.l 0 3 1),.q (.k 1 9 1),.z 0] [0]
theorem tw(h:Heap)(s:List UInt8)(x y:Hd)(xr yr:Option Addr)(xn yn:Nat)(n:Nat):∃ H,Fn n 201 [.string ⟨⟨s⟩⟩,ndV x xr xn,ndV y yr yn] h (y2_3 s h) H∧tw0 h h.fresh.wm (h.nx+4) H (H.get (h.nx+3)=some (.row 72 (ndL x xr xn++ndL y yr yn) 0 false)):=
 exV (kZ h) [aS 72 (ndL x xr xn),aS 72 (ndL y yr yn),aS 72 z72,.g 0 72 0 10,.g 1 72 0 10,aS 72 (ndL x xr xn++ndL y yr yn),.w 2 72 0 (y2_3 s h),.r 2 72 10] [3]
end
end Go.PanE
namespace Go.PanE
open Go.Proofs
/-- All that lay lies still. -/
structure Kp(h g:Heap):Prop where
 nx:h.nx≤g.nx
 get:∀ c,c < h.nx→g.get c=h.get c
 wm:g.wm≤h.wm
theorem Kp.refl(h:Heap):Kp h h:=⟨Nat.le_refl _,fun _ _=>rfl,Nat.le_refl _⟩
theorem Kp.fr{h g:Heap}(a:Kp h g)(p:Nat):Fr h g p:=⟨a.nx,fun c hc _=>a.get c hc⟩
theorem fin_new{X:Option (Value×Heap)}{h H:Heap}{v:Value}(e:X=some (finish h v H))(hl:lowV h.nx 5 v=false):X=some (v,{H with wm:=min h.wm H.wm}):=by
 rw[e,finish_new hl]
theorem fin_wr{X:Option (Value×Heap)}{h H:Heap}{v:Value}(e:X=some (finish h v H))(hw:H.wm < h.nx):X=some (v,{H with wm:=min h.wm H.wm}):=by
 rw[e,finish_wrote hw]
theorem fin_old{X:Option (Value×Heap)}{h:Heap}{v:Value}(e:X=some (finish h v h.fresh))(hl:lowV h.nx 5 v=true):X=some (v,h):=by
 rw[e,finish_fresh hl]
theorem blt_false{a b:Nat}(h:b≤a):Nat.blt a b=false:=by
 cases e:Nat.blt a b with
 |false=>rfl
 |true=>rw[Nat.blt_eq] at e;omega
theorem low_err{n q:Nat}(h:n≤q):lowV n 5 (.iface 242 (pv q 0))=false:=by
 simp[lowV,blt_false h]
theorem low_err2{n q:Nat}{x:Value}(h:n≤q):lowV n 5 (.tuple #[x,.iface 242 (pv q 0)])=false:=by
 simp[lowV,blt_false h]
section
variable {h:Heap} {q:Nat} {ops:List (List UInt8)} {es:Nat} {ro:Bool}
theorem ops_ld{g:Heap}(hg:g.get q=some (.row 9 (ops.map fun s=>.string ⟨⟨s⟩⟩) es ro)){i:Nat}{s:List UInt8}(hi:ops[i]? =some s):LD g 9 q (0+i * 1) (.string ⟨⟨s⟩⟩):=
 ld_cell hg (by kernel_rfl) (by rw[Nat.zero_add,Nat.mul_one,List.head?_drop,List.getElem?_map,hi];rfl)
theorem ix_loop(t:List UInt8)(n:Nat)(hg:h.get q=some (.row 9 (ops.map fun s=>.string ⟨⟨s⟩⟩) es ro))(hl:ops.length≤100):∀ (r:List (List UInt8)) (i:Nat),ops.drop i=r→
  if t∈r then ∃ j R:Nat,R≤r.length+1∧Loops En (RD n) 19 5000 (sub [1,0,1,0,0] (bodyOf Tryz.f228)) [(0,sv q 0 ops.length ops.length),(1,.string ⟨⟨t⟩⟩),(7,iv ops.length),(8,iv ((i:Nat):Int))] h .ret [(4,iv ((j:Nat):Int))] h R
  else ∃ R,R≤r.length+1∧Loops En (RD n) 19 5000 (sub [1,0,1,0,0] (bodyOf Tryz.f228)) [(0,sv q 0 ops.length ops.length),(1,.string ⟨⟨t⟩⟩),(7,iv ops.length),(8,iv ((i:Nat):Int))] h (.exit 0) [] h R:=by
 intro r
 induction r with
 |nil=>
  intro i hi
  rw[if_neg (by simp)]
  have:ops.length≤i:=List.drop_eq_nil_iff.1 hi
  exact⟨1,by omega,.out (ix_end h q ops.length i ⟨⟨t⟩⟩ n (lt_dec' (by omega)))⟩
 |cons s r ih=>
  intro i hi
  have hlt:i < ops.length:=by
   rcases Nat.lt_or_ge i ops.length with h1|h1
   ·exact h1
   ·rw[List.drop_eq_nil_of_le h1] at hi;cases hi
  have hs:ops[i]? =some s:=by
   have:=congrArg List.head? hi
   rw[List.head?_drop] at this
   exact this
  have hn:ops.drop (i+1)=r:=by rw[← List.drop_drop,hi];rfl
  have ld:=ops_ld hg hs
  by_cases hts:t=s
  ·subst hts
   rw[if_pos (by simp)]
   exact⟨i,1,by omega,.ret (ix_hit h q ops.length i ⟨⟨t⟩⟩ ⟨⟨t⟩⟩ n hlt (by omega) (lt_dec hlt) ld (by simp))⟩
  ·have hb:=ix_on h q ops.length i ⟨⟨t⟩⟩ ⟨⟨s⟩⟩ n hlt (by omega) (lt_dec hlt) ld (by simpa using hts)
   have:=ih (i+1) hn
   by_cases htr:t∈r
   ·rw[if_pos htr] at this
    rw[if_pos (by simp[htr])]
    obtain⟨j,R,hR,hL⟩:=this
    exact⟨j,R+1,by simp only[List.length_cons];omega,.on hb hL⟩
   ·rw[if_neg htr] at this
    rw[if_neg (by simp[htr,hts])]
    obtain⟨R,hR,hL⟩:=this
    exact⟨R+1,by simp only[List.length_cons];omega,.on hb hL⟩
theorem contains_law(t:List UInt8)(n:Nat)(hn:2≤n)(hg:h.get q=some (.row 9 (ops.map fun s=>.string ⟨⟨s⟩⟩) es ro))(hl:ops.length≤100):
  RD n 212 [sv q 0 ops.length ops.length,.string ⟨⟨t⟩⟩] h=some (.bool (decide (t∈ops)),h):=by
 obtain⟨n,rfl⟩:∃ m,n=m+1+1:=⟨n - 2,by omega⟩
 have L:=ix_loop (h:=h.fresh.fresh) t n hg hl ops 0 (List.drop_zero)
 by_cases ht:t∈ops
 ·rw[if_pos ht] at L
  obtain⟨j,R,hR,hL⟩:=L
  have e1:=fin_old (ix_p1 h.fresh q ops.length ⟨⟨t⟩⟩ (j:Int) n (hL.fact' (by omega) ⟨by kernel_rfl,by kernel_rfl,by kernel_rfl,by kernel_rfl,trivial⟩)) rfl
  rw[decide_eq_true ht]
  exact fin_old (cn_t h q ops.length ⟨⟨t⟩⟩ (j:Int) (n+1) e1 (decide_eq_true (by omega))) rfl
 ·rw[if_neg ht] at L
  obtain⟨R,hR,hL⟩:=L
  have e1:=fin_old (ix_p2 h.fresh q ops.length ⟨⟨t⟩⟩ n (hL.fact' (by omega) ⟨by kernel_rfl,by kernel_rfl,by kernel_rfl,by kernel_rfl,trivial⟩)) rfl
  rw[decide_eq_false ht]
  exact fin_old (cn_f h q ops.length ⟨⟨t⟩⟩ (-1) (n+1) e1 rfl) rfl
end
section
variable {m:Int} {h:Heap} {p b:Nat} {ts:List Tk} {E k:Nat}
theorem PSt.some_b(s:PSt m h p b ts E k){i:Nat}(hi:i < ts.length):h.get b=some (.row 199 (tkC ts) 4 false):=by
 rcases s.tk with rfl|h1
 ·simp at hi
 ·exact h1
theorem tsV_some{i:Nat}(hi:i < ts.length):tsV b ts=sv b 0 ts.length ts.length:=by
 cases ts with
 |nil=>simp at hi
 |cons x l=>rfl
theorem PSt.pb(s:PSt m h p b ts E k){i:Nat}(hi:i < ts.length):b≠p:=by
 rintro rfl
 have:=s.pp
 rw[s.some_b hi] at this
 cases this
theorem PSt.pp'(s:PSt m h p b ts E k){i:Nat}(hi:i < ts.length):h.get p=some (.row 274 [sv b 0 ts.length ts.length,.int .i64 ((k:Nat):Int),.int .i64 E] 0 false):=by
 rw[← tsV_some (b:=b) hi];exact s.pp
theorem PSt.get(_s:PSt m h p b ts E k){i:Nat}(hi:i < ts.length):∃ x,ts[i]? =some x:=⟨ts[i],List.getElem?_eq_getElem hi⟩
theorem place_law(s:PSt m h p b ts E k)(n:Nat)(hn:1≤n):RD n 202 [pv p 0] h=some (iv (place ts E k:Int),h):=by
 obtain⟨n,rfl⟩:∃ m,n=m+1:=⟨n - 1,by omega⟩
 unfold place
 by_cases hk:k < ts.length
 ·obtain⟨x,hx⟩:=s.get hk
  rw[hx]
  exact fin_old (pl_in h p b k ts.length E ts x n (s.pp' hk) (s.some_b hk) hx hk (lt_dec hk)) rfl
 ·rw[List.getElem?_eq_none (by omega)]
  exact fin_old (pl_end h p k ts.length E (tsR b ts) n s.pp (lt_dec' hk)) rfl
theorem fail_law(s:PSt m h p b ts E k)(n:Nat)(hn:2≤n):∃ h',RD n 177 [pv p 0] h=some (.iface 242 (pv h.nx 0),h')∧Kp h h'∧h'.nx=h.nx+1∧h'.get h.nx=some (.row 245 [iv (place ts E k:Int),iv 13] 0 false):=by
 obtain⟨n,rfl⟩:∃ m,n=m+1:=⟨n - 1,by omega⟩
 obtain⟨H,e,g,nx,wm,w⟩:=fl h p (place ts E k) n (place_law s.fresh n (by omega))
 exact⟨_,fin_new e (low_err (Nat.le_refl _)),⟨by show h.nx≤H.nx;omega,g,Nat.min_le_left _ _⟩,nx,w⟩
theorem deep_ok(h:Heap)(d n:Nat)(hn:1≤n)(hd:d≤40):RD n 198 [iv ((d:Nat):Int)] h=some (.nilIface,h):=by
 obtain⟨n,rfl⟩:∃ m,n=m+1:=⟨n - 1,by omega⟩
 exact fin_old (dp_f h d n (gt_dec' (b:=40) (by omega))) rfl
theorem deep_err(h:Heap)(d n:Nat)(hn:1≤n)(hd:40 < d):∃ h',RD n 198 [iv ((d:Nat):Int)] h=some (.iface 242 (pv h.nx 0),h')∧Kp h h'∧h'.nx=h.nx+1∧h'.get h.nx=some (.row 245 [iv 0,iv 14] 0 false):=by
 obtain⟨n,rfl⟩:∃ m,n=m+1:=⟨n - 1,by omega⟩
 obtain⟨H,e,g,nx,wm,w⟩:=dp_t h d n (gt_dec (b:=40) hd)
 exact⟨_,fin_new e (low_err (Nat.le_refl _)),⟨by show h.nx≤H.nx;omega,g,Nat.min_le_left _ _⟩,nx,w⟩
theorem ne4(x:Nat):(((x:Int):Int) !=4)= !decide (x=4):=by
 have:=beqI x 4
 rw[show((4:Nat):Int)=4 from rfl] at this
 show(!((x:Int)==4))=_
 rw[this];simp[Bool.beq_eq_decide_eq]
theorem eqN(x k:Nat):(((x:Int):Int)==(k:Int))=decide (x=k):=by
 rw[beqI];simp[Bool.beq_eq_decide_eq]
theorem beqL(a c:List UInt8):bqS ⟨⟨a⟩⟩ ⟨⟨c⟩⟩=decide (a=c):=by
 simp[Bool.beq_eq_decide_eq]
theorem opens_law(s:PSt m h p b ts E k)(n:Nat)(hn:1≤n):RD n 252 [pv p 0] h=some (.bool (opens ts k),h):=by
 obtain⟨n,rfl⟩:∃ m,n=m+1:=⟨n - 1,by omega⟩
 have h3:=s.tT
 have hT:=s.kT
 by_cases hk:k+1 < ts.length
 ·obtain⟨x,hx⟩:=s.get hk
  have hd:decide (((k:Nat):Int)+1 < (ts.length:Int))=true:=decide_eq_true (by omega)
  unfold opens sg
  rw[hx]
  by_cases h4:x.k=4
  ·by_cases ht:x.t=[40]
   ·simp only[h4,ht,List.mem_singleton,and_self,if_true,Option.isSome_some]
    exact fin_old (op_y h p b k ts.length E ts x n (s.pp' hk) (s.some_b hk) hx hk (by omega) hd (by rw[h4];rfl) (by rw[ht];rfl)) rfl
   ·simp only[h4,ht,List.mem_singleton,and_false,if_false,Option.isSome_none]
    exact fin_old (op_t h p b k ts.length E ts x n (s.pp' hk) (s.some_b hk) hx hk (by omega) hd (by rw[h4];rfl) (by have:=beqL x.t [40];rw[decide_eq_false ht] at this;exact this)) rfl
  ·simp only[h4,false_and,if_false,Option.isSome_none]
   exact fin_old (op_k h p b k ts.length E ts x n (s.pp' hk) (s.some_b hk) hx hk (by omega) hd (by have:=eqN x.k 4;rw[decide_eq_false h4] at this;exact this)) rfl
 ·unfold opens sg
  rw[List.getElem?_eq_none (by omega)]
  exact fin_old (op_end h p k ts.length E (tsR b ts) n s.pp (by omega) (decide_eq_false (by omega))) rfl
/-- What sign makes. -/
def SgTo(m:Int)(h:Heap)(p b:Nat)(ts:List Tk)(E k:Nat)(ops:List (List UInt8))(v:Value)(h':Heap):Prop:=
 match sg ts ops k with
 |none=>v= .tuple #[.string ⟨#[]⟩,.bool false]∧h'=h
 |some s=>v= .tuple #[.string ⟨⟨s⟩⟩,.bool true]∧Fr h h' p∧h'.nx=h.nx∧PSt m h' p b ts E (k+1)∧h'.wm≤h.wm∧h'.wm≤p
theorem sign_law{q es:Nat}{ops:List (List UInt8)}{ro:Bool}(s:PSt m h p b ts E k)(n:Nat)(hn:3≤n)(hg:h.get q=some (.row 9 (ops.map fun s=>.string ⟨⟨s⟩⟩) es ro))(hl:ops.length≤100):
  ∃ v h',RD n 200 [pv p 0,sv q 0 ops.length ops.length] h=some (v,h')∧SgTo m h p b ts E k ops v h':=by
 obtain⟨n,rfl⟩:∃ m,n=m+1:=⟨n - 1,by omega⟩
 have h3:=s.tT
 have hT:=s.kT
 by_cases hk:k < ts.length
 ·obtain⟨x,hx⟩:=s.get hk
  have hd:(((k:Nat):Int)==(ts.length:Int))=false:=eq_dec' (by omega)
  have hc:=contains_law (h:=h.fresh) x.t n (by omega) hg hl
  unfold SgTo sg
  rw[hx]
  by_cases h4:x.k=4
  ·by_cases ht:x.t∈ops
   ·rw[decide_eq_true ht] at hc
    obtain⟨H,e,g,nx,wm,wp,w⟩:=sg_y h p b k ts.length E q ops.length ts x n (s.pp' hk) (s.some_b hk) hx hk (by omega) s.lt (s.pb hk) hd (by rw[h4];rfl) hc
    have hfr:Fr h H p:=⟨by omega,fun c hc hcp=>g c hc hcp⟩
    simp only[h4,ht,and_self,if_true]
    refine⟨_,_,fin_wr e (by have:=s.lt;omega),rfl,hfr.wm _,nx,(s.fr hfr ?_ (by omega)).wm,Nat.min_le_left _ _,Nat.le_trans (Nat.min_le_right _ _) wp⟩
    rw[w,tsV_some hk];rfl
   ·rw[decide_eq_false ht] at hc
    simp only[h4,ht,and_false,if_false]
    exact⟨_,_,fin_old (sg_n h p b k ts.length E q ops.length ts x n (s.pp' hk) (s.some_b hk) hx hk (by omega) hd (by rw[h4];rfl) hc) rfl,rfl,rfl⟩
  ·simp only[h4,false_and,if_false]
   exact⟨_,_,fin_old (sg_k h p b k ts.length E q ops.length ts x n (s.pp' hk) (s.some_b hk) hx hk (by omega) hd (by rw[ne4,decide_eq_false h4];rfl)) rfl,rfl,rfl⟩
 ·unfold SgTo sg
  rw[List.getElem?_eq_none (by omega)]
  exact⟨_,_,fin_old (sg_end h p k ts.length E q ops.length (tsR b ts) n s.pp (eq_dec (by omega))) rfl,rfl,rfl⟩
theorem NodeI.keep{g:Heap}{lo hi lo' hi':Nat}{x:Hd}{r:Option Addr}{l:Nat}{t:Tr}(N:NodeI h lo hi x r l t)(hg:∀ c,c < h.nx→g.get c=h.get c)(hl:lo'≤lo)(hh:hi≤hi'):NodeI g lo' hi' x r l t:=
 N.mono hl hh fun c o _ _ e=>(hg c (Heap.lt_of_get e)).trans e
theorem two_lawC{P Q:Nat→Prop}{x y:Hd}{xr yr:Option Addr}{xn yn:Nat}{t u:Tr}(s:List UInt8)(n:Nat)(hn:1≤n)(hx:NodeC h P x xr xn t)(hy:NodeC h P y yr yn u)(hPQ:∀ c,P c→c < h.nx→Q c)(hQ:Q (h.nx+3)):
  ∃ h',RD n 201 [.string ⟨⟨s⟩⟩,ndV x xr xn,ndV y yr yn] h=some (ndV (hdOp 5 s) (some ⟨h.nx+3,0,none⟩) 2,h')∧Kp h h'∧NodeC h' Q (hdOp 5 s) (some ⟨h.nx+3,0,none⟩) 2 (twoT s t u)∧h.nx+3 < h'.nx:=by
 obtain⟨n,rfl⟩:∃ m,n=m+1:=⟨n - 1,by omega⟩
 obtain⟨H,e,g,nx,wm,w⟩:=tw h s x y xr yr xn yn n
 have hlow:lowV h.nx 5 (.agg #[iv 5,iv 0,iv 0,.string ⟨#[]⟩,iv 0,iv 0,iv 0,iv 0,.string ⟨⟨s⟩⟩,sv (h.nx+3) 0 2 2])=false:=by
  simp[lowV,blt_false (Nat.le_add_right h.nx 3)]
 have tr:∀ c o,P c→h.get c=some o→Q c∧({H with wm:=min h.wm H.wm}:Heap).get c=some o:=fun c o hP e=>⟨hPQ c hP (Heap.lt_of_get e),(g c (Heap.lt_of_get e)).trans e⟩
 refine⟨_,fin_new e hlow,⟨by show h.nx≤H.nx;omega,g,Nat.min_le_left _ _⟩,?_,by show h.nx+3 < H.nx;omega⟩
 refine NodeC.mk (ts:=[t,u]) (es:=0) (ro:=false) (cs:=ndL x xr xn++ndL y yr yn) _ hQ w ?_
 unfold ArgsC
 refine⟨x,xr,xn,ndL y yr yn,rfl,hx.mono tr,?_⟩
 unfold ArgsC
 refine⟨y,yr,yn,[],by rw[List.append_nil],hy.mono tr,?_⟩
 unfold ArgsC;rfl
theorem two_law{lo hi:Nat}{x y:Hd}{xr yr:Option Addr}{xn yn:Nat}{t u:Tr}(s:List UInt8)(n:Nat)(hn:1≤n)(hx:NodeI h lo hi x xr xn t)(hy:NodeI h lo hi y yr yn u)(hlo:lo≤h.nx)(_hhi:hi≤h.nx):
  ∃ h' q,RD n 201 [.string ⟨⟨s⟩⟩,ndV x xr xn,ndV y yr yn] h=some (ndV (hdOp 5 s) (some ⟨q,0,none⟩) 2,h')∧Kp h h'∧NodeI h' lo h'.nx (hdOp 5 s) (some ⟨q,0,none⟩) 2 (twoT s t u):=by
 obtain⟨h',e,K,N,l⟩:=two_lawC (Q:=fun c=>lo≤c∧c < h.nx+4) s n hn hx hy (fun c hc hl=>⟨hc.1,by omega⟩) ⟨by omega,by omega⟩
 exact⟨h',_,e,K,N.mono (fun c o hc e=>⟨⟨hc.1,Heap.lt_of_get e⟩,e⟩)⟩
end
end Go.PanE
namespace Go.PanE
open Go.Proofs
noncomputable section
abbrev y4_1:List Value:=[.string ⟨#[61]⟩,.string ⟨#[60,62]⟩,.string ⟨#[60]⟩,.string ⟨#[60,61]⟩,.string ⟨#[62]⟩,.string ⟨#[62,61]⟩]
abbrev y4_2(p d:Nat):List Value:=[pv p 0,iv (d:Int)]
abbrev y4_3(q:Nat):Value:=.tuple #[z72V,.iface 242 (pv q 0)]
abbrev y4_4(h:Heap):Heap:=al (al h.fresh 72 z72) 9 [.string ⟨#[45]⟩]
abbrev y4_5:List Value:=[.string ⟨#[43]⟩,.string ⟨#[45]⟩,.string ⟨#[38]⟩]
abbrev y4_6:List Value:=[.string ⟨#[42]⟩,.string ⟨#[47]⟩,.string ⟨#[37]⟩]
abbrev y4_7:Value:=.tuple #[.string ⟨#[]⟩,.bool false]
abbrev y4_8(h1:Heap)(x:Hd)(xr:Option Addr)(xn:Nat):Heap:=pt (al h1 72 z72) h1.nx 72 (ndL x xr xn)
abbrev y4_9(p d:Nat):List Value:=[pv p 0,iv ((d:Int)+1)]
abbrev y4_10(x:Hd)(xr:Option Addr)(xn:Nat):Value:=.tuple #[ndV x xr xn,.nilIface]
abbrev y4_11(p:Nat)(h1:Heap):List Value:=[pv p 0,sv (h1.nx+1) 0 1 1]
abbrev y4_12(x:Hd)(xr:Option Addr)(xn:Nat):AObj:=.row 72 (ndL x xr xn) 0 false
theorem fo_deep(h h1:Heap)(p d q n:Nat)(gh1_hnx:h1.get h.nx=some (.row 72 z72 0 false))(_lhnxh1:h.nx < h1.nx)(a0:RD n 198 [iv (d:Int)] (al h.fresh 72 z72)=some (.iface 242 (pv q 0),h1)):∃ H,Fn n 176 (y4_2 p d) h (y4_3 q) H∧tl1 h1 h1.wm h.nx h1.nx H:=
 exT (kZ h) [aS 72 z72,yC a0 (kI (ko gh1_hnx)),bT,.w 0 72 0 (z72V),.r 0 72 10,.z 1] []
theorem fo_e1(h h1:Heap)(p d q n:Nat)(gh1_hnx:h1.get h.nx=some (.row 72 z72 0 false))(_lhnxh1:h.nx < h1.nx)(a0:Pu n 198 [iv (d:Int)] .nilIface (al h.fresh 72 z72))(a1:RD n 199 (y4_2 p d) (al h.fresh 72 z72)=some (.tuple #[z72V,.iface 242 (pv q 0)],h1)):∃ H,Fn n 176 (y4_2 p d) h (y4_3 q) H∧tl1 h1 h1.wm h.nx (h1.nx+1) H:=
 exT (kZ h) [aS 72 z72,yP a0,bF,yC a1 (kI (ko gh1_hnx)),aS 72 z72,.w 1 72 0 (z72V),bT,.w 0 72 0 (z72V),.r 0 72 10,.z 1] []
theorem fo_one(h h1:Heap)(p d n:Nat)(x:Hd)(xr:Option Addr)(xn:Nat)(gh1_hnx:h1.get h.nx=some (.row 72 z72 0 false))(_lhnxh1:h.nx < h1.nx)(a0:Pu n 198 [iv (d:Int)] .nilIface (al h.fresh 72 z72))(a1:RD n 199 (y4_2 p d) (al h.fresh 72 z72)=some (.tuple #[ndV x xr xn,.nilIface],h1))(a2:Pu n 200 [pv p 0,sv (h1.nx+1) 0 6 6] y4_7 (al (y4_8 h1 x xr xn) 9 y4_1)):∃ H,Fn n 176 (y4_2 p d) h (y4_10 x xr xn) H∧tl1 h1 h1.wm h.nx (h1.nx+2) H:=
 exT (kZ h) [aS 72 z72,yP a0,bF,yC a1 (kI (ko gh1_hnx)),aS 72 z72,.w 1 72 0 (ndV x xr xn),bF,aS 9 y4_1,yP a2,.g 1 72 0 10,.w 0 72 0 (ndV x xr xn),.r 0 72 10,.z 1] []
theorem fo_e2(h h1 h2 h3:Heap)(p d q n:Nat)(s:List UInt8)(x:Hd)(xr:Option Addr)(xn:Nat)(gh3_hnx:h3.get h.nx=some (.row 72 z72 0 false))(gh3_h1nx:h3.get h1.nx=some (y4_12 x xr xn))(_lhnxh3:h.nx < h3.nx)(_lh1nxh3:h1.nx < h3.nx)(a0:Pu n 198 [iv (d:Int)] .nilIface (al h.fresh 72 z72))(a1:RD n 199 (y4_2 p d) (al h.fresh 72 z72)=some (.tuple #[ndV x xr xn,.nilIface],h1))(a2:RD n 200 [pv p 0,sv (h1.nx+1) 0 6 6] (al (y4_8 h1 x xr xn) 9 y4_1)=some (.tuple #[.string ⟨⟨s⟩⟩,.bool true],h2))(a3:RD n 199 (y4_2 p d) h2=some (.tuple #[z72V,.iface 242 (pv q 0)],h3)):∃ H,Fn n 176 (y4_2 p d) h (y4_3 q) H∧tl1 h3 h3.wm h.nx (h3.nx+1) H:=
 exT (kZ h) [aS 72 z72,yP a0,bF,yC a1 (kZ h1),aS 72 z72,.w 0 72 0 (ndV x xr xn),bF,aS 9 y4_1,yC a2 (kZ h2),yC a3 (kI (ko gh3_hnx)),aS 72 z72,.w 1 72 0 (z72V),bT,.w 0 72 0 (z72V),.r 0 72 10,.z 1] []
theorem fo_ok(h h1 h2 h3 h4:Heap)(p d n:Nat)(s:List UInt8)(x:Hd)(xr:Option Addr)(xn:Nat)(y:Hd)(yr:Option Addr)(yn:Nat)(w:Hd)(wr:Option Addr)(wn:Nat)(gh3_hnx:h3.get h.nx=some (.row 72 z72 0 false))(gh3_h1nx:h3.get h1.nx=some (y4_12 x xr xn))(_lhnxh3:h.nx < h3.nx)(_lh1nxh3:h1.nx < h3.nx)(gh4_hnx:h4.get h.nx=some (.row 72 z72 0 false))(_lhnxh4:h.nx < h4.nx)(a0:Pu n 198 [iv (d:Int)] .nilIface (al h.fresh 72 z72))(a1:RD n 199 (y4_2 p d) (al h.fresh 72 z72)=some (.tuple #[ndV x xr xn,.nilIface],h1))(a2:RD n 200 [pv p 0,sv (h1.nx+1) 0 6 6] (al (y4_8 h1 x xr xn) 9 y4_1)=some (.tuple #[.string ⟨⟨s⟩⟩,.bool true],h2))(a3:RD n 199 (y4_2 p d) h2=some (.tuple #[ndV y yr yn,.nilIface],h3))(a4:RD n 201 [.string ⟨⟨s⟩⟩,ndV x xr xn,ndV y yr yn] (pt (al h3 72 z72) h3.nx 72 (ndL y yr yn))=some (ndV w wr wn,h4)):∃ H,Fn n 176 (y4_2 p d) h (.tuple #[ndV w wr wn,.nilIface]) H∧tl1 h4 h4.wm h.nx h4.nx H:=
 exT (kZ h) [aS 72 z72,yP a0,bF,yC a1 (kZ h1),aS 72 z72,.w 0 72 0 (ndV x xr xn),bF,aS 9 y4_1,yC a2 (kZ h2),yC a3 (kI (ko gh3_h1nx)),aS 72 z72,.w 1 72 0 (ndV y yr yn),bF,.g 0 72 0 10,.g 1 72 0 10,yC a4 (kI (ko gh4_hnx)),.w 0 72 0 (ndV w wr wn),.r 0 72 10,.z 1] []
theorem pw_deep(h h1:Heap)(p d q n:Nat)(gh1_hnx:h1.get h.nx=some (.row 72 z72 0 false))(_lhnxh1:h.nx < h1.nx)(a0:RD n 198 [iv (d:Int)] (al h.fresh 72 z72)=some (.iface 242 (pv q 0),h1)):∃ H,Fn n 231 (y4_2 p d) h (y4_3 q) H∧tl1 h1 h1.wm h.nx h1.nx H:=
 exT (kZ h) [aS 72 z72,yC a0 (kI (ko gh1_hnx)),bT,.w 0 72 0 (z72V),.r 0 72 10,.z 1] []
theorem pw_e1(h h1:Heap)(p d q n:Nat)(gh1_hnx:h1.get h.nx=some (.row 72 z72 0 false))(_lhnxh1:h.nx < h1.nx)(a0:Pu n 198 [iv (d:Int)] .nilIface (al h.fresh 72 z72))(a1:RD n 239 (y4_2 p d) (al h.fresh 72 z72)=some (.tuple #[z72V,.iface 242 (pv q 0)],h1)):∃ H,Fn n 231 (y4_2 p d) h (y4_3 q) H∧tl1 h1 h1.wm h.nx (h1.nx+1) H:=
 exT (kZ h) [aS 72 z72,yP a0,bF,yC a1 (kI (ko gh1_hnx)),aS 72 z72,.w 1 72 0 (z72V),bT,.w 0 72 0 (z72V),.r 0 72 10,.z 1] []
theorem pw_one(h h1:Heap)(p d n:Nat)(x:Hd)(xr:Option Addr)(xn:Nat)(gh1_hnx:h1.get h.nx=some (.row 72 z72 0 false))(_lhnxh1:h.nx < h1.nx)(a0:Pu n 198 [iv (d:Int)] .nilIface (al h.fresh 72 z72))(a1:RD n 239 (y4_2 p d) (al h.fresh 72 z72)=some (.tuple #[ndV x xr xn,.nilIface],h1))(a2:Pu n 200 (y4_11 p h1) y4_7 (al (y4_8 h1 x xr xn) 9 [.string ⟨#[94]⟩])):∃ H,Fn n 231 (y4_2 p d) h (y4_10 x xr xn) H∧tl1 h1 h1.wm h.nx (h1.nx+2) H:=
 exT (kZ h) [aS 72 z72,yP a0,bF,yC a1 (kI (ko gh1_hnx)),aS 72 z72,.w 1 72 0 (ndV x xr xn),bF,aS 9 [.string ⟨#[94]⟩],yP a2,.g 1 72 0 10,.w 0 72 0 (ndV x xr xn),.r 0 72 10,.z 1] []
theorem pw_e2(h h1 h2 h3:Heap)(p d q n:Nat)(s:List UInt8)(x:Hd)(xr:Option Addr)(xn:Nat)(gh3_hnx:h3.get h.nx=some (.row 72 z72 0 false))(gh3_h1nx:h3.get h1.nx=some (y4_12 x xr xn))(_lhnxh3:h.nx < h3.nx)(_lh1nxh3:h1.nx < h3.nx)(_hd:d < 100)(a0:Pu n 198 [iv (d:Int)] .nilIface (al h.fresh 72 z72))(a1:RD n 239 (y4_2 p d) (al h.fresh 72 z72)=some (.tuple #[ndV x xr xn,.nilIface],h1))(a2:RD n 200 (y4_11 p h1) (al (y4_8 h1 x xr xn) 9 [.string ⟨#[94]⟩])=some (.tuple #[.string ⟨⟨s⟩⟩,.bool true],h2))(a3:RD n 231 (y4_9 p d) h2=some (.tuple #[z72V,.iface 242 (pv q 0)],h3)):∃ H,Fn n 231 (y4_2 p d) h (y4_3 q) H∧tl1 h3 h3.wm h.nx (h3.nx+1) H:=
 exT (kZ h) [aS 72 z72,yP a0,bF,yC a1 (kZ h1),aS 72 z72,.w 0 72 0 (ndV x xr xn),bF,aS 9 [.string ⟨#[94]⟩],yC a2 (kZ h2),yW ((d:Int)+1),yC a3 (kI (ko gh3_hnx)),aS 72 z72,.w 1 72 0 (z72V),bT,.w 0 72 0 (z72V),.r 0 72 10,.z 1] []
theorem pw_ok(h h1 h2 h3 h4:Heap)(p d n:Nat)(s:List UInt8)(x:Hd)(xr:Option Addr)(xn:Nat)(y:Hd)(yr:Option Addr)(yn:Nat)(w:Hd)(wr:Option Addr)(wn:Nat)(gh3_hnx:h3.get h.nx=some (.row 72 z72 0 false))(gh3_h1nx:h3.get h1.nx=some (y4_12 x xr xn))(_lhnxh3:h.nx < h3.nx)(_lh1nxh3:h1.nx < h3.nx)(gh4_hnx:h4.get h.nx=some (.row 72 z72 0 false))(_lhnxh4:h.nx < h4.nx)(_hd:d < 100)(a0:Pu n 198 [iv (d:Int)] .nilIface (al h.fresh 72 z72))(a1:RD n 239 (y4_2 p d) (al h.fresh 72 z72)=some (.tuple #[ndV x xr xn,.nilIface],h1))(a2:RD n 200 (y4_11 p h1) (al (y4_8 h1 x xr xn) 9 [.string ⟨#[94]⟩])=some (.tuple #[.string ⟨⟨s⟩⟩,.bool true],h2))(a3:RD n 231 (y4_9 p d) h2=some (.tuple #[ndV y yr yn,.nilIface],h3))(a4:RD n 201 [.string ⟨#[94]⟩,ndV x xr xn,ndV y yr yn] (pt (al h3 72 z72) h3.nx 72 (ndL y yr yn))=some (ndV w wr wn,h4)):∃ H,Fn n 231 (y4_2 p d) h (.tuple #[ndV w wr wn,.nilIface]) H∧tl1 h4 h4.wm h.nx h4.nx H:=
 exT (kZ h) [aS 72 z72,yP a0,bF,yC a1 (kZ h1),aS 72 z72,.w 0 72 0 (ndV x xr xn),bF,aS 9 [.string ⟨#[94]⟩],yC a2 (kZ h2),yW ((d:Int)+1),yC a3 (kI (ko gh3_h1nx)),aS 72 z72,.w 1 72 0 (ndV y yr yn),bF,.g 0 72 0 10,.g 1 72 0 10,yC a4 (kI (ko gh4_hnx)),.w 0 72 0 (ndV w wr wn),.r 0 72 10,.z 1] []
theorem una_deep(h h1:Heap)(p d q n:Nat)(gh1_hnx:h1.get h.nx=some (.row 72 z72 0 false))(_lhnxh1:h.nx < h1.nx)(a0:RD n 198 [iv (d:Int)] (al h.fresh 72 z72)=some (.iface 242 (pv q 0),h1)):∃ H,Fn n 239 (y4_2 p d) h (y4_3 q) H∧tl1 h1 h1.wm h.nx h1.nx H:=
 exT (kZ h) [aS 72 z72,yC a0 (kI (ko gh1_hnx)),bT,.w 0 72 0 (z72V),.r 0 72 10,.z 1] []
theorem una_pt(h h1:Heap)(p d n:Nat)(x:Hd)(xr:Option Addr)(xn:Nat)(gh1_hnx:h1.get h.nx=some (.row 72 z72 0 false))(_lhnxh1:h.nx < h1.nx)(a0:Pu n 198 [iv (d:Int)] .nilIface (al h.fresh 72 z72))(a1:Pu n 200 [pv p 0,sv (h.nx+1) 0 1 1] y4_7 (y4_4 h))(a2:RD n 248 (y4_2 p d) (y4_4 h)=some (.tuple #[ndV x xr xn,.nilIface],h1)):∃ H,Fn n 239 (y4_2 p d) h (y4_10 x xr xn) H∧tl1 h1 h1.wm h.nx h1.nx H:=
 exT (kZ h) [aS 72 z72,yP a0,bF,aS 9 [.string ⟨#[45]⟩],yP a1,yC a2 (kI (ko gh1_hnx)),.w 0 72 0 (ndV x xr xn),.r 0 72 10,.z 1] []
theorem una_pe(h h1:Heap)(p d q n:Nat)(gh1_hnx:h1.get h.nx=some (.row 72 z72 0 false))(_lhnxh1:h.nx < h1.nx)(a0:Pu n 198 [iv (d:Int)] .nilIface (al h.fresh 72 z72))(a1:Pu n 200 [pv p 0,sv (h.nx+1) 0 1 1] y4_7 (y4_4 h))(a2:RD n 248 (y4_2 p d) (y4_4 h)=some (.tuple #[z72V,.iface 242 (pv q 0)],h1)):∃ H,Fn n 239 (y4_2 p d) h (y4_3 q) H∧tl1 h1 h1.wm h.nx h1.nx H:=
 exT (kZ h) [aS 72 z72,yP a0,bF,aS 9 [.string ⟨#[45]⟩],yP a1,yC a2 (kI (ko gh1_hnx)),.w 0 72 0 (z72V),.r 0 72 10,.z 1] []
theorem una_e(h h1 h2:Heap)(p d q n:Nat)(s:List UInt8)(gh2_hnx:h2.get h.nx=some (.row 72 z72 0 false))(_lhnxh2:h.nx < h2.nx)(_hd:d < 100)(a0:Pu n 198 [iv (d:Int)] .nilIface (al h.fresh 72 z72))(a1:RD n 200 [pv p 0,sv (h.nx+1) 0 1 1] (y4_4 h)=some (.tuple #[.string ⟨⟨s⟩⟩,.bool true],h1))(a2:RD n 239 (y4_9 p d) h1=some (.tuple #[z72V,.iface 242 (pv q 0)],h2)):∃ H,Fn n 239 (y4_2 p d) h (y4_3 q) H∧tl1 h2 h2.wm h.nx (h2.nx+1) H:=
 exT (kZ h) [aS 72 z72,yP a0,bF,aS 9 [.string ⟨#[45]⟩],yC a1 (kZ h1),yW ((d:Int)+1),yC a2 (kI (ko gh2_hnx)),aS 72 z72,.w 1 72 0 (z72V),bT,.w 0 72 0 (z72V),.r 0 72 10,.z 1] []
theorem una_ok(h h1 h2:Heap)(p d n:Nat)(s:List UInt8)(x:Hd)(xr:Option Addr)(xn:Nat)(gh2_hnx:h2.get h.nx=some (.row 72 z72 0 false))(_lhnxh2:h.nx < h2.nx)(_hd:d < 100)(a0:Pu n 198 [iv (d:Int)] .nilIface (al h.fresh 72 z72))(a1:RD n 200 [pv p 0,sv (h.nx+1) 0 1 1] (y4_4 h)=some (.tuple #[.string ⟨⟨s⟩⟩,.bool true],h1))(a2:RD n 239 (y4_9 p d) h1=some (.tuple #[ndV x xr xn,.nilIface],h2)):∃ H,Fn n 239 (y4_2 p d) h (.tuple #[.agg #[iv 4,iv 0,iv 0,.string ⟨#[]⟩,iv 0,iv 0,iv 0,iv 0,.string ⟨#[]⟩,sv (h2.nx+1) 0 1 1],.nilIface]) H∧tw1 h2 h2.wm h.nx (h2.nx+2) H (H.get (h2.nx+1)=some (y4_12 x xr xn)):=
 exT (kZ h) [aS 72 z72,yP a0,bF,aS 9 [.string ⟨#[45]⟩],yC a1 (kZ h1),yW ((d:Int)+1),yC a2 (kI (ko gh2_hnx)),aS 72 z72,.w 1 72 0 (ndV x xr xn),bF,.g 1 72 0 10,aS 72 (ndL x xr xn),.w 0 72 0 (.agg #[iv 4,iv 0,iv 0,.string ⟨#[]⟩,iv 0,iv 0,iv 0,iv 0,.string ⟨#[]⟩,sv (h2.nx+1) 0 1 1]),.r 0 72 10,.z 1] [2]
theorem sm_ok(h h1:Heap)(p d n:Nat)(x:Hd)(xr:Option Addr)(xn:Nat)(gh1_hnx:h1.get h.nx=some (.row 72 z72 0 false))(_lhnxh1:h.nx < h1.nx)(a0:RD n 223 [pv p 0,iv (d:Int),.func (.func 224) #[pv p 0] #[],sv (h.nx+1) 0 3 3] (al (al h.fresh 72 z72) 9 y4_5)=some (.tuple #[ndV x xr xn,.nilIface],h1)):∃ H,Fn n 199 (y4_2 p d) h (y4_10 x xr xn) H∧tl1 h1 h1.wm h.nx h1.nx H:=
 exT (kZ h) [aS 72 z72,aS 9 y4_5,yC a0 (kI (ko gh1_hnx)),.w 0 72 0 (ndV x xr xn),.r 0 72 10,.z 1] []
theorem sm_e(h h1:Heap)(p d q n:Nat)(gh1_hnx:h1.get h.nx=some (.row 72 z72 0 false))(_lhnxh1:h.nx < h1.nx)(a0:RD n 223 [pv p 0,iv (d:Int),.func (.func 224) #[pv p 0] #[],sv (h.nx+1) 0 3 3] (al (al h.fresh 72 z72) 9 y4_5)=some (.tuple #[z72V,.iface 242 (pv q 0)],h1)):∃ H,Fn n 199 (y4_2 p d) h (y4_3 q) H∧tl1 h1 h1.wm h.nx h1.nx H:=
 exT (kZ h) [aS 72 z72,aS 9 y4_5,yC a0 (kI (ko gh1_hnx)),.w 0 72 0 (z72V),.r 0 72 10,.z 1] []
theorem pd_ok(h h1:Heap)(p d n:Nat)(x:Hd)(xr:Option Addr)(xn:Nat)(gh1_hnx:h1.get h.nx=some (.row 72 z72 0 false))(_lhnxh1:h.nx < h1.nx)(a0:RD n 223 [pv p 0,iv (d:Int),.func (.func 231) #[pv p 0] #[],sv (h.nx+1) 0 3 3] (al (al h.fresh 72 z72) 9 y4_6)=some (.tuple #[ndV x xr xn,.nilIface],h1)):∃ H,Fn n 224 (y4_2 p d) h (y4_10 x xr xn) H∧tl1 h1 h1.wm h.nx h1.nx H:=
 exT (kZ h) [aS 72 z72,aS 9 y4_6,yC a0 (kI (ko gh1_hnx)),.w 0 72 0 (ndV x xr xn),.r 0 72 10,.z 1] []
theorem pd_e(h h1:Heap)(p d q n:Nat)(gh1_hnx:h1.get h.nx=some (.row 72 z72 0 false))(_lhnxh1:h.nx < h1.nx)(a0:RD n 223 [pv p 0,iv (d:Int),.func (.func 231) #[pv p 0] #[],sv (h.nx+1) 0 3 3] (al (al h.fresh 72 z72) 9 y4_6)=some (.tuple #[z72V,.iface 242 (pv q 0)],h1)):∃ H,Fn n 224 (y4_2 p d) h (y4_3 q) H∧tl1 h1 h1.wm h.nx h1.nx H:=
 exT (kZ h) [aS 72 z72,aS 9 y4_6,yC a0 (kI (ko gh1_hnx)),.w 0 72 0 (z72V),.r 0 72 10,.z 1] []
theorem wi_e(h h1:Heap)(p d q n:Nat)(gh1_hnx:h1.get h.nx=some (.row 72 z72 0 false))(_lhnxh1:h.nx < h1.nx)(_hd:d < 100)(a0:RD n 176 (y4_9 p d) (al h.fresh 72 z72)=some (.tuple #[z72V,.iface 242 (pv q 0)],h1)):∃ H,Fn n 251 (y4_2 p d) h (y4_3 q) H∧tl1 h1 h1.wm h.nx (h1.nx+1) H:=
 exT (kZ h) [aS 72 z72,yW ((d:Int)+1),yC a0 (kI (ko gh1_hnx)),aS 72 z72,.w 1 72 0 (z72V),bT,.w 0 72 0 (z72V),.r 0 72 10,.z 1] []
theorem wi_no(h h1 h2:Heap)(p d q n:Nat)(x:Hd)(xr:Option Addr)(xn:Nat)(gh2_hnx:h2.get h.nx=some (.row 72 z72 0 false))(_lhnxh2:h.nx < h2.nx)(_hd:d < 100)(a0:RD n 176 (y4_9 p d) (al h.fresh 72 z72)=some (.tuple #[ndV x xr xn,.nilIface],h1))(a1:Pu n 200 (y4_11 p h1) y4_7 (al (y4_8 h1 x xr xn) 9 [.string ⟨#[41]⟩]))(a2:RD n 177 [pv p 0] (al (y4_8 h1 x xr xn) 9 [.string ⟨#[41]⟩])=some (.iface 242 (pv q 0),h2)):∃ H,Fn n 251 (y4_2 p d) h (y4_3 q) H∧tl1 h2 h2.wm h.nx h2.nx H:=
 exT (kZ h) [aS 72 z72,yW ((d:Int)+1),yC a0 (kZ h1),aS 72 z72,.w 0 72 0 (ndV x xr xn),bF,aS 9 [.string ⟨#[41]⟩],yP a1,yC a2 (kI (ko gh2_hnx)),.w 0 72 0 (z72V),.r 0 72 10,.z 1] []
theorem wi_ok(h h1 h2:Heap)(p d n:Nat)(s:List UInt8)(x:Hd)(xr:Option Addr)(xn:Nat)(gh2_hnx:h2.get h.nx=some (.row 72 z72 0 false))(_lhnxh2:h.nx < h2.nx)(gh2_h1nx:h2.get h1.nx=some (y4_12 x xr xn))(_hd:d < 100)(a0:RD n 176 (y4_9 p d) (al h.fresh 72 z72)=some (.tuple #[ndV x xr xn,.nilIface],h1))(a1:RD n 200 (y4_11 p h1) (al (y4_8 h1 x xr xn) 9 [.string ⟨#[41]⟩])=some (.tuple #[.string ⟨⟨s⟩⟩,.bool true],h2)):∃ H,Fn n 251 (y4_2 p d) h (y4_10 x xr xn) H∧tl1 h2 h2.wm h.nx h2.nx H:=
 exT (kZ h) [aS 72 z72,yW ((d:Int)+1),yC a0 (kZ h1),aS 72 z72,.w 0 72 0 (ndV x xr xn),bF,aS 9 [.string ⟨#[41]⟩],yC a1 (kI (ko gh2_h1nx)),.g 0 72 0 10,.s (kI (ko gh2_hnx)),.w 0 72 0 (ndV x xr xn),.r 0 72 10,.z 1] []
end
end Go.PanE
