/-
 Part 25 of the proof of Rows.DumpLinesCardSaid. No conditions.
-/
import Derived.Test.YtihkphfmnnndfaaGreatDoorT24
namespace Go.PanE
open Go.Proofs
/-! Kinds of types, and what lies in memories. -/
theorem C3:yy En 3=true:=by kernel_rfl
theorem C9:yy En 9=true:=by kernel_rfl
theorem C70:yy En 70=true:=by kernel_rfl
theorem A27:vq En 27 3=true:=by kernel_rfl
theorem A29:vq En 29 2=true:=by kernel_rfl
theorem A45:vq En 45 8=true:=by kernel_rfl
theorem A72:vq En 72 10=true:=by kernel_rfl
theorem S2:En.size 2=some 1:=by kernel_rfl
theorem S3:En.size 3=some 1:=by kernel_rfl
theorem S4:En.size 4=some 1:=by kernel_rfl
theorem S5:En.size 5=some 1:=by kernel_rfl
theorem S70:En.size 70=some 1:=by kernel_rfl
mutual
def zc(h:Heap)(P:Nat→Prop)(x:Hd)(r:OA)(n:Nat):Tr→Prop
 | .node y ts=>x=y∧n=ts.length∧((ts=[]∧r=none)∨∃ b cs es ro,r=some ⟨b,0,none⟩∧P b∧h.get b=some (.row 72 cs es ro)∧ArgsC h P cs ts)
def ArgsC(h:Heap)(P:Nat→Prop)(cs:Vs):List Tr→Prop
 |[]=>cs=[]
 |t::ts=>∃ x r n cs',cs=ndL x r n++cs'∧zc h P x r n t∧ArgsC h P cs' ts
end
mutual
theorem zc.mono{h g:Heap}{P Q:Nat→Prop}(hg:∀ b o,P b→h.get b=some o→Q b∧g.get b=some o){x:Hd}{r:OA}{n:Nat}:∀ {t:Tr},zc h P x r n t→zc g Q x r n t
 | .node y ts,H=>by
  unfold zc at H ⊢
  obtain⟨h1,h2,h3⟩:=H
  refine⟨h1,h2,?_⟩
  rcases h3 with h3|⟨b,cs,es,ro,e1,e2,e3,e4⟩
  ·exact .inl h3
  ·exact .inr ⟨b,cs,es,ro,e1,(hg b _ e2 e3).1,(hg b _ e2 e3).2,ArgsC.mono hg e4⟩
theorem ArgsC.mono{h g:Heap}{P Q:Nat→Prop}(hg:∀ b o,P b→h.get b=some o→Q b∧g.get b=some o){cs:Vs}:∀ {ts:List Tr},ArgsC h P cs ts→ArgsC g Q cs ts
 |[],H=>by unfold ArgsC at H ⊢;exact H
 |t::ts,H=>by
  unfold ArgsC at H ⊢
  obtain⟨x,r,n,cs',e1,e2,e3⟩:=H
  exact⟨x,r,n,cs',e1,zc.mono hg e2,ArgsC.mono hg e3⟩
end
theorem ArgsC.snoc{h:Heap}{P:Nat→Prop}{x:Hd}{r:OA}{n:Nat}{t:Tr}(N:zc h P x r n t):∀ {ts:List Tr} {cs:Vs},ArgsC h P cs ts→ArgsC h P (cs++ndL x r n) (ts++[t]):=by
 intro ts
 induction ts with
 |nil=>
  intro cs H
  unfold ArgsC at H
  subst H
  show ArgsC h P (ndL x r n) [t]
  unfold ArgsC
  exact⟨x,r,n,[],by rw[List.append_nil],N,by unfold ArgsC;rfl⟩
 |cons u ts ih=>
  intro cs H
  unfold ArgsC at H
  obtain⟨x',r',n',cs',e1,e2,e3⟩:=H
  show ArgsC h P (cs++ndL x r n) (u::(ts++[t]))
  unfold ArgsC
  exact⟨x',r',n',cs'++ndL x r n,by rw[e1,List.append_assoc],e2,ih e3⟩
theorem jl(x:Hd)(r:OA)(n:Nat):(ndL x r n).length=10:=rfl
theorem zq5(x:Hd)(r:OA)(n:Nat):(ndL x r n).all jh=true:=rfl
theorem ArgsC.length{h:Heap}{P:Nat→Prop}:∀ {ts:List Tr} {cs:Vs},ArgsC h P cs ts→cs.length=ts.length * 10:=by
 intro ts
 induction ts with
 |nil=>intro cs H;unfold ArgsC at H;subst H;rfl
 |cons u ts ih=>
  intro cs H
  unfold ArgsC at H
  obtain⟨x',r',n',cs',e1,e2,e3⟩:=H
  rw[e1,lA,jl,ih e3,lC];omega
theorem zc.leaf(h:Heap)(P:Nat→Prop)(x:Hd):zc h P x none 0 (.node x []):=by
 unfold zc;exact⟨rfl,rfl,.inl ⟨rfl,rfl⟩⟩
theorem zc.mk{h:Heap}{P:Nat→Prop}{b es:Nat}{cs:Vs}{ro:Bool}{ts:List Tr}(x:Hd)(hP:P b)(hg:h.get b=some (.row 72 cs es ro))(ha:ArgsC h P cs ts):zc h P x (some ⟨b,0,none⟩) ts.length (.node x ts):=by
 unfold zc;exact⟨rfl,rfl,.inr ⟨b,cs,es,ro,rfl,hP,hg,ha⟩⟩
abbrev zV(h:Heap)(lo hi:Nat):Hd→OA→Nat→Tr→Prop:=zc h fun b=>lo≤b∧b < hi
theorem zV.mono{h g:Heap}{lo hi lo' hi':Nat}(hl:lo'≤lo)(hh:hi≤hi')(hg:∀ b o,lo≤b→b < hi→h.get b=some o→g.get b=some o){x:Hd}{r:OA}{n:Nat}{t:Tr}(H:zV h lo hi x r n t):zV g lo' hi' x r n t:=
 zc.mono (fun b o hb e=>⟨⟨nT hl hb.1,nU hb.2 hh⟩,hg b o hb.1 hb.2 e⟩) H
theorem zV.mk{h:Heap}{lo hi b es:Nat}{cs:Vs}{ro:Bool}{ts:List Tr}(x:Hd)(hl:lo≤b)(hh:b < hi)(hg:h.get b=some (.row 72 cs es ro))(ha:ArgsC h (fun b=>lo≤b∧b < hi) cs ts):zV h lo hi x (some ⟨b,0,none⟩) ts.length (.node x ts):=
 zc.mk x ⟨hl,hh⟩ hg ha
structure PSt(m:Int)(h:Heap)(p b:Nat)(ts:List Tk)(E k:Nat):Prop where
 gl:Gl m h
 p6:6≤p
 pp:h.get p=some (.row 274 [tsV b ts,.int .i64 (k:Int),.int .i64 (E:Int)] 0 false)
 tk:ts=[]∨h.get b=some (.row 199 (tkC ts) 4 false)
 kT:k≤ts.length
 tT:ts.length≤300
theorem PSt.lt{m:Int}{h:Heap}{p b:Nat}{ts:List Tk}{E k:Nat}(s:PSt m h p b ts E k):p < h.nx:=za s.pp
theorem PSt.fr{m:Int}{h g:Heap}{p b:Nat}{ts:List Tk}{E k k':Nat}(s:PSt m h p b ts E k)(f:Fr h g p)(hp:g.get p=some (.row 274 [tsV b ts,.int .i64 (k':Int),.int .i64 (E:Int)] 0 false))(hk:k'≤ts.length):PSt m g p b ts E k':=
 ⟨s.gl.fr f s.p6,s.p6,hp,s.tk.imp id fun h1=>(f.get b (za h1) (by
  rintro rfl
  have:=s.pp
  rw[h1] at this
  cases this)).trans h1,hk,s.tT⟩
theorem PSt.keep{m:Int}{h g:Heap}{p b:Nat}{ts:List Tk}{E k:Nat}(s:PSt m h p b ts E k)(hn:h.nx≤g.nx)(hg:∀ c,c < h.nx→g.get c=h.get c):PSt m g p b ts E k:=
 s.fr ⟨hn,fun c hc _=>hg c hc⟩ ((hg p s.lt).trans s.pp) s.kT
theorem PSt.wm{m:Int}{h:Heap}{p b w:Nat}{ts:List Tk}{E k:Nat}(s:PSt m h p b ts E k):PSt m {h with wm:=w} p b ts E k:=⟨⟨s.gl.nx,s.gl.get⟩,s.p6,s.pp,s.tk,s.kT,s.tT⟩
theorem PSt.fh{m:Int}{h:Heap}{p b:Nat}{ts:List Tk}{E k:Nat}(s:PSt m h p b ts E k):PSt m (Heap.fh h) p b ts E k:=s.wm
def zbL(m:Int)(h:Heap)(p b:Nat)(ts:List Tk)(E:Nat)(R:Res)(v:Value)(h':Heap):Prop:=
 Fr h h' p∧h'.wm≤h.wm∧match R with
  | .ok t k'=>∃ x r n,v= .tuple #[ndV x r n,.nilIface]∧zV h' h.nx h'.nx x r n t∧PSt m h' p b ts E k'∧h'.wm≤p
  | .err pos c=>∃ q k',v= .tuple #[zj,.iface 242 (.pointer (some ⟨q,0,none⟩))]∧h.nx≤q∧h'.get q=some (.row 245 [.int .i64 (pos:Int),.int .i64 (c:Int)] 0 false)∧PSt m h' p b ts E k'
theorem zhJ:∀ {ts:List Tk} {k:Nat} {x:Tk},ts[k]? =some x→∃ r,(tkC ts).drop (k * 4)=x.cells++r:=by
 intro ts
 induction ts with
 |nil=>intro k x h;simp at h
 |cons y ts ih=>
  intro k x h
  cases k with
  |zero=>
   simp only[List.getElem?_cons_zero,sJ] at h
   subst h
   exact⟨tkC ts,by simp[tkC]⟩
  |succ k=>
   rw[List.getElem?_cons_succ] at h
   obtain⟨r,hr⟩:=ih h
   refine⟨r,?_⟩
   show(y.cells++tkC ts).drop ((k+1) * 4)=_
   rw[List.drop_append,List.drop_eq_nil_of_le (by show y.cells.length≤_;show 4≤_;omega),List.nil_append]
   have:(k+1) * 4 - y.cells.length=k * 4:=by show(k+1) * 4 - 4=_;omega
   rw[this,hr]
section
variable {h:Heap} {ts:List Tk} {k b es:Nat} {ro:Bool} {x:Tk}
theorem zex(o:Nat)(ho:o < 4)(hx:ts[k]? =some x):((tkC ts).drop (k * 4+o)).head? =x.cells[o]? :=by
 obtain⟨r,hr⟩:=zhJ hx
 rw[← List.drop_drop,hr,List.head?_drop,List.getElem?_append_left (by show o < 4;exact ho)]
end
def tkX(k:Nat)(x:Tk):List (Nat×Value):=[(0+k * 4,iv (x.k:Int)),(0+k * 4+2,.string ⟨⟨x.t⟩⟩),(0+k * 4+3,iv (x.at_:Int))]
def tkY(k:Nat)(x:Tk):List (Nat×Vs):=[(0+k * 4,x.cells)]
section
variable {h:Heap} {ts:List Tk} {k j i b es:Nat} {ro:Bool} {x y z:Tk}
theorem zsI(hx:ts[k]? =some x):∀ e∈tkX k x,((tkC ts).drop e.1).head? =some e.2:=by
 refine qn ?_ (qn ?_ (qn ?_ wk))
 ·rw[Nat.zero_add];exact zex 0 (by decide) hx
 ·rw[Nat.zero_add];exact zex 2 (by decide) hx
 ·rw[Nat.zero_add];exact zex 3 (by decide) hx
theorem zsH(hx:ts[k]? =some x):∀ e∈tkY k x,((tkC ts).drop e.1).take e.2.length=e.2:=by
 refine qn ?_ wk
 obtain⟨r,hr⟩:=zhJ hx
 rw[Nat.zero_add,hr]
 exact List.take_left' rfl
def kx(e:h.get b=some (.row 199 (tkC ts) es ro))(hx:ts[k]? =some x):KO h b:=⟨199,tkC ts,es,ro,e,tkX k x,tkY k x,zsI hx,zsH hx⟩
end
noncomputable section
abbrev zc5(b T k E:Nat):AObj:=.row 274 [sv b 0 T T,iv (k:Int),iv E] 0 false
abbrev zc4(ts:List Tk):AObj:=.row 199 (tkC ts) 4 false
abbrev zsj(s:Bsy)(h:Heap):Value:=.agg #[iv 5,iv 0,iv 0,.string ⟨#[]⟩,iv 0,iv 0,iv 0,iv 0,.string ⟨⟨s⟩⟩,sv (h.nx+3) 0 2 2]
abbrev zmw:Value:=.tuple #[.string ⟨#[]⟩,.bool false]
abbrev zmv(q n0:Nat)(t:BA)(i:Nat):List (Nat×Value):=[(0,sv q 0 n0 n0),(1,.string t),(7,iv n0),(8,iv (i:Int))]
abbrev zmu(r:OA)(T k E:Nat):AObj:=.row 274 [.slice r T T,iv (k:Int),iv E] 0 false
variable (h:Heap) (d p b k T E q n0:Nat) (r:OA) (i:Nat) (ts:List Tk) (x:Tk) (t s:BA) (v:Int) (n:Nat)
theorem zw9(_h1:i < n0)(_h2:n0 < 4611686018427387904)(a0:decide ((i:Int) < n0)=true)(a1:LD h 9 q (0+i * 1) (.string s))(a2:bqS t s=false):Bd n 19 [1,0,1,0,0] Tryz.f228 (zmv q n0 t i) h .normal [(0,sv q 0 n0 n0),(1,.string t),(7,iv n0),(8,iv ((i:Int)+1))] h:=
 bdF (kZ h) [yT a0,iA 32 9 1 q n0 i,yE a1,yF a2,yW ((i:Int)+1),.z 0]
theorem zua(_h1:i < n0)(_h2:n0 < 4611686018427387904)(a0:decide ((i:Int) < n0)=true)(a1:LD h 9 q (0+i * 1) (.string s))(a2:bqS t s=true):Bd n 19 [1,0,1,0,0] Tryz.f228 (zmv q n0 t i) h .ret [(4,iv (i:Int))] h:=
 bdF (kZ h) [yT a0,iA 32 9 1 q n0 i,yE a1,yT a2,.z 0]
theorem zub(a0:decide ((i:Int) < n0)=false):Bd n 19 [1,0,1,0,0] Tryz.f228 (zmv q n0 t i) h (.exit 0) [] h:=
 bdF (kZ h) [yF a0]
theorem zw8(a0:Lf n 19 [1,0,1,0,0] Tryz.f228 [(0,sv q 0 n0 n0),(1,.string t),(4,iv 0),(6,sv q 0 n0 n0),(7,iv n0),(8,iv 0)] h.fh .ret [(4,iv v)] (Heap.fh h)):Fn n 228 [sv q 0 n0 n0,.string t] h (iv v) (Heap.fh h):=
 fnV (kZ h) [yS a0 (kZ (Heap.fh h)),.z 0]
theorem zw7(a0:Lf n 19 [1,0,1,0,0] Tryz.f228 [(0,sv q 0 n0 n0),(1,.string t),(4,iv 0),(6,sv q 0 n0 n0),(7,iv n0),(8,iv 0)] h.fh (.exit 0) [] (Heap.fh h)):Fn n 228 [sv q 0 n0 n0,.string t] h (iv (-1)) (Heap.fh h):=
 fnV (kZ h) [yS a0 (kZ (Heap.fh h)),.z 0]
theorem zBJ(a0:Pu n 228 [sv q 0 n0 n0,.string t] (iv v) h.fh)(a1:decide ((v:Int)≥0)=true):Fn n 212 [sv q 0 n0 n0,.string t] h (.bool true) h.fh:=
 fnV (kZ h) [yP a0,yT a1,.z 0]
theorem zBK(a0:Pu n 228 [sv q 0 n0 n0,.string t] (iv v) h.fh)(a1:decide ((v:Int)≥0)=false):Fn n 212 [sv q 0 n0 n0,.string t] h (.bool false) h.fh:=
 fnV (kZ h) [yP a0,yF a1,.z 0]
theorem zwy(hp:h.get p=some (zc5 b T k E))(hb:h.get b=some (zc4 ts))(hx:ts[k]? =some x)(_h1:k < T)(a0:decide ((k:Int) < T)=true):Fn n 202 [pv p 0] h (iv (x.at_:Int)) h.fh:=
 fnV (kJ (ko hp) (kx hb hx)) [.l 0 3 1,.l 0 155 0,yT a0,yN h.nx,.q (.l 0 3 1),.q (.l 0 155 0),yQ (iv T),.l 0 155 0,.l 0 3 1,iA 155 199 4 b T k,.k 1 3 2,yN h.nx,.q (.l 0 155 0),.q (.l 0 3 1),.q (.k 1 3 2),.z 0]
theorem ztA(hp:h.get p=some (zmu r T k E))(a0:decide ((k:Int) < T)=false):Fn n 202 [pv p 0] h (iv E) h.fh:=
 fnV (kI (ko hp)) [.l 0 3 1,.l 0 155 0,yF a0,yN h.nx,.q (.l 0 3 1),.q (.l 0 155 0),yQ (iv T),.l 0 3 2,.z 0]
theorem fl(e n:Nat)(a0:Pu n 202 [pv p 0] (iv (e:Int)) h.fh):∃ H,Fn n 177 [pv p 0] h (.iface 242 (pv h.nx 0)) H∧tw0 h h.fh.wm (h.nx+1) H (H.get h.nx=some (.row 245 [iv (e:Int),iv 13] 0 false)):=
 exV (kZ h) [yP a0,aS 245 [iv (e:Int),iv 13],.z 0] [0]
theorem zBv(a0:decide ((d:Int)>40)=true):∃ H,Fn n 198 [iv (d:Int)] h (.iface 242 (pv h.nx 0)) H∧tw0 h h.fh.wm (h.nx+1) H (H.get h.nx=some (.row 245 [iv 0,iv 14] 0 false)):=
 exV (kZ h) [yT a0,aS 245 [iv 0,iv 14],.z 0] [0]
theorem zBw(a0:decide ((d:Int)>40)=false):Fn n 198 [iv (d:Int)] h .nilIface h.fh:=
 fnV (kZ h) [yF a0,.z 0]
theorem ztH(hp:h.get p=some (zmu r T k E))(_h1:k < 4611686018427387904)(a0:decide (((k:Int)+1:Int) < T)=false):Fn n 252 [pv p 0] h (.bool false) h.fh:=
 fnV (kI (ko hp)) [.l 0 3 1,yW ((k:Int)+1),.l 0 155 0,yF a0,yN h.nx,.q (.l 0 3 1),.q (.l 0 155 0),yQ (iv T),.z 0]
theorem zz4(hp:h.get p=some (zc5 b T k E))(hb:h.get b=some (zc4 ts))(hx:ts[k+1]? =some x)(_h1:k+1 < T)(_h2:T < 4611686018427387904)(a0:decide (((k:Int)+1:Int) < T)=true)(a1:(((x.k:Int):Int)==4)=false):Fn n 252 [pv p 0] h (.bool false) h.fh:=
 fnV (kJ (ko hp) (kx hb hx)) [.l 0 3 1,yW ((k:Int)+1),.l 0 155 0,yT a0,.l 0 155 0,.l 0 3 1,yW ((k:Int)+1),iB 155 199 4 b T k,.k 1 3 0,yF a1,yN h.nx,.q (.l 0 3 1),.q (.l 0 155 0),yQ (iv T),.q (.l 0 155 0),.q (.l 0 3 1),.q (.k 1 3 0),.z 0]
theorem zz3(hp:h.get p=some (zc5 b T k E))(hb:h.get b=some (zc4 ts))(hx:ts[k+1]? =some x)(_h1:k+1 < T)(_h2:T < 4611686018427387904)(a0:decide (((k:Int)+1:Int) < T)=true)(a1:(((x.k:Int):Int)==4)=true)(a2:bqS ⟨⟨x.t⟩⟩ ⟨#[40]⟩=false):Fn n 252 [pv p 0] h (.bool false) h.fh:=
 fnV (kJ (ko hp) (kx hb hx)) [.l 0 3 1,yW ((k:Int)+1),.l 0 155 0,yT a0,.l 0 155 0,.l 0 3 1,yW ((k:Int)+1),iB 155 199 4 b T k,.k 1 3 0,yT a1,.l 0 155 0,.l 0 3 1,yW ((k:Int)+1),iB 155 199 4 b T k,.k 1 9 1,yF a2,yN h.nx,.q (.l 0 3 1),.q (.l 0 155 0),yQ (iv T),.q (.l 0 155 0),.q (.l 0 3 1),.q (.k 1 3 0),.q (.l 0 155 0),.q (.l 0 3 1),.q (.k 1 9 1),.z 0]
theorem zz2(hp:h.get p=some (zc5 b T k E))(hb:h.get b=some (zc4 ts))(hx:ts[k+1]? =some x)(_h1:k+1 < T)(_h2:T < 4611686018427387904)(a0:decide (((k:Int)+1:Int) < T)=true)(a1:(((x.k:Int):Int)==4)=true)(a2:bqS ⟨⟨x.t⟩⟩ ⟨#[40]⟩=true):Fn n 252 [pv p 0] h (.bool true) h.fh:=
 fnV (kJ (ko hp) (kx hb hx)) [.l 0 3 1,yW ((k:Int)+1),.l 0 155 0,yT a0,.l 0 155 0,.l 0 3 1,yW ((k:Int)+1),iB 155 199 4 b T k,.k 1 3 0,yT a1,.l 0 155 0,.l 0 3 1,yW ((k:Int)+1),iB 155 199 4 b T k,.k 1 9 1,yT a2,yN h.nx,.q (.l 0 3 1),.q (.l 0 155 0),yQ (iv T),.q (.l 0 155 0),.q (.l 0 3 1),.q (.k 1 3 0),.q (.l 0 155 0),.q (.l 0 3 1),.q (.k 1 9 1),.z 0]
theorem zs5(hp:h.get p=some (zmu r T k E))(a0:((k:Int)==T)=true):Fn n 200 [pv p 0,sv q 0 n0 n0] h zmw h.fh:=
 fnT (kI (ko hp)) [.l 0 3 1,.l 0 155 0,yT a0,yN h.nx,.q (.l 0 3 1),.q (.l 0 155 0),yQ (iv T),.z 0]
theorem zy4(hp:h.get p=some (zc5 b T k E))(hb:h.get b=some (zc4 ts))(hx:ts[k]? =some x)(_h1:k < T)(_h2:T < 4611686018427387904)(a0:((k:Int)==T)=false)(a1:(((x.k:Int):Int) !=4)=true):Fn n 200 [pv p 0,sv q 0 n0 n0] h zmw h.fh:=
 fnT (kJ (ko hp) (kx hb hx)) [.l 0 3 1,.l 0 155 0,yF a0,.l 0 155 0,.l 0 3 1,iA 155 199 4 b T k,.k 1 3 0,yT a1,yN h.nx,.q (.l 0 3 1),.q (.l 0 155 0),yQ (iv T),.q (.l 0 155 0),.q (.l 0 3 1),.q (.k 1 3 0),.z 0]
theorem zy3(hp:h.get p=some (zc5 b T k E))(hb:h.get b=some (zc4 ts))(hx:ts[k]? =some x)(_h1:k < T)(_h2:T < 4611686018427387904)(a0:((k:Int)==T)=false)(a1:(((x.k:Int):Int) !=4)=false)(a2:Pu n 212 [sv q 0 n0 n0,.string ⟨⟨x.t⟩⟩] (.bool false) h.fh):Fn n 200 [pv p 0,sv q 0 n0 n0] h zmw h.fh:=
 fnT (kJ (ko hp) (kx hb hx)) [.l 0 3 1,.l 0 155 0,yF a0,.l 0 155 0,.l 0 3 1,iA 155 199 4 b T k,.k 1 3 0,yF a1,.l 0 155 0,.l 0 3 1,iA 155 199 4 b T k,.k 1 9 1,yP a2,yN h.nx,.q (.l 0 3 1),.q (.l 0 155 0),yQ (iv T),.q (.l 0 155 0),.q (.l 0 3 1),.q (.k 1 3 0),.q (.l 0 155 0),.q (.l 0 3 1),.q (.k 1 9 1),.z 0]
theorem zy2(hp:h.get p=some (zc5 b T k E))(hb:h.get b=some (zc4 ts))(hx:ts[k]? =some x)(_h1:k < T)(_h2:T < 4611686018427387904)(_hl:p < h.nx)(_hpb:b≠p)(a0:((k:Int)==T)=false)(a1:(((x.k:Int):Int) !=4)=false)(a2:Pu n 212 [sv q 0 n0 n0,.string ⟨⟨x.t⟩⟩] (.bool true) h.fh):∃ H,Fn n 200 [pv p 0,sv q 0 n0 n0] h (.tuple #[.string ⟨⟨x.t⟩⟩,.bool true]) H∧tw1 h h.fh.wm p h.nx H (H.get p=some (.row 274 [sv b 0 T T,iv ((k:Int)+1),iv E] 0 false)):=
 exT (kJ (ko hp) (kx hb hx)) [.l 0 3 1,.l 0 155 0,yF a0,.l 0 155 0,.l 0 3 1,iA 155 199 4 b T k,.k 1 3 0,yF a1,.l 0 155 0,.l 0 3 1,iA 155 199 4 b T k,.k 1 9 1,yP a2,yN h.nx,.q (.l 0 3 1),.q (.l 0 155 0),yQ (iv T),.q (.l 0 155 0),.q (.l 0 3 1),.q (.k 1 3 0),.q (.l 0 155 0),.q (.l 0 3 1),.q (.k 1 9 1),.l 0 3 1,yW ((k:Int)+1),.w 0 3 1 (iv ((k:Int)+1)),.l 0 155 0,.l 0 3 1,yW (((k:Int)+1) - 1),iD 155 199 4 b T k,.k 1 9 1,yN h.nx,.q (.l 0 155 0),.q (.l 0 3 1),.q (.k 1 9 1),.z 0] [0]
theorem tw(s:Bsy)(x y:Hd)(xr yr:OA)(xn yn n:Nat):∃ H,Fn n 201 [.string ⟨⟨s⟩⟩,ndV x xr xn,ndV y yr yn] h (zsj s h) H∧tw0 h h.fh.wm (h.nx+4) H (H.get (h.nx+3)=some (.row 72 (ndL x xr xn++ndL y yr yn) 0 false)):=
 exV (kZ h) [aS 72 (ndL x xr xn),aS 72 (ndL y yr yn),aS 72 z72,.g 0 72 0 10,.g 1 72 0 10,aS 72 (ndL x xr xn++ndL y yr yn),.w 2 72 0 (zsj s h),.r 2 72 10] [3]
end
structure Kp(h g:Heap):Prop where
 nx:h.nx≤g.nx
 get:∀ c,c < h.nx→g.get c=h.get c
 wm:g.wm≤h.wm
theorem Kp.refl(h:Heap):Kp h h:=⟨nL_ _,fun _ _=>rfl,nL_ _⟩
theorem Kp.fr{h g:Heap}(a:Kp h g)(p:Nat):Fr h g p:=⟨a.nx,fun c hc _=>a.get c hc⟩
theorem jY{X:Option (Value×Heap)}{h H:Heap}{v:Value}(e:X=some (zy h v H))(hl:zM h.nx 5 v=false):X=some (v,{H with wm:=min h.wm H.wm}):=by
 rw[e,zah hl]
theorem ur{X:Option (Value×Heap)}{h H:Heap}{v:Value}(e:X=some (zy h v H))(hw:H.wm < h.nx):X=some (v,{H with wm:=min h.wm H.wm}):=by
 rw[e,uo hw]
theorem zH{X:Option (Value×Heap)}{h:Heap}{v:Value}(e:X=some (zy h v h.fh))(hl:zM h.nx 5 v=true):X=some (v,h):=by
 rw[e,uq hl]
theorem jH{a b:Nat}(h:b≤a):Nat.blt a b=false:=by
 cases e:Nat.blt a b with
 |false=>rfl
 |true=>rw[Nat.blt_eq] at e;omega
theorem zh7{n q:Nat}(h:n≤q):zM n 5 (.iface 242 (pv q 0))=false:=by
 simp[zM,jH h]
theorem zdl{n q:Nat}{x:Value}(h:n≤q):zM n 5 (.tuple #[x,.iface 242 (pv q 0)])=false:=by
 simp[zM,jH h]
section
variable {h:Heap} {q:Nat} {ops:List (Bsy)} {es:Nat} {ro:Bool}
theorem zdX{g:Heap}(hg:g.get q=some (.row 9 (ops.map fun s=>.string ⟨⟨s⟩⟩) es ro)){i:Nat}{s:Bsy}(hi:ops[i]? =some s):LD g 9 q (0+i * 1) (.string ⟨⟨s⟩⟩):=
 zG hg (by kernel_rfl) (by rw[Nat.zero_add,Nat.mul_one,List.head?_drop,List.getElem?_map,hi];rfl)
theorem zrh(t:Bsy)(n:Nat)(hg:h.get q=some (.row 9 (ops.map fun s=>.string ⟨⟨s⟩⟩) es ro))(hl:ops.length≤100):∀ (r:List (Bsy)) (i:Nat),ops.drop i=r→
  if t∈r then ∃ j R:Nat,R≤r.length+1∧Loops En (RD n) 19 18446744073709551616 (sub [1,0,1,0,0] (zp Tryz.f228)) [(0,sv q 0 ops.length ops.length),(1,.string ⟨⟨t⟩⟩),(7,iv ops.length),(8,iv (i:Int))] h .ret [(4,iv (j:Int))] h R
  else ∃ R,R≤r.length+1∧Loops En (RD n) 19 18446744073709551616 (sub [1,0,1,0,0] (zp Tryz.f228)) [(0,sv q 0 ops.length ops.length),(1,.string ⟨⟨t⟩⟩),(7,iv ops.length),(8,iv (i:Int))] h (.exit 0) [] h R:=by
 intro r
 induction r with
 |nil=>
  intro i hi
  rw[if_neg (by simp)]
  have:ops.length≤i:=List.drop_eq_nil_iff.1 hi
  exact⟨1,by omega,.out (zub h q ops.length i ⟨⟨t⟩⟩ n (zE (by omega)))⟩
 |cons s r ih=>
  intro i hi
  have hlt:i < ops.length:=by
   rcases Nat.lt_or_ge i ops.length with h1|h1
   ·exact h1
   ·rw[List.drop_eq_nil_of_le h1] at hi;cases hi
  have hs:ops[i]? =some s:=by
   have:=congrArg List.head? hi
   rw[List.head?_drop] at this
   exact this
  have hn:ops.drop (i+1)=r:=by rw[← List.drop_drop,hi];rfl
  have ld:=zdX hg hs
  by_cases hts:t=s
  ·subst hts
   rw[if_pos (by simp)]
   exact⟨i,1,by omega,.ret (zua h q ops.length i ⟨⟨t⟩⟩ ⟨⟨t⟩⟩ n hlt (by omega) (zw hlt) ld (by simp))⟩
  ·have hb:=zw9 h q ops.length i ⟨⟨t⟩⟩ ⟨⟨s⟩⟩ n hlt (by omega) (zw hlt) ld (by simpa using hts)
   have:=ih (i+1) hn
   by_cases htr:t∈r
   ·rw[if_pos htr] at this
    rw[if_pos (by simp[htr])]
    obtain⟨j,R,hR,hL⟩:=this
    exact⟨j,R+1,by simp only[lC];omega,.on hb hL⟩
   ·rw[if_neg htr] at this
    rw[if_neg (by simp[htr,hts])]
    obtain⟨R,hR,hL⟩:=this
    exact⟨R+1,by simp only[lC];omega,.on hb hL⟩
theorem zcn(t:Bsy)(n:Nat)(hn:2≤n)(hg:h.get q=some (.row 9 (ops.map fun s=>.string ⟨⟨s⟩⟩) es ro))(hl:ops.length≤100):
  RD n 212 [sv q 0 ops.length ops.length,.string ⟨⟨t⟩⟩] h=some (.bool (decide (t∈ops)),h):=by
 obtain⟨n,rfl⟩:∃ m,n=m+1+1:=⟨n - 2,by omega⟩
 have L:=zrh (h:=h.fh.fh) t n hg hl ops 0 (List.drop_zero)
 by_cases ht:t∈ops
 ·rw[if_pos ht] at L
  obtain⟨j,R,hR,hL⟩:=L
  have e1:=zH (zw8 h.fh q ops.length ⟨⟨t⟩⟩ (j:Int) n (hL.fact2 (by omega) (by kernel_rfl))) rfl
  rw[dT ht]
  exact zH (zBJ h q ops.length ⟨⟨t⟩⟩ (j:Int) (n+1) e1 (dT (by omega))) rfl
 ·rw[if_neg ht] at L
  obtain⟨R,hR,hL⟩:=L
  have e1:=zH (zw7 h.fh q ops.length ⟨⟨t⟩⟩ n (hL.fact2 (by omega) (by kernel_rfl))) rfl
  rw[dF ht]
  exact zH (zBK h q ops.length ⟨⟨t⟩⟩ (-1) (n+1) e1 rfl) rfl
end
section
variable {m:Int} {h:Heap} {p b:Nat} {ts:List Tk} {E k:Nat}
theorem PSt.some_b(s:PSt m h p b ts E k){i:Nat}(hi:i < ts.length):h.get b=some (.row 199 (tkC ts) 4 false):=by
 rcases s.tk with rfl|h1
 ·simp at hi
 ·exact h1
theorem jg{i:Nat}(hi:i < ts.length):tsV b ts=sv b 0 ts.length ts.length:=by
 cases ts with
 |nil=>simp at hi
 |cons x l=>rfl
theorem PSt.pb(s:PSt m h p b ts E k){i:Nat}(hi:i < ts.length):b≠p:=by
 rintro rfl
 have:=s.pp
 rw[s.some_b hi] at this
 cases this
theorem PSt.pp'(s:PSt m h p b ts E k){i:Nat}(hi:i < ts.length):h.get p=some (.row 274 [sv b 0 ts.length ts.length,.int .i64 (k:Int),.int .i64 E] 0 false):=by
 rw[← jg (b:=b) hi];exact s.pp
theorem PSt.get(_s:PSt m h p b ts E k){i:Nat}(hi:i < ts.length):∃ x,ts[i]? =some x:=⟨ts[i],List.getElem?_eq_getElem hi⟩
theorem zli(s:PSt m h p b ts E k)(n:Nat)(hn:1≤n):RD n 202 [pv p 0] h=some (iv (place ts E k:Int),h):=by
 obtain⟨n,rfl⟩:=zs_ n
 unfold place
 by_cases hk:k < ts.length
 ·obtain⟨x,hx⟩:=s.get hk
  rw[hx]
  exact zH (zwy h p b k ts.length E ts x n (s.pp' hk) (s.some_b hk) hx hk (zw hk)) rfl
 ·rw[List.getElem?_eq_none (by omega)]
  exact zH (ztA h p k ts.length E (tsR b ts) n s.pp (zE hk)) rfl
theorem jz(s:PSt m h p b ts E k)(n:Nat)(hn:2≤n):∃ h',RD n 177 [pv p 0] h=some (.iface 242 (pv h.nx 0),h')∧Kp h h'∧h'.nx=h.nx+1∧h'.get h.nx=some (.row 245 [iv (place ts E k:Int),iv 13] 0 false):=by
 obtain⟨n,rfl⟩:=zs_ n
 obtain⟨H,e,g,nx,wm,w⟩:=fl h p (place ts E k) n (zli s.fh n (by omega))
 exact⟨_,jY e (zh7 (nL_ _)),⟨by show h.nx≤H.nx;omega,g,Nat.min_le_left _ _⟩,nx,w⟩
theorem ze0(h:Heap)(d n:Nat)(hn:1≤n)(hd:d≤40):RD n 198 [iv (d:Int)] h=some (.nilIface,h):=by
 obtain⟨n,rfl⟩:=zs_ n
 exact zH (zBw h d n (zR (b:=40) (by omega))) rfl
theorem zdu(h:Heap)(d n:Nat)(hn:1≤n)(hd:40 < d):∃ h',RD n 198 [iv (d:Int)] h=some (.iface 242 (pv h.nx 0),h')∧Kp h h'∧h'.nx=h.nx+1∧h'.get h.nx=some (.row 245 [iv 0,iv 14] 0 false):=by
 obtain⟨n,rfl⟩:=zs_ n
 obtain⟨H,e,g,nx,wm,w⟩:=zBv h d n (wj (b:=40) hd)
 exact⟨_,jY e (zh7 (nL_ _)),⟨by show h.nx≤H.nx;omega,g,Nat.min_le_left _ _⟩,nx,w⟩
theorem ne4(x:Nat):((x:Int) !=4)= !decide (x=4):=by
 have:=zco x 4
 rw[show((4:Nat):Int)=4 from rfl] at this
 show(!((x:Int)==4))=_
 rw[this];simp[Bool.beq_eq_decide_eq]
theorem eqN(x k:Nat):((x:Int)==(k:Int))=decide (x=k):=by
 rw[zco];simp[Bool.beq_eq_decide_eq]
theorem zZ(a c:Bsy):bqS ⟨⟨a⟩⟩ ⟨⟨c⟩⟩=decide (a=c):=by
 simp[Bool.beq_eq_decide_eq]
theorem zfe(s:PSt m h p b ts E k)(n:Nat)(hn:1≤n):RD n 252 [pv p 0] h=some (.bool (jC ts k),h):=by
 obtain⟨n,rfl⟩:=zs_ n
 have h3:=s.tT
 have hT:=s.kT
 by_cases hk:k+1 < ts.length
 ·obtain⟨x,hx⟩:=s.get hk
  have hd:decide ((k:Int)+1 < (ts.length:Int))=true:=dT (by omega)
  unfold jC sg
  rw[hx]
  by_cases h4:x.k=4
  ·by_cases ht:x.t=[40]
   ·simp only[h4,ht,List.mem_singleton,and_self,if_true,Option.isSome_some]
    exact zH (zz2 h p b k ts.length E ts x n (s.pp' hk) (s.some_b hk) hx hk (by omega) hd (by rw[h4];rfl) (by rw[ht];rfl)) rfl
   ·simp only[h4,ht,List.mem_singleton,and_false,if_false,Option.isSome_none]
    exact zH (zz3 h p b k ts.length E ts x n (s.pp' hk) (s.some_b hk) hx hk (by omega) hd (by rw[h4];rfl) (by have:=zZ x.t [40];rw[dF ht] at this;exact this)) rfl
  ·simp only[h4,false_and,if_false,Option.isSome_none]
   exact zH (zz4 h p b k ts.length E ts x n (s.pp' hk) (s.some_b hk) hx hk (by omega) hd (by have:=eqN x.k 4;rw[dF h4] at this;exact this)) rfl
 ·unfold jC sg
  rw[List.getElem?_eq_none (by omega)]
  exact zH (ztH h p k ts.length E (tsR b ts) n s.pp (by omega) (dF (by omega))) rfl
def uW(m:Int)(h:Heap)(p b:Nat)(ts:List Tk)(E k:Nat)(ops:List (Bsy))(v:Value)(h':Heap):Prop:=
 match sg ts ops k with
 |none=>v= .tuple #[.string ⟨#[]⟩,.bool false]∧h'=h
 |some s=>v= .tuple #[.string ⟨⟨s⟩⟩,.bool true]∧Fr h h' p∧h'.nx=h.nx∧PSt m h' p b ts E (k+1)∧h'.wm≤h.wm∧h'.wm≤p
theorem qh{q es:Nat}{ops:List (Bsy)}{ro:Bool}(s:PSt m h p b ts E k)(n:Nat)(hn:3≤n)(hg:h.get q=some (.row 9 (ops.map fun s=>.string ⟨⟨s⟩⟩) es ro))(hl:ops.length≤100):
  ∃ v h',RD n 200 [pv p 0,sv q 0 ops.length ops.length] h=some (v,h')∧uW m h p b ts E k ops v h':=by
 obtain⟨n,rfl⟩:=zs_ n
 have h3:=s.tT
 have hT:=s.kT
 by_cases hk:k < ts.length
 ·obtain⟨x,hx⟩:=s.get hk
  have hd:((k:Int)==(ts.length:Int))=false:=zcK (by omega)
  have hc:=zcn (h:=h.fh) x.t n (by omega) hg hl
  unfold uW sg
  rw[hx]
  by_cases h4:x.k=4
  ·by_cases ht:x.t∈ops
   ·rw[dT ht] at hc
    obtain⟨H,e,g,nx,wm,wp,w⟩:=zy2 h p b k ts.length E q ops.length ts x n (s.pp' hk) (s.some_b hk) hx hk (by omega) s.lt (s.pb hk) hd (by rw[h4];rfl) hc
    have hfr:Fr h H p:=⟨by omega,fun c hc hcp=>g c hc hcp⟩
    simp only[h4,ht,and_self,if_true]
    refine⟨_,_,ur e (by have:=s.lt;omega),rfl,hfr.wm _,nx,(s.fr hfr ?_ (by omega)).wm,Nat.min_le_left _ _,nT (Nat.min_le_right _ _) wp⟩
    rw[w,jg hk];rfl
   ·rw[dF ht] at hc
    simp only[h4,ht,and_false,if_false]
    exact⟨_,_,zH (zy3 h p b k ts.length E q ops.length ts x n (s.pp' hk) (s.some_b hk) hx hk (by omega) hd (by rw[h4];rfl) hc) rfl,rfl,rfl⟩
  ·simp only[h4,false_and,if_false]
   exact⟨_,_,zH (zy4 h p b k ts.length E q ops.length ts x n (s.pp' hk) (s.some_b hk) hx hk (by omega) hd (by rw[ne4,dF h4];rfl)) rfl,rfl,rfl⟩
 ·unfold uW sg
  rw[List.getElem?_eq_none (by omega)]
  exact⟨_,_,zH (zs5 h p k ts.length E q ops.length (tsR b ts) n s.pp (zl0 (by omega))) rfl,rfl,rfl⟩
theorem zV.keep{g:Heap}{lo hi lo' hi':Nat}{x:Hd}{r:OA}{l:Nat}{t:Tr}(N:zV h lo hi x r l t)(hg:∀ c,c < h.nx→g.get c=h.get c)(hl:lo'≤lo)(hh:hi≤hi'):zV g lo' hi' x r l t:=
 N.mono hl hh fun c o _ _ e=>(hg c (za e)).trans e
theorem zgn{P Q:Nat→Prop}{x y:Hd}{xr yr:OA}{xn yn:Nat}{t u:Tr}(s:Bsy)(n:Nat)(hn:1≤n)(hx:zc h P x xr xn t)(hy:zc h P y yr yn u)(hPQ:∀ c,P c→c < h.nx→Q c)(hQ:Q (h.nx+3)):
  ∃ h',RD n 201 [.string ⟨⟨s⟩⟩,ndV x xr xn,ndV y yr yn] h=some (ndV (zg 5 s) (some ⟨h.nx+3,0,none⟩) 2,h')∧Kp h h'∧zc h' Q (zg 5 s) (some ⟨h.nx+3,0,none⟩) 2 (vM s t u)∧h.nx+3 < h'.nx:=by
 obtain⟨n,rfl⟩:=zs_ n
 obtain⟨H,e,g,nx,wm,w⟩:=tw h s x y xr yr xn yn n
 have hlow:zM h.nx 5 (.agg #[iv 5,iv 0,iv 0,.string ⟨#[]⟩,iv 0,iv 0,iv 0,iv 0,.string ⟨⟨s⟩⟩,sv (h.nx+3) 0 2 2])=false:=by
  simp[zM,jH (Nat.le_add_right h.nx 3)]
 have tr:∀ c o,P c→h.get c=some o→Q c∧({H with wm:=min h.wm H.wm}:Heap).get c=some o:=fun c o hP e=>⟨hPQ c hP (za e),(g c (za e)).trans e⟩
 refine⟨_,jY e hlow,⟨by show h.nx≤H.nx;omega,g,Nat.min_le_left _ _⟩,?_,by show h.nx+3 < H.nx;omega⟩
 refine zc.mk (ts:=[t,u]) (es:=0) (ro:=false) (cs:=ndL x xr xn++ndL y yr yn) _ hQ w ?_
 unfold ArgsC
 refine⟨x,xr,xn,ndL y yr yn,rfl,hx.mono tr,?_⟩
 unfold ArgsC
 refine⟨y,yr,yn,[],by rw[List.append_nil],hy.mono tr,?_⟩
 unfold ArgsC;rfl
theorem zhI{lo hi:Nat}{x y:Hd}{xr yr:OA}{xn yn:Nat}{t u:Tr}(s:Bsy)(n:Nat)(hn:1≤n)(hx:zV h lo hi x xr xn t)(hy:zV h lo hi y yr yn u)(hlo:lo≤h.nx)(_hhi:hi≤h.nx):
  ∃ h' q,RD n 201 [.string ⟨⟨s⟩⟩,ndV x xr xn,ndV y yr yn] h=some (ndV (zg 5 s) (some ⟨q,0,none⟩) 2,h')∧Kp h h'∧zV h' lo h'.nx (zg 5 s) (some ⟨q,0,none⟩) 2 (vM s t u):=by
 obtain⟨h',e,K,N,l⟩:=zgn (Q:=fun c=>lo≤c∧c < h.nx+4) s n hn hx hy (fun c hc hl=>⟨hc.1,by omega⟩) ⟨by omega,by omega⟩
 exact⟨h',_,e,K,N.mono (fun c o hc e=>⟨⟨hc.1,za e⟩,e⟩)⟩
end
noncomputable section
abbrev zeq:Vs:=[.string ⟨#[61]⟩,.string ⟨#[60,62]⟩,.string ⟨#[60]⟩,.string ⟨#[60,61]⟩,.string ⟨#[62]⟩,.string ⟨#[62,61]⟩]
abbrev wz(p d:Nat):Vs:=[pv p 0,iv (d:Int)]
abbrev uD(q:Nat):Value:=.tuple #[zj,.iface 242 (pv q 0)]
abbrev zep(h:Heap):Heap:=al (al h.fh 72 z72) 9 [.string ⟨#[45]⟩]
abbrev ziM:Vs:=[.string ⟨#[43]⟩,.string ⟨#[45]⟩,.string ⟨#[38]⟩]
abbrev ziL:Vs:=[.string ⟨#[42]⟩,.string ⟨#[47]⟩,.string ⟨#[37]⟩]
abbrev zgd:Value:=.tuple #[.string ⟨#[]⟩,.bool false]
abbrev zbc(h1:Heap)(x:Hd)(xr:OA)(xn:Nat):Heap:=pt (al h1 72 z72) h1.nx 72 (ndL x xr xn)
abbrev zc3(p d:Nat):Vs:=[pv p 0,iv ((d:Int)+1)]
abbrev zcv(x:Hd)(xr:OA)(xn:Nat):Value:=.tuple #[ndV x xr xn,.nilIface]
abbrev zdE(p:Nat)(h1:Heap):Vs:=[pv p 0,sv (h1.nx+1) 0 1 1]
abbrev zcu(x:Hd)(xr:OA)(xn:Nat):AObj:=.row 72 (ndL x xr xn) 0 false
variable (h h1 h2 h3 h4:Heap) (p d q n:Nat) (s:Bsy) (x:Hd) (xr:OA) (xn:Nat) (y:Hd) (yr:OA) (yn:Nat) (w:Hd) (wr:OA) (wn:Nat)
theorem zrz(g1_:h1.get h.nx=some (.row 72 z72 0 false))(l1_:h.nx < h1.nx)(a0:RD n 198 [iv (d:Int)] (al h.fh 72 z72)=some (.iface 242 (pv q 0),h1)):∃ H,Fn n 176 (wz p d) h (uD q) H∧tl1 h1 h1.wm h.nx h1.nx H:=
 exT (kZ h) [aS 72 z72,yC a0 (kI (ko g1_)),bT,.w 0 72 0 (zj),.r 0 72 10,.z 1] []
theorem zxj(g1_:h1.get h.nx=some (.row 72 z72 0 false))(l1_:h.nx < h1.nx)(a0:Pu n 198 [iv (d:Int)] .nilIface (al h.fh 72 z72))(a1:RD n 199 (wz p d) (al h.fh 72 z72)=some (.tuple #[zj,.iface 242 (pv q 0)],h1)):∃ H,Fn n 176 (wz p d) h (uD q) H∧tl1 h1 h1.wm h.nx (h1.nx+1) H:=
 exT (kZ h) [aS 72 z72,yP a0,bF,yC a1 (kI (ko g1_)),aS 72 z72,.w 1 72 0 (zj),bT,.w 0 72 0 (zj),.r 0 72 10,.z 1] []
theorem zui(g1_:h1.get h.nx=some (.row 72 z72 0 false))(l1_:h.nx < h1.nx)(a0:Pu n 198 [iv (d:Int)] .nilIface (al h.fh 72 z72))(a1:RD n 199 (wz p d) (al h.fh 72 z72)=some (.tuple #[ndV x xr xn,.nilIface],h1))(a2:Pu n 200 [pv p 0,sv (h1.nx+1) 0 6 6] zgd (al (zbc h1 x xr xn) 9 zeq)):∃ H,Fn n 176 (wz p d) h (zcv x xr xn) H∧tl1 h1 h1.wm h.nx (h1.nx+2) H:=
 exT (kZ h) [aS 72 z72,yP a0,bF,yC a1 (kI (ko g1_)),aS 72 z72,.w 1 72 0 (ndV x xr xn),bF,aS 9 zeq,yP a2,.g 1 72 0 10,.w 0 72 0 (ndV x xr xn),.r 0 72 10,.z 1] []
theorem zxi(g3_:h3.get h.nx=some (.row 72 z72 0 false))(g31_:h3.get h1.nx=some (zcu x xr xn))(l3_:h.nx < h3.nx)(l13_:h1.nx < h3.nx)(a0:Pu n 198 [iv (d:Int)] .nilIface (al h.fh 72 z72))(a1:RD n 199 (wz p d) (al h.fh 72 z72)=some (.tuple #[ndV x xr xn,.nilIface],h1))(a2:RD n 200 [pv p 0,sv (h1.nx+1) 0 6 6] (al (zbc h1 x xr xn) 9 zeq)=some (.tuple #[.string ⟨⟨s⟩⟩,.bool true],h2))(a3:RD n 199 (wz p d) h2=some (.tuple #[zj,.iface 242 (pv q 0)],h3)):∃ H,Fn n 176 (wz p d) h (uD q) H∧tl1 h3 h3.wm h.nx (h3.nx+1) H:=
 exT (kZ h) [aS 72 z72,yP a0,bF,yC a1 (kZ h1),aS 72 z72,.w 0 72 0 (ndV x xr xn),bF,aS 9 zeq,yC a2 (kZ h2),yC a3 (kI (ko g3_)),aS 72 z72,.w 1 72 0 (zj),bT,.w 0 72 0 (zj),.r 0 72 10,.z 1] []
theorem zxh(g3_:h3.get h.nx=some (.row 72 z72 0 false))(g31_:h3.get h1.nx=some (zcu x xr xn))(l3_:h.nx < h3.nx)(l13_:h1.nx < h3.nx)(g4_:h4.get h.nx=some (.row 72 z72 0 false))(l4_:h.nx < h4.nx)(a0:Pu n 198 [iv (d:Int)] .nilIface (al h.fh 72 z72))(a1:RD n 199 (wz p d) (al h.fh 72 z72)=some (.tuple #[ndV x xr xn,.nilIface],h1))(a2:RD n 200 [pv p 0,sv (h1.nx+1) 0 6 6] (al (zbc h1 x xr xn) 9 zeq)=some (.tuple #[.string ⟨⟨s⟩⟩,.bool true],h2))(a3:RD n 199 (wz p d) h2=some (.tuple #[ndV y yr yn,.nilIface],h3))(a4:RD n 201 [.string ⟨⟨s⟩⟩,ndV x xr xn,ndV y yr yn] (pt (al h3 72 z72) h3.nx 72 (ndL y yr yn))=some (ndV w wr wn,h4)):∃ H,Fn n 176 (wz p d) h (.tuple #[ndV w wr wn,.nilIface]) H∧tl1 h4 h4.wm h.nx h4.nx H:=
 exT (kZ h) [aS 72 z72,yP a0,bF,yC a1 (kZ h1),aS 72 z72,.w 0 72 0 (ndV x xr xn),bF,aS 9 zeq,yC a2 (kZ h2),yC a3 (kI (ko g31_)),aS 72 z72,.w 1 72 0 (ndV y yr yn),bF,.g 0 72 0 10,.g 1 72 0 10,yC a4 (kI (ko g4_)),.w 0 72 0 (ndV w wr wn),.r 0 72 10,.z 1] []
theorem zqC(g1_:h1.get h.nx=some (.row 72 z72 0 false))(l1_:h.nx < h1.nx)(a0:RD n 198 [iv (d:Int)] (al h.fh 72 z72)=some (.iface 242 (pv q 0),h1)):∃ H,Fn n 231 (wz p d) h (uD q) H∧tl1 h1 h1.wm h.nx h1.nx H:=
 exT (kZ h) [aS 72 z72,yC a0 (kI (ko g1_)),bT,.w 0 72 0 (zj),.r 0 72 10,.z 1] []
theorem zwj(g1_:h1.get h.nx=some (.row 72 z72 0 false))(l1_:h.nx < h1.nx)(a0:Pu n 198 [iv (d:Int)] .nilIface (al h.fh 72 z72))(a1:RD n 239 (wz p d) (al h.fh 72 z72)=some (.tuple #[zj,.iface 242 (pv q 0)],h1)):∃ H,Fn n 231 (wz p d) h (uD q) H∧tl1 h1 h1.wm h.nx (h1.nx+1) H:=
 exT (kZ h) [aS 72 z72,yP a0,bF,yC a1 (kI (ko g1_)),aS 72 z72,.w 1 72 0 (zj),bT,.w 0 72 0 (zj),.r 0 72 10,.z 1] []
theorem zty(g1_:h1.get h.nx=some (.row 72 z72 0 false))(l1_:h.nx < h1.nx)(a0:Pu n 198 [iv (d:Int)] .nilIface (al h.fh 72 z72))(a1:RD n 239 (wz p d) (al h.fh 72 z72)=some (.tuple #[ndV x xr xn,.nilIface],h1))(a2:Pu n 200 (zdE p h1) zgd (al (zbc h1 x xr xn) 9 [.string ⟨#[94]⟩])):∃ H,Fn n 231 (wz p d) h (zcv x xr xn) H∧tl1 h1 h1.wm h.nx (h1.nx+2) H:=
 exT (kZ h) [aS 72 z72,yP a0,bF,yC a1 (kI (ko g1_)),aS 72 z72,.w 1 72 0 (ndV x xr xn),bF,aS 9 [.string ⟨#[94]⟩],yP a2,.g 1 72 0 10,.w 0 72 0 (ndV x xr xn),.r 0 72 10,.z 1] []
theorem zwi(g3_:h3.get h.nx=some (.row 72 z72 0 false))(g31_:h3.get h1.nx=some (zcu x xr xn))(l3_:h.nx < h3.nx)(l13_:h1.nx < h3.nx)(_hd:d < 100)(a0:Pu n 198 [iv (d:Int)] .nilIface (al h.fh 72 z72))(a1:RD n 239 (wz p d) (al h.fh 72 z72)=some (.tuple #[ndV x xr xn,.nilIface],h1))(a2:RD n 200 (zdE p h1) (al (zbc h1 x xr xn) 9 [.string ⟨#[94]⟩])=some (.tuple #[.string ⟨⟨s⟩⟩,.bool true],h2))(a3:RD n 231 (zc3 p d) h2=some (.tuple #[zj,.iface 242 (pv q 0)],h3)):∃ H,Fn n 231 (wz p d) h (uD q) H∧tl1 h3 h3.wm h.nx (h3.nx+1) H:=
 exT (kZ h) [aS 72 z72,yP a0,bF,yC a1 (kZ h1),aS 72 z72,.w 0 72 0 (ndV x xr xn),bF,aS 9 [.string ⟨#[94]⟩],yC a2 (kZ h2),yW ((d:Int)+1),yC a3 (kI (ko g3_)),aS 72 z72,.w 1 72 0 (zj),bT,.w 0 72 0 (zj),.r 0 72 10,.z 1] []
theorem zwh(g3_:h3.get h.nx=some (.row 72 z72 0 false))(g31_:h3.get h1.nx=some (zcu x xr xn))(l3_:h.nx < h3.nx)(l13_:h1.nx < h3.nx)(g4_:h4.get h.nx=some (.row 72 z72 0 false))(l4_:h.nx < h4.nx)(_hd:d < 100)(a0:Pu n 198 [iv (d:Int)] .nilIface (al h.fh 72 z72))(a1:RD n 239 (wz p d) (al h.fh 72 z72)=some (.tuple #[ndV x xr xn,.nilIface],h1))(a2:RD n 200 (zdE p h1) (al (zbc h1 x xr xn) 9 [.string ⟨#[94]⟩])=some (.tuple #[.string ⟨⟨s⟩⟩,.bool true],h2))(a3:RD n 231 (zc3 p d) h2=some (.tuple #[ndV y yr yn,.nilIface],h3))(a4:RD n 201 [.string ⟨#[94]⟩,ndV x xr xn,ndV y yr yn] (pt (al h3 72 z72) h3.nx 72 (ndL y yr yn))=some (ndV w wr wn,h4)):∃ H,Fn n 231 (wz p d) h (.tuple #[ndV w wr wn,.nilIface]) H∧tl1 h4 h4.wm h.nx h4.nx H:=
 exT (kZ h) [aS 72 z72,yP a0,bF,yC a1 (kZ h1),aS 72 z72,.w 0 72 0 (ndV x xr xn),bF,aS 9 [.string ⟨#[94]⟩],yC a2 (kZ h2),yW ((d:Int)+1),yC a3 (kI (ko g31_)),aS 72 z72,.w 1 72 0 (ndV y yr yn),bF,.g 0 72 0 10,.g 1 72 0 10,yC a4 (kI (ko g4_)),.w 0 72 0 (ndV w wr wn),.r 0 72 10,.z 1] []
theorem zmI(g1_:h1.get h.nx=some (.row 72 z72 0 false))(l1_:h.nx < h1.nx)(a0:RD n 198 [iv (d:Int)] (al h.fh 72 z72)=some (.iface 242 (pv q 0),h1)):∃ H,Fn n 239 (wz p d) h (uD q) H∧tl1 h1 h1.wm h.nx h1.nx H:=
 exT (kZ h) [aS 72 z72,yC a0 (kI (ko g1_)),bT,.w 0 72 0 (zj),.r 0 72 10,.z 1] []
theorem zsx(g1_:h1.get h.nx=some (.row 72 z72 0 false))(l1_:h.nx < h1.nx)(a0:Pu n 198 [iv (d:Int)] .nilIface (al h.fh 72 z72))(a1:Pu n 200 [pv p 0,sv (h.nx+1) 0 1 1] zgd (zep h))(a2:RD n 248 (wz p d) (zep h)=some (.tuple #[ndV x xr xn,.nilIface],h1)):∃ H,Fn n 239 (wz p d) h (zcv x xr xn) H∧tl1 h1 h1.wm h.nx h1.nx H:=
 exT (kZ h) [aS 72 z72,yP a0,bF,aS 9 [.string ⟨#[45]⟩],yP a1,yC a2 (kI (ko g1_)),.w 0 72 0 (ndV x xr xn),.r 0 72 10,.z 1] []
theorem zsy(g1_:h1.get h.nx=some (.row 72 z72 0 false))(l1_:h.nx < h1.nx)(a0:Pu n 198 [iv (d:Int)] .nilIface (al h.fh 72 z72))(a1:Pu n 200 [pv p 0,sv (h.nx+1) 0 1 1] zgd (zep h))(a2:RD n 248 (wz p d) (zep h)=some (.tuple #[zj,.iface 242 (pv q 0)],h1)):∃ H,Fn n 239 (wz p d) h (uD q) H∧tl1 h1 h1.wm h.nx h1.nx H:=
 exT (kZ h) [aS 72 z72,yP a0,bF,aS 9 [.string ⟨#[45]⟩],yP a1,yC a2 (kI (ko g1_)),.w 0 72 0 (zj),.r 0 72 10,.z 1] []
theorem zvq(g2_:h2.get h.nx=some (.row 72 z72 0 false))(l2_:h.nx < h2.nx)(_hd:d < 100)(a0:Pu n 198 [iv (d:Int)] .nilIface (al h.fh 72 z72))(a1:RD n 200 [pv p 0,sv (h.nx+1) 0 1 1] (zep h)=some (.tuple #[.string ⟨⟨s⟩⟩,.bool true],h1))(a2:RD n 239 (zc3 p d) h1=some (.tuple #[zj,.iface 242 (pv q 0)],h2)):∃ H,Fn n 239 (wz p d) h (uD q) H∧tl1 h2 h2.wm h.nx (h2.nx+1) H:=
 exT (kZ h) [aS 72 z72,yP a0,bF,aS 9 [.string ⟨#[45]⟩],yC a1 (kZ h1),yW ((d:Int)+1),yC a2 (kI (ko g2_)),aS 72 z72,.w 1 72 0 (zj),bT,.w 0 72 0 (zj),.r 0 72 10,.z 1] []
theorem zsz(g2_:h2.get h.nx=some (.row 72 z72 0 false))(l2_:h.nx < h2.nx)(_hd:d < 100)(a0:Pu n 198 [iv (d:Int)] .nilIface (al h.fh 72 z72))(a1:RD n 200 [pv p 0,sv (h.nx+1) 0 1 1] (zep h)=some (.tuple #[.string ⟨⟨s⟩⟩,.bool true],h1))(a2:RD n 239 (zc3 p d) h1=some (.tuple #[ndV x xr xn,.nilIface],h2)):∃ H,Fn n 239 (wz p d) h (.tuple #[.agg #[iv 4,iv 0,iv 0,.string ⟨#[]⟩,iv 0,iv 0,iv 0,iv 0,.string ⟨#[]⟩,sv (h2.nx+1) 0 1 1],.nilIface]) H∧tw1 h2 h2.wm h.nx (h2.nx+2) H (H.get (h2.nx+1)=some (zcu x xr xn)):=
 exT (kZ h) [aS 72 z72,yP a0,bF,aS 9 [.string ⟨#[45]⟩],yC a1 (kZ h1),yW ((d:Int)+1),yC a2 (kI (ko g2_)),aS 72 z72,.w 1 72 0 (ndV x xr xn),bF,.g 1 72 0 10,aS 72 (ndL x xr xn),.w 0 72 0 (.agg #[iv 4,iv 0,iv 0,.string ⟨#[]⟩,iv 0,iv 0,iv 0,iv 0,.string ⟨#[]⟩,sv (h2.nx+1) 0 1 1]),.r 0 72 10,.z 1] [2]
theorem zvI(g1_:h1.get h.nx=some (.row 72 z72 0 false))(l1_:h.nx < h1.nx)(a0:RD n 223 [pv p 0,iv (d:Int),.func (.func 224) #[pv p 0] #[],sv (h.nx+1) 0 3 3] (al (al h.fh 72 z72) 9 ziM)=some (.tuple #[ndV x xr xn,.nilIface],h1)):∃ H,Fn n 199 (wz p d) h (zcv x xr xn) H∧tl1 h1 h1.wm h.nx h1.nx H:=
 exT (kZ h) [aS 72 z72,aS 9 ziM,yC a0 (kI (ko g1_)),.w 0 72 0 (ndV x xr xn),.r 0 72 10,.z 1] []
theorem zyU(g1_:h1.get h.nx=some (.row 72 z72 0 false))(l1_:h.nx < h1.nx)(a0:RD n 223 [pv p 0,iv (d:Int),.func (.func 224) #[pv p 0] #[],sv (h.nx+1) 0 3 3] (al (al h.fh 72 z72) 9 ziM)=some (.tuple #[zj,.iface 242 (pv q 0)],h1)):∃ H,Fn n 199 (wz p d) h (uD q) H∧tl1 h1 h1.wm h.nx h1.nx H:=
 exT (kZ h) [aS 72 z72,aS 9 ziM,yC a0 (kI (ko g1_)),.w 0 72 0 (zj),.r 0 72 10,.z 1] []
theorem zwC(g1_:h1.get h.nx=some (.row 72 z72 0 false))(l1_:h.nx < h1.nx)(a0:RD n 223 [pv p 0,iv (d:Int),.func (.func 231) #[pv p 0] #[],sv (h.nx+1) 0 3 3] (al (al h.fh 72 z72) 9 ziL)=some (.tuple #[ndV x xr xn,.nilIface],h1)):∃ H,Fn n 224 (wz p d) h (zcv x xr xn) H∧tl1 h1 h1.wm h.nx h1.nx H:=
 exT (kZ h) [aS 72 z72,aS 9 ziL,yC a0 (kI (ko g1_)),.w 0 72 0 (ndV x xr xn),.r 0 72 10,.z 1] []
theorem zzX(g1_:h1.get h.nx=some (.row 72 z72 0 false))(l1_:h.nx < h1.nx)(a0:RD n 223 [pv p 0,iv (d:Int),.func (.func 231) #[pv p 0] #[],sv (h.nx+1) 0 3 3] (al (al h.fh 72 z72) 9 ziL)=some (.tuple #[zj,.iface 242 (pv q 0)],h1)):∃ H,Fn n 224 (wz p d) h (uD q) H∧tl1 h1 h1.wm h.nx h1.nx H:=
 exT (kZ h) [aS 72 z72,aS 9 ziL,yC a0 (kI (ko g1_)),.w 0 72 0 (zj),.r 0 72 10,.z 1] []
theorem zyd(g1_:h1.get h.nx=some (.row 72 z72 0 false))(l1_:h.nx < h1.nx)(_hd:d < 100)(a0:RD n 176 (zc3 p d) (al h.fh 72 z72)=some (.tuple #[zj,.iface 242 (pv q 0)],h1)):∃ H,Fn n 251 (wz p d) h (uD q) H∧tl1 h1 h1.wm h.nx (h1.nx+1) H:=
 exT (kZ h) [aS 72 z72,yW ((d:Int)+1),yC a0 (kI (ko g1_)),aS 72 z72,.w 1 72 0 (zj),bT,.w 0 72 0 (zj),.r 0 72 10,.z 1] []
theorem zvg(g2_:h2.get h.nx=some (.row 72 z72 0 false))(l2_:h.nx < h2.nx)(_hd:d < 100)(a0:RD n 176 (zc3 p d) (al h.fh 72 z72)=some (.tuple #[ndV x xr xn,.nilIface],h1))(a1:Pu n 200 (zdE p h1) zgd (al (zbc h1 x xr xn) 9 [.string ⟨#[41]⟩]))(a2:RD n 177 [pv p 0] (al (zbc h1 x xr xn) 9 [.string ⟨#[41]⟩])=some (.iface 242 (pv q 0),h2)):∃ H,Fn n 251 (wz p d) h (uD q) H∧tl1 h2 h2.wm h.nx h2.nx H:=
 exT (kZ h) [aS 72 z72,yW ((d:Int)+1),yC a0 (kZ h1),aS 72 z72,.w 0 72 0 (ndV x xr xn),bF,aS 9 [.string ⟨#[41]⟩],yP a1,yC a2 (kI (ko g2_)),.w 0 72 0 (zj),.r 0 72 10,.z 1] []
theorem zvf(g2_:h2.get h.nx=some (.row 72 z72 0 false))(l2_:h.nx < h2.nx)(g21_:h2.get h1.nx=some (zcu x xr xn))(_hd:d < 100)(a0:RD n 176 (zc3 p d) (al h.fh 72 z72)=some (.tuple #[ndV x xr xn,.nilIface],h1))(a1:RD n 200 (zdE p h1) (al (zbc h1 x xr xn) 9 [.string ⟨#[41]⟩])=some (.tuple #[.string ⟨⟨s⟩⟩,.bool true],h2)):∃ H,Fn n 251 (wz p d) h (zcv x xr xn) H∧tl1 h2 h2.wm h.nx h2.nx H:=
 exT (kZ h) [aS 72 z72,yW ((d:Int)+1),yC a0 (kZ h1),aS 72 z72,.w 0 72 0 (ndV x xr xn),bF,aS 9 [.string ⟨#[41]⟩],yC a1 (kI (ko g21_)),.g 0 72 0 10,.s (kI (ko g2_)),.w 0 72 0 (ndV x xr xn),.r 0 72 10,.z 1] []
end
end Go.PanE
