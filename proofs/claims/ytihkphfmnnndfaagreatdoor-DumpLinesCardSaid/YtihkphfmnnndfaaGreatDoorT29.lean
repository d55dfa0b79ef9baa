/-
 Part 29 of the proof of Rows.DumpLinesCardSaid. No conditions.
-/
import Derived.Test.YtihkphfmnnndfaaGreatDoorT28
namespace Go.PanE
open Go.Proofs
mutual
def Tr.size:Tr→Nat
 | .node _ l=>1+zo l
def zo:List Tr→Nat
 |[]=>0
 |t::l=>t.size+zo l
end
mutual
def Tr.depth:Tr→Nat
 | .node _ l=>zx l+1
def zx:List Tr→Nat
 |[]=>0
 |t::l=>max t.depth (zx l)
end
mutual
theorem vL:∀ t:Tr,t.depth≤t.size
 | .node _ l=>by
  unfold Tr.depth Tr.size
  have:=uw l
  omega
theorem uw:∀ l:List Tr,zx l≤zo l
 |[]=>by unfold zx zo;exact nL_ _
 |t::l=>by
  unfold zx zo
  have:=vL t
  have:=uw l
  omega
end
theorem zhD:∀ t:Tr,1≤t.size
 | .node _ l=>by unfold Tr.size;omega
theorem zS(l:List Tr):l.length≤zo l:=by
 induction l with
 |nil=>simp
 |cons t l ih=>
  have:=zhD t
  simp only[lC,zo];omega
theorem qg(a:List Tr)(b:List Tr):zo (a++b)=zo a+zo b:=by
 induction a with
 |nil=>show zo b=_;simp[zo]
 |cons t a ih=>show zo (t::(a++b))=_;simp only[zo,ih];omega
theorem za0(s:Bsy)(x y:Tr):(vM s x y).size=1+x.size+y.size:=by
 simp only[vM,Tr.size,zo];omega
section
variable (ts:List Tk) (E:Nat) (A:Bsy→Option (Nat×Nat))
def Sml(f:PR):Prop:=∀ k t k',f k= .ok t k'→t.size+k≤k'
theorem znh{ops:List (Bsy)}{f:PR}(hf:Sml f):∀ (i:Nat) (x:Tr) (k:Nat) (t:Tr) (k':Nat),qv ts ops f i x k= .ok t k'→t.size+k≤k'+x.size:=by
 intro i
 induction i with
 |zero=>intro x k t k' h;simp only[qv,Res.ok.injEq] at h;obtain⟨rfl,rfl⟩:=h;omega
 |succ i ih=>
  intro x k t k' h
  simp only[qv] at h
  split at h
  ·simp only[Res.ok.injEq] at h;obtain⟨rfl,rfl⟩:=h;omega
  ·split at h
   ·cases h
   next y k1 e=>
    have:=hf _ _ _ e
    have:=ih _ _ _ _ h
    rw[za0] at this
    omega
theorem zgu{ops:List (Bsy)}{f:PR}(hf:Sml f):Sml (qM ts ops f):=by
 intro k t k' h
 simp only[qM] at h
 split at h
 ·cases h
 next x k1 e=>
  have:=hf _ _ _ e
  have:=znh ts hf _ _ _ _ _ h
  omega
theorem zlZ{f:PR}(hf:Sml f):Sml (vr ts f):=by
 intro k t k' h
 simp only[vr] at h
 split at h
 ·cases h
 next x k1 e=>
  have:=hf _ _ _ e
  split at h
  ·simp only[Res.ok.injEq] at h;obtain⟨rfl,rfl⟩:=h;omega
  ·split at h
   ·cases h
   next y k2 e2=>
    have:=hf _ _ _ e2
    simp only[Res.ok.injEq] at h;obtain⟨rfl,rfl⟩:=h
    rw[za0];omega
theorem znw{f g:PR}(hf:Sml f)(hg:Sml g):Sml (ub ts f g):=by
 intro k t k' h
 simp only[ub] at h
 split at h
 ·cases h
 next x k1 e=>
  have:=hf _ _ _ e
  split at h
  ·simp only[Res.ok.injEq] at h;obtain⟨rfl,rfl⟩:=h;omega
  ·split at h
   ·cases h
   next y k2 e2=>
    have:=hg _ _ _ e2
    simp only[Res.ok.injEq] at h;obtain⟨rfl,rfl⟩:=h
    rw[za0];omega
theorem zp9{f g:PR}(hf:Sml f)(hg:Sml g):Sml (unP ts f g):=by
 intro k t k' h
 simp only[unP] at h
 split at h
 ·exact hf _ _ _ h
 ·split at h
  ·cases h
  next y k2 e2=>
   have:=hg _ _ _ e2
   simp only[Res.ok.injEq] at h;obtain⟨rfl,rfl⟩:=h
   simp only[Tr.size,zo];omega
theorem zmi{f:PR}(hf:Sml f)(nm:Bsy):∀ (i:Nat) (acc:List Tr) (k:Nat) (t:Tr) (k':Nat),jQ ts E f nm i acc k= .ok t k'→t.size+k≤k'+zo acc:=by
 intro i
 induction i with
 |zero=>intro acc k t k' h;simp only[jQ,jO] at h;cases h
 |succ i ih=>
  intro acc k t k' h
  simp only[jQ] at h
  split at h
  ·cases h
  next y k1 e=>
   have:=hf _ _ _ e
   split at h
   ·have:=ih _ _ _ _ h
    rw[qg] at this
    simp only[zo] at this
    omega
   ·split at h
    ·simp only[Res.ok.injEq] at h;obtain⟨rfl,rfl⟩:=h
     simp only[Tr.size]
     rw[qg]
     simp only[zo];omega
    ·cases h
theorem vd(x:Hd):(Tr.node x []).size=1:=by simp only[Tr.size,zo]
theorem zlA{f:PR}(hf:Sml f)(x:Tk):Sml (qS ts E A f x):=by
 intro k t k' h
 simp only[qS] at h
 split at h
 ·simp only[yf] at h
  split at h
  ·cases h
  ·split at h
   ·simp only[Res.ok.injEq] at h;obtain⟨rfl,rfl⟩:=h;rw[vd];omega
   ·have:=zmi ts E hf _ _ _ _ _ _ h
    simp only[zo] at this;omega
 ·split at h
  ·simp only[Res.ok.injEq] at h;obtain⟨rfl,rfl⟩:=h;rw[vd];omega
  ·split at h
   ·simp only[Res.ok.injEq] at h;obtain⟨rfl,rfl⟩:=h;rw[vd];omega
   ·split at h
    ·cases h
    ·split at h
     ·simp only[Res.ok.injEq] at h;obtain⟨rfl,rfl⟩:=h;rw[vd];omega
     ·split at h
      ·cases h
      ·simp only[Res.ok.injEq] at h;obtain⟨rfl,rfl⟩:=h;rw[vd];omega
theorem zlj{f:PR}(hf:Sml f):Sml (qz ts E A f):=by
 intro k t k' h
 simp only[qz] at h
 split at h
 ·cases h
 ·split at h
  ·simp only[Res.ok.injEq] at h;obtain⟨rfl,rfl⟩:=h;rw[vd];omega
  ·split at h
   ·split at h
    ·simp only[Res.ok.injEq] at h;obtain⟨rfl,rfl⟩:=h;rw[vd];omega
    ·cases h
   ·split at h
    ·exact zlA ts E A hf _ _ _ _ h
    ·split at h
     ·split at h
      ·split at h
       ·cases h
       next y k1 e=>
        have:=hf _ _ _ e
        split at h
        ·simp only[Res.ok.injEq] at h;obtain⟨rfl,rfl⟩:=h;omega
        ·cases h
      ·cases h
     ·cases h
theorem zgR:∀ d,Sml (lv ts E A d).form∧Sml (lv ts E A d).pow∧Sml (lv ts E A d).un:=by
 intro d
 induction d with
 |zero=>exact⟨fun _ _ _ h=>(nomatch h),fun _ _ _ h=>(nomatch h),fun _ _ _ h=>(nomatch h)⟩
 |succ d ih=>
  have hu:=zp9 ts (zlj ts E A ih.1) ih.2.2
  have hp:=znw ts hu ih.2.1
  exact⟨zlZ ts (zgu ts (zgu ts hp)),hp,hu⟩
end
variable (h:Heap) (xr:OA) (xn i n v:Nat)
theorem zl8(a0:decide ((i:Int) < xn)=false):Bd n 20 [1,1,0,1,0,0] Tryz.f162 [(3,iv (v:Int)),(7,.slice xr xn xn),(8,iv xn),(9,iv (i:Int))] h (.exit 0) [(3,iv (v:Int))] h:=
 bdF (kZ h) [yF a0,.z 0]
theorem zxw(ab j i v w n:Nat)(x:Hd)(xr:OA)(xn:Nat)(_h1:i < j)(_h2:j < 4000)(a0:decide ((i:Int) < j)=true)(a1:LD h 72 ab (0+i * 10) (ndV x xr xn))(a2:Pu n 162 [ndV x xr xn] (iv (w:Int)) (pt (al h 72 z72) h.nx 72 (ndL x xr xn)))(a3:jS (fun y x=>decide (y>x)) (iv (v:Int)) [iv (w:Int)]=some (iv ((max v w:Nat):Int))):Bd n 20 [1,1,0,1,0,0] Tryz.f162 [(3,iv (v:Int)),(7,sv ab 0 j j),(8,iv j),(9,iv (i:Int))] h .normal [(3,iv ((max v w:Nat):Int)),(7,sv ab 0 j j),(8,iv j),(9,iv ((i:Int)+1))] (pt (al h 72 z72) h.nx 72 (ndL x xr xn)):=
 bdF (kZ h) [yT a0,iA 70 72 10 ab j i,yE a1,aS 72 z72,.w 0 72 0 (ndV x xr xn),.g 0 72 0 10,yP a2,yE a3,yW ((i:Int)+1),.z 0]
theorem zpX(hL:Heap)(v n:Nat)(x:Hd)(xr:OA)(xn:Nat)(_h:v < 4000)(a0:Lf n 20 [1,1,0,1,0,0] Tryz.f162 [(0,ndV x xr xn),(1,pv h.nx 0),(2,iv 0),(3,iv 0),(6,pv h.nx 9),(7,.slice xr xn xn),(8,iv xn),(9,iv 0)] (al h.fh 72 (ndL x xr xn)) (.exit 0) [(3,iv (v:Int))] hL):Fn n 162 [ndV x xr xn] h (iv ((v:Int)+1)) hL:=
 fnV (kZ h) [aS 72 (ndL x xr xn),.l 0 70 9,yS a0 (kZ hL),yW ((v:Int)+1),.z 0]
end Go.PanE
namespace Go.PanE
open Go.Proofs
theorem zcG{h:Heap}{ab es i:Nat}{cs cs':Vs}{ro:Bool}{x:Hd}{r:OA}{n:Nat}(hg:h.get ab=some (.row 72 cs es ro))(hd:cs.drop (i * 10)=ndL x r n++cs'):LD h 72 ab (0+i * 10) (ndV x r n):=
 uj 10 (l:=ndL x r n) hg A72 (by rw[Nat.zero_add,hd,List.take_append_of_le_length (by rw[jl];exact nL_ _)];rfl) rfl
mutual
theorem zcm:∀ (t:Tr) (m:Nat) (h:Heap) (P:Nat→Prop) (x:Hd) (r:OA) (n:Nat),zc h P x r n t→t.size≤1000→t.depth≤m→RD m 162 [ndV x r n] h=some (iv (t.depth:Int),h)
 | .node y ts,m,h,P,x,r,n,N,hs,hm=>by
  unfold Tr.depth at hm ⊢
  unfold Tr.size at hs
  have hds:=uw ts
  obtain⟨m,rfl⟩:=zs_ m
  unfold zc at N
  obtain⟨_,hn,N⟩:=N
  have K0:Kp h.fh (al h.fh 72 (ndL x r n)):=(Kp.refl _).al _ _
  rcases N with⟨rfl,rfl⟩|⟨b,cs,es,ro,rfl,hP,hg,hA⟩
  ·subst hn
   have L:Loops En (RD m) 20 18446744073709551616 (sub [1,1,0,1,0,0] (zp Tryz.f162)) [(3,iv ((0:Nat):Int)),(7,.slice none 0 0),(8,iv ((0:Nat):Int)),(9,iv ((0:Nat):Int))] (al h.fh 72 (ndL x none 0)) (.exit 0) [(3,iv ((0:Nat):Int))] (al h.fh 72 (ndL x none 0)) 1:=.out (zl8 _ none 0 0 m 0 rfl)
   refine(zpX h _ 0 m x none 0 (by omega) (L.fact2 (by omega) (by kernel_rfl))).trans ?_
   rw[zk (nL_ _) rfl]
   rfl
  ·subst hn
   have hl:ts.length≤zo ts:=zS ts
   obtain⟨H,R,hR,L,K,w⟩:=zd8 ts m b ts.length P 0 0 (al h.fh 72 (ndL x (some ⟨b,0,none⟩) ts.length)) cs cs es ro (ArgsC.mono (h:=h) (fun c o hc e=>⟨hc,gA (h:=h.fh) e⟩) hA) (gA (h:=h.fh) hg) (by rw[Nat.zero_mul];rfl) (by omega) (by omega) (by omega) (by omega) (by omega)
   rw[Nat.zero_max] at L
   refine(zpX h H (zx ts) m x (some ⟨b,0,none⟩) ts.length (by omega) (L.fact2 (by omega) (by kernel_rfl))).trans ?_
   rw[zk (by
    have e1:(al h.fh 72 (ndL x (some ⟨b,0,none⟩) ts.length)).nx=h.nx+1:=rfl
    have e2:(al h.fh 72 (ndL x (some ⟨b,0,none⟩) ts.length)).wm=h.nx:=rfl
    omega) rfl]
   rfl
theorem zd8:∀ (l:List Tr) (m ab j:Nat) (P:Nat→Prop) (i v:Nat) (h:Heap) (cs cs':Vs) (es:Nat) (ro:Bool),ArgsC h P cs' l→h.get ab=some (.row 72 cs es ro)→cs.drop (i * 10)=cs'→i+l.length=j→j < 4000→v < 4000→zo l≤1000→zx l≤m→
  ∃ H R,R≤l.length+1∧Loops En (RD m) 20 18446744073709551616 (sub [1,1,0,1,0,0] (zp Tryz.f162)) [(3,iv (v:Int)),(7,sv ab 0 j j),(8,iv j),(9,iv (i:Int))] h (.exit 0) [(3,iv ((max v (zx l):Nat):Int))] H R∧Kp h H∧min h.nx h.wm≤H.wm
 |[],m,ab,j,P,i,v,h,cs,cs',es,ro,A,hg,hd,hi,hj,hv,hs,hm=>by
  refine⟨h,1,by omega,.out ?_,Kp.refl h,by omega⟩
  have:max v (zx [])=v:=by unfold zx;omega
  rw[this]
  exact zl8 h (some ⟨ab,0,none⟩) j i m v (zE (by simp only[lN] at hi;omega))
 |t::l,m,ab,j,P,i,v,h,cs,cs',es,ro,A,hg,hd,hi,hj,hv,hs,hm=>by
  unfold ArgsC at A
  obtain⟨x,r,n,cs2,e,N,A2⟩:=A
  unfold zo at hs
  unfold zx at hm
  rw[lC] at hi
  have ld:=zcG hg (hd.trans e)
  have Kb:Kp h (pt (al h 72 z72) h.nx 72 (ndL x r n)):=((Kp.refl h).al _ _).pt _ _ (nL_ _) (nS _)
  have et:=zcm t m (pt (al h 72 z72) h.nx 72 (ndL x r n)) P x r n (N.mono fun c o hc e=>⟨hc,(Kb.get c (za e)).trans e⟩) (by omega) (by omega)
  have hb:=zxw h ab j i v t.depth m x r n (by omega) hj (zw (by omega)) ld et (zgP _ _)
  have hts:=vL t
  obtain⟨H,R,hR,L,K,w⟩:=zd8 l m ab j P (i+1) (max v t.depth) (pt (al h 72 z72) h.nx 72 (ndL x r n)) cs cs2 es ro (A2.mono fun c o hc e=>⟨hc,(Kb.get c (za e)).trans e⟩) ((Kb.get _ (za hg)).trans hg)
   (by rw[show(i+1) * 10=i * 10+10 by omega,← List.drop_drop,hd,e,List.drop_append,List.drop_eq_nil_of_le (by rw[jl];exact nL_ _),jl];rfl) (by omega) hj (by omega) (by omega) (by omega)
  have e3:max (max v t.depth) (zx l)=max v (zx (t::l)):=by
   conv=>rhs;unfold zx
   omega
  rw[e3] at L
  have w1:(pt (al h 72 z72) h.nx 72 (ndL x r n)).wm=min h.nx h.wm:=ze _ _ _
  have n1:(pt (al h 72 z72) h.nx 72 (ndL x r n)).nx=h.nx+1:=rfl
  exact⟨H,R+1,by rw[lC];omega,.on hb L,Kb.trans K,by omega⟩
end
noncomputable section
abbrev zaA(r:OA)(T:Nat)(s:BA):Vs:=[.slice r T T,iv 0,iv s.data.toList.length]
abbrev ziN(r:OA)(T k:Nat)(s:BA):AObj:=.row 274 [.slice r T T,iv (k:Int),iv (s.data.toList.length:Int)] 0 false
variable (h h1 h2:Heap) (s:BA) (e c:Nat) (r:OA) (T k q n dd:Nat) (x:Hd) (xr:OA) (xn:Nat)
theorem zlf(g1_:h1.get h.nx=some (.row 72 z72 0 false))(l1_:h.nx < h1.nx)(a0:RD n 175 [.string s] (al h.fh 72 z72)=some (.tuple #[.slice none 0 0,iv (e:Int),iv (c:Int)],h1))(a1:((c:Int) !=0)=true):∃ H,Fn n 142 [.string s] h (.tuple #[zj,.iface 242 (pv h1.nx 0)]) H∧tw1 h1 h1.wm h.nx (h1.nx+1) H (H.get h1.nx=some (.row 245 [iv (e:Int),iv (c:Int)] 0 false)):=
 exT (kZ h) [aS 72 z72,yC a0 (kI (ko g1_)),yT a1,aS 245 [iv (e:Int),iv (c:Int)],.w 0 72 0 (zj),.r 0 72 10,.z 1] [1]
theorem zzU(g2_:h2.get h.nx=some (.row 72 z72 0 false))(l2_:h.nx < h2.nx)(a0:RD n 175 [.string s] (al h.fh 72 z72)=some (.tuple #[.slice r T T,iv 0,iv 0],h1))(a1:RD n 176 [pv h1.nx 0,iv 0] (al h1 274 (zaA r T s))=some (.tuple #[zj,.iface 242 (pv q 0)],h2)):∃ H,Fn n 142 [.string s] h (.tuple #[zj,.iface 242 (pv q 0)]) H∧tl1 h2 h2.wm h.nx (h2.nx+1) H:=
 exT (kZ h) [aS 72 z72,yC a0 (kZ h1),bF,aS 274 (zaA r T s),yC a1 (kI (ko g2_)),aS 72 z72,.w 1 72 0 (zj),bT,.w 0 72 0 (zj),.r 0 72 10,.z 1] []
theorem zzT(h3:Heap)(s:BA)(r:OA)(T k q n:Nat)(x:Hd)(xr:OA)(xn:Nat)(g2_:h2.get h.nx=some (.row 72 z72 0 false))(l2_:h.nx < h2.nx)(g21_:h2.get h1.nx=some (ziN r T k s))(l12_:h1.nx < h2.nx)(g3_:h3.get h.nx=some (.row 72 z72 0 false))(l3_:h.nx < h3.nx)(a0:RD n 175 [.string s] (al h.fh 72 z72)=some (.tuple #[.slice r T T,iv 0,iv 0],h1))(a1:RD n 176 [pv h1.nx 0,iv 0] (al h1 274 (zaA r T s))=some (.tuple #[ndV x xr xn,.nilIface],h2))(a2:decide ((k:Int) < T)=true)(a3:RD n 177 [pv h1.nx 0] (pt (al h2 72 z72) h2.nx 72 (ndL x xr xn))=some (.iface 242 (pv q 0),h3)):∃ H,Fn n 142 [.string s] h (.tuple #[zj,.iface 242 (pv q 0)]) H∧tl1 h3 h3.wm h.nx h3.nx H:=
 exT (kZ h) [aS 72 z72,yC a0 (kZ h1),bF,aS 274 (zaA r T s),yC a1 (kI (ko g21_)),aS 72 z72,.w 1 72 0 (ndV x xr xn),bF,.l 0 3 1,yT a2,yC a3 (kI (ko g3_)),.w 0 72 0 (zj),.r 0 72 10,.z 1] []
theorem zzV(g2_:h2.get h.nx=some (.row 72 z72 0 false))(l2_:h.nx < h2.nx)(g21_:h2.get h1.nx=some (ziN r T k s))(l12_:h1.nx < h2.nx)(a0:RD n 175 [.string s] (al h.fh 72 z72)=some (.tuple #[.slice r T T,iv 0,iv 0],h1))(a1:RD n 176 [pv h1.nx 0,iv 0] (al h1 274 (zaA r T s))=some (.tuple #[ndV x xr xn,.nilIface],h2))(a2:decide ((k:Int) < T)=false)(a3:Pu n 162 [ndV x xr xn] (iv (dd:Int)) (pt (al h2 72 z72) h2.nx 72 (ndL x xr xn)))(a4:decide ((dd:Int)>16)=true):∃ H,Fn n 142 [.string s] h (.tuple #[zj,.iface 242 (pv (h2.nx+1) 0)]) H∧tw1 h2 h2.wm h.nx (h2.nx+2) H (H.get (h2.nx+1)=some (.row 245 [iv 0,iv 14] 0 false)):=
 exT (kZ h) [aS 72 z72,yC a0 (kZ h1),bF,aS 274 (zaA r T s),yC a1 (kJ (ko g21_) (ko g2_)),aS 72 z72,.w 2 72 0 (ndV x xr xn),bF,.l 0 3 1,yF a2,.g 2 72 0 10,yP a3,yT a4,aS 245 [iv 0,iv 14],.w 1 72 0 (zj),.r 1 72 10,.z 1] [3]
theorem zwv(g2_:h2.get h.nx=some (.row 72 z72 0 false))(l2_:h.nx < h2.nx)(g21_:h2.get h1.nx=some (ziN r T k s))(l12_:h1.nx < h2.nx)(a0:RD n 175 [.string s] (al h.fh 72 z72)=some (.tuple #[.slice r T T,iv 0,iv 0],h1))(a1:RD n 176 [pv h1.nx 0,iv 0] (al h1 274 (zaA r T s))=some (.tuple #[ndV x xr xn,.nilIface],h2))(a2:decide ((k:Int) < T)=false)(a3:Pu n 162 [ndV x xr xn] (iv (dd:Int)) (pt (al h2 72 z72) h2.nx 72 (ndL x xr xn)))(a4:decide ((dd:Int)>16)=false):∃ H,Fn n 142 [.string s] h (.tuple #[ndV x xr xn,.nilIface]) H∧tl1 h2 h2.wm h.nx (h2.nx+1) H:=
 exT (kZ h) [aS 72 z72,yC a0 (kZ h1),bF,aS 274 (zaA r T s),yC a1 (kJ (ko g21_) (ko g2_)),aS 72 z72,.w 2 72 0 (ndV x xr xn),bF,.l 0 3 1,yF a2,.g 2 72 0 10,yP a3,yF a4,.g 2 72 0 10,.w 1 72 0 (ndV x xr xn),.r 1 72 10,.z 1] []
theorem zww(g1_:h1.get h.nx=some (.row 72 z72 0 false))(l1_:h.nx < h1.nx)(a0:RD n 142 [.string s] (al h.fh 72 z72)=some (.tuple #[ndV x xr xn,.nilIface],h1))(a1:Pu n 33 [.nilIface,.iface 243 (pv (h1.nx+1) 0)] (.bool false) (al (pt (al h1 72 z72) h1.nx 72 (ndL x xr xn)) 242 [.pointer none])):∃ H,Fn n 105 [.string s] h (.tuple #[ndV x xr xn,iv 0,iv 0]) H∧tl1 h1 h1.wm h.nx (h1.nx+2) H:=
 exT (kZ h) [aS 72 z72,yC a0 (kI (ko g1_)),aS 72 z72,.w 1 72 0 (ndV x xr xn),aS 242 [.pointer none],yP a1,.g 1 72 0 10,.w 0 72 0 (ndV x xr xn),.r 0 72 10,.z 1] []
theorem zzW(_hq:h.nx < q)(g1_:h1.get h.nx=some (.row 72 z72 0 false))(l1_:h.nx < h1.nx)(g2_:h2.get h.nx=some (.row 72 z72 0 false))(l2_:h.nx < h2.nx)(g211_:h2.get (h1.nx+1)=some (.row 242 [pv q 0] 0 false))(gh2_q:h2.get q=some (.row 245 [iv (e:Int),iv (c:Int)] 0 false))(a0:RD n 142 [.string s] (al h.fh 72 z72)=some (.tuple #[zj,.iface 242 (pv q 0)],h1))(a1:RD n 33 [.iface 242 (pv q 0),.iface 243 (pv (h1.nx+1) 0)] (al (pt (al h1 72 z72) h1.nx 72 z72) 242 [.pointer none])=some (.bool true,h2)):∃ H,Fn n 105 [.string s] h (.tuple #[zj,iv (e:Int),iv (c:Int)]) H∧tl1 h2 h2.wm h.nx h2.nx H:=
 exT (kZ h) [aS 72 z72,yC a0 (kZ h1),aS 72 z72,.w 0 72 0 (zj),aS 242 [.pointer none],yC a1 (kK (ko g211_) (ko gh2_q) (ko g2_)),.l 0 242 0,.l 1 3 0,.l 0 242 0,.l 1 33 1,.w 2 72 0 (zj),yN h2.nx,.j 5,.q (.l 0 242 0),.j 6,.q (.l 0 242 0),.j 5,.q (.l 1 3 0),.j 6,.q (.l 1 3 0),.j 5,.q (.l 0 242 0),.j 6,.q (.l 0 242 0),.j 5,.q (.l 1 33 1),.j 6,.q (.l 1 33 1),.r 2 72 10,.z 1] []
end
def jo(A:Bsy→Option (Nat×Nat))(s:Bsy):Res:=
 if 300 < s.length then .err 0 2
 else match jq (s.length+1) s 0 [] with
  | .bad e=>.err e 12
  | .ok ts=>
   match(lv ts s.length A 41).form 0 with
   | .err p c=>.err p c
   | .ok t k=>if k < ts.length then jO ts s.length k else if 16 < t.depth then .err 0 14 else .ok t 0
theorem ztS{l:Bsy}{x:Nat×Nat×Bsy×Nat}(h:zD l=x):x.2.2.1.length≤l.length:=by
 subst h
 unfold zD
 cases l with
 |nil=>simp
 |cons c r=>
  simp only
  by_cases c2:kd c=2
  ·rw[if_pos c2]
   cases uL ((c::r).takeWhile isD) with
   |none=>simp
   |some v=>simp
  rw[if_neg c2]
  by_cases c4:kd c=4
  ·rw[if_pos c4]
   cases hv:wW r [] 1 with
   |none=>simp
   |some p=>
    obtain⟨a,e⟩:=p
    have:=(zaT r.length r [] 1 a e (nL_ _) hv).2.2
    simp only[lC,lN] at this ⊢;omega
  rw[if_neg c4]
  by_cases c3:kd c=3
  ·rw[if_pos c3];simp only[List.length_map];exact(List.takeWhile_prefix _).length_le
  rw[if_neg c3]
  by_cases c5:kd c=5
  ·rw[if_pos c5];exact List.length_take_le' _ _
  ·rw[if_neg c5];simp
theorem zpU(M:Nat):∀ (N:Nat) (l:Bsy) (at_:Nat) (acc ts:List Tk),jq N l at_ acc= .ok ts→l.length≤M→(∀ x∈acc,x.t.length≤M)→∀ x∈ts,x.t.length≤M:=by
 intro N
 induction N with
 |zero=>intro l at_ acc ts h _ ha;simp only[jq,LexR.ok.injEq] at h;subst h;exact ha
 |succ N ih=>
  intro l at_ acc ts h hl ha
  cases l with
  |nil=>simp only[jq,LexR.ok.injEq] at h;subst h;exact ha
  |cons c r=>
   simp only[jq] at h
   rw[lC] at hl
   split at h
   ·exact ih _ _ _ _ h (by omega) ha
   ·split at h
    ·cases h
    ·refine ih _ _ _ _ h (by rw[List.length_drop,lC];omega) ?_
     intro x hx
     rcases List.mem_append.1 hx with hx|hx
     ·exact ha x hx
     ·rw[List.mem_singleton] at hx
      subst hx
      have:=ztS (l:=c::r) rfl
      rw[lC] at this
      show(zD (c::r)).2.2.1.length≤M
      omega
theorem Kp.fin{h H:Heap}{v:Value}(a:Kp h.fh H):Kp h (PanE.zy h v H).2:=by
 unfold PanE.zy
 split
 ·exact Kp.refl h
 ·exact⟨a.nx,a.get,Nat.min_le_left _ _⟩
theorem zdq{X:Option (Value×Heap)}{h H:Heap}{x:Hd}{r:OA}{l:Nat}{t:Tr}(w:Vs)(e:X=some (zy h (.tuple ⟨ndV x r l::w⟩) H))(K:Kp h.fh H)(N:zV H h.nx H.nx x r l t):
  ∃ h',X=some (.tuple ⟨ndV x r l::w⟩,h')∧Kp h h'∧zV h' h.nx h'.nx x r l t:=by
 cases r with
 |none=>
  refine⟨_,fin e,K.fin,?_⟩
  cases t with
  |node y ts=>
   unfold zV zc at N ⊢
   obtain⟨h1,h2,h3⟩:=N
   rcases h3 with h3|⟨b,cs,es,ro,e1,_⟩
   ·exact⟨h1,h2,.inl h3⟩
   ·cases e1
 |some a=>
  have ha:a.off=0∧h.nx≤a.block:=by
   cases t with
   |node y ts=>
    unfold zV zc at N
    obtain⟨_,_,h3⟩:=N
    rcases h3 with⟨_,h3⟩|⟨b,cs,es,ro,e1,e2,_⟩
    ·cases h3
    ·cases e1;exact⟨rfl,e2.1⟩
  have hlow:zM h.nx 5 (.tuple ⟨ndV x (some a) l::w⟩)=false:=by
   have:zM h.nx 4 (ndV x (some a) l)=false:=by
    simp[ndV,zM,jH ha.2]
   show((ndV x (some a) l::w).all (zM h.nx 4))=false
   rw[List.all_cons,this];rfl
  exact⟨_,jY e hlow,⟨K.nx,K.get,Nat.min_le_left _ _⟩,zc.mono (h:=H) (g:={H with wm:=min h.wm H.wm}) (fun _ _ hb e=>⟨hb,e⟩) N⟩
theorem zcE:orcD 33=some zaL:=by kernel_rfl
theorem as_nil(x:Value)(h:Heap)(n:Nat)(hn:1≤n):RD n 33 [.nilIface,x] h=some (.bool false,h):=by
 obtain⟨n,rfl⟩:=zs_ n
 show zB En orcD (drawn En) 18446744073709551616 (n+1) 33 _ h=_
 simp only[zB,zcE,zaL]
theorem zop{m:Int}{h:Heap}(G:Gl m h):∃ t cs,h.get 0=some (.row t [.iface 168 (.agg cs)] 0 true)∧zeY cs=true:=by
 rw[G.get 0 (by decide),vJ,if_pos (by decide)]
 exact⟨_,_,rfl,by kernel_rfl⟩
theorem zr5{m:Int}{h:Heap}(G:Gl m h)(q c:Nat)(y:Value)(hc:h.get c=some (.row 242 [y] 0 false))(n:Nat)(hn:1≤n):
  RD n 33 [.iface 242 (pv q 0),.iface 243 (pv c 0)] h=some (.bool true,pt h c 242 [pv q 0]):=by
 obtain⟨n,rfl⟩:=zs_ n
 obtain⟨t,cs,h0,he⟩:=zop G
 show zB En orcD (drawn En) 18446744073709551616 (n+1) 33 _ h=_
 simp only[zB,zcE,zaL,h0,he,cond_true,Nat.beq_refl,jd,hc,uG]
 rfl
section
variable {m:Int} {A:Bsy→Option (Nat×Nat)} {N0:Nat}
def zva(h:Heap)(R:Res)(v:Value)(h':Heap):Prop:=
 Kp h h'∧match R with
  | .err pos c=>∃ q,v= .tuple #[zj,.iface 242 (pv q 0)]∧h.nx≤q∧h'.get q=some (.row 245 [iv (pos:Int),iv (c:Int)] 0 false)
  | .ok t _=>∃ x r l,v= .tuple #[ndV x r l,.nilIface]∧zV h' h.nx h'.nx x r l t
theorem zaq{h:Heap}{pos c q:Nat}{X:Option (Value×Heap)}{H:Heap}(e:X=some (zy h (.tuple #[zj,.iface 242 (pv q 0)]) H))(K:Kp h.fh H)(hq:h.nx≤q)(gq:H.get q=some (.row 245 [iv (pos:Int),iv (c:Int)] 0 false)):
  ∃ v h',X=some (v,h')∧zva h (.err pos c) v h':=
 ⟨_,_,jY e (zdl hq),⟨K.nx,K.get,Nat.min_le_left _ _⟩,q,rfl,hq,gq⟩
theorem Up.kp{h g:Heap}(u:Up h.nx h g)(hw:g.wm≤h.wm):Kp h g:=⟨u.nx,u.get,hw⟩
theorem zjy(hA:zdv m A N0)(s:BA)(h:Heap)(n:Nat)(hn:N0+430+1000≤n)(G:Gl m h):
  ∃ v h',RD n 142 [.string s] h=some (v,h')∧zva h (jo A s.data.toList) v h':=by
 obtain⟨n,rfl⟩:=zs_ n
 have K0:Kp h.fh (al h.fh 72 z72):=(Kp.refl _).al 72 z72
 have g0:(al h.fh 72 z72).get h.nx=some (.row 72 z72 0 false):=gN (h:=h.fh)
 have n0:(al h.fh 72 z72).nx=h.nx+1:=rfl
 have hG:=G.nx
 obtain⟨v1,h1,e1,U1,C1⟩:=zoR s (al h.fh 72 z72) n (by omega) (G.fh.alloc _)
 have l1:h.nx+1≤h1.nx:=U1.nx
 have u1:∀ c,c < h.nx+1→h1.get c=(al h.fh 72 z72).get c:=U1.get
 have g1:=(u1 h.nx (by omega)).trans g0
 have old:∀ c,c < h.nx→h1.get c=h.get c:=fun c hc=>(u1 c (by omega)).trans (K0.get c hc)
 have G1:Gl m h1:=⟨by omega,fun c hc=>(old c (by omega)).trans (G.get c hc)⟩
 have kp:∀ {hk H:Heap},h1.nx≤hk.nx→(∀ c,c < h1.nx→hk.get c=h1.get c)→(∀ c,c < hk.nx→c≠h.nx→H.get c=hk.get c)→hk.nx≤H.nx→H.wm≤h.nx→Kp h.fh H:=fun hn hk hg hH hw=>
  ⟨by show h.nx≤_;omega,fun c hc=>by
   have hc':c < h.nx:=hc
   exact(hg c (by omega) (by omega)).trans ((hk c (by omega)).trans (old c hc')),hw⟩
 unfold jo
 by_cases hl:300 < s.data.toList.length
 ·rw[if_pos hl] at C1 ⊢
  subst C1
  obtain⟨H,e,g,nx,_,wm,w⟩:=zlf h h1 s 0 2 n g1 (by omega) e1 rfl
  exact zaq e (kp (nL_ _) (fun _ _=>rfl) g (by omega) wm) (by omega) w
 ·rw[if_neg hl] at C1 ⊢
  split at C1
  next e' he=>
   subst C1
   rw[he]
   obtain⟨H,e,g,nx,_,wm,w⟩:=zlf h h1 s e' 12 n g1 (by omega) e1 rfl
   exact zaq e (kp (nL_ _) (fun _ _=>rfl) g (by omega) wm) (by omega) w
  next ts he=>
   obtain⟨b,T1,rfl⟩:=C1
   rw[he]
   simp only
   have hT:ts.length≤300:=by have:=zdm _ _ _ _ _ he;simp only[lN] at this;omega
   have hlen:∀ x∈ts,x.t.length≤4000:=fun x hx=>by have:=zpU 300 _ _ _ _ _ he (by omega) (by simp) x hx;omega
   have KP:Kp h1 (al h1 274 [tsV b ts,iv 0,iv (s.data.toList.length:Int)]):=(Kp.refl h1).al _ _
   have s1:PSt m (al h1 274 [tsV b ts,iv 0,iv (s.data.toList.length:Int)]) h1.nx b ts s.data.toList.length 0:=
    ⟨G1.alloc _,by omega,gN,T1.imp id fun t=>gA t.2,by omega,hT⟩
   obtain⟨v2,h2,e2,F2,w2,R2⟩:=(zt4 (p:=h1.nx) (b:=b) (E:=s.data.toList.length) hA hlen 41 (nL_ _)).1 n _ 0 (by omega) s1
   have l2:h1.nx+1≤h2.nx:=F2.nx
   have o2:∀ c,c < h1.nx→h2.get c=h1.get c:=fun c hc=>(F2.get c (by show c < h1.nx+1;omega) (by omega)).trans (KP.get c hc)
   have g2:=(o2 h.nx (by omega)).trans g1
   cases hf:(lv ts s.data.toList.length A 41).form 0 with
   |err pos c=>
    rw[hf] at R2
    obtain⟨q,k',rfl,hq,gq,s2⟩:=R2
    have hq':h1.nx+1≤q:=hq
    obtain⟨H,e,g,nx,_,wm⟩:=zzU h h1 h2 s (tsR b ts) ts.length q n g2 (by omega) e1 e2
    exact zaq e (kp (by omega) o2 g (by omega) wm) (by omega) ((g q (za gq) (by omega)).trans gq)
   |ok t k'=>
    rw[hf] at R2
    obtain⟨x,r,l,rfl,N2,s2,wp⟩:=R2
    have K3:Kp h2 (pt (al h2 72 z72) h2.nx 72 (ndL x r l)):=((Kp.refl h2).al _ _).pt _ _ (nL_ _) (nS _)
    have hsz:=(zgR ts s.data.toList.length A 41).1 _ _ _ hf
    have hpr:=(za6 ts s.data.toList.length A 41).1 _ _ _ hf
    simp only
    by_cases hk:k' < ts.length
    ·rw[if_pos hk]
     obtain⟨h3,e3,K4,n4,g4⟩:=jz (s2.kp K3) n (by omega)
     have K34:=K3.trans K4
     obtain⟨H,e,g,nx,_,wm⟩:=zzT h h1 h2 h3 s (tsR b ts) ts.length k' _ n x r l g2 (by omega) s2.pp (by omega) ((K34.get _ (by omega)).trans g2) (by have:=K34.nx;omega) e1 e2 (zw hk) e3
     exact zaq e (kp (by have:=K34.nx;omega) (fun c hc=>(K34.get c (by omega)).trans (o2 c hc)) g (by omega) wm) (by show h.nx≤h2.nx+1;omega) ((g _ (za g4) (by show h2.nx+1≠h.nx;omega)).trans g4)
    ·rw[if_neg hk]
     have ed:=zcm t n (pt (al h2 72 z72) h2.nx 72 (ndL x r l)) _ x r l (N2.kp K3 (nL_ _) (nL_ _)) (by omega) (by have:=vL t;omega)
     by_cases hd:16 < t.depth
     ·rw[if_pos hd]
      obtain⟨H,e,g,nx,_,wm,w⟩:=zzV h h1 h2 s (tsR b ts) ts.length k' n t.depth x r l g2 (by omega) s2.pp (by omega) e1 e2 (zE hk) ed (wj hd)
      exact zaq e (kp (by omega) o2 g (by omega) wm) (by omega) w
     ·rw[if_neg hd]
      obtain⟨H,e,g,nx,_,wm⟩:=zwv h h1 h2 s (tsR b ts) ts.length k' n t.depth x r l g2 (by omega) s2.pp (by omega) e1 e2 (zE hk) ed (zR hd)
      have NH:zV H h.nx H.nx x r l t:=zc.mono (fun c o hc e=>⟨⟨by have:h1.nx+1≤c:=hc.1;omega,by have:=hc.2;omega⟩,(g c (za e) (by have:h1.nx+1≤c:=hc.1;omega)).trans e⟩) N2
      obtain⟨h',e',K',N'⟩:=zdq [.nilIface] e (kp (by omega) o2 g (by omega) wm) NH
      exact⟨_,h',e',K',x,r,l,rfl,N'⟩
end
def zpi(h:Heap)(R:Res)(v:Value)(h':Heap):Prop:=
 Kp h h'∧match R with
  | .err pos c=>v= .tuple #[zj,iv (pos:Int),iv (c:Int)]
  | .ok t _=>∃ x r l,v= .tuple #[ndV x r l,iv 0,iv 0]∧zV h' h.nx h'.nx x r l t
theorem zlk{m:Int}{A:Bsy→Option (Nat×Nat)}{N0:Nat}(hA:zdv m A N0)(s:BA)(h:Heap)(n:Nat)(hn:N0+1431≤n)(G:Gl m h):
  ∃ v h',RD n 105 [.string s] h=some (v,h')∧zpi h (jo A s.data.toList) v h':=by
 obtain⟨n,rfl⟩:=zs_ n
 have K0:Kp h.fh (al h.fh 72 z72):=(Kp.refl _).al 72 z72
 have g0:(al h.fh 72 z72).get h.nx=some (.row 72 z72 0 false):=gN (h:=h.fh)
 have hG:=G.nx
 obtain⟨v1,h1,e1,K1,R1⟩:=zjy hA s (al h.fh 72 z72) n (by omega) (G.fh.alloc _)
 have l1:h.nx+1≤h1.nx:=K1.nx
 have g1:=(K1.get h.nx (nS _)).trans g0
 have K01:=K0.trans K1
 cases hp:jo A s.data.toList with
 |err pos c=>
  rw[hp] at R1
  obtain⟨q,rfl,hq,gq⟩:=R1
  have hq':h.nx+1≤q:=hq
  have K2:Kp h1 (al (pt (al h1 72 z72) h1.nx 72 z72) 242 [.pointer none]):=(((Kp.refl h1).al _ _).pt _ _ (nL_ _) (nS _)).al _ _
  have gt:(al (pt (al h1 72 z72) h1.nx 72 z72) 242 [.pointer none]).get (h1.nx+1)=some (.row 242 [.pointer none] 0 false):=gN (h:=pt (al h1 72 z72) h1.nx 72 z72)
  have G2:Gl m (al (pt (al h1 72 z72) h1.nx 72 z72) 242 [.pointer none]):=⟨by show 14≤h1.nx+1+1;omega,fun c hc=>(K2.get c (by omega)).trans ((K01.get c (by show c < h.nx;omega)).trans (G.get c hc))⟩
  have ea:=zr5 G2 q (h1.nx+1) _ gt n (by omega)
  have K3:=K2.pt (b:=h1.nx+1) 242 [pv q 0] (by omega) (by show h1.nx+1 < h1.nx+1+1;omega)
  obtain⟨H,e,g,nx,_,wm⟩:=zzW h h1 _ s pos c q n (by omega) g1 (by omega) ((K3.get _ (by omega)).trans g1) (by have:=K3.nx;omega) (gP (by show h1.nx+1 < h1.nx+1+1;omega)) ((K3.get q (za gq)).trans gq) e1 ea
  have KH:Kp h.fh H:=⟨by show h.nx≤H.nx;have:=K3.nx;omega,fun c hc=>by
   have hc':c < h.nx:=hc
   exact(g c (by have:=K3.nx;omega) (by omega)).trans ((K3.get c (by omega)).trans (K01.get c hc)),wm⟩
  exact⟨_,_,fin e,KH.fin,rfl⟩
 |ok t k=>
  rw[hp] at R1
  obtain⟨x,r,l,rfl,N1⟩:=R1
  obtain⟨H,e,g,nx,_,wm⟩:=zww h h1 s n x r l g1 (by omega) e1 (as_nil _ _ n (by omega))
  have KH:Kp h.fh H:=⟨by show h.nx≤H.nx;omega,fun c hc=>by
   have hc':c < h.nx:=hc
   exact(g c (by omega) (by omega)).trans (K01.get c hc),wm⟩
  have NH:zV H h.nx H.nx x r l t:=zc.mono (fun c o hc e=>⟨⟨by have:h.nx+1≤c:=hc.1;omega,by have:=hc.2;omega⟩,(g c (za e) (by have:h.nx+1≤c:=hc.1;omega)).trans e⟩) N1
  obtain⟨h',e',K',N'⟩:=zdq [iv 0,iv 0] e KH NH
  exact⟨_,h',e',K',x,r,l,rfl,N'⟩
noncomputable section
abbrev zc0(b T k E d c w:Nat):AObj:=.row 160 [sv b 0 T T,iv (k:Int),iv E,iv (d:Int),iv (c:Int),iv (w:Int)] 0 false
abbrev zeo(r:OA)(T k E d c w:Nat):AObj:=.row 160 [.slice r T T,iv (k:Int),iv E,iv (d:Int),iv (c:Int),iv (w:Int)] 0 false
abbrev zcZ(ts:List Tk):AObj:=.row 199 (tkC ts) 4 false
abbrev zsg(s:Bsy)(h:Heap):Value:=.agg #[iv 5,iv 0,iv 0,.string ⟨#[]⟩,iv 0,iv 0,iv 0,iv 0,.string ⟨⟨s⟩⟩,sv (h.nx+3) 0 2 2]
abbrev zmr(p q n0 i:Nat):List (Nat×Value):=[(0,pv p 0),(1,sv q 0 n0 n0),(5,iv (i:Int))]
variable (h:Heap) (p q n0 i:Nat) (s:BA) (b k T E d c w:Nat) (r:OA) (t:Bsy) (ts:List Tk) (x:Tk) (n:Nat)
theorem zzw(hp:h.get p=some (zeo r T k E d c w))(a0:((c:Int)==0)=false):Fn n 152 [pv p 0,.string ⟨⟨t⟩⟩] h (.bool false) h.fh:=
 fnV (kI (ko hp)) [.l 0 3 4,yF a0,yN h.nx,.q (.l 0 3 4),.z 0]
theorem zzv(hp:h.get p=some (zeo r T k E d c w))(a0:((c:Int)==0)=true)(a1:decide ((k:Int) < T)=false):Fn n 152 [pv p 0,.string ⟨⟨t⟩⟩] h (.bool false) h.fh:=
 fnV (kI (ko hp)) [.l 0 3 4,yT a0,.l 0 3 1,.l 0 155 0,yF a1,yN h.nx,.q (.l 0 3 4),.q (.l 0 3 1),.q (.l 0 155 0),yQ (iv T),.z 0]
theorem zzu(hp:h.get p=some (zc0 b T k E d c w))(hb:h.get b=some (zcZ ts))(hx:ts[k]? =some x)(_h1:k < T)(_h2:T < 4611686018427387904)(_hl:p < h.nx)(_hb:b < h.nx)(a0:((c:Int)==0)=true)(a1:decide ((k:Int) < T)=true)(a2:(((x.k:Int):Int)==4)=false):Fn n 152 [pv p 0,.string ⟨⟨t⟩⟩] h (.bool false) h.fh:=
 fnV (kJ (ko hp) (kx hb hx)) [.l 0 3 4,yT a0,.l 0 3 1,.l 0 155 0,yT a1,.l 0 155 0,.l 0 3 1,iA 155 199 4 b T k,.k 1 3 0,yF a2,yN h.nx,.q (.l 0 3 4),.q (.l 0 3 1),.q (.l 0 155 0),yQ (iv T),.q (.l 0 155 0),.q (.l 0 3 1),.q (.k 1 3 0),.z 0]
theorem zzt(hp:h.get p=some (zc0 b T k E d c w))(hb:h.get b=some (zcZ ts))(hx:ts[k]? =some x)(_h1:k < T)(_h2:T < 4611686018427387904)(_hl:p < h.nx)(_hb:b < h.nx)(a0:((c:Int)==0)=true)(a1:decide ((k:Int) < T)=true)(a2:(((x.k:Int):Int)==4)=true)(a3:bqS ⟨⟨x.t⟩⟩ ⟨⟨t⟩⟩=false):Fn n 152 [pv p 0,.string ⟨⟨t⟩⟩] h (.bool false) h.fh:=
 fnV (kJ (ko hp) (kx hb hx)) [.l 0 3 4,yT a0,.l 0 3 1,.l 0 155 0,yT a1,.l 0 155 0,.l 0 3 1,iA 155 199 4 b T k,.k 1 3 0,yT a2,.l 0 155 0,.l 0 3 1,iA 155 199 4 b T k,.k 1 9 1,yF a3,yN h.nx,.q (.l 0 3 4),.q (.l 0 3 1),.q (.l 0 155 0),yQ (iv T),.q (.l 0 155 0),.q (.l 0 3 1),.q (.k 1 3 0),.q (.l 0 155 0),.q (.l 0 3 1),.q (.k 1 9 1),.z 0]
theorem zzs(hp:h.get p=some (zc0 b T k E d c w))(hb:h.get b=some (zcZ ts))(hx:ts[k]? =some x)(_h1:k < T)(_h2:T < 4611686018427387904)(_hl:p < h.nx)(_hb:b < h.nx)(a0:((c:Int)==0)=true)(a1:decide ((k:Int) < T)=true)(a2:(((x.k:Int):Int)==4)=true)(a3:bqS ⟨⟨x.t⟩⟩ ⟨⟨t⟩⟩=true):Fn n 152 [pv p 0,.string ⟨⟨t⟩⟩] h (.bool true) h.fh:=
 fnV (kJ (ko hp) (kx hb hx)) [.l 0 3 4,yT a0,.l 0 3 1,.l 0 155 0,yT a1,.l 0 155 0,.l 0 3 1,iA 155 199 4 b T k,.k 1 3 0,yT a2,.l 0 155 0,.l 0 3 1,iA 155 199 4 b T k,.k 1 9 1,yT a3,yN h.nx,.q (.l 0 3 4),.q (.l 0 3 1),.q (.l 0 155 0),yQ (iv T),.q (.l 0 155 0),.q (.l 0 3 1),.q (.k 1 3 0),.q (.l 0 155 0),.q (.l 0 3 1),.q (.k 1 9 1),.z 0]
theorem zpF(_h1:i < n0)(_h2:n0 < 4611686018427387904)(a0:decide ((i:Int) < n0)=true)(a1:LD h 9 q (0+i * 1) (.string s))(a2:Pu n 152 [pv p 0,.string s] (.bool false) h):Bd n 22 [1,0,1,0,0] Tryz.f111 (zmr p q n0 i) h .normal [(0,pv p 0),(1,sv q 0 n0 n0),(5,iv ((i:Int)+1))] h:=
 bdF (kZ h) [yT a0,iA 32 9 1 q n0 i,yE a1,yP a2,yW ((i:Int)+1),.z 0]
theorem zth(_h1:i < n0)(_h2:n0 < 4611686018427387904)(a0:decide ((i:Int) < n0)=true)(a1:LD h 9 q (0+i * 1) (.string s))(a2:Pu n 152 [pv p 0,.string s] (.bool true) h)(a3:LD h 9 q (0+i * 1) (.string s)):Bd n 22 [1,0,1,0,0] Tryz.f111 (zmr p q n0 i) h .ret [(4,.string s)] h:=
 bdF (kZ h) [yT a0,iA 32 9 1 q n0 i,yE a1,yP a2,iA 32 9 1 q n0 i,yE a3,.z 0]
theorem zti(a0:decide ((i:Int) < n0)=false):Bd n 22 [1,0,1,0,0] Tryz.f111 (zmr p q n0 i) h (.exit 0) [] h:=
 bdF (kZ h) [yF a0]
theorem zv9(a0:Lf n 22 [1,0,1,0,0] Tryz.f111 [(0,pv p 0),(1,sv q 0 n0 n0),(4,.string ⟨#[]⟩),(5,iv 0)] h.fh .ret [(4,.string s)] (Heap.fh h)):Fn n 111 [pv p 0,sv q 0 n0 n0] h (.string s) (Heap.fh h):=
 fnV (kZ h) [yS a0 (kZ (Heap.fh h)),.z 0]
theorem zv8(a0:Lf n 22 [1,0,1,0,0] Tryz.f111 [(0,pv p 0),(1,sv q 0 n0 n0),(4,.string ⟨#[]⟩),(5,iv 0)] h.fh (.exit 0) [] (Heap.fh h)):Fn n 111 [pv p 0,sv q 0 n0 n0] h (.string ⟨#[]⟩) (Heap.fh h):=
 fnV (kZ h) [yS a0 (kZ (Heap.fh h)),.z 0]
theorem zzL(hp:h.get p=some (zeo r T k E d c w))(a0:((c:Int) !=0)=true):Fn n 79 [pv p 0] h (.tuple #[]) h.fh:=
 fnT (kI (ko hp)) [.l 0 3 4,yT a0]
theorem zzK(hp:h.get p=some (zeo r T k E d c w))(_hl:p < h.nx)(a0:((c:Int) !=0)=false)(a1:decide ((k:Int) < T)=false):∃ H,Fn n 79 [pv p 0] h (.tuple #[]) H∧tw1 h h.fh.wm p h.nx H (H.get p=some (.row 160 [.slice r T T,iv (k:Int),iv E,iv (d:Int),iv 13,iv E] 0 false)):=
 exT (kI (ko hp)) [.l 0 3 4,yF a0,.l 0 3 2,.w 0 3 4 (iv 13),.w 0 3 5 (iv E),.l 0 3 1,.l 0 155 0,yF a1,yN h.nx,.q (.l 0 3 1),.q (.l 0 155 0),yQ (iv T)] [0]
theorem zwe(hp:h.get p=some (zc0 b T k E d c w))(hb:h.get b=some (zcZ ts))(hx:ts[k]? =some x)(_h1:k < T)(_h2:T < 4611686018427387904)(_hl:p < h.nx)(_hb:b < h.nx)(_hpb:b≠p)(a0:((c:Int) !=0)=false)(a1:decide ((k:Int) < T)=true):∃ H,Fn n 79 [pv p 0] h (.tuple #[]) H∧tw1 h h.fh.wm p h.nx H (H.get p=some (.row 160 [sv b 0 T T,iv (k:Int),iv E,iv (d:Int),iv 13,iv (x.at_:Int)] 0 false)):=
 exT (kJ (ko hp) (kx hb hx)) [.l 0 3 4,yF a0,.l 0 3 2,.w 0 3 4 (iv 13),.w 0 3 5 (iv E),.l 0 3 1,.l 0 155 0,yT a1,yN h.nx,.q (.l 0 3 1),.q (.l 0 155 0),yQ (iv T),.l 0 155 0,.l 0 3 1,iA 155 199 4 b T k,.k 1 3 2,.w 0 3 5 (iv (x.at_:Int)),yN h.nx,.j 1,.q (.l 0 155 0),.q (.l 0 3 1),.q (.k 1 3 2),.j 2] [0]
theorem ztn(hp:h.get p=some (.row 160 [.slice r T T,iv (k:Int),iv E,iv (d:Int),iv 0,iv 0] 0 false))(_hl:p < h.nx)(_hd:d < 100)(a0:decide ((d:Int)≥40)=true):∃ H,Fn n 208 [pv p 0] h (.bool false) H∧tw1 h h.fh.wm p h.nx H (H.get p=some (.row 160 [.slice r T T,iv (k:Int),iv E,iv ((d:Int)+1),iv 14,iv 0] 0 false)):=
 exV (kI (ko hp)) [.l 0 3 3,yT a0,.l 0 3 4,bT,.w 0 3 4 (iv 14),.w 0 3 5 (iv 0),.l 0 3 3,yW ((d:Int)+1),.w 0 3 3 (iv ((d:Int)+1)),.l 0 3 4,bF,.z 0] [0]
theorem zwc(hp:h.get p=some (.row 160 [.slice r T T,iv (k:Int),iv E,iv (d:Int),iv 0,iv 0] 0 false))(_hl:p < h.nx)(_hd:d < 100)(a0:decide ((d:Int)≥40)=false):∃ H,Fn n 208 [pv p 0] h (.bool true) H∧tw1 h h.fh.wm p h.nx H (H.get p=some (.row 160 [.slice r T T,iv (k:Int),iv E,iv ((d:Int)+1),iv 0,iv 0] 0 false)):=
 exV (kI (ko hp)) [.l 0 3 3,yF a0,.l 0 3 3,yW ((d:Int)+1),.w 0 3 3 (iv ((d:Int)+1)),.l 0 3 4,bT,.z 0] [0]
theorem zpH(h1:Heap)(p n:Nat)(a0:Pu n 152 [pv p 0,.string ⟨#[41]⟩] (.bool false) h.fh)(a1:RD n 79 [pv p 0] h.fh=some (.tuple #[],h1)):Fn n 233 [pv p 0] h (.tuple #[]) h1:=
 fnT (kZ h) [yP a0,yC a1 (kZ h1)]
theorem ztq(hp:h.get p=some (zeo r T k E d c w))(_hl:p < h.nx)(_h1:k < 1000)(a0:Pu n 152 [pv p 0,.string ⟨#[41]⟩] (.bool true) h.fh):∃ H,Fn n 233 [pv p 0] h (.tuple #[]) H∧tw1 h h.fh.wm p h.nx H (H.get p=some (.row 160 [.slice r T T,iv ((k:Int)+1),iv E,iv (d:Int),iv (c:Int),iv (w:Int)] 0 false)):=
 exT (kI (ko hp)) [yP a0,.l 0 3 1,yW ((k:Int)+1),.w 0 3 1 (iv ((k:Int)+1))] [0]
theorem ztp(hp:h.get p=some (zeo r T k E d c w))(_h1:k < 4611686018427387904)(a0:decide (((k:Int)+1:Int) < T)=false):Fn n 240 [pv p 0] h (.bool false) h.fh:=
 fnV (kI (ko hp)) [.l 0 3 1,yW ((k:Int)+1),.l 0 155 0,yF a0,yN h.nx,.q (.l 0 3 1),.q (.l 0 155 0),yQ (iv T),.z 0]
theorem zzJ(hp:h.get p=some (zc0 b T k E d c w))(hb:h.get b=some (zcZ ts))(hx:ts[k+1]? =some x)(_h1:k+1 < T)(_h2:T < 4611686018427387904)(a0:decide (((k:Int)+1:Int) < T)=true)(a1:(((x.k:Int):Int)==4)=false):Fn n 240 [pv p 0] h (.bool false) h.fh:=
 fnV (kJ (ko hp) (kx hb hx)) [.l 0 3 1,yW ((k:Int)+1),.l 0 155 0,yT a0,.l 0 155 0,.l 0 3 1,yW ((k:Int)+1),iB 155 199 4 b T k,.k 1 3 0,yF a1,yN h.nx,.q (.l 0 3 1),.q (.l 0 155 0),yQ (iv T),.q (.l 0 155 0),.q (.l 0 3 1),.q (.k 1 3 0),.z 0]
theorem zzI(hp:h.get p=some (zc0 b T k E d c w))(hb:h.get b=some (zcZ ts))(hx:ts[k+1]? =some x)(_h1:k+1 < T)(_h2:T < 4611686018427387904)(a0:decide (((k:Int)+1:Int) < T)=true)(a1:(((x.k:Int):Int)==4)=true)(a2:bqS ⟨⟨x.t⟩⟩ ⟨#[40]⟩=false):Fn n 240 [pv p 0] h (.bool false) h.fh:=
 fnV (kJ (ko hp) (kx hb hx)) [.l 0 3 1,yW ((k:Int)+1),.l 0 155 0,yT a0,.l 0 155 0,.l 0 3 1,yW ((k:Int)+1),iB 155 199 4 b T k,.k 1 3 0,yT a1,.l 0 155 0,.l 0 3 1,yW ((k:Int)+1),iB 155 199 4 b T k,.k 1 9 1,yF a2,yN h.nx,.q (.l 0 3 1),.q (.l 0 155 0),yQ (iv T),.q (.l 0 155 0),.q (.l 0 3 1),.q (.k 1 3 0),.q (.l 0 155 0),.q (.l 0 3 1),.q (.k 1 9 1),.z 0]
theorem zzH(hp:h.get p=some (zc0 b T k E d c w))(hb:h.get b=some (zcZ ts))(hx:ts[k+1]? =some x)(_h1:k+1 < T)(_h2:T < 4611686018427387904)(a0:decide (((k:Int)+1:Int) < T)=true)(a1:(((x.k:Int):Int)==4)=true)(a2:bqS ⟨⟨x.t⟩⟩ ⟨#[40]⟩=true):Fn n 240 [pv p 0] h (.bool true) h.fh:=
 fnV (kJ (ko hp) (kx hb hx)) [.l 0 3 1,yW ((k:Int)+1),.l 0 155 0,yT a0,.l 0 155 0,.l 0 3 1,yW ((k:Int)+1),iB 155 199 4 b T k,.k 1 3 0,yT a1,.l 0 155 0,.l 0 3 1,yW ((k:Int)+1),iB 155 199 4 b T k,.k 1 9 1,yT a2,yN h.nx,.q (.l 0 3 1),.q (.l 0 155 0),yQ (iv T),.q (.l 0 155 0),.q (.l 0 3 1),.q (.k 1 3 0),.q (.l 0 155 0),.q (.l 0 3 1),.q (.k 1 9 1),.z 0]
theorem qw(s:Bsy)(x y:Hd)(xr yr:OA)(xn yn n:Nat):∃ H,Fn n 112 [.string ⟨⟨s⟩⟩,ndV x xr xn,ndV y yr yn] h (zsg s h) H∧tw0 h h.fh.wm (h.nx+4) H (H.get (h.nx+3)=some (.row 72 (ndL x xr xn++ndL y yr yn) 0 false)):=
 exV (kZ h) [aS 72 (ndL x xr xn),aS 72 (ndL y yr yn),aS 72 z72,.g 0 72 0 10,.g 1 72 0 10,aS 72 (ndL x xr xn++ndL y yr yn),.w 2 72 0 (zsg s h),.r 2 72 10] [3]
end
end Go.PanE
