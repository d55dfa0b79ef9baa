/-
 Part 32 of the proof of Rows.DumpLinesCardSaid. No conditions.
-/
import Derived.Test.YtihkphfmnnndfaaGreatDoorT31
namespace Go.PanE
open Go.Proofs
noncomputable section
abbrev zmq(x:Tk):Value:=.agg #[iv 6,iv 0,iv 0,.string ⟨#[]⟩,iv 0,iv 0,iv 0,iv 0,.string ⟨⟨x.t⟩⟩,.slice none 0 0]
abbrev ziz(x:Tk):Vs:=[iv (x.k:Int),iv (x.n:Int),.string ⟨⟨x.t⟩⟩,iv (x.at_:Int)]
abbrev zmp(h:Heap)(a c ua uc:Nat):Heap:=al (al (al h.fh 29 [iv (a:Int),iv (c:Int)]) 29 [iv (ua:Int),iv (uc:Int)]) 322 [iv 0,iv 0,iv 0,iv 0,.bool false]
abbrev zsc(a ua c uc:Nat):Value:=.agg #[iv ((min a ua:Nat):Int),iv ((min c uc:Nat):Int),iv ((max a ua:Nat):Int),iv ((max c uc:Nat):Int),.bool true]
abbrev zsb(p:Nat)(x:Tk):Vs:=[pv p 0,.agg #[iv (x.k:Int),iv (x.n:Int),.string ⟨⟨x.t⟩⟩,iv (x.at_:Int)]]
variable (h:Heap) (p:Nat)
theorem zqA(h1:Heap)(p n:Nat)(x:Tk)(g11_:h1.get (h.nx+1)=some (.row 72 z72 0 false))(_lhnx1h1:h.nx+1 < h1.nx)(a0:decide (((⟨⟨x.t⟩⟩:BA).data.toList.length:Int)>8)=true)(a1:RD n 79 [pv p 0] (al (al h.fh 199 (ziz x)) 72 z72)=some (.tuple #[],h1)):∃ H,Fn n 241 (zsb p x) h (zj) H∧tl1 h1 h1.wm (h.nx+1) h1.nx H:=
 exV (kZ h) [aS 199 (ziz x),aS 72 z72,.l 0 9 2,yT a0,yC a1 (kI (ko g11_)),.w 0 72 0 (zj),.r 0 72 10] []
theorem ztm(k T E d n:Nat)(r:OA)(x:Tk)(hp:h.get p=some (.row 160 [.slice r T T,iv (k:Int),iv E,iv (d:Int),iv 0,iv 0] 0 false))(_hl:p < h.nx)(_hk:k < 1000)(a0:decide (((⟨⟨x.t⟩⟩:BA).data.toList.length:Int)>8)=false)(a1:Pu n 152 [pv p 0,.string ⟨#[41]⟩] (.bool true) (pt (al (pt (al (al h.fh 199 (ziz x)) 72 z72) p 160 [.slice r T T,iv ((k:Int)+2),iv E,iv (d:Int),iv 0,iv 0]) 72 z72) (h.nx+2) 72 [iv 6,iv 0,iv 0,.string ⟨#[]⟩,iv 0,iv 0,iv 0,iv 0,.string ⟨⟨x.t⟩⟩,.slice none 0 0])):∃ H,Fn n 241 (zsb p x) h (zmq x) H∧tw1 h h.fh.wm p (h.nx+3) H (H.get p=some (.row 160 [.slice r T T,iv (((k:Int)+2)+1),iv E,iv (d:Int),iv 0,iv 0] 0 false)):=
 exV (kI (ko hp)) [aS 199 (ziz x),aS 72 z72,.l 1 9 2,yF a0,.l 0 3 1,yW ((k:Int)+2),.w 0 3 1 (iv ((k:Int)+2)),.l 1 9 2,aS 72 z72,.w 3 72 0 (zmq x),yP a1,.l 0 3 1,yW (((k:Int)+2)+1),.w 0 3 1 (iv (((k:Int)+2)+1)),.g 3 72 0 10,.w 2 72 0 (zmq x),.r 2 72 10] [0]
theorem zwU(a c ua uc n:Nat)(a0:Pu n 21 [.agg #[iv (a:Int),iv (c:Int)]] (.bool true) (zmp h a c ua uc))(a1:Pu n 21 [.agg #[iv (ua:Int),iv (uc:Int)]] (.bool true) (zmp h a c ua uc))(a2:jS (fun y x=>decide (y < x)) (iv (a:Int)) [iv (ua:Int)]=some (iv ((min a ua:Nat):Int)))(a3:jS (fun y x=>decide (y < x)) (iv (c:Int)) [iv (uc:Int)]=some (iv ((min c uc:Nat):Int)))(a4:jS (fun y x=>decide (y>x)) (iv (a:Int)) [iv (ua:Int)]=some (iv ((max a ua:Nat):Int)))(a5:jS (fun y x=>decide (y>x)) (iv (c:Int)) [iv (uc:Int)]=some (iv ((max c uc:Nat):Int))):Fn n 242 [.agg #[iv (a:Int),iv (c:Int)],.agg #[iv (ua:Int),iv (uc:Int)]] h (zsc a ua c uc) (pt (zmp h a c ua uc) (h.nx+2) 322 [iv ((min a ua:Nat):Int),iv ((min c uc:Nat):Int),iv ((max a ua:Nat):Int),iv ((max c uc:Nat):Int),.bool true]):=
 fnV (kZ h) [aS 29 [iv (a:Int),iv (c:Int)],aS 29 [iv (ua:Int),iv (uc:Int)],aS 322 [iv 0,iv 0,iv 0,iv 0,.bool false],.g 0 29 0 2,yP a0,.g 1 29 0 2,yP a1,.l 0 3 0,.l 1 3 0,yE a2,.l 0 3 1,.l 1 3 1,yE a3,.l 0 3 0,.l 1 3 0,yE a4,.l 0 3 1,.l 1 3 1,yE a5,.w 2 322 0 (zsc a ua c uc),.r 2 322 5]
end
abbrev tkV(x:Tk):Value:=.agg #[.int .i64 (x.k:Int),.int .i64 (x.n:Int),.string ⟨⟨x.t⟩⟩,.int .i64 (x.at_:Int)]
abbrev tkL(x:Tk):Vs:=[.int .i64 (x.k:Int),.int .i64 (x.n:Int),.string ⟨⟨x.t⟩⟩,.int .i64 (x.at_:Int)]
def zvb(m:Int)(p b:Nat)(ts:List Tk)(E:Nat)(N:Nat)(f:FuncId)(d:Nat)(R:Tk→PR):Prop:=
 ∀ (n:Nat) (h:Heap) (k:Nat) (x:Tk),N≤n→ts[k]? =some x→QSt m h p b ts E k d 0 0→∃ v h',RD n f [pv p 0,tkV x] h=some (v,h')∧za1 m h p b ts E d (R x k) v h'
theorem Kp.rs{h g:Heap}(a:Kp h g)(k:Nat):Kp h (zd k g):=
 ⟨by rw[zK];have:=a.nx;omega,fun c hc=>(wJ k _ (nU hc a.nx)).trans (a.get c hc),by rw[zJ];exact a.wm⟩
section
variable {m:Int} {h:Heap} {p b:Nat} {ts:List Tk} {E k d c w:Nat}
theorem qX{x:Hd}{k':Nat}{X:Option (Value×Heap)}{H:Heap}(e:X=some (zy h (ndV x none 0) H))(s0:QSt m h p b ts E k d 0 0)(g:∀ c,c < h.nx→c≠p→H.get c=h.get c)(nx:h.nx≤H.nx)(wp:H.wm≤p)
  (w:H.get p=some (.row 160 [tsV b ts,iv ((k':Nat):Int),iv (E:Int),iv (d:Int),iv ((0:Nat):Int),iv ((0:Nat):Int)] 0 false)) (hk:k'≤ts.length):
  ∃ v h',X=some (v,h')∧za1 m h p b ts E d (.ok (.node x []) k') v h':=by
 have F:Fr h H p:=⟨nx,g⟩
 exact jw (lo:=0) (hk:=H) e s0 ⟨nx,g⟩ (fun _ _ _=>rfl) (nL_ _) wp ⟨zc.leaf _ _ _,s0.fr F w hk⟩
theorem resq_err{k' d' c' pos lo:Nat}{X:Option (Value×Heap)}{H h1:Heap}(e:X=some (zy h zj H))(s0:QSt m h p b ts E k d c w)(F:Fr h.fh h1 p)(g:∀ c,c < h1.nx→c≠lo→H.get c=h1.get c)(hlo:h.nx≤lo)(nH:H.nx=h1.nx)(wp:H.wm≤p)
  (hc:c'≠0) (hd:d≤d') (hd':d'≤41) (st:QSt m h1 p b ts E k' d' c' pos):∃ v h',X=some (v,h')∧za1 m h p b ts E d (.err pos c') v h':=
 jw (x:=hdZ) (r:=none) (l:=0) (lo:=lo+1) e s0 F (fun c hc hd=>g c hc (by omega)) (by omega) wp ⟨hc,k',d',hd,hd',st⟩
theorem zhT{x:Hd}{r:OA}{l lo:Nat}{R:Res}{X:Option (Value×Heap)}{H h1:Heap}(hb:Heap)(e:X=some (zy h (ndV x r l) H))(s0:QSt m h p b ts E k d c w)(F:Fr h.fh h1 p)(g:∀ c,c < h1.nx→c≠lo→H.get c=h1.get c)(hlo:h.nx≤lo)(hl2:lo < hb.nx)(nH:H.nx=h1.nx)(wp:H.wm≤p)
  (RR:zbK m hb h1 h1 p b ts E d R x r l):∃ v h',X=some (v,h')∧za1 m h p b ts E d R v h':=by
 refine jw (lo:=lo+1) e s0 F (fun c hc hd=>g c hc (by omega)) (by omega) wp ?_
 unfold zbK at RR ⊢
 split at RR
 next t k'=>
  refine⟨zc.mono (fun c o hc e=>?_) RR.1,RR.2⟩
  have h1:hb.nx≤c:=hc.1
  exact⟨⟨by omega,by have:=hc.2;omega⟩,(g c (za e) (by omega)).trans e⟩
 next=>exact RR
end
def hT1(h:Heap)(x:Tk):Heap:=pt (pt (zd 1 (al h.fh 72 z72)) (h.nx+1) 199 [iv 0,iv 0,.string ⟨#[]⟩,iv 0]) (h.nx+1) 199 (tkL x)
theorem zd3(h:Heap):(zd 1 (al h.fh 72 z72)).nx=h.nx+2:=by rw[zK];rfl
theorem zud(h:Heap)(x:Tk):(hT1 h x).nx=h.nx+2:=zd3 h
theorem zue(h:Heap)(x:Tk):Kp h.fh (hT1 h x):=
 ((((Kp.refl h.fh).al 72 z72).rs 1).pt (b:=h.nx+1) _ _ (by show h.nx≤h.nx+1;omega) (by rw[zd3];omega)).pt (b:=h.nx+1) _ _ (by show h.nx≤h.nx+1;omega) (by show h.nx+1 < (zd 1 (al h.fh 72 z72)).nx;rw[zd3];omega)
theorem zro(h:Heap)(x:Tk):(hT1 h x).get h.nx=some (.row 72 z72 0 false):=
 gO (gO (gR (gN (h:=h.fh))) (by rw[zd3];omega) (by omega)) (by show h.nx+1 < (zd 1 (al h.fh 72 z72)).nx;rw[zd3];omega) (by omega)
def hT3(h2:Heap)(p b T E k3 d3 c3 w3:Nat)(y:Hd)(r:OA)(l:Nat):Heap:=pt (pt (al h2 72 z72) h2.nx 72 (ndL y r l)) p 160 [sv b 0 T T,iv (k3:Int),iv (E:Int),iv ((d3:Int) - 1),iv (c3:Int),iv (w3:Int)]
section
variable {m:Int} {p b:Nat} {ts:List Tk} {E:Nat} {A:Bsy→Option (Nat×Nat)}
theorem zk7{f:PR}{d N:Nat}(hd:d≤40)(hnm:zvb m p b ts E N 232 d (qS ts E A f))(hf:d < 40→wS m p b ts E N 78 (d+1) f)(hf0:d=40→∀ k,f k= .err 0 14)(hN:3≤N):wS m p b ts E (N+1) 225 d (qz ts E A f):=by
 intro n h k hn s
 obtain⟨n,rfl⟩:=zs_ n
 have K0:Kp h.fh (al h.fh 72 z72):=(Kp.refl _).al 72 z72
 have hp:=s.lt
 have hT:=s.tT
 have g0:(al h.fh 72 z72).get h.nx=some (.row 72 z72 0 false):=gN (h:=h.fh)
 unfold qz
 by_cases hk:k < ts.length
 ·obtain⟨x,hx⟩:=s.get hk
  have hbk:=s.some_b hk
  have hbl:=za hbk
  have hbp:=s.bp hbk
  have hpk:=s.pp' hk
  have ek:decide ((k:Int)≥((ts.length:Nat):Int))=false:=dF (by omega)
  have KG:=zue h x
  have gG:=zro h x
  have nG:=zud h x
  have sG:=s.fh.kp KG
  simp only[hx]
  by_cases h1:x.k=1
  ·rw[if_pos h1]
   obtain⟨H,e,g,nx,wm,wp,w⟩:=ztf h p b k ts.length E d ts x n hpk hbk hx hk (by omega) hp hbl hbp ek (eqK (k:=1) h1)
   exact qX (x:=zz 2 x.n []) (k':=k+1) e s g (by omega) wp (by rw[w,jg hk];rfl) (by omega)
  rw[if_neg h1]
  by_cases h2:x.k=2
  ·rw[if_pos h2]
   by_cases hl:x.t.length≤200
   ·rw[if_pos hl]
    obtain⟨H,e,g,nx,wm,wp,w⟩:=zte h p b k ts.length E d ts x n hpk hbk hx hk (by omega) hp hbl hbp ek (neK (k:=1) h1) (eqK (k:=2) h2) (zR (a:=x.t.length) (b:=200) (by omega))
    exact qX (x:=zz 3 0 x.t) (k':=k+1) e s g (by omega) wp (by rw[w,jg hk];rfl) (by omega)
   ·rw[if_neg hl]
    obtain⟨h1',e1,I1⟩:=qi sG n (by omega)
    rw[if_pos rfl] at I1
    obtain⟨T1,w1⟩:=I1
    have n1:=T1.nx
    obtain⟨H,e,g,nx,wm,_⟩:=zqv h h1' p b k ts.length E d ts x n hpk hbk hx hk (by omega) hp hbl hbp ((T1.fr.get _ (by omega) (by omega)).trans gG) (by omega) ek (neK (k:=1) h1) (eqK (k:=2) h2) (wj (a:=x.t.length) (b:=200) (by omega)) e1
    exact resq_err (lo:=h.nx) e s ((KG.fr p).trans T1.fr) g (nL_ _) nx (by omega) (by decide) (nL_ _) (by omega) T1.st
  rw[if_neg h2]
  by_cases hx3:x.k=3
  ·rw[if_pos hx3]
   obtain⟨v1,h1',e1,F1,w1,wp1,y,r,l,rfl,R1⟩:=hnm n _ k x (by omega) hx sG
   have n1:=F1.nx
   obtain⟨H,e,g,nx,wm,_⟩:=zv3 h h1' p b k ts.length E d ts x n y r l hpk hbk hx hk (by omega) hp hbl hbp ((F1.get _ (by omega) (by omega)).trans gG) (by omega) ek (neK (k:=1) h1) (neK (k:=2) h2) (eqK (k:=3) hx3) e1
   exact zhT (hT1 h x) (lo:=h.nx) e s ((KG.fr p).trans F1) g (nL_ _) (by omega) nx (by omega) R1
  rw[if_neg hx3]
  have es:=jG sG [40] n (by omega)
  rw[dT rfl,Bool.true_and] at es
  have hsg:(sg ts [[40]] k).isSome=decide (x.k=4∧x.t=[40]):=by
   unfold sg;rw[hx]
   by_cases h4:x.k=4∧x.t=[40]
   ·simp[h4.1,h4.2]
   ·simp[h4]
  rw[hsg] at es
  by_cases h4:x.k=4∧x.t=[40]
  ·rw[dT h4] at es
   rw[if_pos h4.1,if_pos h4.2]
   have hpl:p < (hT1 h x).nx:=by omega
   have s1:QSt m (pt (hT1 h x) p 160 [sv b 0 ts.length ts.length,iv ((k:Int)+1),iv (E:Int),iv (d:Int),iv 0,iv 0]) p b ts E (k+1) d 0 0:=sG.fr (Fr.put _ _ _ hpl) (by rw[jg hk];exact zi _ _ _ hpl) (by omega)
   have F1:Fr h.fh (pt (hT1 h x) p 160 [sv b 0 ts.length ts.length,iv ((k:Int)+1),iv (E:Int),iv (d:Int),iv 0,iv 0]) p:=(KG.fr p).trans (Fr.put _ _ _ hpl)
   have gz:(pt (hT1 h x) p 160 [sv b 0 ts.length ts.length,iv ((k:Int)+1),iv (E:Int),iv (d:Int),iv 0,iv 0]).get h.nx=some (.row 72 z72 0 false):=gO gG hpl (by omega)
   have nP:(pt (hT1 h x) p 160 [sv b 0 ts.length ts.length,iv ((k:Int)+1),iv (E:Int),iv (d:Int),iv 0,iv 0]).nx=h.nx+2:=nG
   obtain⟨h1',wp1,I1⟩:=zaI s1 hd n (by omega)
   by_cases hd4:40≤d
   ·rw[if_pos hd4] at I1
    obtain⟨e1,T1⟩:=I1
    have n1:=T1.nx
    rw[nP] at n1
    obtain⟨H,e,g,nx,wm,_⟩:=zv5 h h1' p b k ts.length E d ts x n hpk hbk hx hk (by omega) hp hbl hbp ((T1.fr.get _ (by omega) (by omega)).trans gz) (by omega) ek (neK (k:=1) h1) (neK (k:=2) h2) (neK (k:=3) hx3) es e1
    rw[hf0 (by omega)]
    exact resq_err (lo:=h.nx) e s (F1.trans T1.fr) g (nL_ _) nx (by omega) (by decide) (by omega) (by omega) T1.st
   ·rw[if_neg hd4] at I1
    obtain⟨e1,T1⟩:=I1
    have n1:=T1.nx
    rw[nP] at n1
    obtain⟨v2,h2',e2,F2,w2,wp2,y,r,l,rfl,R2⟩:=hf (by omega) n h1' (k+1) (by omega) T1.st
    have n2:=F2.nx
    have T2:=(F1.trans T1.fr).trans F2
    have g2:=(F2.get h.nx (by omega) (by omega)).trans ((T1.fr.get _ (by omega) (by omega)).trans gz)
    have hp2:p < h2'.nx:=by omega
    have hp2':p < (pt (al h2' 72 z72) h2'.nx 72 (ndL y r l)).nx:=by show p < h2'.nx+1;omega
    have K2:Kp h2' (pt (al h2' 72 z72) h2'.nx 72 (ndL y r l)):=((Kp.refl h2').al _ _).pt _ _ (nL_ _) (nS _)
    have st3:∀ k3 d3 c3 w3,QSt m h2' p b ts E k3 d3 c3 w3→d+1≤d3→QSt m (hT3 h2' p b ts.length E k3 d3 c3 w3 y r l) p b ts E k3 (d3 - 1) c3 w3:=by
     intro k3 d3 c3 w3 s3 hd3
     have ed:((d3 - 1:Nat):Int)=((d3:Int) - 1):=by omega
     exact(s3.kp K2).fr (Fr.put _ _ _ hp2') (by rw[jg hk,ed];exact zi _ _ _ hp2') s3.kT
    have fin3:∀ k3 d3 c3 w3 k4 c4 w4 h3,QSt m h2' p b ts E k3 d3 c3 w3→d+1≤d3→d3≤41→RD n 233 [pv p 0] (hT3 h2' p b ts.length E k3 d3 c3 w3 y r l)=some (.tuple #[],h3)→Tn m (hT3 h2' p b ts.length E k3 d3 c3 w3 y r l) h3 p b ts E k4 (d3 - 1) c4 w4→
      ∃ H,RD (n+1) 225 [pv p 0] h=some (zy h (ndV y r l) H)∧(∀ c,c < h3.nx→c≠h.nx→H.get c=h3.get c)∧H.nx=h3.nx∧H.wm≤h2'.wm∧Fr h2' h3 p:=by
     intro k3 d3 c3 w3 k4 c4 w4 h3 s3 hd3 hd3' e3 T3
     have n3:=T3.nx
     have n3':h3.nx=h2'.nx+1:=n3
     have w3':h3.wm≤(hT3 h2' p b ts.length E k3 d3 c3 w3 y r l).wm:=T3.wm
     have w4':(hT3 h2' p b ts.length E k3 d3 c3 w3 y r l).wm≤h2'.wm:=by unfold hT3;rw[ze];exact nT (Nat.min_le_right _ _) K2.wm
     have F23:Fr h2' h3 p:=((K2.fr p).trans (Fr.put _ _ _ hp2')).trans T3.fr
     have gp:h2'.get p=some (.row 160 [sv b 0 ts.length ts.length,iv (k3:Int),iv (E:Int),iv (d3:Int),iv (c3:Int),iv (w3:Int)] 0 false):=by rw[← jg hk];exact s3.pp
     have gn:(hT3 h2' p b ts.length E k3 d3 c3 w3 y r l).get h2'.nx=some (.row 72 (ndL y r l) 0 false):=gO (gP (nS _)) hp2' (by omega)
     obtain⟨H,e,g,nx,wm,_⟩:=zv4 h h1' h2' h3 p b k ts.length E d k3 d3 c3 w3 ts x n y r l hpk hbk hx hk (by omega) hp hbl hbp gp hp2 (by omega) ((F23.get _ (by omega) (by omega)).trans g2) (by omega) ((T3.fr.get _ (by show h2'.nx < h2'.nx+1;omega) (by omega)).trans gn) ek (neK (k:=1) h1) (neK (k:=2) h2) (neK (k:=3) hx3) es e1 e2 e3
     exact⟨H,e,g,nx,by omega,F23⟩
    cases hf2:f (k+1) with
    |err pos c=>
     rw[hf2] at R2
     obtain⟨hc,k',d',hd1,hd2,s2⟩:=R2
     obtain⟨h3,e3,I3⟩:=vY (st3 k' d' c pos s2 hd1) n (by omega)
     rw[if_neg hc] at I3
     subst I3
     obtain⟨H,e,g,nx,wm,F3⟩:=fin3 k' d' c pos k' c pos _ s2 hd1 hd2 e3 (Tn.refl (st3 k' d' c pos s2 hd1))
     exact jw (lo:=h.nx+1) e s (T2.trans F3) (fun c hc hd=>g c hc (by omega)) (by omega) (by omega) ⟨hc,k',d' - 1,by omega,by omega,st3 k' d' c pos s2 hd1⟩
    |ok t k2=>
     rw[hf2] at R2
     obtain⟨N2,s2⟩:=R2
     have s3:=st3 k2 (d+1) 0 0 s2 (nL_ _)
     obtain⟨h3,e3,I3⟩:=vY s3 n (by omega)
     rw[if_pos rfl] at I3
     obtain⟨w3,I3⟩:=I3
     simp only
     cases hs:sg ts [[41]] k2 with
     |none=>
      rw[hs] at I3
      obtain⟨H,e,g,nx,wm,F3⟩:=fin3 k2 (d+1) 0 0 k2 13 (place ts E k2) h3 s2 (nL_ _) (by omega) e3 I3
      exact jw (lo:=h.nx+1) e s (T2.trans F3) (fun c hc hd=>g c hc (by omega)) (by omega) (by omega) ⟨by decide,k2,d,by omega,by omega,I3.st⟩
     |some sn=>
      rw[hs] at I3
      obtain⟨H,e,g,nx,wm,F3⟩:=fin3 k2 (d+1) 0 0 (k2+1) 0 0 h3 s2 (nL_ _) (by omega) e3 I3
      have n3:h2'.nx≤h3.nx:=F3.nx
      refine jw (lo:=h.nx+1) e s (T2.trans F3) (fun c hc hd=>g c hc (by omega)) (by omega) (by omega) ⟨zc.mono (fun c o hc e=>?_) N2,I3.st⟩
      have hc1:h1'.nx≤c:=hc.1
      have hc2:=za e
      exact⟨⟨by omega,by omega⟩,(g c (by omega) (by omega)).trans ((F3.get c hc2 (by omega)).trans e)⟩
  ·rw[dF h4] at es
   obtain⟨h1',e1,I1⟩:=qi sG n (by omega)
   rw[if_pos rfl] at I1
   obtain⟨T1,w1⟩:=I1
   have n1:=T1.nx
   obtain⟨H,e,g,nx,wm,_⟩:=zv2 h h1' p b k ts.length E d ts x n hpk hbk hx hk (by omega) hp hbl hbp ((T1.fr.get _ (by omega) (by omega)).trans gG) (by omega) ek (neK (k:=1) h1) (neK (k:=2) h2) (neK (k:=3) hx3) es e1
   have er:=resq_err (lo:=h.nx) e s ((KG.fr p).trans T1.fr) g (nL_ _) nx (by omega) (by decide) (nL_ _) (by omega) T1.st
   by_cases ha:x.k=4
   ·rw[if_pos ha,if_neg fun hb=>h4 ⟨ha,hb⟩];exact er
   ·rw[if_neg ha];exact er
 ·have hx:ts[k]? =none:=List.getElem?_eq_none (by omega)
  simp only[hx]
  obtain⟨h1,e1,I1⟩:=qi (s.fh.kp K0) n (by omega)
  rw[if_pos rfl] at I1
  obtain⟨T1,w1⟩:=I1
  have n1:h1.nx=h.nx+1:=T1.nx
  obtain⟨H,e,g,nx,wm,_⟩:=ztg h h1 p k ts.length E d n (tsR b ts) s.pp hp ((T1.fr.get h.nx (nS _) (by omega)).trans g0) (by omega) (dT (by omega)) e1
  exact resq_err (lo:=h.nx) e s ((K0.fr p).trans T1.fr) g (nL_ _) nx (by omega) (by decide) (nL_ _) (by omega) T1.st
end
noncomputable section
abbrev qT(h3:Heap)(B5:Nat)(t:Bsy)(h2:Heap)(j:Nat):Heap:=pt h3 B5 72 [iv 6,iv 0,iv 0,.string ⟨#[]⟩,iv 0,iv 0,iv 0,iv 0,.string ⟨⟨t⟩⟩,sv h2.nx 0 (j+1) (j+1)]
abbrev zdC(r:OA)(T k3 E d3 c3 w3:Nat):Vs:=[.slice r T T,iv (k3:Int),iv E,iv ((d3:Int) - 1),iv (c3:Int),iv (w3:Int)]
abbrev qo(h3:Heap)(B5:Nat)(t:Bsy)(h2:Heap)(j p:Nat)(r:OA)(T k3 E d3 c3 w3:Nat):Heap:=pt (qT h3 B5 t h2 j) p 160 (zdC r T k3 E d3 c3 w3)
abbrev qP(t:Bsy)(r0:OA)(j:Nat):AObj:=.row 72 [iv 6,iv 0,iv 0,.string ⟨#[]⟩,iv 0,iv 0,iv 0,iv 0,.string ⟨⟨t⟩⟩,.slice r0 j j] 0 false
abbrev zgb(x:Tk):Vs:=[iv (x.k:Int),iv (x.n:Int),.string ⟨⟨x.t⟩⟩,iv (x.at_:Int)]
abbrev zfq(h:Heap)(x:Tk)(p:Nat)(r:OA)(T k E d:Nat):Heap:=pt (al (pt (al (al h.fh 199 (zgb x)) 72 z72) p 160 [.slice r T T,iv ((k:Int)+2),iv E,iv (d:Int),iv 0,iv 0]) 72 z72) (h.nx+2) 72 [iv 6,iv 0,iv 0,.string ⟨#[]⟩,iv 0,iv 0,iv 0,iv 0,.string ⟨⟨x.t⟩⟩,.slice none 0 0]
abbrev zpr(p:Nat)(x:Tk)(h:Heap)(k:Nat):List (Nat×Value):=[(0,pv p 0),(1,.agg #[iv (x.k:Int),iv (x.n:Int),.string ⟨⟨x.t⟩⟩,iv (x.at_:Int)]),(3,pv h.nx 0),(4,pv (h.nx+1) 0),(7,pv h.nx 2),(8,.string ⟨⟨x.t⟩⟩),(9,iv ((⟨⟨x.t⟩⟩:BA).data.toList.length)),(10,.bool false),(14,pv p 0),(15,pv p 0),(16,pv p 1),(17,iv (k:Int)),(18,iv ((k:Int)+2)),(19,pv p 0),(20,pv p 1),(21,pv h.nx 2),(22,.string ⟨⟨x.t⟩⟩),(23,.agg #[iv 6,iv 0,iv 0,.string ⟨#[]⟩,iv 0,iv 0,iv 0,iv 0,.string ⟨⟨x.t⟩⟩,.slice none 0 0]),(5,pv (h.nx+2) 0),(24,pv p 0),(25,.bool false),(6,iv 0)]
abbrev zct(r:OA)(T k E d:Nat):AObj:=.row 160 [.slice r T T,iv (k:Int),iv E,iv (d:Int),iv 0,iv 0] 0 false
abbrev zdz(r:OA)(T k3 E d3 c3 w3:Nat):Vs:=[.slice r T T,iv ((k3:Int)+1),iv E,iv ((d3:Int) - 1),iv (c3:Int),iv (w3:Int)]
abbrev zcs(p B4 B5 i:Nat):List (Nat×Value):=[(0,pv p 0),(4,pv B4 0),(5,pv B5 0),(6,iv (i:Int))]
abbrev ziF(r:OA)(T k3 E d3 c3 w3:Nat):AObj:=.row 160 [.slice r T T,iv (k3:Int),iv E,iv (d3:Int),iv (c3:Int),iv (w3:Int)] 0 false
abbrev zpq(x:Tk):Value:=.agg #[iv 6,iv 0,iv 0,.string ⟨#[]⟩,iv 0,iv 0,iv 0,iv 0,.string ⟨⟨x.t⟩⟩,.slice none 0 0]
abbrev zkt(t:Bsy)(h2:Heap)(j:Nat):AObj:=.row 72 [iv 6,iv 0,iv 0,.string ⟨#[]⟩,iv 0,iv 0,iv 0,iv 0,.string ⟨⟨t⟩⟩,sv h2.nx 0 (j+1) (j+1)] 0 false
abbrev zks(p:Nat)(x:Tk):Vs:=[pv p 0,.agg #[iv (x.k:Int),iv (x.n:Int),.string ⟨⟨x.t⟩⟩,iv (x.at_:Int)]]
abbrev zkr(t:Bsy)(r0:OA)(j:Nat):Value:=.agg #[iv 6,iv 0,iv 0,.string ⟨#[]⟩,iv 0,iv 0,iv 0,iv 0,.string ⟨⟨t⟩⟩,.slice r0 j j]
abbrev zdB(p:Nat):Vs:=[pv p 0,.string ⟨#[44]⟩]
abbrev zkq:Code:=sub [1,1,1,1,1,0,1,0,0] (zp Tryz.f241)
abbrev zdA(d3:Nat):Value:=iv ((d3:Int) - 1)
variable (h hL h1 h2 h3:Heap) (p k T E d i j B4 B5 k3 d3 c3 w3 n:Nat) (r:OA) (x:Tk) (r0:OA) (t:Bsy) (y:Hd) (yr:OA) (yn:Nat)
theorem zr2(hp:h.get p=some (zct r T k E d))(g5:h.get B5=some (qP t r0 j))(g4:h.get B4=some (.row 72 z72 0 false))(_hi:i < 400)(_h45:B4 < B5)(_hp4:p < B4)(_h5:B5 < h.nx)(_hd:d < 1000)(gh1_B5:h1.get B5=some (qP t r0 j))(_lB5h1:B5 < h1.nx)(gh1_B4:h1.get B4=some (.row 72 z72 0 false))(_lB4h1:B4 < h1.nx)(gh1_p:h1.get p=some (ziF r T k3 E d3 c3 w3))(a0:decide ((i:Int) < 400)=true)(a1:((i:Int)==10)=true)(a2:RD n 79 [pv p 0] h=some (.tuple #[],h1))(a3:((c3:Int) !=0)=true):∃ H,Bd n 80 [1,1,1,1,1,0,1,0,0] Tryz.f241 (zcs p B4 B5 i) h .ret [(4,pv B4 0)] H∧tw1 h1 h1.wm B4 h1.nx H (H.get B4=some (qP t r0 j)):=
 bdE (kZ h) [yT a0,yT a1,yC a2 (kK (ko gh1_p) (ko gh1_B5) (ko gh1_B4)),.l 0 3 4,yT a3,.g 1 72 0 10,.w 2 72 0 (zkr t r0 j),.z 0] [2]
theorem zxP(hp:h.get p=some (zct r T k E d))(g5:h.get B5=some (qP t r0 j))(g4:h.get B4=some (.row 72 z72 0 false))(_hi:i < 400)(_h45:B4 < B5)(_hp4:p < B4)(_h5:B5 < h.nx)(_hd:d < 1000)(gh1_B5:h1.get B5=some (qP t r0 j))(_lB5h1:B5 < h1.nx)(gh1_B4:h1.get B4=some (.row 72 z72 0 false))(_lB4h1:B4 < h1.nx)(a0:decide ((i:Int) < 400)=true)(a1:((i:Int)==10)=false)(a2:RD n 208 [pv p 0] h=some (.bool false,h1)):∃ H,Bd n 80 [1,1,1,1,1,0,1,0,0] Tryz.f241 (zcs p B4 B5 i) h .ret [(4,pv B4 0)] H∧tw1 h1 h1.wm B4 h1.nx H (H.get B4=some (qP t r0 j)):=
 bdE (kI (ko hp)) [yT a0,yF a1,.l 0 3 4,bF,yC a2 (kJ (ko gh1_B5) (ko gh1_B4)),.g 0 72 0 10,.w 1 72 0 (zkr t r0 j),.z 0] [1]
theorem zxO(hp:h.get p=some (zct r T k E d))(g5:h.get B5=some (qP t r0 j))(g4:h.get B4=some (.row 72 z72 0 false))(_hi:i < 400)(_h45:B4 < B5)(_hp4:p < B4)(_h5:B5 < h.nx)(_hd:d < 1000)(gh1_B5:h1.get B5=some (qP t r0 j))(gh2_B5:h2.get B5=some (qP t r0 j))(gh3_B5:h3.get B5=some (qP t r0 j))(_lB5h3:B5 < h3.nx)(gh3_p:h3.get p=some (ziF r T k3 E d3 c3 w3))(_lph3:p < h3.nx)(_hd3:d3 < 1000)(_hk3:k3 < 1000)(a0:decide ((i:Int) < 400)=true)(a1:((i:Int)==10)=false)(a2:RD n 208 [pv p 0] h=some (.bool true,h1))(a3:RD n 78 [pv p 0] (zd 1 h1)=some (ndV y yr yn,h2))(a4:zu En (pt h2 h1.nx 72 (ndL y yr yn)) #[70,70] (.slice r0 j j) (sv h1.nx 0 1 1)=some (sv h2.nx 0 (j+1) (j+1),h3))(a5:Pu n 152 (zdB p) (.bool true) (qo h3 B5 t h2 j p r T k3 E d3 c3 w3)):∃ H,Bd n 80 [1,1,1,1,1,0,1,0,0] Tryz.f241 (zcs p B4 B5 i) h .normal [(0,pv p 0),(4,pv B4 0),(5,pv B5 0),(6,iv ((i:Int)+1))] H∧tw2 h3 h3.wm p B5 h3.nx H (H.get p=some (.row 160 (zdz r T k3 E d3 c3 w3) 0 false)∧H.get B5=some (zkt t h2 j)):=
 ⟨pt (qo h3 B5 t h2 j p r T k3 E d3 c3 w3) p 160 (zdz r T k3 E d3 c3 w3),zaj (show zbx En (RD n) 80 18446744073709551616 zkq [.b true,.b false,.v (iv 0),.b false,.e (.bool true) h1,.v (.slice r0 j j),.e (ndV y yr yn) h2,.e (sv h2.nx 0 (j+1) (j+1)) h3,.e undef (qT h3 B5 t h2 j),.v (iv (d3:Int)),.v (zdA d3),.e undef (qo h3 B5 t h2 j p r T k3 E d3 c3 w3),.e (.bool true) (qo h3 B5 t h2 j p r T k3 E d3 c3 w3),.v (iv (k3:Int)),.v (iv ((k3:Int)+1)),.e undef (pt (qo h3 B5 t h2 j p r T k3 E d3 c3 w3) p 160 (zdz r T k3 E d3 c3 w3)),.v (iv ((i:Int)+1))] (zcs p B4 B5 i) h [(0,pv p 0),(4,pv B4 0),(5,pv B5 0),(6,iv ((i:Int)+1))]=
  some ([decide ((i:Int) < 400)=true,
   ((i:Int)==10)=false,
   LD h 3 p 4 (iv 0),
   ((0:Int) !=0)=false,
   RD n 208 [pv p 0] h=some (.bool true,h1),
   LD (zd 1 h1) 70 B5 9 (.slice r0 j j),
   RD n 78 [pv p 0] (zd 1 h1)=some (ndV y yr yn,h2),
   zu En (pt h2 h1.nx 72 (ndL y yr yn)) #[70,70] (.slice r0 j j) (sv h1.nx 0 1 1)=some (sv h2.nx 0 (j+1) (j+1),h3),
   SV h3 70 B5 9 (sv h2.nx 0 (j+1) (j+1)) (qT h3 B5 t h2 j),
   (h1.nx+1:Nat)=h1.nx+1,
   LD (zd 1 h1) 70 B5 9 (.slice r0 j j),
   LD h2 70 B5 9 (.slice r0 j j),
   LD (qT h3 B5 t h2 j) 3 p 3 (iv (d3:Int)),
   WR ((d3:Int) - 1),
   SV (qT h3 B5 t h2 j) 3 p 3 (zdA d3) (qo h3 B5 t h2 j p r T k3 E d3 c3 w3),
   Pu n 152 (zdB p) (.bool true) (qo h3 B5 t h2 j p r T k3 E d3 c3 w3),
   LD (qo h3 B5 t h2 j p r T k3 E d3 c3 w3) 3 p 1 (iv (k3:Int)),
   WR ((k3:Int)+1),
   SV (qo h3 B5 t h2 j p r T k3 E d3 c3 w3) 3 p 1 (iv ((k3:Int)+1)) (pt (qo h3 B5 t h2 j p r T k3 E d3 c3 w3) p 160 (zdz r T k3 E d3 c3 w3)),
   WR ((i:Int)+1),
   pv p 0=pv p 0,
   pv B4 0=pv B4 0,
   pv B5 0=pv B5 0,
   iv ((i:Int)+1)=iv ((i:Int)+1)],.normal,pt (qo h3 B5 t h2 j p r T k3 E d3 c3 w3) p 160 (zdz r T k3 E d3 c3 w3)) by kernel_rfl)
  ⟨a0,a1,zG hp C3 rfl,rfl,a2,zG (gR gh1_B5) C70 rfl,a3,a4,yp 1 gh3_B5 S70 rfl rfl,rfl,zG (gR gh1_B5) C70 rfl,zG gh2_B5 C70 rfl,zG (gO gh3_p (show B5 < h3.nx by omega) (by omega)) C3 rfl,uV (by omega) (by omega),yp 1 (gO gh3_p (show B5 < h3.nx by omega) (by omega)) S3 rfl rfl,a5,zG (gP (show p < h3.nx by omega)) C3 rfl,uV (by omega) (by omega),yp 1 (gP (show p < h3.nx by omega)) S3 rfl rfl,uV (by omega) (by omega),rfl,rfl,rfl,rfl,trivial⟩,fun c hc _n0 _n1=>(zf _ p _ _ (by exact(show p < h3.nx by omega)) (by omega)).trans ((zf _ p _ _ (by exact(show p < h3.nx by omega)) (by omega)).trans ((zf _ B5 _ _ (by exact(show B5 < h3.nx by omega)) (by omega)).trans (rfl))),rfl,(by simp only[al,pt,zl,ze,zJ];omega),(by simp only[al,pt,zl,ze,zJ];omega),(by simp only[al,pt,zl,ze,zJ];omega),(gP (show p < h3.nx by omega)),(gO (gO (gP (show B5 < h3.nx by omega)) (show p < h3.nx by omega) (by omega)) (show p < h3.nx by omega) (by omega))⟩
theorem zmh(hp:h.get p=some (zct r T k E d))(g5:h.get B5=some (qP t r0 j))(g4:h.get B4=some (.row 72 z72 0 false))(_hi:i < 400)(_h45:B4 < B5)(_hp4:p < B4)(_h5:B5 < h.nx)(_hd:d < 1000)(gh1_B5:h1.get B5=some (qP t r0 j))(gh2_B5:h2.get B5=some (qP t r0 j))(gh3_B5:h3.get B5=some (qP t r0 j))(_lB5h3:B5 < h3.nx)(gh3_p:h3.get p=some (ziF r T k3 E d3 c3 w3))(_lph3:p < h3.nx)(_hd3:d3 < 1000)(_hk3:k3 < 1000)(a0:decide ((i:Int) < 400)=true)(a1:((i:Int)==10)=false)(a2:RD n 208 [pv p 0] h=some (.bool true,h1))(a3:RD n 78 [pv p 0] (zd 1 h1)=some (ndV y yr yn,h2))(a4:zu En (pt h2 h1.nx 72 (ndL y yr yn)) #[70,70] (.slice r0 j j) (sv h1.nx 0 1 1)=some (sv h2.nx 0 (j+1) (j+1),h3))(a5:Pu n 152 (zdB p) (.bool false) (qo h3 B5 t h2 j p r T k3 E d3 c3 w3)):∃ H,Bd n 80 [1,1,1,1,1,0,1,0,0] Tryz.f241 (zcs p B4 B5 i) h (.exit 0) [(0,pv p 0),(4,pv B4 0),(5,pv B5 0)] H∧tw2 h3 h3.wm p B5 h3.nx H (H.get p=some (.row 160 (zdC r T k3 E d3 c3 w3) 0 false)∧H.get B5=some (zkt t h2 j)):=
 ⟨pt (qT h3 B5 t h2 j) p 160 (zdC r T k3 E d3 c3 w3),zaj (show zbx En (RD n) 80 18446744073709551616 zkq [.b true,.b false,.v (iv 0),.b false,.e (.bool true) h1,.v (.slice r0 j j),.e (ndV y yr yn) h2,.e (sv h2.nx 0 (j+1) (j+1)) h3,.e undef (qT h3 B5 t h2 j),.v (iv (d3:Int)),.v (zdA d3),.e undef (qo h3 B5 t h2 j p r T k3 E d3 c3 w3),.e (.bool false) (qo h3 B5 t h2 j p r T k3 E d3 c3 w3)] (zcs p B4 B5 i) h [(0,pv p 0),(4,pv B4 0),(5,pv B5 0)]=
  some ([decide ((i:Int) < 400)=true,
   ((i:Int)==10)=false,
   LD h 3 p 4 (iv 0),
   ((0:Int) !=0)=false,
   RD n 208 [pv p 0] h=some (.bool true,h1),
   LD (zd 1 h1) 70 B5 9 (.slice r0 j j),
   RD n 78 [pv p 0] (zd 1 h1)=some (ndV y yr yn,h2),
   zu En (pt h2 h1.nx 72 (ndL y yr yn)) #[70,70] (.slice r0 j j) (sv h1.nx 0 1 1)=some (sv h2.nx 0 (j+1) (j+1),h3),
   SV h3 70 B5 9 (sv h2.nx 0 (j+1) (j+1)) (qT h3 B5 t h2 j),
   (h1.nx+1:Nat)=h1.nx+1,
   LD (zd 1 h1) 70 B5 9 (.slice r0 j j),
   LD h2 70 B5 9 (.slice r0 j j),
   LD (qT h3 B5 t h2 j) 3 p 3 (iv (d3:Int)),
   WR ((d3:Int) - 1),
   SV (qT h3 B5 t h2 j) 3 p 3 (zdA d3) (qo h3 B5 t h2 j p r T k3 E d3 c3 w3),
   Pu n 152 (zdB p) (.bool false) (qo h3 B5 t h2 j p r T k3 E d3 c3 w3),
   pv p 0=pv p 0,
   pv B4 0=pv B4 0,
   pv B5 0=pv B5 0],(.exit 0),pt (qT h3 B5 t h2 j) p 160 (zdC r T k3 E d3 c3 w3)) by kernel_rfl)
  ⟨a0,a1,zG hp C3 rfl,rfl,a2,zG (gR gh1_B5) C70 rfl,a3,a4,yp 1 gh3_B5 S70 rfl rfl,rfl,zG (gR gh1_B5) C70 rfl,zG gh2_B5 C70 rfl,zG (gO gh3_p (show B5 < h3.nx by omega) (by omega)) C3 rfl,uV (by omega) (by omega),yp 1 (gO gh3_p (show B5 < h3.nx by omega) (by omega)) S3 rfl rfl,a5,rfl,rfl,rfl,trivial⟩,fun c hc _n0 _n1=>(zf _ p _ _ (by exact(show p < h3.nx by omega)) (by omega)).trans ((zf _ B5 _ _ (by exact(show B5 < h3.nx by omega)) (by omega)).trans (rfl)),rfl,(by simp only[al,pt,zl,ze,zJ];omega),(by simp only[al,pt,zl,ze,zJ];omega),(by simp only[al,pt,zl,ze,zJ];omega),(gP (show p < h3.nx by omega)),(gO (gP (show B5 < h3.nx by omega)) (show p < h3.nx by omega) (by omega))⟩
theorem ztl(hp:h.get p=some (zct r T k E d))(_hl:p < h.nx)(_hk:k < 1000)(gL:hL.get (h.nx+1)=some (.row 72 (ndL y yr yn) 0 false))(a0:decide (((⟨⟨x.t⟩⟩:BA).data.toList.length:Int)>8)=false)(a1:Pu n 152 [pv p 0,.string ⟨#[41]⟩] (.bool false) (zfq h x p r T k E d))(a2:Lf n 80 [1,1,1,1,1,0,1,0,0] Tryz.f241 (zpr p x h k) (zfq h x p r T k E d) .ret [(4,pv (h.nx+1) 0)] hL):Fn n 241 (zks p x) h (ndV y yr yn) hL:=
 fnV (kI (ko hp)) [aS 199 (zgb x),aS 72 z72,.l 1 9 2,yF a0,.l 0 3 1,yW ((k:Int)+2),.w 0 3 1 (iv ((k:Int)+2)),.l 1 9 2,aS 72 z72,.w 3 72 0 (zpq x),yP a1,yS a2 (kI (ko gL)),.r 0 72 10]
theorem zwb(hp:h.get p=some (zct r T k E d))(_hl:p < h.nx)(_hk:k < 1000)(g12_:h1.get (h.nx+2)=some (.row 72 (ndL y yr yn) 0 false))(g11_:h1.get (h.nx+1)=some (.row 72 z72 0 false))(_lhnx1h1:h.nx+1 < h1.nx)(a0:decide (((⟨⟨x.t⟩⟩:BA).data.toList.length:Int)>8)=false)(a1:Pu n 152 [pv p 0,.string ⟨#[41]⟩] (.bool false) (zfq h x p r T k E d))(a2:Lf n 80 [1,1,1,1,1,0,1,0,0] Tryz.f241 (zpr p x h k) (zfq h x p r T k E d) (.exit 0) [(0,pv p 0),(4,pv (h.nx+1) 0),(5,pv (h.nx+2) 0)] hL)(a3:RD n 233 [pv p 0] hL=some (.tuple #[],h1)):∃ H,Fn n 241 (zks p x) h (ndV y yr yn) H∧tl1 h1 h1.wm (h.nx+1) h1.nx H:=
 exV (kI (ko hp)) [aS 199 (zgb x),aS 72 z72,.l 1 9 2,yF a0,.l 0 3 1,yW ((k:Int)+2),.w 0 3 1 (iv ((k:Int)+2)),.l 1 9 2,aS 72 z72,.w 3 72 0 (zpq x),yP a1,yS a2 (kZ hL),yC a3 (kJ (ko g12_) (ko g11_)),.g 0 72 0 10,.w 1 72 0 (ndV y yr yn),.r 1 72 10] []
def zbB(r c:Int):Value:=
 bif decide ((r:Int)≥1) then(bif decide ((r:Int)≤1000) then(bif decide ((c:Int)≥1) then(bif decide ((c:Int)≤50) then(.bool true) else
   (.bool false)) else
  (.bool false)) else
  (.bool false)) else
 (.bool false)
theorem zry(r c:Int)(h:Heap)(n:Nat)(hn:1≤n):RD n 21 [.agg #[iv r,iv c]] h=some (zbB r c,h):=by
 obtain⟨m,rfl⟩:=zs_ n
 cases b0:decide ((r:Int)≥1)
 ·rw[zbB,b0]
  exact fpV (kZ h) [aS 29 [iv r,iv c],.l 0 3 0,yF b0,.z 0]
 ·cases b1:decide ((r:Int)≤1000)
  ·rw[zbB,b0,b1]
   exact fpV (kZ h) [aS 29 [iv r,iv c],.l 0 3 0,yT b0,.l 0 3 0,yF b1,.z 0]
  ·cases b2:decide ((c:Int)≥1)
   ·rw[zbB,b0,b1,b2]
    exact fpV (kZ h) [aS 29 [iv r,iv c],.l 0 3 0,yT b0,.l 0 3 0,yT b1,.l 0 3 1,yF b2,.z 0]
   ·cases b3:decide ((c:Int)≤50)
    ·rw[zbB,b0,b1,b2,b3]
     exact fpV (kZ h) [aS 29 [iv r,iv c],.l 0 3 0,yT b0,.l 0 3 0,yT b1,.l 0 3 1,yT b2,.l 0 3 1,yF b3,.z 0]
    ·rw[zbB,b0,b1,b2,b3]
     exact fpV (kZ h) [aS 29 [iv r,iv c],.l 0 3 0,yT b0,.l 0 3 0,yT b1,.l 0 3 1,yT b2,.l 0 3 1,yT b3,.z 0]
theorem zfh(r c:Int)(h:Heap)(n:Nat)(hn:1≤n):RD n 21 [.agg #[iv r,iv c]] h=some (.bool (wE r c),h):=by
 refine(zry r c h n hn).trans ?_
 unfold zbB wE
 cases decide (r≥1) <;>cases decide (r≤1000) <;>cases decide (c≥1) <;>cases decide (c≤50) <;>rfl
theorem zjW{a c:Nat}(h:1≤a∧a≤1000∧1≤c∧c≤50)(g:Heap)(n:Nat)(hn:1≤n):RD n 21 [.agg #[iv (a:Int),iv (c:Int)]] g=some (.bool true,g):=by
 have:=zfh (a:Int) (c:Int) g n hn
 have e:wE (a:Int) (c:Int)=true:=by
  unfold wE
  rw[dT (by omega),dT (by omega),dT (by omega),dT (by omega)];rfl
 rw[e] at this
 exact this
end
def zkp(m:Int)(A:Bsy→Option (Nat×Nat))(N0:Nat):Prop:=
 (∀ l a c,A l=some (a,c)→1≤a∧a≤1000∧1≤c∧c≤50)∧
 ∀ (l:Bsy) (h:Heap) (n:Nat),N0≤n→Gl m h→l.length≤4000→
  match A l with
  |some (a,c)=>RD n 30 [.string ⟨⟨l⟩⟩] h=some (.agg #[iv (a:Int),iv (c:Int),.bool true],h)
  |none=>∃ a c:Int,RD n 30 [.string ⟨⟨l⟩⟩] h=some (.agg #[iv a,iv c,.bool false],h)
theorem zlB{a c u w:Nat}(h1:1≤a∧a≤1000∧1≤c∧c≤50)(h2:1≤u∧u≤1000∧1≤w∧w≤50)(h:Heap)(n:Nat)(hn:2≤n):
  RD n 242 [.agg #[iv (a:Int),iv (c:Int)],.agg #[iv (u:Int),iv (w:Int)]] h=some (.agg #[iv ((min a u:Nat):Int),iv ((min c w:Nat):Int),iv ((max a u:Nat):Int),iv ((max c w:Nat):Int),.bool true],h):=by
 obtain⟨n,rfl⟩:=zs_ n
 refine(zwU h a c u w n (zjW h1 _ n (by omega)) (zjW h2 _ n (by omega)) (zjO _ _) (zjO _ _) (zgP _ _) (zgP _ _)).trans ?_
 rw[zk (by simp only[al,pt,zl,ze,zX];omega) rfl]
def hA1(h:Heap)(x:Tk):Heap:=al (al h.fh 199 (tkL x)) 72 z72
theorem zlT(h:Heap)(x:Tk):(hA1 h x).nx=h.nx+2:=rfl
theorem zgZ(h:Heap)(x:Tk):Kp h.fh (hA1 h x):=((Kp.refl h.fh).al _ _).al _ _
theorem zeS(h:Heap)(x:Tk):(hA1 h x).get (h.nx+1)=some (.row 72 z72 0 false):=gN (h:=al h.fh 199 (tkL x))
def hA2(h:Heap)(x:Tk)(a c:Int)(ok:Bool):Heap:=pt (al (hA1 h x) 78 [iv 0,iv 0,.bool false]) (h.nx+2) 78 [iv a,iv c,.bool ok]
theorem zlR(h:Heap)(x:Tk)(a c:Int)(ok:Bool):(hA2 h x a c ok).nx=h.nx+3:=rfl
theorem zlS(h:Heap)(x:Tk)(a c:Int)(ok:Bool):Kp h.fh (hA2 h x a c ok):=((zgZ h x).al _ _).pt (b:=h.nx+2) _ _ (by show h.nx≤h.nx+2;omega) (by show h.nx+2 < h.nx+3;omega)
theorem zif(h:Heap)(x:Tk)(a c:Int)(ok:Bool):(hA2 h x a c ok).get (h.nx+1)=some (.row 72 z72 0 false):=
 gO (gA (zeS h x)) (by show h.nx+2 < h.nx+3;omega) (by omega)
section
variable {m:Int} {p b:Nat} {ts:List Tk} {E:Nat} {A:Bsy→Option (Nat×Nat)} {N0:Nat}
theorem zk9{f:PR}{d N:Nat}(hd:d≤40)(hA:zkp m A N0)(hlen:∀ x∈ts,x.t.length≤4000)(hc:∀ (n:Nat) (h:Heap) (k:Nat) (x:Tk),N≤n→ts[k]? =some x→jC ts k=true→QSt m h p b ts E k d 0 0→∃ v h',RD n 241 [pv p 0,tkV x] h=some (v,h')∧za1 m h p b ts E d (yf ts E f x k) v h')(hN:N0+4≤N):zvb m p b ts E (N+1) 232 d (fun x=>qS ts E A f x):=by
 intro n h k x hn hx s
 obtain⟨n,rfl⟩:=zs_ n
 have hk:k < ts.length:=(List.getElem?_eq_some_iff.1 hx).1
 have hp:=s.lt
 have hT:=s.tT
 have KA:=zgZ h x
 have gA:=zeS h x
 have nA:=zlT h x
 have sA:=s.fh.kp KA
 have eo:=zdR sA n (by omega)
 simp only[qS]
 cases ho:jC ts k with
 |true=>
  rw[ho] at eo
  rw[if_pos rfl]
  obtain⟨v1,h1,e1,F1,w1,wp1,y,r,l,rfl,R1⟩:=hc n _ k x (by omega) hx ho sA
  have n1:=F1.nx
  obtain⟨H,e,g,nx,wm,_⟩:=zzC h h1 p n x y r l ((F1.get _ (by omega) (by omega)).trans gA) (by omega) eo e1
  exact zhT (hA1 h x) (lo:=h.nx+1) e s ((KA.fr p).trans F1) g (by omega) (by omega) nx (by omega) R1
 |false=>
  rw[ho] at eo
  rw[if_neg (by decide)]
  by_cases ht:x.t=[84,82,85,69]
  ·have et:=(zZ x.t [84,82,85,69]).trans (dT ht)
   rw[if_pos ht]
   obtain⟨H,e,g,nx,wm,wp,w⟩:=zzx h p k ts.length E d n (tsR b ts) x s.pp hp (by omega) eo et et
   exact qX (x:=zz 1 1 []) (k':=k+1) e s g (by omega) wp w (by omega)
  rw[if_neg ht]
  have et:=(zZ x.t [84,82,85,69]).trans (dF ht)
  by_cases hf:x.t=[70,65,76,83,69]
  ·have ef:=(zZ x.t [70,65,76,83,69]).trans (dT hf)
   rw[if_pos hf]
   obtain⟨H,e,g,nx,wm,wp,w⟩:=zzA h p k ts.length E d n (tsR b ts) x s.pp hp (by omega) eo et ef et
   exact qX (x:=zz 1 0 []) (k':=k+1) e s g (by omega) wp w (by omega)
  rw[if_neg hf]
  have ef:=(zZ x.t [70,65,76,83,69]).trans (dF hf)
  have hl:=hlen x (List.mem_of_getElem? hx)
  have ha:=hA.2 x.t _ n (by omega) sA.gl hl
  cases hAx:A x.t with
  |none=>
   rw[hAx] at ha
   obtain⟨a,c,ha⟩:=ha
   have K2:=zlS h x a c false
   obtain⟨h1,e1,I1⟩:=qi (s.fh.kp K2) n (by omega)
   rw[if_pos rfl] at I1
   obtain⟨T1,w1⟩:=I1
   have n1:h1.nx=h.nx+3:=T1.nx
   obtain⟨H,e,g,nx,wm,_⟩:=zzB h h1 p n x a c ((T1.fr.get _ (by rw[zlR];omega) (by omega)).trans (zif h x a c false)) (by omega) eo et ef ha e1
   exact resq_err (lo:=h.nx+1) e s ((K2.fr p).trans T1.fr) g (by omega) nx (by omega) (by decide) (nL_ _) (by omega) T1.st
  |some v=>
   obtain⟨a,c⟩:=v
   rw[hAx] at ha
   have ra:=hA.1 _ _ _ hAx
   have K2:=zlS h x a c true
   have s2:=s.fh.kp K2
   have n2:=zlR h x a c true
   have hp2:p < (hA2 h x a c true).nx:=by omega
   have s3:QSt m (pt (hA2 h x a c true) p 160 [tsV b ts,iv ((k:Int)+1),iv (E:Int),iv (d:Int),iv 0,iv 0]) p b ts E (k+1) d 0 0:=s2.fr (Fr.put _ _ _ hp2) (zi _ _ _ hp2) (by omega)
   have F3:Fr h.fh (pt (hA2 h x a c true) p 160 [tsV b ts,iv ((k:Int)+1),iv (E:Int),iv (d:Int),iv 0,iv 0]) p:=(K2.fr p).trans (Fr.put _ _ _ hp2)
   have g3:(pt (hA2 h x a c true) p 160 [tsV b ts,iv ((k:Int)+1),iv (E:Int),iv (d:Int),iv 0,iv 0]).get (h.nx+1)=some (.row 72 z72 0 false):=gO (zif h x a c true) hp2 (by omega)
   have es:=jG s3 [58] n (by omega)
   rw[dT rfl,Bool.true_and] at es
   simp only
   cases hs:sg ts [[58]] (k+1) with
   |none=>
    rw[hs] at es
    obtain⟨H,e,g,nx,wm,wp,w⟩:=zzy h p k ts.length E d n (tsR b ts) x a c s.pp hp (by omega) eo et ef ha es
    exact qX (x:=zF 2 a c 0 0) (k':=k+1) e s g (by omega) wp w (by omega)
   |some sn=>
    rw[hs] at es
    have hk1:=qR ts hs
    have hp3:p < (pt (hA2 h x a c true) p 160 [tsV b ts,iv ((k:Int)+1),iv (E:Int),iv (d:Int),iv 0,iv 0]).nx:=hp2
    have s4:QSt m (pt (pt (hA2 h x a c true) p 160 [tsV b ts,iv ((k:Int)+1),iv (E:Int),iv (d:Int),iv 0,iv 0]) p 160 [tsV b ts,iv (((k:Int)+1)+1),iv (E:Int),iv (d:Int),iv 0,iv 0]) p b ts E (k+1+1) d 0 0:=s3.fr (Fr.put _ _ _ hp3) (zi _ _ _ hp3) (by omega)
    have F4:=F3.trans (Fr.put (pt (hA2 h x a c true) p 160 [tsV b ts,iv ((k:Int)+1),iv (E:Int),iv (d:Int),iv 0,iv 0]) p (.row 160 [tsV b ts,iv (((k:Int)+1)+1),iv (E:Int),iv (d:Int),iv 0,iv 0] 0 false) hp3)
    have g4:(pt (pt (hA2 h x a c true) p 160 [tsV b ts,iv ((k:Int)+1),iv (E:Int),iv (d:Int),iv 0,iv 0]) p 160 [tsV b ts,iv (((k:Int)+1)+1),iv (E:Int),iv (d:Int),iv 0,iv 0]).get (h.nx+1)=some (.row 72 z72 0 false):=gO g3 hp3 (by omega)
    have bad4:∃ h1,RD n 79 [pv p 0] (pt (pt (hA2 h x a c true) p 160 [tsV b ts,iv ((k:Int)+1),iv (E:Int),iv (d:Int),iv 0,iv 0]) p 160 [tsV b ts,iv (((k:Int)+1)+1),iv (E:Int),iv (d:Int),iv 0,iv 0])=some (.tuple #[],h1)∧h1.nx=h.nx+3∧h1.wm≤p∧h1.get (h.nx+1)=some (.row 72 z72 0 false)∧Fr h.fh h1 p∧QSt m h1 p b ts E (k+1+1) d 13 (place ts E (k+1+1)):=by
     obtain⟨h1,e1,I1⟩:=qi s4 n (by omega)
     rw[if_pos rfl] at I1
     obtain⟨T1,w1⟩:=I1
     have n1:h1.nx=h.nx+3:=T1.nx
     exact⟨h1,e1,n1,w1,(T1.fr.get _ (by show h.nx+1 < h.nx+3;omega) (by omega)).trans g4,F4.trans T1.fr,T1.st⟩
    have er:∀ {X:Option (Value×Heap)} {H h1:Heap},X=some (zy h zj H)→(∀ c,c < h1.nx→c≠h.nx+1→H.get c=h1.get c)→H.nx=h1.nx→H.wm≤h1.wm→h1.wm≤p→Fr h.fh h1 p→QSt m h1 p b ts E (k+1+1) d 13 (place ts E (k+1+1))→
      ∃ v h',X=some (v,h')∧za1 m h p b ts E d (jO ts E (k+1+1)) v h':=by
     intro X H h1 e g nx wm w1 F st
     exact resq_err (lo:=h.nx+1) e s F g (by omega) nx (by omega) (by decide) (nL_ _) (by omega) st
    simp only
    by_cases hk2:k+1+1 < ts.length
    ·obtain⟨y,hy⟩:=s.get hk2
     have hbk:=s.some_b hk2
     have hbl:=za hbk
     have hbp:=s.bp hbk
     have hpk:=s.pp' hk2
     have etv:tsV b ts=sv b 0 ts.length ts.length:=jg hk2
     have e5:decide ((((k:Int)+1)+1:Int)≥((ts.length:Nat):Int))=false:=dF (by omega)
     have hcl:jP ts A (k+1+1)=if y.k=3∧jC ts (k+1+1)=false then A y.t else none:=by unfold jP;rw[hy]
     by_cases h3:y.k=3
     ·have n3:(((y.k:Int):Int) !=3)=false:=by rw[h3];rfl
      have eo2:=zdR s4 n (by omega)
      cases ho2:jC ts (k+1+1) with
      |true=>
       rw[ho2] at eo2
       obtain⟨h1,e1,n1,w1,g1,F1,st1⟩:=bad4
       rw[etv] at es e1 eo2
       obtain⟨H,e,g,nx,wm,_⟩:=zzE h h1 p b k ts.length E d n ts x y a c hpk hbk hy hk2 (by omega) hp hbl hbp g1 (by omega) eo et ef ha es e5 n3 eo2 e1
       rw[hcl,ho2,if_neg (by simp)]
       exact er e g nx wm w1 F1 st1
      |false=>
       rw[ho2] at eo2
       rw[hcl,ho2,if_pos ⟨h3,rfl⟩]
       have hl2:=hlen y (List.mem_of_getElem? hy)
       have ha2:=hA.2 y.t _ n (by omega) (s4.gl.reserve 1) hl2
       have nr:(zd 1 (pt (pt (hA2 h x a c true) p 160 [tsV b ts,iv ((k:Int)+1),iv (E:Int),iv (d:Int),iv 0,iv 0]) p 160 [tsV b ts,iv (((k:Int)+1)+1),iv (E:Int),iv (d:Int),iv 0,iv 0])).nx=h.nx+4:=by rw[zK];rfl
       cases hAy:A y.t with
       |none=>
        rw[hAy] at ha2
        obtain⟨u,w,ha2⟩:=ha2
        have K5:=(((Kp.refl (pt (pt (hA2 h x a c true) p 160 [tsV b ts,iv ((k:Int)+1),iv (E:Int),iv (d:Int),iv 0,iv 0]) p 160 [tsV b ts,iv (((k:Int)+1)+1),iv (E:Int),iv (d:Int),iv 0,iv 0])).rs 1).pt (b:=h.nx+3) 78 [iv 0,iv 0,.bool false] (by show h.nx+3≤h.nx+3;omega) (by omega)).pt (b:=h.nx+3) 78 [iv u,iv w,.bool false] (by show h.nx+3≤h.nx+3;omega) (Nat.lt_of_lt_of_eq (by omega) nr.symm)
        obtain⟨h1,e1,I1⟩:=qi (s4.kp K5) n (by omega)
        rw[if_pos rfl] at I1
        obtain⟨T1,w1⟩:=I1
        have n1:h1.nx=h.nx+4:=T1.nx.trans nr
        have F1:=(F4.trans (K5.fr p)).trans T1.fr
        have g1:=(T1.fr.get (h.nx+1) (Nat.lt_of_lt_of_eq (by omega) nr.symm) (by omega)).trans ((K5.get (h.nx+1) (by show h.nx+1 < h.nx+3;omega)).trans g4)
        rw[etv] at es e1 eo2 ha2
        obtain⟨H,e,g,nx,wm,_⟩:=zzD h h1 p b k ts.length E d n ts x y a c u w hpk hbk hy hk2 (by omega) hp hbl hbp g1 (by omega) eo et ef ha es e5 n3 eo2 ha2 e1
        exact er e g nx wm w1 F1 T1.st
       |some v2=>
        obtain⟨u,w⟩:=v2
        rw[hAy] at ha2
        have ru:=hA.1 _ _ _ hAy
        rw[etv] at es eo2 ha2
        obtain⟨H,e,g,nx,wm,wp,w'⟩:=zzz h p b k ts.length E d n ts x y a c u w _ _ _ _ true hpk hbk hy hk2 (by omega) hp hbl hbp eo et ef ha es e5 n3 eo2 ha2 (zlB ra ru _ n (by omega))
        exact qX (x:=zF 3 ((min a u:Nat):Int) ((min c w:Nat):Int) ((max a u:Nat):Int) ((max c w:Nat):Int)) (k':=k+1+1+1) e s g (by omega) wp (by rw[w',etv];rfl) (by omega)
     ·have n3:(((y.k:Int):Int) !=3)=true:=by
       exact congrArg (! ·) (neK (k:=3) h3)
      obtain⟨h1,e1,n1,w1,g1,F1,st1⟩:=bad4
      rw[etv] at es e1
      obtain⟨H,e,g,nx,wm,_⟩:=zzF h h1 p b k ts.length E d n ts x y a c hpk hbk hy hk2 (by omega) hp hbl hbp g1 (by omega) eo et ef ha es e5 n3 e1
      rw[hcl,if_neg (by simp[h3])]
      exact er e g nx wm w1 F1 st1
    ·obtain⟨h1,e1,n1,w1,g1,F1,st1⟩:=bad4
     have hcl:jP ts A (k+1+1)=none:=by unfold jP;rw[List.getElem?_eq_none (by omega)]
     obtain⟨H,e,g,nx,wm,_⟩:=zzG h h1 p k ts.length E d n (tsR b ts) x a c s.pp hp (by omega) g1 (by omega) eo et ef ha es (dT (by omega)) e1
     rw[hcl]
     exact er e g nx wm w1 F1 st1
end
end Go.PanE
