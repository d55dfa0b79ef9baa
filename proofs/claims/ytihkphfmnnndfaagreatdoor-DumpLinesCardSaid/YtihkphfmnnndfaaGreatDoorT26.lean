/-
 Part 26 of the proof of Rows.DumpLinesCardSaid. No conditions.
-/
import Derived.Test.YtihkphfmnnndfaaGreatDoorT25
namespace Go.PanE
open Go.Proofs
theorem Kp.al{h g:Heap}(a:Kp h g)(t:TypeId)(cs:Vs):Kp h (PanE.al g t cs):=
 ⟨nT a.nx (Nat.le_succ _),fun c hc=>(zm g _ (nU hc a.nx)).trans (a.get c hc),a.wm⟩
theorem Kp.pt{h g:Heap}(a:Kp h g){b:Nat}(t:TypeId)(cs:Vs)(hb:h.nx≤b)(hl:b < g.nx):Kp h (PanE.pt g b t cs):=
 ⟨a.nx,fun c hc=>(zf g b c _ hl (by omega)).trans (a.get c hc),by rw[ze];have:=a.wm;omega⟩
theorem Kp.trans{h g f:Heap}(a:Kp h g)(b:Kp g f):Kp h f:=⟨nT a.nx b.nx,fun c hc=>(b.get c (nU hc a.nx)).trans (a.get c hc),nT b.wm a.wm⟩
section
variable {m:Int} {h:Heap} {p b:Nat} {ts:List Tk} {E k:Nat}
theorem PSt.kp{g:Heap}(s:PSt m h p b ts E k)(a:Kp h g):PSt m g p b ts E k:=s.keep a.nx a.get
theorem zV.kp{g:Heap}{lo hi lo' hi':Nat}{x:Hd}{r:OA}{l:Nat}{t:Tr}(N:zV h lo hi x r l t)(a:Kp h g)(hl:lo'≤lo)(hh:hi≤hi'):zV g lo' hi' x r l t:=N.keep a.get hl hh
theorem zV.fr{g:Heap}{lo hi lo' hi':Nat}{x:Hd}{r:OA}{l:Nat}{t:Tr}(N:zV h lo hi x r l t)(a:Fr h g p)(hp:p < lo)(hl:lo'≤lo)(hh:hi≤hi'):zV g lo' hi' x r l t:=
 N.mono hl hh fun c o h1 _ e=>(a.get c (za e) (by omega)).trans e
theorem zN{k' pos c lo q:Nat}{X:Option (Value×Heap)}{H hk:Heap}(e:X=some (zy h (.tuple #[zj,.iface 242 (pv q 0)]) H))(s0:PSt m h p b ts E k)(F:Fr h.fh hk p)
  (gH:∀ c,c < hk.nx→c < h.nx∨lo≤c→H.get c=hk.get c) (nH:hk.nx≤H.nx) (hlo:h.nx≤lo) (hq:lo≤q) (gq:hk.get q=some (.row 245 [.int .i64 (pos:Int),.int .i64 (c:Int)] 0 false)) (s:PSt m hk p b ts E k'):
  ∃ v h',X=some (v,h')∧zbL m h p b ts E (.err pos c) v h':=by
 have F':Fr h H p:=⟨nT F.nx nH,fun c hc hcp=>(gH c (nU hc F.nx) (.inl hc)).trans (F.get c hc hcp)⟩
 have hpk:p < hk.nx:=nU s0.lt F.nx
 exact⟨_,_,jY e (zdl (nT hlo hq)),F'.wm _,Nat.min_le_left _ _,q,k',rfl,nT hlo hq,(gH q (za gq) (.inr hq)).trans gq,(s0.fr F' ((gH p hpk (.inl s0.lt)).trans s.pp) s.kT).wm⟩
theorem qY{k' lo hi l:Nat}{x:Hd}{r:OA}{t:Tr}{X:Option (Value×Heap)}{H hk:Heap}(e:X=some (zy h (.tuple #[ndV x r l,.nilIface]) H))(s0:PSt m h p b ts E k)(F:Fr h.fh hk p)
  (gH:∀ c,c < hk.nx→c < h.nx∨lo≤c→H.get c=hk.get c) (nH:hk.nx≤H.nx) (hlo:h.nx≤lo) (N:zV hk lo hi x r l t) (hhi:hi≤hk.nx) (s:PSt m hk p b ts E k') (wp:H.wm≤p):
  ∃ v h',X=some (v,h')∧zbL m h p b ts E (.ok t k') v h':=by
 have F':Fr h H p:=⟨nT F.nx nH,fun c hc hcp=>(gH c (nU hc F.nx) (.inl hc)).trans (F.get c hc hcp)⟩
 have hpk:p < hk.nx:=nU s0.lt F.nx
 refine⟨_,_,ur e (by have:=s0.lt;omega),F'.wm _,Nat.min_le_left _ _,x,r,l,rfl,?_,(s0.fr F' ((gH p hpk (.inl s0.lt)).trans s.pp) s.kT).wm,nT (Nat.min_le_right _ _) wp⟩
 exact N.mono (g:={H with wm:=min h.wm H.wm}) hlo (by show hi≤H.nx;omega) fun c o h1 _ e=>(gH c (za e) (.inr h1)).trans e
theorem vo{k' lo l:Nat}{x:Hd}{r:OA}{t:Tr}{X:Option (Value×Heap)}{H hk:Heap}(e:X=some (zy h (.tuple #[ndV x r l,.nilIface]) H))(s0:PSt m h p b ts E k)(F:Fr h.fh hk p)
  (gH:∀ c,c < hk.nx→c < h.nx∨lo≤c→H.get c=hk.get c) (nH:hk.nx≤H.nx) (_hlo:h.nx≤lo) (N:zV H h.nx H.nx x r l t) (s:PSt m hk p b ts E k') (wp:H.wm≤p):
  ∃ v h',X=some (v,h')∧zbL m h p b ts E (.ok t k') v h':=by
 have F':Fr h H p:=⟨nT F.nx nH,fun c hc hcp=>(gH c (nU hc F.nx) (.inl hc)).trans (F.get c hc hcp)⟩
 have hpk:p < hk.nx:=nU s0.lt F.nx
 refine⟨_,_,ur e (by have:=s0.lt;omega),F'.wm _,Nat.min_le_left _ _,x,r,l,rfl,?_,(s0.fr F' ((gH p hpk (.inl s0.lt)).trans s.pp) s.kT).wm,nT (Nat.min_le_right _ _) wp⟩
 exact zV.mono (h:=H) (g:={H with wm:=min h.wm H.wm}) (nL_ _) (nL_ _) (fun c o _ _ e=>e) N
def wT(m:Int)(p b:Nat)(ts:List Tk)(E:Nat)(N:Nat)(f:FuncId)(d:Nat)(R:PR):Prop:=
 ∀ n h k,N≤n→PSt m h p b ts E k→∃ v h',RD n f [pv p 0,iv (d:Int)] h=some (v,h')∧zbL m h p b ts E (R k) v h'
end
section
variable {m:Int} {p b:Nat} {ts:List Tk} {E:Nat}
theorem zlh{f g:PR}{d N:Nat}(hd:d≤40)(hf:wT m p b ts E N 239 d f)(hg:wT m p b ts E N 231 (d+1) g)(hN:3≤N):wT m p b ts E (N+1) 231 d (ub ts f g):=by
 intro n h k hn s
 obtain⟨n,rfl⟩:=zs_ n
 have K0:Kp h.fh (al h.fh 72 z72):=(Kp.refl _).al 72 z72
 have e0:=ze0 (al h.fh 72 z72) d n (by omega) hd
 have hp:=s.lt
 obtain⟨v1,h1,e1,F1,_,R1⟩:=hf n _ k (by omega) (s.fh.kp K0)
 have l1:h.nx < h1.nx:=F1.nx
 have g1:h1.get h.nx=some (.row 72 z72 0 false):=(F1.get h.nx (nS _) (by omega)).trans (zb h.fh _)
 have T1:=(K0.fr p).trans F1
 unfold ub
 cases hu:f k with
 |err pos c=>
  rw[hu] at R1
  obtain⟨q,k',rfl,hq,gq,s1⟩:=R1
  obtain⟨H,e,g,nx,_⟩:=zwj h h1 p d q n g1 l1 e0 e1
  exact zN (lo:=h.nx+1) e s T1 (fun c hc hd=>g c hc (by omega)) (by omega) (by omega) hq gq s1
 |ok t k1=>
  rw[hu] at R1
  obtain⟨x,r,l,rfl,N1,s1,wp⟩:=R1
  have K1:Kp h1 (pt (al h1 72 z72) h1.nx 72 (ndL x r l)):=((Kp.refl h1).al _ _).pt _ _ (nL_ _) (nS _)
  obtain⟨v2,h2,e2,S2⟩:=qh (ops:=[[94]]) (s1.kp (K1.al 9 [.string ⟨#[94]⟩])) n (by omega) (zb _ _) (by decide)
  unfold uW at S2
  simp only
  cases hs:sg ts [[94]] k1 with
  |none=>
   rw[hs] at S2
   obtain⟨rfl,rfl⟩:=S2
   obtain⟨H,e,g,nx,wm,_⟩:=zty h h1 p d n x r l g1 l1 e0 e1 e2
   exact qY (lo:=h.nx+1) e s T1 (fun c hc hd=>g c hc (by omega)) (by omega) (by omega) N1 (nL_ _) s1 (by omega)
  |some sn=>
   rw[hs] at S2
   obtain⟨rfl,F2,n2,s2,w2,wp2⟩:=S2
   have n2':h2.nx=h1.nx+2:=n2
   obtain⟨v3,h3,e3,F3,w3,R3⟩:=hg n h2 (k1+1) (by omega) s2
   have F13:Fr h1 h3 p:=(((K1.al 9 [.string ⟨#[94]⟩]).fr p).trans F2).trans F3
   have l3:h1.nx+2≤h3.nx:=by have:=F3.nx;rw[n2] at this;exact this
   have gx:h3.get h1.nx=some (.row 72 (ndL x r l) 0 false):=by
    refine(F3.get _ (by rw[n2];show h1.nx < h1.nx+1+1;omega) (by omega)).trans ((F2.get _ (by show h1.nx < h1.nx+1+1;omega) (by omega)).trans ((zm _ _ (by show h1.nx < h1.nx+1;omega)).trans (zi _ _ _ (nS _))))
   have g3:h3.get h.nx=some (.row 72 z72 0 false):=(F13.get _ l1 (by omega)).trans g1
   have T3:=T1.trans F13
   simp only
   cases hg2:g (k1+1) with
   |err pos c=>
    rw[hg2] at R3
    obtain⟨q,k',rfl,hq,gq,s3⟩:=R3
    obtain⟨H,e,g,nx,_⟩:=zwi h h1 h2 h3 p d q n sn x r l g3 gx (by omega) (by omega) (by omega) e0 e1 e2 e3
    exact zN (lo:=h.nx+1) e s T3 (fun c hc hd=>g c hc (by omega)) (by omega) (by omega) (by omega) gq s3
   |ok u k2=>
    rw[hg2] at R3
    obtain⟨y,r3,l3',rfl,N3,s3,wp3⟩:=R3
    have K3:Kp h3 (pt (al h3 72 z72) h3.nx 72 (ndL y r3 l3')):=((Kp.refl h3).al _ _).pt _ _ (nL_ _) (nS _)
    have Nx:=(N1.fr (lo':=h.nx+1) (hi':=h3.nx) F13 (by show p < h.nx+1;omega) (nL_ _) (by omega)).kp K3 (nL_ _) (nL_ _)
    have Ny:=N3.kp (lo':=h.nx+1) (hi':=h3.nx) K3 (by omega) (nL_ _)
    obtain⟨h4,q,e4,K4,N4⟩:=zhI [94] n (by omega) Nx Ny (by show h.nx+1≤h3.nx+1;omega) (by show h3.nx≤h3.nx+1;omega)
    have K34:=K3.trans K4
    obtain⟨H,e,g,nx,wm,_⟩:=zwh h h1 h2 h3 h4 p d n sn x r l y r3 l3' (zg 5 [94]) (some ⟨q,0,none⟩) 2 g3 gx (by omega) (by omega) ((K34.get _ (by omega)).trans g3) (by have:=K34.nx;omega) (by omega) e0 e1 e2 e3 e4
    have hsn:sn=[94]:=by
     unfold sg at hs
     split at hs
     ·split at hs
      next hc=>simp only[sJ] at hs;rw[← hs];simpa using hc.2
      ·cases hs
     ·cases hs
    rw[hsn]
    exact qY (lo:=h.nx+1) e s (T3.trans (K34.fr p)) (fun c hc hd=>g c hc (by omega)) (by omega) (by omega) N4 (nL_ _) (s3.kp K34) (by have:=K34.wm;omega)
theorem zhz{f:PR}{d N:Nat}(hd:d≤40)(hf:wT m p b ts E N 199 d f)(hN:3≤N):wT m p b ts E (N+1) 176 d (vr ts f):=by
 intro n h k hn s
 obtain⟨n,rfl⟩:=zs_ n
 have K0:Kp h.fh (al h.fh 72 z72):=(Kp.refl _).al 72 z72
 have e0:=ze0 (al h.fh 72 z72) d n (by omega) hd
 have hp:=s.lt
 obtain⟨v1,h1,e1,F1,_,R1⟩:=hf n _ k (by omega) (s.fh.kp K0)
 have l1:h.nx < h1.nx:=F1.nx
 have g1:h1.get h.nx=some (.row 72 z72 0 false):=(F1.get h.nx (nS _) (by omega)).trans (zb h.fh _)
 have T1:=(K0.fr p).trans F1
 unfold vr
 cases hu:f k with
 |err pos c=>
  rw[hu] at R1
  obtain⟨q,k',rfl,hq,gq,s1⟩:=R1
  obtain⟨H,e,g,nx,_⟩:=zxj h h1 p d q n g1 l1 e0 e1
  exact zN (lo:=h.nx+1) e s T1 (fun c hc hd=>g c hc (by omega)) (by omega) (by omega) hq gq s1
 |ok t k1=>
  rw[hu] at R1
  obtain⟨x,r,l,rfl,N1,s1,wp⟩:=R1
  have K1:Kp h1 (pt (al h1 72 z72) h1.nx 72 (ndL x r l)):=((Kp.refl h1).al _ _).pt _ _ (nL_ _) (nS _)
  obtain⟨v2,h2,e2,S2⟩:=qh (ops:=[[61],[60,62],[60],[60,61],[62],[62,61]]) (s1.kp (K1.al 9 [.string ⟨#[61]⟩,.string ⟨#[60,62]⟩,.string ⟨#[60]⟩,.string ⟨#[60,61]⟩,.string ⟨#[62]⟩,.string ⟨#[62,61]⟩])) n (by omega) (zb _ _) (by decide)
  unfold uW at S2
  simp only
  cases hs:sg ts [[61],[60,62],[60],[60,61],[62],[62,61]] k1 with
  |none=>
   rw[hs] at S2
   obtain⟨rfl,rfl⟩:=S2
   obtain⟨H,e,g,nx,wm,_⟩:=zui h h1 p d n x r l g1 l1 e0 e1 e2
   exact qY (lo:=h.nx+1) e s T1 (fun c hc hd=>g c hc (by omega)) (by omega) (by omega) N1 (nL_ _) s1 (by omega)
  |some sn=>
   rw[hs] at S2
   obtain⟨rfl,F2,n2,s2,w2,wp2⟩:=S2
   have n2':h2.nx=h1.nx+2:=n2
   obtain⟨v3,h3,e3,F3,w3,R3⟩:=hf n h2 (k1+1) (by omega) s2
   have F13:Fr h1 h3 p:=(((K1.al 9 [.string ⟨#[61]⟩,.string ⟨#[60,62]⟩,.string ⟨#[60]⟩,.string ⟨#[60,61]⟩,.string ⟨#[62]⟩,.string ⟨#[62,61]⟩]).fr p).trans F2).trans F3
   have l3:h1.nx+2≤h3.nx:=by have:=F3.nx;rw[n2] at this;exact this
   have gx:h3.get h1.nx=some (.row 72 (ndL x r l) 0 false):=by
    refine(F3.get _ (by rw[n2];show h1.nx < h1.nx+1+1;omega) (by omega)).trans ((F2.get _ (by show h1.nx < h1.nx+1+1;omega) (by omega)).trans ((zm _ _ (by show h1.nx < h1.nx+1;omega)).trans (zi _ _ _ (nS _))))
   have g3:h3.get h.nx=some (.row 72 z72 0 false):=(F13.get _ l1 (by omega)).trans g1
   have T3:=T1.trans F13
   simp only
   cases hg2:f (k1+1) with
   |err pos c=>
    rw[hg2] at R3
    obtain⟨q,k',rfl,hq,gq,s3⟩:=R3
    obtain⟨H,e,g,nx,_⟩:=zxi h h1 h2 h3 p d q n sn x r l g3 gx (by omega) (by omega) e0 e1 e2 e3
    exact zN (lo:=h.nx+1) e s T3 (fun c hc hd=>g c hc (by omega)) (by omega) (by omega) (by omega) gq s3
   |ok u k2=>
    rw[hg2] at R3
    obtain⟨y,r3,l3',rfl,N3,s3,wp3⟩:=R3
    have K3:Kp h3 (pt (al h3 72 z72) h3.nx 72 (ndL y r3 l3')):=((Kp.refl h3).al _ _).pt _ _ (nL_ _) (nS _)
    have Nx:=(N1.fr (lo':=h.nx+1) (hi':=h3.nx) F13 (by show p < h.nx+1;omega) (nL_ _) (by omega)).kp K3 (nL_ _) (nL_ _)
    have Ny:=N3.kp (lo':=h.nx+1) (hi':=h3.nx) K3 (by omega) (nL_ _)
    obtain⟨h4,q,e4,K4,N4⟩:=zhI sn n (by omega) Nx Ny (by show h.nx+1≤h3.nx+1;omega) (by show h3.nx≤h3.nx+1;omega)
    have K34:=K3.trans K4
    obtain⟨H,e,g,nx,wm,_⟩:=zxh h h1 h2 h3 h4 p d n sn x r l y r3 l3' (zg 5 sn) (some ⟨q,0,none⟩) 2 g3 gx (by omega) (by omega) ((K34.get _ (by omega)).trans g3) (by have:=K34.nx;omega) e0 e1 e2 e3 e4
    exact qY (lo:=h.nx+1) e s (T3.trans (K34.fr p)) (fun c hc hd=>g c hc (by omega)) (by omega) (by omega) N4 (nL_ _) (s3.kp K34) (by have:=K34.wm;omega)
theorem zkA{f g:PR}{d N:Nat}(hd:d≤40)(hf:wT m p b ts E N 248 d f)(hg:wT m p b ts E N 239 (d+1) g)(hN:3≤N):wT m p b ts E (N+1) 239 d (unP ts f g):=by
 intro n h k hn s
 obtain⟨n,rfl⟩:=zs_ n
 have K0:Kp h.fh (al (al h.fh 72 z72) 9 [.string ⟨#[45]⟩]):=((Kp.refl _).al 72 z72).al _ _
 have e0:=ze0 (al h.fh 72 z72) d n (by omega) hd
 have hp:=s.lt
 have s0:=s.fh.kp K0
 have g0:(al (al h.fh 72 z72) 9 [.string ⟨#[45]⟩]).get h.nx=some (.row 72 z72 0 false):=(zm _ _ (nS _)).trans (zb h.fh _)
 obtain⟨v1,h1,e1,S1⟩:=qh (ops:=[[45]]) s0 n (by omega) (zb _ _) (by decide)
 unfold uW at S1
 unfold unP
 cases hs:sg ts [[45]] k with
 |none=>
  rw[hs] at S1
  obtain⟨rfl,rfl⟩:=S1
  obtain⟨v2,h2,e2,F2,_,R2⟩:=hf n _ k (by omega) s0
  have l2:h.nx+2≤h2.nx:=F2.nx
  have g2:h2.get h.nx=some (.row 72 z72 0 false):=(F2.get h.nx (by show h.nx < h.nx+1+1;omega) (by omega)).trans g0
  have T2:=(K0.fr p).trans F2
  simp only
  cases hu:f k with
  |err pos c=>
   rw[hu] at R2
   obtain⟨q,k',rfl,hq,gq,s2⟩:=R2
   have hq':h.nx+2≤q:=hq
   obtain⟨H,e,g,nx,_⟩:=zsy h h2 p d q n g2 (by omega) e0 e1 e2
   exact zN (lo:=h.nx+1) e s T2 (fun c hc hd=>g c hc (by omega)) (by omega) (by omega) (by omega) gq s2
  |ok t k1=>
   rw[hu] at R2
   obtain⟨x,r,l,rfl,N2,s2,wp⟩:=R2
   obtain⟨H,e,g,nx,wm,_⟩:=zsx h h2 p d n x r l g2 (by omega) e0 e1 e2
   exact qY (lo:=h.nx+2) e s T2 (fun c hc hd=>g c hc (by omega)) (by omega) (by omega) N2 (nL_ _) s2 (by omega)
 |some sn=>
  rw[hs] at S1
  obtain⟨rfl,F1,n1,s1,w1,wp1⟩:=S1
  have n1':h1.nx=h.nx+2:=n1
  obtain⟨v2,h2,e2,F2,_,R2⟩:=hg n h1 (k+1) (by omega) s1
  have l2:h.nx+2≤h2.nx:=by have:=F2.nx;omega
  have g2:h2.get h.nx=some (.row 72 z72 0 false):=(F2.get h.nx (by omega) (by omega)).trans ((F1.get h.nx (by show h.nx < h.nx+1+1;omega) (by omega)).trans g0)
  have T2:=((K0.fr p).trans F1).trans F2
  simp only
  cases hu:g (k+1) with
  |err pos c=>
   rw[hu] at R2
   obtain⟨q,k',rfl,hq,gq,s2⟩:=R2
   obtain⟨H,e,g,nx,_⟩:=zvq h h1 h2 p d q n sn g2 (by omega) (by omega) e0 e1 e2
   exact zN (lo:=h.nx+1) e s T2 (fun c hc hd=>g c hc (by omega)) (by omega) (by omega) (by omega) gq s2
  |ok t k1=>
   rw[hu] at R2
   obtain⟨x,r,l,rfl,N2,s2,wp⟩:=R2
   obtain⟨H,e,g,nx,wm,_,w⟩:=zsz h h1 h2 p d n sn x r l g2 (by omega) (by omega) e0 e1 e2
   have gN:∀ c,c < h2.nx→c < h.nx∨h.nx+1≤c→H.get c=h2.get c:=fun c hc hd=>g c hc (by omega)
   refine vo (x:=zg 4 []) (r:=some ⟨h2.nx+1,0,none⟩) (l:=1) e s T2 gN (by omega) (by omega) ?_ s2 (by omega)
   refine zV.mk (ts:=[t]) (es:=0) (ro:=false) (cs:=ndL x r l) _ (by omega) (by omega) w ?_
   unfold ArgsC
   refine⟨x,r,l,[],by rw[List.append_nil],N2.mono (by omega) (by omega) fun c o h1 _ e=>(gN c (za e) (by omega)).trans e,?_⟩
   unfold ArgsC;rfl
end
noncomputable def CF(n F:Nat)(a:Vs)(h:Heap):Option (Value×Heap):=match En.fn F with
 |some _=>RD n F a h
 |none=>match En.ext F with
  |some x=>x.run a h
  |none=>none
noncomputable section
abbrev ziK(p d F q B8 B10:Nat):List (Nat×Value):=[(0,pv p 0),(1,iv (d:Int)),(2,.func (.func F) #[pv p 0] #[]),(3,sv q 0 3 3),(8,pv B8 0),(10,pv B10 0),(11,.nilIface)]
abbrev zsi(p d F q:Nat)(h:Heap)(x:Hd)(xr:OA)(xn:Nat)(h1:Heap):List (Nat×Value):=[(0,pv p 0),(1,iv (d:Int)),(2,.func (.func F) #[pv p 0] #[]),(3,sv q 0 3 3),(8,pv h.nx 0),(9,.nilIface),(16,.func (.func F) #[pv p 0] #[]),(17,iv (d:Int)),(18,.tuple #[ndV x xr xn,.nilIface]),(15,.tuple #[ndV x xr xn,.nilIface]),(19,ndV x xr xn),(20,.nilIface),(10,pv h1.nx 0),(11,.nilIface)]
abbrev zmt(p d F q:Nat):Vs:=[pv p 0,iv (d:Int),.func (.func F) #[pv p 0] #[],sv q 0 3 3]
abbrev zsh(p d F q B8 B10 e:Nat):List (Nat×Value):=[(0,pv p 0),(1,iv (d:Int)),(2,.func (.func F) #[pv p 0] #[]),(3,sv q 0 3 3),(8,pv B8 0),(10,pv B10 0),(11,.iface 242 (pv e 0))]
abbrev zgc(p d:Nat):Vs:=[pv p 0,iv (d:Int)]
variable (F:Nat) (h h1 h2 hL:Heap) (p d q B8 B10 e n:Nat) (s:Bsy) (x:Hd) (xr:OA) (xn:Nat) (y:Hd) (yr:OA) (yn:Nat)
theorem zk6:Bd n 46 [1,1,0,0,0] Tryz.f223 (zsh p d F q B8 B10 e) h (.exit 0) [(8,pv B8 0),(11,.iface 242 (pv e 0))] h:=
 bdF (kZ h) [bF,.z 0]
theorem zqs(_l8:B8 < h.nx)(g8:h.get B8=some (.row 72 z72 0 false))(g10:h.get B10=some (.row 72 (ndL x xr xn) 0 false))(a0:Pu n 200 [pv p 0,sv q 0 3 3] (.tuple #[.string ⟨#[]⟩,.bool false]) h):∃ H,Bd n 46 [1,1,0,0,0] Tryz.f223 (ziK p d F q B8 B10) h .ret [(8,pv B8 0),(9,.nilIface)] H∧tw1 h h.wm B8 h.nx H (H.get B8=some (.row 72 (ndL x xr xn) 0 false)):=
 bdE (kI (ko g10)) [bT,yP a0,.g 0 72 0 10,.s (kI (ko g8)),.w 0 72 0 (ndV x xr xn),.z 0] [0]
theorem ztc(g14:h2.get h1.nx=some (.row 72 z72 0 false))(_l:h1.nx < h2.nx)(a0:RD n 200 [pv p 0,sv q 0 3 3] h=some (.tuple #[.string ⟨⟨s⟩⟩,.bool true],h1))(a1:CF n F (zgc p d) (al h1 72 z72)=some (.tuple #[zj,.iface 242 (pv e 0)],h2)):∃ H,Bd n 46 [1,1,0,0,0] Tryz.f223 (ziK p d F q B8 B10) h .normal (zsh p d F q B8 B10 e) H∧tl1 h2 h2.wm h1.nx h2.nx H:=
 bdE (kZ h) [bT,yC a0 (kZ h1),aS 72 z72,yC a1 (kI (ko g14)),.w 0 72 0 (zj),bF,.z 0] []
theorem zvY(h3:Heap)(p d q B8 B10 n:Nat)(s:Bsy)(x:Hd)(xr:OA)(xn:Nat)(y:Hd)(yr:OA)(yn:Nat)(w:Hd)(wr:OA)(wn:Nat)(g14:h2.get h1.nx=some (.row 72 z72 0 false))(_l:h1.nx < h2.nx)(_l10:B10 < h1.nx)(g10:h2.get B10=some (.row 72 (ndL x xr xn) 0 false))(g10b:h3.get B10=some (.row 72 (ndL x xr xn) 0 false))(_l3:B10 < h3.nx)(a0:RD n 200 [pv p 0,sv q 0 3 3] h=some (.tuple #[.string ⟨⟨s⟩⟩,.bool true],h1))(a1:CF n F (zgc p d) (al h1 72 z72)=some (.tuple #[ndV y yr yn,.nilIface],h2))(a2:RD n 201 [.string ⟨⟨s⟩⟩,ndV x xr xn,ndV y yr yn] (pt h2 h1.nx 72 (ndL y yr yn))=some (ndV w wr wn,h3)):∃ H,Bd n 46 [1,1,0,0,0] Tryz.f223 (ziK p d F q B8 B10) h .normal (ziK p d F q B8 B10) H∧tw1 h3 h3.wm B10 h3.nx H (H.get B10=some (.row 72 (ndL w wr wn) 0 false)):=
 bdE (kZ h) [bT,yC a0 (kZ h1),aS 72 z72,yC a1 (kJ (ko g14) (ko g10)),.w 0 72 0 (ndV y yr yn),bT,.g 1 72 0 10,.g 0 72 0 10,yC a2 (kI (ko g10b)),.w 0 72 0 (ndV w wr wn),.z 0] [0]
theorem zvX(g1:h1.get h.nx=some (.row 72 z72 0 false))(_l1:h.nx < h1.nx)(gL:hL.get h.nx=some (.row 72 z72 0 false))(_lL:h.nx < hL.nx)(a0:CF n F (zgc p d) (al h.fh 72 z72)=some (.tuple #[zj,.iface 242 (pv e 0)],h1))(a1:Lf n 46 [1,1,0,0,0] Tryz.f223 [(0,pv p 0),(1,iv (d:Int)),(2,.func (.func F) #[pv p 0] #[]),(3,sv q 0 3 3),(8,pv h.nx 0),(9,.nilIface),(16,.func (.func F) #[pv p 0] #[]),(17,iv (d:Int)),(18,.tuple #[zj,.iface 242 (pv e 0)]),(15,.tuple #[zj,.iface 242 (pv e 0)]),(19,zj),(20,.iface 242 (pv e 0)),(10,pv h1.nx 0),(11,.iface 242 (pv e 0))] (pt (al h1 72 z72) h1.nx 72 z72) (.exit 0) [(8,pv h.nx 0),(11,.iface 242 (pv e 0))] hL):∃ H,Fn n 223 (zmt p d F q) h (.tuple #[zj,.iface 242 (pv e 0)]) H∧tl1 hL hL.wm h.nx hL.nx H:=
 exT (kZ h) [aS 72 z72,yC a0 (kZ h1),aS 72 z72,.w 0 72 0 (zj),yS a1 (kI (ko gL)),.w 0 72 0 (zj),.r 0 72 10,.z 1] []
theorem zvV(g1:h1.get h.nx=some (.row 72 z72 0 false))(_l1:h.nx < h1.nx)(gL:hL.get h.nx=some (.row 72 z72 0 false))(_lL:h.nx < hL.nx)(a0:CF n F (zgc p d) (al h.fh 72 z72)=some (.tuple #[ndV x xr xn,.nilIface],h1))(a1:Lf n 46 [1,1,0,0,0] Tryz.f223 (zsi p d F q h x xr xn h1) (pt (al h1 72 z72) h1.nx 72 (ndL x xr xn)) (.exit 0) [(8,pv h.nx 0),(11,.iface 242 (pv e 0))] hL):∃ H,Fn n 223 (zmt p d F q) h (.tuple #[zj,.iface 242 (pv e 0)]) H∧tl1 hL hL.wm h.nx hL.nx H:=
 exT (kZ h) [aS 72 z72,yC a0 (kZ h1),aS 72 z72,.w 0 72 0 (ndV x xr xn),yS a1 (kI (ko gL)),.w 0 72 0 (zj),.r 0 72 10,.z 1] []
theorem zvW(g1:h1.get h.nx=some (.row 72 z72 0 false))(_l1:h.nx < h1.nx)(gL:hL.get h.nx=some (.row 72 (ndL y yr yn) 0 false))(_lL:h.nx < hL.nx)(a0:CF n F (zgc p d) (al h.fh 72 z72)=some (.tuple #[ndV x xr xn,.nilIface],h1))(a1:Lf n 46 [1,1,0,0,0] Tryz.f223 (zsi p d F q h x xr xn h1) (pt (al h1 72 z72) h1.nx 72 (ndL x xr xn)) .ret [(8,pv h.nx 0),(9,.nilIface)] hL):Fn n 223 (zmt p d F q) h (.tuple #[ndV y yr yn,.nilIface]) hL:=
 fnT (kZ h) [aS 72 z72,yC a0 (kZ h1),aS 72 z72,.w 0 72 0 (ndV x xr xn),yS a1 (kI (ko gL)),.r 0 72 10,.z 1]
end
section
variable {m:Int} {h:Heap} {p b:Nat} {ts:List Tk} {E k:Nat}
theorem PSt.away{g:Heap}{B es:Nat}{cs:Vs}(s:PSt m h p b ts E k)(hg:∀ c,c < h.nx→c≠B→g.get c=h.get c)(hn:h.nx≤g.nx)(hB:h.get B=some (.row 72 cs es false))(h6:6≤B):PSt m g p b ts E k:=by
 have hpB:p≠B:=by
  rintro rfl
  have:=s.pp
  rw[hB] at this
  cases this
 refine⟨s.gl.fr (p:=B) ⟨hn,hg⟩ h6,s.p6,(hg p s.lt hpB).trans s.pp,s.tk.imp id fun h1=>(hg b (za h1) ?_).trans h1,s.kT,s.tT⟩
 rintro rfl
 rw[hB] at h1
 cases h1
end
theorem cf{n F:Nat}{a:Vs}{h:Heap}(hF:(En.fn F).isSome=true):CF n F a h=RD n F a h:=by
 unfold CF
 cases e:En.fn F with
 |none=>rw[e] at hF;cases hF
 |some _=>rfl
section
variable {m:Int} {p b:Nat} {ts:List Tk} {E:Nat}
abbrev zkl(F p d q B8 B10:Nat)(e:Value):List (Nat×Value):=[(0,pv p 0),(1,iv (d:Int)),(2,.func (.func F) #[pv p 0] #[]),(3,sv q 0 3 3),(8,pv B8 0),(10,pv B10 0),(11,e)]
theorem zqt{F:Nat}(hF:(En.fn F).isSome=true){f:PR}{d N:Nat}{ops:List (Bsy)}(hops:ops.length=3)(hf:wT m p b ts E N F d f)(hp:jr ts f)(hN:3≤N)(n:Nat)(hn:N≤n)(q B8 B10 lo:Nat)(hB:B8 < B10)(hlo:B8 < lo)(hpB:p < B8)(hqB:q < B8)(hqp:q≠p):
  ∀ (i k:Nat) (t:Tr) (x:Hd) (r:OA) (l:Nat) (h:Heap),ts.length - k < i→lo≤h.nx→PSt m h p b ts E k→zc h (fun c=>lo≤c∧c≠B10) x r l t→h.get B8=some (.row 72 z72 0 false)→h.get B10=some (.row 72 (ndL x r l) 0 false)→
   h.get q=some (.row 9 (ops.map fun s=>.string ⟨⟨s⟩⟩) 0 false)→h.wm≤p→
   ∃ hL R,R≤i+2∧h.nx≤hL.nx∧(∀ c,c < B8→c≠p→hL.get c=h.get c)∧hL.wm≤h.wm∧
    match qv ts ops f i t k with
    | .ok t' k'=>∃ x' r' l',Loops En (RD n) 46 18446744073709551616 (sub [1,1,0,0,0] (zp Tryz.f223)) (zkl F p d q B8 B10 .nilIface) h .ret [(8,pv B8 0),(9,.nilIface)] hL R∧hL.get B8=some (.row 72 (ndL x' r' l') 0 false)∧zc hL (fun c=>lo≤c∧c≠B10) x' r' l' t'∧PSt m hL p b ts E k'
    | .err pos c=>∃ e k',Loops En (RD n) 46 18446744073709551616 (sub [1,1,0,0,0] (zp Tryz.f223)) (zkl F p d q B8 B10 .nilIface) h (.exit 0) [(8,pv B8 0),(11,.iface 242 (pv e 0))] hL R∧hL.get B8=some (.row 72 z72 0 false)∧lo≤e∧hL.get e=some (.row 245 [.int .i64 (pos:Int),.int .i64 (c:Int)] 0 false)∧PSt m hL p b ts E k':=by
 intro i
 induction i with
 |zero=>intro k t x r l h hk;omega
 |succ i ih=>
  intro k t x r l h hk hnx s Nx g8 g10 gq hw
  have h6:=s.p6
  obtain⟨v1,h1,e1,S1⟩:=qh (ops:=ops) s n (by omega) gq (by omega)
  rw[hops] at e1
  unfold uW at S1
  simp only[qv]
  cases hs:sg ts ops k with
  |none=>
   rw[hs] at S1
   obtain⟨rfl,rfl⟩:=S1
   obtain⟨H,e,g,nx,wm,_,w⟩:=zqs F h1 p d q B8 B10 n x r l (by omega) g8 g10 e1
   refine⟨H,1,by omega,by omega,fun c hc _=>g c (by omega) (by omega),wm,x,r,l,.ret e,w,?_,?_⟩
   ·exact Nx.mono fun c o hc e=>⟨hc,(g c (za e) (by omega)).trans e⟩
   ·exact s.away (fun c hc hn=>g c hc hn) (by omega) g8 (by omega)
  |some sn=>
   rw[hs] at S1
   obtain⟨rfl,F1,n1,s1,w1,wp1⟩:=S1
   have K1:Kp h1 (al h1 72 z72):=(Kp.refl h1).al _ _
   obtain⟨v2,h2,e2,F2,w2,R2⟩:=hf n _ (k+1) hn (s1.kp K1)
   have e2:=(cf hF).trans e2
   have l2:h1.nx < h2.nx:=F2.nx
   have g14:h2.get h1.nx=some (.row 72 z72 0 false):=(F2.get _ (nS _) (by omega)).trans (zb _ _)
   have T2:Fr h h2 p:=(F1.trans (K1.fr p)).trans F2
   have w2':h2.wm≤h.wm:=nT w2 w1
   simp only
   cases hu:f (k+1) with
   |err pos c=>
    rw[hu] at R2
    obtain⟨e,k',rfl,hq,ge,s2⟩:=R2
    have hq':h1.nx+1≤e:=hq
    obtain⟨H,eb,g,nx,wm,_⟩:=ztc F h h1 h2 p d q B8 B10 e n sn g14 l2 e1 e2
    refine⟨H,2,by omega,by have:=T2.nx;omega,fun c hc hcp=>(g c (by have:=T2.nx;omega) (by omega)).trans (T2.get c (by omega) hcp),by omega,e,k',.on eb (.out (zk6 F H p d q B8 B10 e n)),?_,by omega,?_,?_⟩
    ·exact(g B8 (by omega) (by omega)).trans ((T2.get B8 (by omega) (by omega)).trans g8)
    ·exact(g e (za ge) (by omega)).trans ge
    ·exact s2.away (fun c hc hn=>g c hc hn) (by omega) g14 (by omega)
   |ok u k1=>
    rw[hu] at R2
    obtain⟨y,yr,yl,rfl,Ny,s2,wp2⟩:=R2
    have hk1:=hp _ _ _ hu
    have K2:Kp h2 h2:=Kp.refl h2
    have hB10:=za g10
    have gx2:h2.get B10=some (.row 72 (ndL x r l) 0 false):=(T2.get B10 (by omega) (by omega)).trans g10
    have Nx2:zc (pt h2 h1.nx 72 (ndL y yr yl)) (fun c=>lo≤c∧c≠B10) x r l t:=Nx.mono fun c o hc e=>⟨hc,(zf _ _ _ _ l2 (by have:=za e;omega)).trans ((T2.get c (za e) (by omega)).trans e)⟩
    have Ny2:zc (pt h2 h1.nx 72 (ndL y yr yl)) (fun c=>lo≤c∧c≠B10) y yr yl u:=zc.mono (h:=h2) (P:=fun c=>h1.nx+1≤c∧c < h2.nx) (t:=u) (fun c o hc e=>by
     have hc1:h1.nx+1≤c:=hc.1
     exact⟨⟨by omega,by omega⟩,(zf _ _ _ _ l2 (by omega)).trans e⟩) Ny
    have l2':(pt h2 h1.nx 72 (ndL y yr yl)).nx=h2.nx:=rfl
    obtain⟨h3,e3,K3,N3,_⟩:=zgn (Q:=fun c=>lo≤c∧c≠B10) sn n (by omega) Nx2 Ny2 (fun c hc _=>hc) ⟨by omega,by omega⟩
    have g32:∀ c,c < h2.nx→c≠h1.nx→h3.get c=h2.get c:=fun c hc hn=>(K3.get c hc).trans (zf _ _ _ _ l2 hn)
    have l3:h2.nx≤h3.nx:=K3.nx
    have w3:h3.wm≤h2.wm:=by
     have:h3.wm≤(pt h2 h1.nx 72 (ndL y yr yl)).wm:=K3.wm
     rw[ze] at this;omega
    have gx3:=(g32 B10 (by omega) (by omega)).trans gx2
    obtain⟨H,eb,g,nx,wm,_,w⟩:=zvY F h h1 h2 h3 p d q B8 B10 n sn x r l y yr yl (zg 5 sn) (some ⟨h2.nx+3,0,none⟩) 2 g14 l2 (by omega) gx2 gx3 (by omega) e1 e2 e3
    have s3:PSt m h3 p b ts E k1:=s2.away g32 l3 g14 (by omega)
    have sH:PSt m H p b ts E k1:=s3.away (fun c hc hn=>g c hc hn) (by omega) gx3 (by omega)
    have NH:zc H (fun c=>lo≤c∧c≠B10) (zg 5 sn) (some ⟨h2.nx+3,0,none⟩) 2 (vM sn t u):=N3.mono fun c o hc e=>⟨hc,(g c (za e) hc.2).trans e⟩
    have gH:∀ c,c < B8→c≠p→H.get c=h.get c:=fun c hc hcp=>(g c (by have:=T2.nx;omega) (by omega)).trans ((g32 c (by have:=T2.nx;omega) (by omega)).trans (T2.get c (by omega) hcp))
    have g8H:H.get B8=some (.row 72 z72 0 false):=(g B8 (by omega) (by omega)).trans ((g32 B8 (by omega) (by omega)).trans ((T2.get B8 (by omega) (by omega)).trans g8))
    obtain⟨hL,R,hR,nL,gL,wL,RL⟩:=ih k1 (vM sn t u) (zg 5 sn) (some ⟨h2.nx+3,0,none⟩) 2 H (by omega) (by omega) sH NH g8H w ((gH q hqB hqp).trans gq) (by omega)
    refine⟨hL,R+1,by omega,by have:=T2.nx;omega,fun c hc hcp=>(gL c hc hcp).trans (gH c hc hcp),by omega,?_⟩
    simp only
    split at RL
    next t' k' e4=>
     obtain⟨x',r',l',L,a,c,d⟩:=RL
     exact⟨x',r',l',.on eb L,a,c,d⟩
    next pos c e4=>
     obtain⟨e,k',L,a,c,d,f⟩:=RL
     exact⟨e,k',.on eb L,a,c,d,f⟩
theorem zk5{F:Nat}(hF:(En.fn F).isSome=true){f:PR}{d N:Nat}{ops:List (Bsy)}(hops:ops.length=3)(hf:wT m p b ts E N F d f)(hp:jr ts f)(hN:3≤N)(n:Nat)(hn:N+1≤n)(h:Heap)(k q:Nat)(s:PSt m h p b ts E k)(gq:h.get q=some (.row 9 (ops.map fun s=>.string ⟨⟨s⟩⟩) 0 false)):
  ∃ v h',RD n 223 [pv p 0,iv (d:Int),.func (.func F) #[pv p 0] #[],sv q 0 3 3] h=some (v,h')∧zbL m h p b ts E (qM ts ops f k) v h':=by
 obtain⟨n,rfl⟩:=zs_ n
 have K0:Kp h.fh (al h.fh 72 z72):=(Kp.refl _).al 72 z72
 have hpl:=s.lt
 have hql:=za gq
 have hqp:q≠p:=by
  rintro rfl
  have:=s.pp
  rw[gq] at this
  cases this
 obtain⟨v1,h1,e1,F1,_,R1⟩:=hf n _ k (by omega) (s.fh.kp K0)
 have e1:=(cf hF).trans e1
 have l1:h.nx < h1.nx:=F1.nx
 have g1:h1.get h.nx=some (.row 72 z72 0 false):=(F1.get h.nx (nS _) (by omega)).trans (zb h.fh _)
 have T1:=(K0.fr p).trans F1
 unfold qM
 cases hu:f k with
 |err pos c=>
  rw[hu] at R1
  obtain⟨e,k',rfl,hq,ge,s1⟩:=R1
  have hq':h.nx+1≤e:=hq
  have K1:Kp h1 (pt (al h1 72 z72) h1.nx 72 z72):=((Kp.refl h1).al _ _).pt _ _ (nL_ _) (nS _)
  have L:Loops En (RD n) 46 18446744073709551616 (sub [1,1,0,0,0] (zp Tryz.f223)) (zkl F p d q h.nx h1.nx (.iface 242 (pv e 0))) (pt (al h1 72 z72) h1.nx 72 z72) (.exit 0) [(8,pv h.nx 0),(11,.iface 242 (pv e 0))] (pt (al h1 72 z72) h1.nx 72 z72) 1:=.out (zk6 F _ p d q h.nx h1.nx e n)
  obtain⟨H,eb,g,nx,_⟩:=zvX F h h1 _ p d q e n g1 l1 ((K1.get _ l1).trans g1) (nU l1 K1.nx) e1 (L.fact2 (by omega) (by kernel_rfl))
  exact zN (lo:=h.nx+1) eb s (T1.trans (K1.fr p)) (fun c hc hd=>g c hc (by omega)) (by omega) (by omega) (by omega) ((K1.get e (za ge)).trans ge) (s1.kp K1)
 |ok t k1=>
  rw[hu] at R1
  obtain⟨x,r,l,rfl,N1,s1,wp⟩:=R1
  have K1:Kp h1 (pt (al h1 72 z72) h1.nx 72 (ndL x r l)):=((Kp.refl h1).al _ _).pt _ _ (nL_ _) (nS _)
  have hq1:h1.get q=some (.row 9 (ops.map fun s=>.string ⟨⟨s⟩⟩) 0 false):=(F1.get q (by show q < h.nx+1;omega) hqp).trans ((K0.get q hql).trans gq)
  obtain⟨hL,R,hR,nL,gL,wL,RL⟩:=zqt hF hops hf hp hN n (by omega) q h.nx h1.nx (h.nx+1) l1 (by omega) hpl hql hqp 400 k1 t x r l (pt (al h1 72 z72) h1.nx 72 (ndL x r l)) (by have:=s.tT;omega) (by show h.nx+1≤h1.nx+1;omega) (s1.kp K1)
   (zc.mono (fun c o hc e=>⟨⟨hc.1,by have:=hc.2;omega⟩,(K1.get c (za e)).trans e⟩) N1) ((K1.get _ l1).trans g1) (zi _ _ _ (nS _)) ((K1.get q (by omega)).trans hq1) (nT K1.wm wp)
  have nL':h1.nx+1≤hL.nx:=nL
  have FL:Fr h.fh hL p:=⟨by show h.nx≤hL.nx;omega,fun c hc hcp=>(gL c hc hcp).trans ((K1.get c (by have:c < h.nx:=hc;omega)).trans (T1.get c hc hcp))⟩
  have hwL:hL.wm≤p:=nT wL (nT K1.wm wp)
  simp only
  split at RL
  next t' k' e4=>
   obtain⟨x',r',l',L,a,c,sL⟩:=RL
   rw[e4]
   have eb:=zvW F h h1 hL p d q n x r l x' r' l' g1 l1 a (by omega) e1 (L.fact2 (by omega) (by kernel_rfl))
   exact vo (lo:=h.nx) eb s FL (fun _ _ _=>rfl) (nL_ _) (nL_ _) (c.mono fun c o hc e=>⟨⟨by have:=hc.1;omega,za e⟩,e⟩) sL hwL
  next pos c e4=>
   obtain⟨e,k',L,a,c1,d1,sL⟩:=RL
   rw[e4]
   obtain⟨H,eb,g,nx,_⟩:=zvV F h h1 hL p d q e n x r l g1 l1 a (by omega) e1 (L.fact2 (by omega) (by kernel_rfl))
   exact zN (lo:=h.nx+1) eb s FL (fun c hc hd=>g c hc (by omega)) (by omega) (by omega) c1 d1 sL
end
section
variable {m:Int} {p b:Nat} {ts:List Tk} {E:Nat}
theorem zqe{f:PR}{d N:Nat}(hf:wT m p b ts E N 224 d f)(hp:jr ts f)(hN:3≤N):wT m p b ts E (N+2) 199 d (qM ts zaU f):=by
 intro n h k hn s
 obtain⟨n,rfl⟩:=zs_ n
 have K0:Kp h.fh (al (al h.fh 72 z72) 9 [.string ⟨#[43]⟩,.string ⟨#[45]⟩,.string ⟨#[38]⟩]):=((Kp.refl _).al 72 z72).al _ _
 have hpl:=s.lt
 obtain⟨v1,h1,e1,F1,_,R1⟩:=zk5 (by kernel_rfl) (ops:=zaU) rfl hf hp hN n (by omega) _ k (h.nx+1) (s.fh.kp K0) (zb _ _)
 have l1:h.nx+2≤h1.nx:=F1.nx
 have g1:h1.get h.nx=some (.row 72 z72 0 false):=(F1.get h.nx (by show h.nx < h.nx+1+1;omega) (by omega)).trans ((zm _ _ (nS _)).trans (zb h.fh _))
 have T1:=(K0.fr p).trans F1
 split at R1
 next t k' e=>
  obtain⟨x,r,l,rfl,N1,s1,wp⟩:=R1
  rw[e]
  obtain⟨H,eb,g,nx,wm,_⟩:=zvI h h1 p d n x r l g1 (by omega) e1
  exact qY (lo:=h.nx+2) eb s T1 (fun c hc hd=>g c hc (by omega)) (by omega) (by omega) N1 (nL_ _) s1 (by omega)
 next pos c e=>
  obtain⟨q,k',rfl,hq,gq,s1⟩:=R1
  rw[e]
  have hq':h.nx+2≤q:=hq
  obtain⟨H,eb,g,nx,_⟩:=zyU h h1 p d q n g1 (by omega) e1
  exact zN (lo:=h.nx+1) eb s T1 (fun c hc hd=>g c hc (by omega)) (by omega) (by omega) (by omega) gq s1
theorem zhv{f:PR}{d N:Nat}(hf:wT m p b ts E N 231 d f)(hp:jr ts f)(hN:3≤N):wT m p b ts E (N+2) 224 d (qM ts yb f):=by
 intro n h k hn s
 obtain⟨n,rfl⟩:=zs_ n
 have K0:Kp h.fh (al (al h.fh 72 z72) 9 [.string ⟨#[42]⟩,.string ⟨#[47]⟩,.string ⟨#[37]⟩]):=((Kp.refl _).al 72 z72).al _ _
 have hpl:=s.lt
 obtain⟨v1,h1,e1,F1,_,R1⟩:=zk5 (by kernel_rfl) (ops:=yb) rfl hf hp hN n (by omega) _ k (h.nx+1) (s.fh.kp K0) (zb _ _)
 have l1:h.nx+2≤h1.nx:=F1.nx
 have g1:h1.get h.nx=some (.row 72 z72 0 false):=(F1.get h.nx (by show h.nx < h.nx+1+1;omega) (by omega)).trans ((zm _ _ (nS _)).trans (zb h.fh _))
 have T1:=(K0.fr p).trans F1
 split at R1
 next t k' e=>
  obtain⟨x,r,l,rfl,N1,s1,wp⟩:=R1
  rw[e]
  obtain⟨H,eb,g,nx,wm,_⟩:=zwC h h1 p d n x r l g1 (by omega) e1
  exact qY (lo:=h.nx+2) eb s T1 (fun c hc hd=>g c hc (by omega)) (by omega) (by omega) N1 (nL_ _) s1 (by omega)
 next pos c e=>
  obtain⟨q,k',rfl,hq,gq,s1⟩:=R1
  rw[e]
  have hq':h.nx+2≤q:=hq
  obtain⟨H,eb,g,nx,_⟩:=zzX h h1 p d q n g1 (by omega) e1
  exact zN (lo:=h.nx+1) eb s T1 (fun c hc hd=>g c hc (by omega)) (by omega) (by omega) (by omega) gq s1
def ziW(ts:List Tk)(E:Nat)(f:PR):PR:=fun k=>
 match f k with
 | .err p c=>.err p c
 | .ok t k1=>
  match sg ts [[41]] k1 with
  |some _=>.ok t (k1+1)
  |none=>jO ts E k1
theorem ziV{f:PR}{d N:Nat}(hd:d≤40)(hf:wT m p b ts E N 176 (d+1) f)(hN:3≤N):wT m p b ts E (N+1) 251 d (ziW ts E f):=by
 intro n h k hn s
 obtain⟨n,rfl⟩:=zs_ n
 have K0:Kp h.fh (al h.fh 72 z72):=(Kp.refl _).al 72 z72
 have hp:=s.lt
 obtain⟨v1,h1,e1,F1,_,R1⟩:=hf n _ k (by omega) (s.fh.kp K0)
 have l1:h.nx < h1.nx:=F1.nx
 have g1:h1.get h.nx=some (.row 72 z72 0 false):=(F1.get h.nx (nS _) (by omega)).trans (zb h.fh _)
 have T1:=(K0.fr p).trans F1
 unfold ziW
 cases hu:f k with
 |err pos c=>
  rw[hu] at R1
  obtain⟨q,k',rfl,hq,gq,s1⟩:=R1
  have hq':h.nx+1≤q:=hq
  obtain⟨H,e,g,nx,_⟩:=zyd h h1 p d q n g1 l1 (by omega) e1
  exact zN (lo:=h.nx+1) e s T1 (fun c hc hd=>g c hc (by omega)) (by omega) (by omega) hq' gq s1
 |ok t k1=>
  rw[hu] at R1
  obtain⟨x,r,l,rfl,N1,s1,wp⟩:=R1
  have K1:Kp h1 (al (pt (al h1 72 z72) h1.nx 72 (ndL x r l)) 9 [.string ⟨#[41]⟩]):=(((Kp.refl h1).al _ _).pt _ _ (nL_ _) (nS _)).al _ _
  have s1':=s1.kp K1
  obtain⟨v2,h2,e2,S2⟩:=qh (ops:=[[41]]) s1' n (by omega) (zb _ _) (by decide)
  have gx:(al (pt (al h1 72 z72) h1.nx 72 (ndL x r l)) 9 [.string ⟨#[41]⟩]).get h1.nx=some (.row 72 (ndL x r l) 0 false):=(zm _ _ (by show h1.nx < h1.nx+1;omega)).trans (zi _ _ _ (nS _))
  unfold uW at S2
  simp only
  cases hs:sg ts [[41]] k1 with
  |none=>
   rw[hs] at S2
   obtain⟨rfl,rfl⟩:=S2
   obtain⟨h3,e3,K3,n3,g3⟩:=jz s1' n (by omega)
   have K13:=K1.trans K3
   obtain⟨H,e,g,nx,wm,_⟩:=zvg h h1 h3 p d _ n x r l ((K13.get _ l1).trans g1) (nU l1 K13.nx) (by omega) e1 e2 e3
   exact zN (lo:=h.nx+1) e s (T1.trans (K13.fr p)) (fun c hc hd=>g c hc (by omega)) (by omega) (by omega) (by show h.nx+1≤h1.nx+1+1;omega) g3 (s1.kp K13)
  |some sn=>
   rw[hs] at S2
   obtain⟨rfl,F2,n2,s2,w2,wp2⟩:=S2
   have n2':h2.nx=h1.nx+2:=n2
   have F12:=(K1.fr p).trans F2
   obtain⟨H,e,g,nx,wm,_⟩:=zvf h h1 h2 p d n sn x r l ((F12.get _ l1 (by omega)).trans g1) (by omega) ((F2.get _ (by show h1.nx < h1.nx+1+1;omega) (by omega)).trans gx) (by omega) e1 e2
   exact qY (lo:=h.nx+1) e s (T1.trans F12) (fun c hc hd=>g c hc (by omega)) (by omega) (by omega) (N1.fr (p:=p) F12 (by show p < h.nx+1;omega) (nL_ _) (nL_ _)) (by omega) s2 (by omega)
end
end Go.PanE
