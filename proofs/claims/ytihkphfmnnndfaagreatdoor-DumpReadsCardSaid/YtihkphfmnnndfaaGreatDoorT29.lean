/-
 Part 29 of the proof of Rows.DumpReadsCardSaid: The parser of the first text, its levels: their laws.
 The parser of the first text, its rows: paths printed by sx.py (m12.py).
 No conditions.
-/
import Derived.Test.YtihkphfmnnndfaaGreatDoorT28
namespace Go.PanE
open Go.Proofs
theorem Kp.al{h g:Heap}(a:Kp h g)(t:TypeId)(cs:List Value):Kp h (PanE.al g t cs):=
 ⟨Nat.le_trans a.nx (Nat.le_succ _),fun c hc=>(Heap.get_old g _ (Nat.lt_of_lt_of_le hc a.nx)).trans (a.get c hc),a.wm⟩
theorem Kp.pt{h g:Heap}(a:Kp h g){b:Nat}(t:TypeId)(cs:List Value)(hb:h.nx≤b)(hl:b < g.nx):Kp h (PanE.pt g b t cs):=
 ⟨a.nx,fun c hc=>(Heap.get_put_other g b c _ hl (by omega)).trans (a.get c hc),by rw[Heap.wm_put];have:=a.wm;omega⟩
theorem Kp.trans{h g f:Heap}(a:Kp h g)(b:Kp g f):Kp h f:=⟨Nat.le_trans a.nx b.nx,fun c hc=>(b.get c (Nat.lt_of_lt_of_le hc a.nx)).trans (a.get c hc),Nat.le_trans b.wm a.wm⟩
section
variable {m:Int} {h:Heap} {p b:Nat} {ts:List Tk} {E k:Nat}
theorem PSt.kp{g:Heap}(s:PSt m h p b ts E k)(a:Kp h g):PSt m g p b ts E k:=s.keep a.nx a.get
theorem NodeI.kp{g:Heap}{lo hi lo' hi':Nat}{x:Hd}{r:Option Addr}{l:Nat}{t:Tr}(N:NodeI h lo hi x r l t)(a:Kp h g)(hl:lo'≤lo)(hh:hi≤hi'):NodeI g lo' hi' x r l t:=N.keep a.get hl hh
theorem NodeI.fr{g:Heap}{lo hi lo' hi':Nat}{x:Hd}{r:Option Addr}{l:Nat}{t:Tr}(N:NodeI h lo hi x r l t)(a:Fr h g p)(hp:p < lo)(hl:lo'≤lo)(hh:hi≤hi'):NodeI g lo' hi' x r l t:=
 N.mono hl hh fun c o h1 _ e=>(a.get c (Heap.lt_of_get e) (by omega)).trans e
theorem res_err{k' pos c lo q:Nat}{X:Option (Value×Heap)}{H hk:Heap}(e:X=some (finish h (.tuple #[z72V,.iface 242 (pv q 0)]) H))(s0:PSt m h p b ts E k)(F:Fr h.fresh hk p)
  (gH:∀ c,c < hk.nx→c < h.nx∨lo≤c→H.get c=hk.get c) (nH:hk.nx≤H.nx) (hlo:h.nx≤lo) (hq:lo≤q) (gq:hk.get q=some (.row 245 [.int .i64 (pos:Int),.int .i64 (c:Int)] 0 false)) (s:PSt m hk p b ts E k'):
  ∃ v h',X=some (v,h')∧ResA m h p b ts E (.err pos c) v h':=by
 have F':Fr h H p:=⟨Nat.le_trans F.nx nH,fun c hc hcp=>(gH c (Nat.lt_of_lt_of_le hc F.nx) (.inl hc)).trans (F.get c hc hcp)⟩
 have hpk:p < hk.nx:=Nat.lt_of_lt_of_le s0.lt F.nx
 exact⟨_,_,fin_new e (low_err2 (Nat.le_trans hlo hq)),F'.wm _,Nat.min_le_left _ _,q,k',rfl,Nat.le_trans hlo hq,(gH q (Heap.lt_of_get gq) (.inr hq)).trans gq,(s0.fr F' ((gH p hpk (.inl s0.lt)).trans s.pp) s.kT).wm⟩
theorem res_ok{k' lo hi l:Nat}{x:Hd}{r:Option Addr}{t:Tr}{X:Option (Value×Heap)}{H hk:Heap}(e:X=some (finish h (.tuple #[ndV x r l,.nilIface]) H))(s0:PSt m h p b ts E k)(F:Fr h.fresh hk p)
  (gH:∀ c,c < hk.nx→c < h.nx∨lo≤c→H.get c=hk.get c) (nH:hk.nx≤H.nx) (hlo:h.nx≤lo) (N:NodeI hk lo hi x r l t) (hhi:hi≤hk.nx) (s:PSt m hk p b ts E k') (wp:H.wm≤p):
  ∃ v h',X=some (v,h')∧ResA m h p b ts E (.ok t k') v h':=by
 have F':Fr h H p:=⟨Nat.le_trans F.nx nH,fun c hc hcp=>(gH c (Nat.lt_of_lt_of_le hc F.nx) (.inl hc)).trans (F.get c hc hcp)⟩
 have hpk:p < hk.nx:=Nat.lt_of_lt_of_le s0.lt F.nx
 refine⟨_,_,fin_wr e (by have:=s0.lt;omega),F'.wm _,Nat.min_le_left _ _,x,r,l,rfl,?_,(s0.fr F' ((gH p hpk (.inl s0.lt)).trans s.pp) s.kT).wm,Nat.le_trans (Nat.min_le_right _ _) wp⟩
 exact N.mono (g:={H with wm:=min h.wm H.wm}) hlo (by show hi≤H.nx;omega) fun c o h1 _ e=>(gH c (Heap.lt_of_get e) (.inr h1)).trans e
theorem res_ok2{k' lo l:Nat}{x:Hd}{r:Option Addr}{t:Tr}{X:Option (Value×Heap)}{H hk:Heap}(e:X=some (finish h (.tuple #[ndV x r l,.nilIface]) H))(s0:PSt m h p b ts E k)(F:Fr h.fresh hk p)
  (gH:∀ c,c < hk.nx→c < h.nx∨lo≤c→H.get c=hk.get c) (nH:hk.nx≤H.nx) (_hlo:h.nx≤lo) (N:NodeI H h.nx H.nx x r l t) (s:PSt m hk p b ts E k') (wp:H.wm≤p):
  ∃ v h',X=some (v,h')∧ResA m h p b ts E (.ok t k') v h':=by
 have F':Fr h H p:=⟨Nat.le_trans F.nx nH,fun c hc hcp=>(gH c (Nat.lt_of_lt_of_le hc F.nx) (.inl hc)).trans (F.get c hc hcp)⟩
 have hpk:p < hk.nx:=Nat.lt_of_lt_of_le s0.lt F.nx
 refine⟨_,_,fin_wr e (by have:=s0.lt;omega),F'.wm _,Nat.min_le_left _ _,x,r,l,rfl,?_,(s0.fr F' ((gH p hpk (.inl s0.lt)).trans s.pp) s.kT).wm,Nat.le_trans (Nat.min_le_right _ _) wp⟩
 exact NodeI.mono (h:=H) (g:={H with wm:=min h.wm H.wm}) (Nat.le_refl _) (Nat.le_refl _) (fun c o _ _ e=>e) N
/-- What a function of the parser makes at a depth. -/
def LawA(m:Int)(p b:Nat)(ts:List Tk)(E:Nat)(N:Nat)(f:FuncId)(d:Nat)(R:PR):Prop:=
 ∀ n h k,N≤n→PSt m h p b ts E k→∃ v h',RD n f [pv p 0,iv ((d:Nat):Int)] h=some (v,h')∧ResA m h p b ts E (R k) v h'
end
section
variable {m:Int} {p b:Nat} {ts:List Tk} {E:Nat}
theorem power_law{f g:PR}{d N:Nat}(hd:d≤40)(hf:LawA m p b ts E N 239 d f)(hg:LawA m p b ts E N 231 (d+1) g)(hN:3≤N):LawA m p b ts E (N+1) 231 d (powP ts f g):=by
 intro n h k hn s
 obtain⟨n,rfl⟩:∃ m,n=m+1:=⟨n - 1,by omega⟩
 have K0:Kp h.fresh (al h.fresh 72 z72):=(Kp.refl _).al 72 z72
 have e0:=deep_ok (al h.fresh 72 z72) d n (by omega) hd
 have hp:=s.lt
 obtain⟨v1,h1,e1,F1,_,R1⟩:=hf n _ k (by omega) (s.fresh.kp K0)
 have l1:h.nx < h1.nx:=F1.nx
 have g1:h1.get h.nx=some (.row 72 z72 0 false):=(F1.get h.nx (Nat.lt_succ_self _) (by omega)).trans (Heap.get_new h.fresh _)
 have T1:=(K0.fr p).trans F1
 unfold powP
 cases hu:f k with
 |err pos c=>
  rw[hu] at R1
  obtain⟨q,k',rfl,hq,gq,s1⟩:=R1
  obtain⟨H,e,g,nx,_⟩:=pw_e1 h h1 p d q n g1 l1 e0 e1
  exact res_err (lo:=h.nx+1) e s T1 (fun c hc hd=>g c hc (by omega)) (by omega) (by omega) hq gq s1
 |ok t k1=>
  rw[hu] at R1
  obtain⟨x,r,l,rfl,N1,s1,wp⟩:=R1
  have K1:Kp h1 (pt (al h1 72 z72) h1.nx 72 (ndL x r l)):=((Kp.refl h1).al _ _).pt _ _ (Nat.le_refl _) (Nat.lt_succ_self _)
  obtain⟨v2,h2,e2,S2⟩:=sign_law (ops:=[[94]]) (s1.kp (K1.al 9 [.string ⟨#[94]⟩])) n (by omega) (Heap.get_new _ _) (by decide)
  unfold SgTo at S2
  simp only
  cases hs:sg ts [[94]] k1 with
  |none=>
   rw[hs] at S2
   obtain⟨rfl,rfl⟩:=S2
   obtain⟨H,e,g,nx,wm,_⟩:=pw_one h h1 p d n x r l g1 l1 e0 e1 e2
   exact res_ok (lo:=h.nx+1) e s T1 (fun c hc hd=>g c hc (by omega)) (by omega) (by omega) N1 (Nat.le_refl _) s1 (by omega)
  |some sn=>
   rw[hs] at S2
   obtain⟨rfl,F2,n2,s2,w2,wp2⟩:=S2
   have n2':h2.nx=h1.nx+2:=n2
   obtain⟨v3,h3,e3,F3,w3,R3⟩:=hg n h2 (k1+1) (by omega) s2
   have F13:Fr h1 h3 p:=(((K1.al 9 [.string ⟨#[94]⟩]).fr p).trans F2).trans F3
   have l3:h1.nx+2≤h3.nx:=by have:=F3.nx;rw[n2] at this;exact this
   have gx:h3.get h1.nx=some (.row 72 (ndL x r l) 0 false):=by
    refine(F3.get _ (by rw[n2];show h1.nx < h1.nx+1+1;omega) (by omega)).trans ((F2.get _ (by show h1.nx < h1.nx+1+1;omega) (by omega)).trans ((Heap.get_old _ _ (by show h1.nx < h1.nx+1;omega)).trans (Heap.get_put_same _ _ _ (Nat.lt_succ_self _))))
   have g3:h3.get h.nx=some (.row 72 z72 0 false):=(F13.get _ l1 (by omega)).trans g1
   have T3:=T1.trans F13
   simp only
   cases hg2:g (k1+1) with
   |err pos c=>
    rw[hg2] at R3
    obtain⟨q,k',rfl,hq,gq,s3⟩:=R3
    obtain⟨H,e,g,nx,_⟩:=pw_e2 h h1 h2 h3 p d q n sn x r l g3 gx (by omega) (by omega) (by omega) e0 e1 e2 e3
    exact res_err (lo:=h.nx+1) e s T3 (fun c hc hd=>g c hc (by omega)) (by omega) (by omega) (by omega) gq s3
   |ok u k2=>
    rw[hg2] at R3
    obtain⟨y,r3,l3',rfl,N3,s3,wp3⟩:=R3
    have K3:Kp h3 (pt (al h3 72 z72) h3.nx 72 (ndL y r3 l3')):=((Kp.refl h3).al _ _).pt _ _ (Nat.le_refl _) (Nat.lt_succ_self _)
    have Nx:=(N1.fr (lo':=h.nx+1) (hi':=h3.nx) F13 (by show p < h.nx+1;omega) (Nat.le_refl _) (by omega)).kp K3 (Nat.le_refl _) (Nat.le_refl _)
    have Ny:=N3.kp (lo':=h.nx+1) (hi':=h3.nx) K3 (by omega) (Nat.le_refl _)
    obtain⟨h4,q,e4,K4,N4⟩:=two_law [94] n (by omega) Nx Ny (by show h.nx+1≤h3.nx+1;omega) (by show h3.nx≤h3.nx+1;omega)
    have K34:=K3.trans K4
    obtain⟨H,e,g,nx,wm,_⟩:=pw_ok h h1 h2 h3 h4 p d n sn x r l y r3 l3' (hdOp 5 [94]) (some ⟨q,0,none⟩) 2 g3 gx (by omega) (by omega) ((K34.get _ (by omega)).trans g3) (by have:=K34.nx;omega) (by omega) e0 e1 e2 e3 e4
    have hsn:sn=[94]:=by
     unfold sg at hs
     split at hs
     ·split at hs
      next hc=>simp only[Option.some.injEq] at hs;rw[← hs];simpa using hc.2
      ·cases hs
     ·cases hs
    rw[hsn]
    exact res_ok (lo:=h.nx+1) e s (T3.trans (K34.fr p)) (fun c hc hd=>g c hc (by omega)) (by omega) (by omega) N4 (Nat.le_refl _) (s3.kp K34) (by have:=K34.wm;omega)
theorem formula_law{f:PR}{d N:Nat}(hd:d≤40)(hf:LawA m p b ts E N 199 d f)(hN:3≤N):LawA m p b ts E (N+1) 176 d (formP ts f):=by
 intro n h k hn s
 obtain⟨n,rfl⟩:∃ m,n=m+1:=⟨n - 1,by omega⟩
 have K0:Kp h.fresh (al h.fresh 72 z72):=(Kp.refl _).al 72 z72
 have e0:=deep_ok (al h.fresh 72 z72) d n (by omega) hd
 have hp:=s.lt
 obtain⟨v1,h1,e1,F1,_,R1⟩:=hf n _ k (by omega) (s.fresh.kp K0)
 have l1:h.nx < h1.nx:=F1.nx
 have g1:h1.get h.nx=some (.row 72 z72 0 false):=(F1.get h.nx (Nat.lt_succ_self _) (by omega)).trans (Heap.get_new h.fresh _)
 have T1:=(K0.fr p).trans F1
 unfold formP
 cases hu:f k with
 |err pos c=>
  rw[hu] at R1
  obtain⟨q,k',rfl,hq,gq,s1⟩:=R1
  obtain⟨H,e,g,nx,_⟩:=fo_e1 h h1 p d q n g1 l1 e0 e1
  exact res_err (lo:=h.nx+1) e s T1 (fun c hc hd=>g c hc (by omega)) (by omega) (by omega) hq gq s1
 |ok t k1=>
  rw[hu] at R1
  obtain⟨x,r,l,rfl,N1,s1,wp⟩:=R1
  have K1:Kp h1 (pt (al h1 72 z72) h1.nx 72 (ndL x r l)):=((Kp.refl h1).al _ _).pt _ _ (Nat.le_refl _) (Nat.lt_succ_self _)
  obtain⟨v2,h2,e2,S2⟩:=sign_law (ops:=[[61],[60,62],[60],[60,61],[62],[62,61]]) (s1.kp (K1.al 9 [.string ⟨#[61]⟩,.string ⟨#[60,62]⟩,.string ⟨#[60]⟩,.string ⟨#[60,61]⟩,.string ⟨#[62]⟩,.string ⟨#[62,61]⟩])) n (by omega) (Heap.get_new _ _) (by decide)
  unfold SgTo at S2
  simp only
  cases hs:sg ts [[61],[60,62],[60],[60,61],[62],[62,61]] k1 with
  |none=>
   rw[hs] at S2
   obtain⟨rfl,rfl⟩:=S2
   obtain⟨H,e,g,nx,wm,_⟩:=fo_one h h1 p d n x r l g1 l1 e0 e1 e2
   exact res_ok (lo:=h.nx+1) e s T1 (fun c hc hd=>g c hc (by omega)) (by omega) (by omega) N1 (Nat.le_refl _) s1 (by omega)
  |some sn=>
   rw[hs] at S2
   obtain⟨rfl,F2,n2,s2,w2,wp2⟩:=S2
   have n2':h2.nx=h1.nx+2:=n2
   obtain⟨v3,h3,e3,F3,w3,R3⟩:=hf n h2 (k1+1) (by omega) s2
   have F13:Fr h1 h3 p:=(((K1.al 9 [.string ⟨#[61]⟩,.string ⟨#[60,62]⟩,.string ⟨#[60]⟩,.string ⟨#[60,61]⟩,.string ⟨#[62]⟩,.string ⟨#[62,61]⟩]).fr p).trans F2).trans F3
   have l3:h1.nx+2≤h3.nx:=by have:=F3.nx;rw[n2] at this;exact this
   have gx:h3.get h1.nx=some (.row 72 (ndL x r l) 0 false):=by
    refine(F3.get _ (by rw[n2];show h1.nx < h1.nx+1+1;omega) (by omega)).trans ((F2.get _ (by show h1.nx < h1.nx+1+1;omega) (by omega)).trans ((Heap.get_old _ _ (by show h1.nx < h1.nx+1;omega)).trans (Heap.get_put_same _ _ _ (Nat.lt_succ_self _))))
   have g3:h3.get h.nx=some (.row 72 z72 0 false):=(F13.get _ l1 (by omega)).trans g1
   have T3:=T1.trans F13
   simp only
   cases hg2:f (k1+1) with
   |err pos c=>
    rw[hg2] at R3
    obtain⟨q,k',rfl,hq,gq,s3⟩:=R3
    obtain⟨H,e,g,nx,_⟩:=fo_e2 h h1 h2 h3 p d q n sn x r l g3 gx (by omega) (by omega) e0 e1 e2 e3
    exact res_err (lo:=h.nx+1) e s T3 (fun c hc hd=>g c hc (by omega)) (by omega) (by omega) (by omega) gq s3
   |ok u k2=>
    rw[hg2] at R3
    obtain⟨y,r3,l3',rfl,N3,s3,wp3⟩:=R3
    have K3:Kp h3 (pt (al h3 72 z72) h3.nx 72 (ndL y r3 l3')):=((Kp.refl h3).al _ _).pt _ _ (Nat.le_refl _) (Nat.lt_succ_self _)
    have Nx:=(N1.fr (lo':=h.nx+1) (hi':=h3.nx) F13 (by show p < h.nx+1;omega) (Nat.le_refl _) (by omega)).kp K3 (Nat.le_refl _) (Nat.le_refl _)
    have Ny:=N3.kp (lo':=h.nx+1) (hi':=h3.nx) K3 (by omega) (Nat.le_refl _)
    obtain⟨h4,q,e4,K4,N4⟩:=two_law sn n (by omega) Nx Ny (by show h.nx+1≤h3.nx+1;omega) (by show h3.nx≤h3.nx+1;omega)
    have K34:=K3.trans K4
    obtain⟨H,e,g,nx,wm,_⟩:=fo_ok h h1 h2 h3 h4 p d n sn x r l y r3 l3' (hdOp 5 sn) (some ⟨q,0,none⟩) 2 g3 gx (by omega) (by omega) ((K34.get _ (by omega)).trans g3) (by have:=K34.nx;omega) e0 e1 e2 e3 e4
    exact res_ok (lo:=h.nx+1) e s (T3.trans (K34.fr p)) (fun c hc hd=>g c hc (by omega)) (by omega) (by omega) N4 (Nat.le_refl _) (s3.kp K34) (by have:=K34.wm;omega)
theorem unary_law{f g:PR}{d N:Nat}(hd:d≤40)(hf:LawA m p b ts E N 248 d f)(hg:LawA m p b ts E N 239 (d+1) g)(hN:3≤N):LawA m p b ts E (N+1) 239 d (unP ts f g):=by
 intro n h k hn s
 obtain⟨n,rfl⟩:∃ m,n=m+1:=⟨n - 1,by omega⟩
 have K0:Kp h.fresh (al (al h.fresh 72 z72) 9 [.string ⟨#[45]⟩]):=((Kp.refl _).al 72 z72).al _ _
 have e0:=deep_ok (al h.fresh 72 z72) d n (by omega) hd
 have hp:=s.lt
 have s0:=s.fresh.kp K0
 have g0:(al (al h.fresh 72 z72) 9 [.string ⟨#[45]⟩]).get h.nx=some (.row 72 z72 0 false):=(Heap.get_old _ _ (Nat.lt_succ_self _)).trans (Heap.get_new h.fresh _)
 obtain⟨v1,h1,e1,S1⟩:=sign_law (ops:=[[45]]) s0 n (by omega) (Heap.get_new _ _) (by decide)
 unfold SgTo at S1
 unfold unP
 cases hs:sg ts [[45]] k with
 |none=>
  rw[hs] at S1
  obtain⟨rfl,rfl⟩:=S1
  obtain⟨v2,h2,e2,F2,_,R2⟩:=hf n _ k (by omega) s0
  have l2:h.nx+2≤h2.nx:=F2.nx
  have g2:h2.get h.nx=some (.row 72 z72 0 false):=(F2.get h.nx (by show h.nx < h.nx+1+1;omega) (by omega)).trans g0
  have T2:=(K0.fr p).trans F2
  simp only
  cases hu:f k with
  |err pos c=>
   rw[hu] at R2
   obtain⟨q,k',rfl,hq,gq,s2⟩:=R2
   have hq':h.nx+2≤q:=hq
   obtain⟨H,e,g,nx,_⟩:=una_pe h h2 p d q n g2 (by omega) e0 e1 e2
   exact res_err (lo:=h.nx+1) e s T2 (fun c hc hd=>g c hc (by omega)) (by omega) (by omega) (by omega) gq s2
  |ok t k1=>
   rw[hu] at R2
   obtain⟨x,r,l,rfl,N2,s2,wp⟩:=R2
   obtain⟨H,e,g,nx,wm,_⟩:=una_pt h h2 p d n x r l g2 (by omega) e0 e1 e2
   exact res_ok (lo:=h.nx+2) e s T2 (fun c hc hd=>g c hc (by omega)) (by omega) (by omega) N2 (Nat.le_refl _) s2 (by omega)
 |some sn=>
  rw[hs] at S1
  obtain⟨rfl,F1,n1,s1,w1,wp1⟩:=S1
  have n1':h1.nx=h.nx+2:=n1
  obtain⟨v2,h2,e2,F2,_,R2⟩:=hg n h1 (k+1) (by omega) s1
  have l2:h.nx+2≤h2.nx:=by have:=F2.nx;omega
  have g2:h2.get h.nx=some (.row 72 z72 0 false):=(F2.get h.nx (by omega) (by omega)).trans ((F1.get h.nx (by show h.nx < h.nx+1+1;omega) (by omega)).trans g0)
  have T2:=((K0.fr p).trans F1).trans F2
  simp only
  cases hu:g (k+1) with
  |err pos c=>
   rw[hu] at R2
   obtain⟨q,k',rfl,hq,gq,s2⟩:=R2
   obtain⟨H,e,g,nx,_⟩:=una_e h h1 h2 p d q n sn g2 (by omega) (by omega) e0 e1 e2
   exact res_err (lo:=h.nx+1) e s T2 (fun c hc hd=>g c hc (by omega)) (by omega) (by omega) (by omega) gq s2
  |ok t k1=>
   rw[hu] at R2
   obtain⟨x,r,l,rfl,N2,s2,wp⟩:=R2
   obtain⟨H,e,g,nx,wm,_,w⟩:=una_ok h h1 h2 p d n sn x r l g2 (by omega) (by omega) e0 e1 e2
   have gN:∀ c,c < h2.nx→c < h.nx∨h.nx+1≤c→H.get c=h2.get c:=fun c hc hd=>g c hc (by omega)
   refine res_ok2 (x:=hdOp 4 []) (r:=some ⟨h2.nx+1,0,none⟩) (l:=1) e s T2 gN (by omega) (by omega) ?_ s2 (by omega)
   refine NodeI.mk (ts:=[t]) (es:=0) (ro:=false) (cs:=ndL x r l) _ (by omega) (by omega) w ?_
   unfold ArgsC
   refine⟨x,r,l,[],by rw[List.append_nil],N2.mono (by omega) (by omega) fun c o h1 _ e=>(gN c (Heap.lt_of_get e) (by omega)).trans e,?_⟩
   unfold ArgsC;rfl
end
end Go.PanE
namespace Go.PanE
open Go.Proofs
noncomputable section
abbrev y6_1(p d q B8 B10:Nat):List (Nat×Value):=[(0,pv p 0),(1,iv (d:Int)),(2,.func (.func 224) #[pv p 0] #[]),(3,sv q 0 3 3),(8,pv B8 0),(10,pv B10 0),(11,.nilIface)]
abbrev y6_2(p d q B8 B10:Nat):List (Nat×Value):=[(0,pv p 0),(1,iv (d:Int)),(2,.func (.func 231) #[pv p 0] #[]),(3,sv q 0 3 3),(8,pv B8 0),(10,pv B10 0),(11,.nilIface)]
abbrev y6_3(p d q:Nat)(h:Heap)(x:Hd)(xr:Option Addr)(xn:Nat)(h1:Heap):List (Nat×Value):=[(0,pv p 0),(1,iv (d:Int)),(2,.func (.func 224) #[pv p 0] #[]),(3,sv q 0 3 3),(8,pv h.nx 0),(9,.nilIface),(16,.func (.func 224) #[pv p 0] #[]),(17,iv (d:Int)),(18,.tuple #[ndV x xr xn,.nilIface]),(15,.tuple #[ndV x xr xn,.nilIface]),(19,ndV x xr xn),(20,.nilIface),(10,pv h1.nx 0),(11,.nilIface)]
abbrev y6_4(p d q:Nat)(h:Heap)(x:Hd)(xr:Option Addr)(xn:Nat)(h1:Heap):List (Nat×Value):=[(0,pv p 0),(1,iv (d:Int)),(2,.func (.func 231) #[pv p 0] #[]),(3,sv q 0 3 3),(8,pv h.nx 0),(9,.nilIface),(16,.func (.func 231) #[pv p 0] #[]),(17,iv (d:Int)),(18,.tuple #[ndV x xr xn,.nilIface]),(15,.tuple #[ndV x xr xn,.nilIface]),(19,ndV x xr xn),(20,.nilIface),(10,pv h1.nx 0),(11,.nilIface)]
abbrev y6_5(p d:Nat):List Value:=[pv p 0,iv (d:Int)]
abbrev y6_6(p d q:Nat):List Value:=[pv p 0,iv (d:Int),.func (.func 224) #[pv p 0] #[],sv q 0 3 3]
abbrev y6_7(p d q:Nat):List Value:=[pv p 0,iv (d:Int),.func (.func 231) #[pv p 0] #[],sv q 0 3 3]
abbrev y6_8(x:Hd)(xr:Option Addr)(xn:Nat):AObj:=.row 72 (ndL x xr xn) 0 false
abbrev y6_9(p d q B8 B10 e:Nat):List (Nat×Value):=[(0,pv p 0),(1,iv (d:Int)),(2,.func (.func 224) #[pv p 0] #[]),(3,sv q 0 3 3),(8,pv B8 0),(10,pv B10 0),(11,.iface 242 (pv e 0))]
abbrev y6_10(p d q B8 B10 e:Nat):List (Nat×Value):=[(0,pv p 0),(1,iv (d:Int)),(2,.func (.func 231) #[pv p 0] #[]),(3,sv q 0 3 3),(8,pv B8 0),(10,pv B10 0),(11,.iface 242 (pv e 0))]
abbrev y6_11(e:Nat):Value:=.tuple #[z72V,.iface 242 (pv e 0)]
abbrev y6_12(h:Heap)(e:Nat):List (Nat×Value):=[(8,pv h.nx 0),(11,.iface 242 (pv e 0))]
theorem ra_end(h:Heap)(p d q B8 B10 e n:Nat):Bd n 46 [1,1,0,0,0] Tryz.f223 (y6_9 p d q B8 B10 e) h (.exit 0) [(8,pv B8 0),(11,.iface 242 (pv e 0))] h:=
 bdF (kZ h) [bF,.z 0]
theorem ra_none(h:Heap)(p d q B8 B10 n:Nat)(x:Hd)(xr:Option Addr)(xn:Nat)(_l8:B8 < h.nx)(g8:h.get B8=some (.row 72 z72 0 false))(g10:h.get B10=some (y6_8 x xr xn))(a0:Pu n 200 [pv p 0,sv q 0 3 3] (.tuple #[.string ⟨#[]⟩,.bool false]) h):∃ H,Bd n 46 [1,1,0,0,0] Tryz.f223 (y6_1 p d q B8 B10) h .ret [(8,pv B8 0),(9,.nilIface)] H∧tw1 h h.wm B8 h.nx H (H.get B8=some (y6_8 x xr xn)):=
 bdE (kI (ko g10)) [bT,yP a0,.g 0 72 0 10,.s (kI (ko g8)),.w 0 72 0 (ndV x xr xn),.z 0] [0]
theorem ra_err(h h1 h2:Heap)(p d q B8 B10 e n:Nat)(s:List UInt8)(g14:h2.get h1.nx=some (.row 72 z72 0 false))(_l:h1.nx < h2.nx)(a0:RD n 200 [pv p 0,sv q 0 3 3] h=some (.tuple #[.string ⟨⟨s⟩⟩,.bool true],h1))(a1:RD n 224 (y6_5 p d) (al h1 72 z72)=some (.tuple #[z72V,.iface 242 (pv e 0)],h2)):∃ H,Bd n 46 [1,1,0,0,0] Tryz.f223 (y6_1 p d q B8 B10) h .normal (y6_9 p d q B8 B10 e) H∧tl1 h2 h2.wm h1.nx h2.nx H:=
 bdE (kZ h) [bT,yC a0 (kZ h1),aS 72 z72,yC a1 (kI (ko g14)),.w 0 72 0 (z72V),bF,.z 0] []
theorem ra_ok(h h1 h2 h3:Heap)(p d q B8 B10 n:Nat)(s:List UInt8)(x:Hd)(xr:Option Addr)(xn:Nat)(y:Hd)(yr:Option Addr)(yn:Nat)(w:Hd)(wr:Option Addr)(wn:Nat)(g14:h2.get h1.nx=some (.row 72 z72 0 false))(_l:h1.nx < h2.nx)(_l10:B10 < h1.nx)(g10:h2.get B10=some (y6_8 x xr xn))(g10b:h3.get B10=some (y6_8 x xr xn))(_l3:B10 < h3.nx)(a0:RD n 200 [pv p 0,sv q 0 3 3] h=some (.tuple #[.string ⟨⟨s⟩⟩,.bool true],h1))(a1:RD n 224 (y6_5 p d) (al h1 72 z72)=some (.tuple #[ndV y yr yn,.nilIface],h2))(a2:RD n 201 [.string ⟨⟨s⟩⟩,ndV x xr xn,ndV y yr yn] (pt h2 h1.nx 72 (ndL y yr yn))=some (ndV w wr wn,h3)):∃ H,Bd n 46 [1,1,0,0,0] Tryz.f223 (y6_1 p d q B8 B10) h .normal (y6_1 p d q B8 B10) H∧tw1 h3 h3.wm B10 h3.nx H (H.get B10=some (.row 72 (ndL w wr wn) 0 false)):=
 bdE (kZ h) [bT,yC a0 (kZ h1),aS 72 z72,yC a1 (kJ (ko g14) (ko g10)),.w 0 72 0 (ndV y yr yn),bT,.g 1 72 0 10,.g 0 72 0 10,yC a2 (kI (ko g10b)),.w 0 72 0 (ndV w wr wn),.z 0] [0]
theorem ra_pe(h h1 hL:Heap)(p d q e n:Nat)(g1:h1.get h.nx=some (.row 72 z72 0 false))(_l1:h.nx < h1.nx)(gL:hL.get h.nx=some (.row 72 z72 0 false))(_lL:h.nx < hL.nx)(a0:RD n 224 (y6_5 p d) (al h.fresh 72 z72)=some (.tuple #[z72V,.iface 242 (pv e 0)],h1))(a1:Lf n 46 [1,1,0,0,0] Tryz.f223 [(0,pv p 0),(1,iv (d:Int)),(2,.func (.func 224) #[pv p 0] #[]),(3,sv q 0 3 3),(8,pv h.nx 0),(9,.nilIface),(16,.func (.func 224) #[pv p 0] #[]),(17,iv (d:Int)),(18,.tuple #[z72V,.iface 242 (pv e 0)]),(15,.tuple #[z72V,.iface 242 (pv e 0)]),(19,z72V),(20,.iface 242 (pv e 0)),(10,pv h1.nx 0),(11,.iface 242 (pv e 0))] (pt (al h1 72 z72) h1.nx 72 z72) (.exit 0) (y6_12 h e) hL):∃ H,Fn n 223 (y6_6 p d q) h (y6_11 e) H∧tl1 hL hL.wm h.nx hL.nx H:=
 exT (kZ h) [aS 72 z72,yC a0 (kZ h1),aS 72 z72,.w 0 72 0 (z72V),yS a1 (kI (ko gL)),.w 0 72 0 (z72V),.r 0 72 10,.z 1] []
theorem ra_px(h h1 hL:Heap)(p d q e n:Nat)(x:Hd)(xr:Option Addr)(xn:Nat)(g1:h1.get h.nx=some (.row 72 z72 0 false))(_l1:h.nx < h1.nx)(gL:hL.get h.nx=some (.row 72 z72 0 false))(_lL:h.nx < hL.nx)(a0:RD n 224 (y6_5 p d) (al h.fresh 72 z72)=some (.tuple #[ndV x xr xn,.nilIface],h1))(a1:Lf n 46 [1,1,0,0,0] Tryz.f223 (y6_3 p d q h x xr xn h1) (pt (al h1 72 z72) h1.nx 72 (ndL x xr xn)) (.exit 0) (y6_12 h e) hL):∃ H,Fn n 223 (y6_6 p d q) h (y6_11 e) H∧tl1 hL hL.wm h.nx hL.nx H:=
 exT (kZ h) [aS 72 z72,yC a0 (kZ h1),aS 72 z72,.w 0 72 0 (ndV x xr xn),yS a1 (kI (ko gL)),.w 0 72 0 (z72V),.r 0 72 10,.z 1] []
theorem ra_pk(h h1 hL:Heap)(p d q n:Nat)(x:Hd)(xr:Option Addr)(xn:Nat)(y:Hd)(yr:Option Addr)(yn:Nat)(g1:h1.get h.nx=some (.row 72 z72 0 false))(_l1:h.nx < h1.nx)(gL:hL.get h.nx=some (.row 72 (ndL y yr yn) 0 false))(_lL:h.nx < hL.nx)(a0:RD n 224 (y6_5 p d) (al h.fresh 72 z72)=some (.tuple #[ndV x xr xn,.nilIface],h1))(a1:Lf n 46 [1,1,0,0,0] Tryz.f223 (y6_3 p d q h x xr xn h1) (pt (al h1 72 z72) h1.nx 72 (ndL x xr xn)) .ret [(8,pv h.nx 0),(9,.nilIface)] hL):Fn n 223 (y6_6 p d q) h (.tuple #[ndV y yr yn,.nilIface]) hL:=
 fnT (kZ h) [aS 72 z72,yC a0 (kZ h1),aS 72 z72,.w 0 72 0 (ndV x xr xn),yS a1 (kI (ko gL)),.r 0 72 10,.z 1]
theorem rb_end(h:Heap)(p d q B8 B10 e n:Nat):Bd n 46 [1,1,0,0,0] Tryz.f223 (y6_10 p d q B8 B10 e) h (.exit 0) [(8,pv B8 0),(11,.iface 242 (pv e 0))] h:=
 bdF (kZ h) [bF,.z 0]
theorem rb_none(h:Heap)(p d q B8 B10 n:Nat)(x:Hd)(xr:Option Addr)(xn:Nat)(_l8:B8 < h.nx)(g8:h.get B8=some (.row 72 z72 0 false))(g10:h.get B10=some (y6_8 x xr xn))(a0:Pu n 200 [pv p 0,sv q 0 3 3] (.tuple #[.string ⟨#[]⟩,.bool false]) h):∃ H,Bd n 46 [1,1,0,0,0] Tryz.f223 (y6_2 p d q B8 B10) h .ret [(8,pv B8 0),(9,.nilIface)] H∧tw1 h h.wm B8 h.nx H (H.get B8=some (y6_8 x xr xn)):=
 bdE (kI (ko g10)) [bT,yP a0,.g 0 72 0 10,.s (kI (ko g8)),.w 0 72 0 (ndV x xr xn),.z 0] [0]
theorem rb_err(h h1 h2:Heap)(p d q B8 B10 e n:Nat)(s:List UInt8)(g14:h2.get h1.nx=some (.row 72 z72 0 false))(_l:h1.nx < h2.nx)(a0:RD n 200 [pv p 0,sv q 0 3 3] h=some (.tuple #[.string ⟨⟨s⟩⟩,.bool true],h1))(a1:RD n 231 (y6_5 p d) (al h1 72 z72)=some (.tuple #[z72V,.iface 242 (pv e 0)],h2)):∃ H,Bd n 46 [1,1,0,0,0] Tryz.f223 (y6_2 p d q B8 B10) h .normal (y6_10 p d q B8 B10 e) H∧tl1 h2 h2.wm h1.nx h2.nx H:=
 bdE (kZ h) [bT,yC a0 (kZ h1),aS 72 z72,yC a1 (kI (ko g14)),.w 0 72 0 (z72V),bF,.z 0] []
theorem rb_ok(h h1 h2 h3:Heap)(p d q B8 B10 n:Nat)(s:List UInt8)(x:Hd)(xr:Option Addr)(xn:Nat)(y:Hd)(yr:Option Addr)(yn:Nat)(w:Hd)(wr:Option Addr)(wn:Nat)(g14:h2.get h1.nx=some (.row 72 z72 0 false))(_l:h1.nx < h2.nx)(_l10:B10 < h1.nx)(g10:h2.get B10=some (y6_8 x xr xn))(g10b:h3.get B10=some (y6_8 x xr xn))(_l3:B10 < h3.nx)(a0:RD n 200 [pv p 0,sv q 0 3 3] h=some (.tuple #[.string ⟨⟨s⟩⟩,.bool true],h1))(a1:RD n 231 (y6_5 p d) (al h1 72 z72)=some (.tuple #[ndV y yr yn,.nilIface],h2))(a2:RD n 201 [.string ⟨⟨s⟩⟩,ndV x xr xn,ndV y yr yn] (pt h2 h1.nx 72 (ndL y yr yn))=some (ndV w wr wn,h3)):∃ H,Bd n 46 [1,1,0,0,0] Tryz.f223 (y6_2 p d q B8 B10) h .normal (y6_2 p d q B8 B10) H∧tw1 h3 h3.wm B10 h3.nx H (H.get B10=some (.row 72 (ndL w wr wn) 0 false)):=
 bdE (kZ h) [bT,yC a0 (kZ h1),aS 72 z72,yC a1 (kJ (ko g14) (ko g10)),.w 0 72 0 (ndV y yr yn),bT,.g 1 72 0 10,.g 0 72 0 10,yC a2 (kI (ko g10b)),.w 0 72 0 (ndV w wr wn),.z 0] [0]
theorem rb_pe(h h1 hL:Heap)(p d q e n:Nat)(g1:h1.get h.nx=some (.row 72 z72 0 false))(_l1:h.nx < h1.nx)(gL:hL.get h.nx=some (.row 72 z72 0 false))(_lL:h.nx < hL.nx)(a0:RD n 231 (y6_5 p d) (al h.fresh 72 z72)=some (.tuple #[z72V,.iface 242 (pv e 0)],h1))(a1:Lf n 46 [1,1,0,0,0] Tryz.f223 [(0,pv p 0),(1,iv (d:Int)),(2,.func (.func 231) #[pv p 0] #[]),(3,sv q 0 3 3),(8,pv h.nx 0),(9,.nilIface),(16,.func (.func 231) #[pv p 0] #[]),(17,iv (d:Int)),(18,.tuple #[z72V,.iface 242 (pv e 0)]),(15,.tuple #[z72V,.iface 242 (pv e 0)]),(19,z72V),(20,.iface 242 (pv e 0)),(10,pv h1.nx 0),(11,.iface 242 (pv e 0))] (pt (al h1 72 z72) h1.nx 72 z72) (.exit 0) (y6_12 h e) hL):∃ H,Fn n 223 (y6_7 p d q) h (y6_11 e) H∧tl1 hL hL.wm h.nx hL.nx H:=
 exT (kZ h) [aS 72 z72,yC a0 (kZ h1),aS 72 z72,.w 0 72 0 (z72V),yS a1 (kI (ko gL)),.w 0 72 0 (z72V),.r 0 72 10,.z 1] []
theorem rb_px(h h1 hL:Heap)(p d q e n:Nat)(x:Hd)(xr:Option Addr)(xn:Nat)(g1:h1.get h.nx=some (.row 72 z72 0 false))(_l1:h.nx < h1.nx)(gL:hL.get h.nx=some (.row 72 z72 0 false))(_lL:h.nx < hL.nx)(a0:RD n 231 (y6_5 p d) (al h.fresh 72 z72)=some (.tuple #[ndV x xr xn,.nilIface],h1))(a1:Lf n 46 [1,1,0,0,0] Tryz.f223 (y6_4 p d q h x xr xn h1) (pt (al h1 72 z72) h1.nx 72 (ndL x xr xn)) (.exit 0) (y6_12 h e) hL):∃ H,Fn n 223 (y6_7 p d q) h (y6_11 e) H∧tl1 hL hL.wm h.nx hL.nx H:=
 exT (kZ h) [aS 72 z72,yC a0 (kZ h1),aS 72 z72,.w 0 72 0 (ndV x xr xn),yS a1 (kI (ko gL)),.w 0 72 0 (z72V),.r 0 72 10,.z 1] []
theorem rb_pk(h h1 hL:Heap)(p d q n:Nat)(x:Hd)(xr:Option Addr)(xn:Nat)(y:Hd)(yr:Option Addr)(yn:Nat)(g1:h1.get h.nx=some (.row 72 z72 0 false))(_l1:h.nx < h1.nx)(gL:hL.get h.nx=some (.row 72 (ndL y yr yn) 0 false))(_lL:h.nx < hL.nx)(a0:RD n 231 (y6_5 p d) (al h.fresh 72 z72)=some (.tuple #[ndV x xr xn,.nilIface],h1))(a1:Lf n 46 [1,1,0,0,0] Tryz.f223 (y6_4 p d q h x xr xn h1) (pt (al h1 72 z72) h1.nx 72 (ndL x xr xn)) .ret [(8,pv h.nx 0),(9,.nilIface)] hL):Fn n 223 (y6_7 p d q) h (.tuple #[ndV y yr yn,.nilIface]) hL:=
 fnT (kZ h) [aS 72 z72,yC a0 (kZ h1),aS 72 z72,.w 0 72 0 (ndV x xr xn),yS a1 (kI (ko gL)),.r 0 72 10,.z 1]
end
end Go.PanE
