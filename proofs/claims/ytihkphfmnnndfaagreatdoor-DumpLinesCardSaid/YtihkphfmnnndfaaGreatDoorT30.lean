/-
 Part 30 of the proof of Rows.DumpLinesCardSaid. No conditions.
-/
import Derived.Test.YtihkphfmnnndfaaGreatDoorT29
namespace Go.PanE
open Go.Proofs
structure QSt(m:Int)(h:Heap)(p b:Nat)(ts:List Tk)(E k d c w:Nat):Prop where
 gl:Gl m h
 p6:6≤p
 pp:h.get p=some (.row 160 [tsV b ts,iv (k:Int),iv (E:Int),iv (d:Int),iv (c:Int),iv (w:Int)] 0 false)
 tk:ts=[]∨h.get b=some (.row 199 (tkC ts) 4 false)
 kT:k≤ts.length
 tT:ts.length≤300
section
variable {m:Int} {h:Heap} {p b:Nat} {ts:List Tk} {E k d c w:Nat}
theorem QSt.lt(s:QSt m h p b ts E k d c w):p < h.nx:=za s.pp
theorem QSt.bp(s:QSt m h p b ts E k d c w){x:Vs}{es:Nat}{ro:Bool}(h1:h.get b=some (.row 199 x es ro)):b≠p:=by
 rintro rfl
 have:=s.pp
 rw[h1] at this
 cases this
theorem QSt.fr{g:Heap}{k' d' c' w':Nat}(s:QSt m h p b ts E k d c w)(f:Fr h g p)(hp:g.get p=some (.row 160 [tsV b ts,iv ((k':Nat):Int),iv (E:Int),iv ((d':Nat):Int),iv ((c':Nat):Int),iv ((w':Nat):Int)] 0 false))(hk:k'≤ts.length):QSt m g p b ts E k' d' c' w':=
 ⟨s.gl.fr f s.p6,s.p6,hp,s.tk.imp id fun h1=>(f.get b (za h1) (s.bp h1)).trans h1,hk,s.tT⟩
theorem QSt.keep{g:Heap}(s:QSt m h p b ts E k d c w)(hn:h.nx≤g.nx)(hg:∀ c,c < h.nx→g.get c=h.get c):QSt m g p b ts E k d c w:=
 s.fr ⟨hn,fun c hc _=>hg c hc⟩ ((hg p s.lt).trans s.pp) s.kT
theorem QSt.kp{g:Heap}(s:QSt m h p b ts E k d c w)(a:Kp h g):QSt m g p b ts E k d c w:=s.keep a.nx a.get
theorem QSt.wm{w0:Nat}(s:QSt m h p b ts E k d c w):QSt m {h with wm:=w0} p b ts E k d c w:=⟨⟨s.gl.nx,s.gl.get⟩,s.p6,s.pp,s.tk,s.kT,s.tT⟩
theorem QSt.fh(s:QSt m h p b ts E k d c w):QSt m h.fh p b ts E k d c w:=s.wm
theorem QSt.some_b(s:QSt m h p b ts E k d c w){i:Nat}(hi:i < ts.length):h.get b=some (.row 199 (tkC ts) 4 false):=by
 rcases s.tk with rfl|h1
 ·simp at hi
 ·exact h1
theorem QSt.pp'(s:QSt m h p b ts E k d c w){i:Nat}(hi:i < ts.length):h.get p=some (.row 160 [sv b 0 ts.length ts.length,iv (k:Int),iv E,iv (d:Int),iv (c:Int),iv (w:Int)] 0 false):=by
 rw[← jg (b:=b) hi];exact s.pp
theorem QSt.get(_s:QSt m h p b ts E k d c w){i:Nat}(hi:i < ts.length):∃ x,ts[i]? =some x:=⟨ts[i],List.getElem?_eq_getElem hi⟩
theorem jG(s:QSt m h p b ts E k d c w)(t:Bsy)(n:Nat)(hn:1≤n):RD n 152 [pv p 0,.string ⟨⟨t⟩⟩] h=some (.bool (decide (c=0) && (sg ts [t] k).isSome),h):=by
 obtain⟨n,rfl⟩:=zs_ n
 have hT:=s.tT
 by_cases hc:c=0
 ·have ec:((c:Int)==0)=true:=by rw[hc];rfl
  rw[dT hc,Bool.true_and]
  unfold sg
  by_cases hk:k < ts.length
  ·obtain⟨x,hx⟩:=s.get hk
   have hbl:=za (s.some_b hk)
   rw[hx]
   by_cases h4:x.k=4
   ·by_cases ht:x.t=t
    ·simp only[h4,ht,List.mem_singleton,and_self,if_true,Option.isSome_some]
     exact zH (zzs h p b k ts.length E d c w t ts x n (s.pp' hk) (s.some_b hk) hx hk (by omega) s.lt hbl ec (zw hk) (eqK (k:=4) h4) (by rw[zZ];exact dT ht)) rfl
    ·simp only[h4,ht,List.mem_singleton,and_false,if_false,Option.isSome_none]
     exact zH (zzt h p b k ts.length E d c w t ts x n (s.pp' hk) (s.some_b hk) hx hk (by omega) s.lt hbl ec (zw hk) (eqK (k:=4) h4) (by rw[zZ];exact dF ht)) rfl
   ·simp only[h4,false_and,if_false,Option.isSome_none]
    exact zH (zzu h p b k ts.length E d c w t ts x n (s.pp' hk) (s.some_b hk) hx hk (by omega) s.lt hbl ec (zw hk) (neK (k:=4) h4)) rfl
  ·rw[List.getElem?_eq_none (by omega)]
   exact zH (zzv h p k ts.length E d c w (tsR b ts) t n s.pp ec (zE hk)) rfl
 ·rw[dF hc,Bool.false_and]
  exact zH (zzw h p k ts.length E d c w (tsR b ts) t n s.pp (neK (k:=0) hc)) rfl
theorem zdO{ops:List (Bsy)}{s:Bsy}(h1:sg ts ops k=some s):s∈ops∧sg ts [s] k=some s:=by
 unfold sg at h1 ⊢
 split at h1
 next x hx=>
  split at h1
  next hc=>
   simp only[sJ] at h1
   subst h1
   exact⟨hc.2,by simp[hx,hc.1]⟩
  next=>cases h1
 next=>cases h1
theorem zql{o:Bsy}{ops:List (Bsy)}:sg ts (o::ops) k=if(sg ts [o] k).isSome then some o else sg ts ops k:=by
 unfold sg
 cases hx:ts[k]? with
 |none=>simp
 |some x=>
  by_cases h4:x.k=4
  ·by_cases ht:x.t=o
   ·simp[h4,ht]
   ·by_cases hm:x.t∈ops <;>simp[h4,ht,hm]
  ·simp[h4]
theorem zqw{q es:Nat}{ops:List (Bsy)}{ro:Bool}(s:QSt m h p b ts E k d c w)(hg:h.get q=some (.row 9 (ops.map fun s=>.string ⟨⟨s⟩⟩) es ro))(hl:ops.length≤100)(n:Nat)(hn:1≤n):∀ (r:List (Bsy)) (i:Nat),ops.drop i=r→
  ∃ R,R≤r.length+1∧match(if c=0 then sg ts r k else none) with
   |some v=>Loops En (RD n) 22 18446744073709551616 (sub [1,0,1,0,0] (zp Tryz.f111)) [(0,pv p 0),(1,sv q 0 ops.length ops.length),(5,iv (i:Int))] h .ret [(4,.string ⟨⟨v⟩⟩)] h R
   |none=>Loops En (RD n) 22 18446744073709551616 (sub [1,0,1,0,0] (zp Tryz.f111)) [(0,pv p 0),(1,sv q 0 ops.length ops.length),(5,iv (i:Int))] h (.exit 0) [] h R:=by
 intro r
 induction r with
 |nil=>
  intro i hi
  have:ops.length≤i:=List.drop_eq_nil_iff.1 hi
  have e:(if c=0 then sg ts [] k else none)=none:=by
   split
   ·unfold sg;cases ts[k]? <;>simp
   ·rfl
  rw[e]
  exact⟨1,by omega,.out (zti h p q ops.length i n (zE (by omega)))⟩
 |cons o r ih=>
  intro i hi
  have hlt:i < ops.length:=by
   rcases Nat.lt_or_ge i ops.length with h1|h1
   ·exact h1
   ·rw[List.drop_eq_nil_of_le h1] at hi;cases hi
  have hs:ops[i]? =some o:=by
   have:=congrArg List.head? hi
   rw[List.head?_drop] at this
   exact this
  have hd:ops.drop (i+1)=r:=by rw[← List.drop_drop,hi];rfl
  have ld:=zdX hg hs
  have eq1:=jG s o n hn
  rw[zql]
  obtain⟨R,hR,hM⟩:=ih (i+1) hd
  by_cases hc:c=0
  ·rw[if_pos hc] at hM ⊢
   rw[dT hc,Bool.true_and] at eq1
   cases hsg:(sg ts [o] k).isSome with
   |true=>
    rw[hsg] at eq1
    rw[if_pos rfl]
    exact⟨1,by omega,.ret (zth h p q ops.length i ⟨⟨o⟩⟩ n hlt (by omega) (zw hlt) ld eq1 ld)⟩
   |false=>
    rw[hsg] at eq1
    rw[if_neg (by decide)]
    have hb:=zpF h p q ops.length i ⟨⟨o⟩⟩ n hlt (by omega) (zw hlt) ld eq1
    refine⟨R+1,by simp only[lC];omega,?_⟩
    split at hM
    next v e=>exact .on hb hM
    next e=>exact .on hb hM
  ·rw[if_neg hc] at hM ⊢
   rw[dF hc,Bool.false_and] at eq1
   have hb:=zpF h p q ops.length i ⟨⟨o⟩⟩ n hlt (by omega) (zw hlt) ld eq1
   exact⟨R+1,by simp only[lC];omega,.on hb hM⟩
theorem qZ{q es:Nat}{ops:List (Bsy)}{ro:Bool}(s:QSt m h p b ts E k d c w)(hg:h.get q=some (.row 9 (ops.map fun s=>.string ⟨⟨s⟩⟩) es ro))(hl:ops.length≤100)(n:Nat)(hn:2≤n):
  RD n 111 [pv p 0,sv q 0 ops.length ops.length] h=some (.string ⟨⟨(if c=0 then sg ts ops k else none).getD []⟩⟩,h):=by
 obtain⟨n,rfl⟩:=zs_ n
 obtain⟨R,hR,hM⟩:=zqw s.fh (q:=q) (es:=es) (ro:=ro) hg hl n (by omega) ops 0 (List.drop_zero)
 split at hM
 next v e=>rw[e];exact zH (zv9 h p q ops.length ⟨⟨v⟩⟩ n (hM.fact2 (by omega) (by kernel_rfl))) rfl
 next e=>rw[e];exact zH (zv8 h p q ops.length n (hM.fact2 (by omega) (by kernel_rfl))) rfl
structure Tn(m:Int)(h h':Heap)(p b:Nat)(ts:List Tk)(E k d c w:Nat):Prop where
 fr:Fr h h' p
 nx:h'.nx=h.nx
 wm:h'.wm≤h.wm
 st:QSt m h' p b ts E k d c w
theorem Tn.refl(s:QSt m h p b ts E k d c w):Tn m h h p b ts E k d c w:=⟨Fr.refl _ _,rfl,nL_ _,s⟩
theorem zdJ{k' d' c' w':Nat}(s:QSt m h p b ts E k d c w){X:Option (Value×Heap)}{v:Value}{H:Heap}(e:X=some (zy h v H))(g:∀ c,c < h.nx→c≠p→H.get c=h.get c)(nx:H.nx=h.nx)(wp:H.wm≤p)
  (gp:H.get p=some (.row 160 [tsV b ts,iv ((k':Nat):Int),iv (E:Int),iv ((d':Nat):Int),iv ((c':Nat):Int),iv ((w':Nat):Int)] 0 false)) (hk:k'≤ts.length):
  ∃ h',X=some (v,h')∧Tn m h h' p b ts E k' d' c' w'∧h'.wm≤p:=by
 have F:Fr h H p:=⟨by omega,g⟩
 exact⟨_,ur e (by have:=s.lt;omega),⟨F.wm _,nx,Nat.min_le_left _ _,(s.fr F gp hk).wm⟩,nT (Nat.min_le_right _ _) wp⟩
theorem qi(s:QSt m h p b ts E k d c w)(n:Nat)(hn:1≤n):∃ h',RD n 79 [pv p 0] h=some (.tuple #[],h')∧(if c=0 then Tn m h h' p b ts E k d 13 (place ts E k)∧h'.wm≤p else h'=h):=by
 obtain⟨n,rfl⟩:=zs_ n
 have hT:=s.tT
 by_cases hc:c=0
 ·have ec:((c:Int) !=0)=false:=by rw[hc];rfl
  simp only[hc,if_true]
  by_cases hk:k < ts.length
  ·obtain⟨x,hx⟩:=s.get hk
   obtain⟨H,e,g,nx,wm,wp,gp⟩:=zwe h p b k ts.length E d c w ts x n (s.pp' hk) (s.some_b hk) hx hk (by omega) s.lt (za (s.some_b hk)) (s.bp (s.some_b hk)) ec (zw hk)
   exact zdJ s e g nx wp (by rw[gp,jg hk];unfold place;rw[hx];rfl) s.kT
  ·obtain⟨H,e,g,nx,wm,wp,gp⟩:=zzK h p k ts.length E d c w (tsR b ts) n s.pp s.lt ec (zE hk)
   exact zdJ s e g nx wp (by rw[gp];unfold place;rw[List.getElem?_eq_none (by omega)];rfl) s.kT
 ·have ec:((c:Int) !=0)=true:=by
   have:=neK (k:=0) hc
   show(!((c:Int)==0))=true
   rw[show((c:Int)==0)=false from this];rfl
  simp only[if_neg hc]
  exact⟨h,zH (zzL h p k ts.length E d c w (tsR b ts) n s.pp ec) rfl,rfl⟩
theorem zaI(s:QSt m h p b ts E k d 0 0)(hd:d≤40)(n:Nat)(hn:1≤n):∃ h',h'.wm≤p∧(if 40≤d then RD n 208 [pv p 0] h=some (.bool false,h')∧Tn m h h' p b ts E k (d+1) 14 0 else RD n 208 [pv p 0] h=some (.bool true,h')∧Tn m h h' p b ts E k (d+1) 0 0):=by
 obtain⟨n,rfl⟩:=zs_ n
 by_cases hd':40≤d
 ·obtain⟨H,e,g,nx,wm,wp,gp⟩:=ztn h p k ts.length E d (tsR b ts) n s.pp s.lt (by omega) (dT (by omega))
  obtain⟨h',e',T,w'⟩:=zdJ (d':=d+1) (c':=14) (w':=0) (k':=k) s e g nx wp gp s.kT
  exact⟨h',w',by rw[if_pos hd'];exact⟨e',T⟩⟩
 ·obtain⟨H,e,g,nx,wm,wp,gp⟩:=zwc h p k ts.length E d (tsR b ts) n s.pp s.lt (by omega) (dF (by omega))
  obtain⟨h',e',T,w'⟩:=zdJ (d':=d+1) (c':=0) (w':=0) (k':=k) s e g nx wp gp s.kT
  exact⟨h',w',by rw[if_neg hd'];exact⟨e',T⟩⟩
theorem zdR(s:QSt m h p b ts E k d c w)(n:Nat)(hn:1≤n):RD n 240 [pv p 0] h=some (.bool (jC ts k),h):=by
 obtain⟨n,rfl⟩:=zs_ n
 have h3:=s.tT
 have hT:=s.kT
 by_cases hk:k+1 < ts.length
 ·obtain⟨x,hx⟩:=s.get hk
  have hd:decide ((k:Int)+1 < (ts.length:Int))=true:=dT (by omega)
  unfold jC sg
  rw[hx]
  by_cases h4:x.k=4
  ·by_cases ht:x.t=[40]
   ·simp only[h4,ht,List.mem_singleton,and_self,if_true,Option.isSome_some]
    exact zH (zzH h p b k ts.length E d c w ts x n (s.pp' hk) (s.some_b hk) hx hk (by omega) hd (by rw[h4];rfl) (by rw[ht];rfl)) rfl
   ·simp only[h4,ht,List.mem_singleton,and_false,if_false,Option.isSome_none]
    exact zH (zzI h p b k ts.length E d c w ts x n (s.pp' hk) (s.some_b hk) hx hk (by omega) hd (by rw[h4];rfl) (by have:=zZ x.t [40];rw[dF ht] at this;exact this)) rfl
  ·simp only[h4,false_and,if_false,Option.isSome_none]
   exact zH (zzJ h p b k ts.length E d c w ts x n (s.pp' hk) (s.some_b hk) hx hk (by omega) hd (by have:=eqN x.k 4;rw[dF h4] at this;exact this)) rfl
 ·unfold jC sg
  rw[List.getElem?_eq_none (by omega)]
  exact zH (ztp h p k ts.length E d c w (tsR b ts) n s.pp (by omega) (dF (by omega))) rfl
theorem vY(s:QSt m h p b ts E k d c w)(n:Nat)(hn:2≤n):∃ h',RD n 233 [pv p 0] h=some (.tuple #[],h')∧
  (if c=0 then h'.wm≤p∧(match sg ts [[41]] k with
   |some _=>Tn m h h' p b ts E (k+1) d c w
   |none=>Tn m h h' p b ts E k d 13 (place ts E k)) else h'=h):=by
 obtain⟨n,rfl⟩:=zs_ n
 have hT:=s.tT
 have hkT:=s.kT
 have e1:=jG s.fh [41] n (by omega)
 obtain⟨h2,e2,S2⟩:=qi s.fh n (by omega)
 by_cases hc:c=0
 ·simp only[if_pos hc] at S2 ⊢
  rw[dT hc,Bool.true_and] at e1
  cases hs:sg ts [[41]] k with
  |some t=>
   rw[hs] at e1
   have:=qR ts hs
   obtain⟨H,e,g,nx,wm,wp,gp⟩:=ztq h p k ts.length E d c w (tsR b ts) n s.pp s.lt (by omega) e1
   obtain⟨h',e',T,w'⟩:=zdJ (k':=k+1) s e g nx wp gp (by omega)
   exact⟨h',e',w',T⟩
  |none=>
   rw[hs] at e1
   obtain⟨T,wp⟩:=S2
   have F:Fr h h2 p:=⟨by have:=T.nx;show h.nx≤h2.nx;rw[this];exact nL_ _,T.fr.get⟩
   exact⟨_,ur (zpH h h2 p n e1 e2) (by have:=s.lt;omega),nT (Nat.min_le_right _ _) wp,F.wm _,T.nx,Nat.min_le_left _ _,T.st.wm⟩
 ·simp only[if_neg hc] at S2 ⊢
  rw[dF hc,Bool.false_and] at e1
  subst S2
  exact⟨h,zH (zpH h _ p n e1 e2) rfl,rfl⟩
theorem zaH{x y:Hd}{xr yr:OA}{xn yn:Nat}(s:Bsy)(n:Nat)(hn:1≤n):
  ∃ h',RD n 112 [.string ⟨⟨s⟩⟩,ndV x xr xn,ndV y yr yn] h=some (ndV (zg 5 s) (some ⟨h.nx+3,0,none⟩) 2,h')∧Kp h h'∧h'.nx=h.nx+4∧h'.get (h.nx+3)=some (.row 72 (ndL x xr xn++ndL y yr yn) 0 false):=by
 obtain⟨n,rfl⟩:=zs_ n
 obtain⟨H,e,g,nx,wm,w⟩:=qw h s x y xr yr xn yn n
 have hlow:zM h.nx 5 (.agg #[iv 5,iv 0,iv 0,.string ⟨#[]⟩,iv 0,iv 0,iv 0,iv 0,.string ⟨⟨s⟩⟩,sv (h.nx+3) 0 2 2])=false:=by
  simp[zM,jH (Nat.le_add_right h.nx 3)]
 exact⟨_,jY e hlow,⟨by show h.nx≤H.nx;omega,g,Nat.min_le_left _ _⟩,nx,w⟩
theorem zk8{P Q:Nat→Prop}{x y:Hd}{xr yr:OA}{xn yn:Nat}{t u:Tr}{s:Bsy}{h':Heap}(K:Kp h h')(w:h'.get (h.nx+3)=some (.row 72 (ndL x xr xn++ndL y yr yn) 0 false))(hx:zc h P x xr xn t)(hy:zc h P y yr yn u)(hPQ:∀ c,P c→c < h.nx→Q c)(hQ:Q (h.nx+3)):
  zc h' Q (zg 5 s) (some ⟨h.nx+3,0,none⟩) 2 (vM s t u):=by
 have tr:∀ c o,P c→h.get c=some o→Q c∧h'.get c=some o:=fun c o hP e=>⟨hPQ c hP (za e),(K.get c (za e)).trans e⟩
 refine zc.mk (ts:=[t,u]) (es:=0) (ro:=false) (cs:=ndL x xr xn++ndL y yr yn) _ hQ w ?_
 unfold ArgsC
 refine⟨x,xr,xn,ndL y yr yn,rfl,hx.mono tr,?_⟩
 unfold ArgsC
 refine⟨y,yr,yn,[],by rw[List.append_nil],hy.mono tr,?_⟩
 unfold ArgsC;rfl
end
noncomputable section
abbrev zga:Vs:=[.string ⟨#[61]⟩,.string ⟨#[60,62]⟩,.string ⟨#[60]⟩,.string ⟨#[60,61]⟩,.string ⟨#[62]⟩,.string ⟨#[62,61]⟩]
abbrev zf9(r:OA)(T k1 E d:Nat):AObj:=.row 160 [.slice r T T,iv (k1:Int),iv E,iv (d:Int),iv 0,iv 0] 0 false
abbrev zf8:Vs:=[.string ⟨#[43]⟩,.string ⟨#[45]⟩,.string ⟨#[38]⟩]
abbrev zf7:Vs:=[.string ⟨#[42]⟩,.string ⟨#[47]⟩,.string ⟨#[37]⟩]
abbrev zen(p B2 B3 i:Nat):List (Nat×Value):=[(0,pv p 0),(2,pv B2 0),(3,pv B3 0),(4,iv (i:Int))]
abbrev zf6(r:OA)(T k1 E d:Nat):Vs:=[.slice r T T,iv ((k1:Int)+1),iv E,iv (d:Int),iv 0,iv 0]
abbrev zaP(h1:Heap)(x:Hd)(xr:OA)(xn:Nat):Heap:=pt (al h1 72 z72) h1.nx 72 (ndL x xr xn)
abbrev yR(x:Hd)(xr:OA)(xn:Nat):AObj:=.row 72 (ndL x xr xn) 0 false
abbrev zsf(h2:Heap):Value:=.agg #[iv 4,iv 0,iv 0,.string ⟨#[]⟩,iv 0,iv 0,iv 0,iv 0,.string ⟨#[]⟩,sv (h2.nx+1) 0 1 1]
abbrev zdy(k1:Nat):Value:=iv ((k1:Int)+1)
abbrev zpp(r:OA)(T k3 E d3 c3 w3:Nat):AObj:=.row 160 [.slice r T T,iv (k3:Int),iv E,iv (d3:Int),iv (c3:Int),iv (w3:Int)] 0 false
variable (h h1 hL h2 h3:Heap) (p T E k k1 d k3 d3 c3 w3 B2 B3 i n:Nat) (s:Bsy) (r:OA) (x:Hd) (xr:OA) (xn:Nat) (y:Hd) (yr:OA) (yn:Nat) (w:Hd) (wr:OA) (wn:Nat)
theorem zpE(T E n:Nat)(x:Hd)(xr:OA)(xn:Nat)(_hp:p < h.nx)(g1_:h1.get h.nx=some (.row 72 z72 0 false))(l1_:h.nx < h1.nx)(a0:RD n 207 [pv p 0] (al h.fh 72 z72)=some (ndV x xr xn,h1))(a1:Pu n 152 [pv p 0,.string ⟨#[94]⟩] (.bool false) (zaP h1 x xr xn)):∃ H,Fn n 183 [pv p 0] h (ndV x xr xn) H∧tl1 h1 h1.wm h.nx (h1.nx+1) H:=
 exV (kZ h) [aS 72 z72,yC a0 (kI (ko g1_)),aS 72 z72,.w 1 72 0 (ndV x xr xn),yP a1,.g 1 72 0 10,.w 0 72 0 (ndV x xr xn),.r 0 72 10] []
theorem zv7(_hp:p < h.nx)(g1_:h1.get h.nx=some (.row 72 z72 0 false))(gh1_p:h1.get p=some (zf9 r T k1 E d))(l1_:h.nx < h1.nx)(_lph1:p < h1.nx)(_hk:k1 < 1000)(g2_:h2.get h.nx=some (.row 72 z72 0 false))(g21_:h2.get h1.nx=some (yR x xr xn))(l2_:h.nx < h2.nx)(l12_:h1.nx < h2.nx)(a0:RD n 207 [pv p 0] (al h.fh 72 z72)=some (ndV x xr xn,h1))(a1:Pu n 152 [pv p 0,.string ⟨#[94]⟩] (.bool true) (zaP h1 x xr xn))(a2:RD n 208 [pv p 0] (pt (zaP h1 x xr xn) p 160 (zf6 r T k1 E d))=some (.bool false,h2)):∃ H,Fn n 183 [pv p 0] h (ndV x xr xn) H∧tl1 h2 h2.wm h.nx h2.nx H:=
 exV (kZ h) [aS 72 z72,yC a0 (kI (ko gh1_p)),aS 72 z72,.w 1 72 0 (ndV x xr xn),yP a1,.l 0 3 1,yW ((k1:Int)+1),.w 0 3 1 (zdy k1),yC a2 (kJ (ko g21_) (ko g2_)),.g 0 72 0 10,.w 1 72 0 (ndV x xr xn),.r 1 72 10] []
theorem zv6(h4:Heap)(p T E k1 d k3 d3 c3 w3 n:Nat)(r:OA)(x:Hd)(xr:OA)(xn:Nat)(y:Hd)(yr:OA)(yn:Nat)(w:Hd)(wr:OA)(wn:Nat)(_hp:p < h.nx)(g1_:h1.get h.nx=some (.row 72 z72 0 false))(gh1_p:h1.get p=some (zf9 r T k1 E d))(l1_:h.nx < h1.nx)(_lph1:p < h1.nx)(_hk:k1 < 1000)(g3_:h3.get h.nx=some (.row 72 z72 0 false))(g31_:h3.get h1.nx=some (yR x xr xn))(gh3_p:h3.get p=some (zpp r T k3 E d3 c3 w3))(l3_:h.nx < h3.nx)(l13_:h1.nx < h3.nx)(_lph3:p < h3.nx)(g4_:h4.get h.nx=some (.row 72 z72 0 false))(l4_:h.nx < h4.nx)(_hd3:d3 < 1000)(a0:RD n 207 [pv p 0] (al h.fh 72 z72)=some (ndV x xr xn,h1))(a1:Pu n 152 [pv p 0,.string ⟨#[94]⟩] (.bool true) (zaP h1 x xr xn))(a2:RD n 208 [pv p 0] (pt (zaP h1 x xr xn) p 160 (zf6 r T k1 E d))=some (.bool true,h2))(a3:RD n 183 [pv p 0] h2=some (ndV y yr yn,h3))(a4:RD n 112 [.string ⟨#[94]⟩,ndV x xr xn,ndV y yr yn] (pt (pt (al h3 72 z72) h3.nx 72 (ndL y yr yn)) p 160 [.slice r T T,iv (k3:Int),iv E,iv ((d3:Int) - 1),iv (c3:Int),iv (w3:Int)])=some (ndV w wr wn,h4)):∃ H,Fn n 183 [pv p 0] h (ndV w wr wn) H∧tl1 h4 h4.wm h.nx h4.nx H:=
 exV (kZ h) [aS 72 z72,yC a0 (kI (ko gh1_p)),aS 72 z72,.w 1 72 0 (ndV x xr xn),yP a1,.l 0 3 1,yW ((k1:Int)+1),.w 0 3 1 (zdy k1),yC a2 (kZ h2),yC a3 (kJ (ko gh3_p) (ko g31_)),aS 72 z72,.w 2 72 0 (ndV y yr yn),.l 0 3 3,yW ((d3:Int) - 1),.w 0 3 3 (iv ((d3:Int) - 1)),.g 1 72 0 10,.g 2 72 0 10,yC a4 (kI (ko g4_)),.w 0 72 0 (ndV w wr wn),.r 0 72 10] []
theorem zvZ(T E n:Nat)(x:Hd)(xr:OA)(xn:Nat)(_hp:p < h.nx)(g1_:h1.get h.nx=some (.row 72 z72 0 false))(l1_:h.nx < h1.nx)(a0:Pu n 152 [pv p 0,.string ⟨#[45]⟩] (.bool false) (al h.fh 72 z72))(a1:RD n 225 [pv p 0] (al h.fh 72 z72)=some (ndV x xr xn,h1)):∃ H,Fn n 207 [pv p 0] h (ndV x xr xn) H∧tl1 h1 h1.wm h.nx h1.nx H:=
 exV (kZ h) [aS 72 z72,yP a0,yC a1 (kI (ko g1_)),.w 0 72 0 (ndV x xr xn),.r 0 72 10] []
theorem zv1(hp:h.get p=some (.row 160 [.slice r T T,iv (k:Int),iv E,iv (d:Int),iv 0,iv 0] 0 false))(_hp:p < h.nx)(_hk:k < 1000)(g1_:h1.get h.nx=some (.row 72 z72 0 false))(l1_:h.nx < h1.nx)(a0:Pu n 152 [pv p 0,.string ⟨#[45]⟩] (.bool true) (al h.fh 72 z72))(a1:RD n 208 [pv p 0] (pt (al h.fh 72 z72) p 160 [.slice r T T,iv ((k:Int)+1),iv E,iv (d:Int),iv 0,iv 0])=some (.bool false,h1)):∃ H,Fn n 207 [pv p 0] h (zj) H∧tl1 h1 h1.wm h.nx h1.nx H:=
 exV (kI (ko hp)) [aS 72 z72,yP a0,.l 0 3 1,yW ((k:Int)+1),.w 0 3 1 (iv ((k:Int)+1)),yC a1 (kI (ko g1_)),.w 0 72 0 (zj),.r 0 72 10] []
theorem zv0(hp:h.get p=some (.row 160 [.slice r T T,iv (k:Int),iv E,iv (d:Int),iv 0,iv 0] 0 false))(_hp:p < h.nx)(_hk:k < 1000)(g2_:h2.get h.nx=some (.row 72 z72 0 false))(gh2_p:h2.get p=some (zpp r T k3 E d3 c3 w3))(l2_:h.nx < h2.nx)(_lph2:p < h2.nx)(_hd3:d3 < 1000)(a0:Pu n 152 [pv p 0,.string ⟨#[45]⟩] (.bool true) (al h.fh 72 z72))(a1:RD n 208 [pv p 0] (pt (al h.fh 72 z72) p 160 [.slice r T T,iv ((k:Int)+1),iv E,iv (d:Int),iv 0,iv 0])=some (.bool true,h1))(a2:RD n 207 [pv p 0] h1=some (ndV x xr xn,h2)):∃ H,Fn n 207 [pv p 0] h (zsf h2) H∧tw2 h2 h2.wm h.nx p (h2.nx+2) H (H.get (h2.nx+1)=some (yR x xr xn)∧H.get p=some (.row 160 [.slice r T T,iv (k3:Int),iv E,iv ((d3:Int) - 1),iv (c3:Int),iv (w3:Int)] 0 false)):=
 exV (kI (ko hp)) [aS 72 z72,yP a0,.l 0 3 1,yW ((k:Int)+1),.w 0 3 1 (iv ((k:Int)+1)),yC a1 (kZ h1),yC a2 (kJ (ko gh2_p) (ko g2_)),aS 72 z72,.w 2 72 0 (ndV x xr xn),.l 0 3 3,yW ((d3:Int) - 1),.w 0 3 3 (iv ((d3:Int) - 1)),.g 2 72 0 10,aS 72 (ndL x xr xn),.w 1 72 0 (zsf h2),.r 1 72 10] [3,0]
theorem zlb(T E n:Nat)(x:Hd)(xr:OA)(xn:Nat)(_hp:p < h.nx)(g1_:h1.get h.nx=some (.row 72 z72 0 false))(l1_:h.nx < h1.nx)(a0:RD n 110 [pv p 0] (al h.fh 72 z72)=some (ndV x xr xn,h1))(a1:Pu n 111 [pv p 0,sv (h1.nx+1) 0 6 6] (.string ⟨#[]⟩) (al (zaP h1 x xr xn) 9 zga)):∃ H,Fn n 78 [pv p 0] h (ndV x xr xn) H∧tl1 h1 h1.wm h.nx (h1.nx+2) H:=
 exV (kZ h) [aS 72 z72,yC a0 (kI (ko g1_)),aS 72 z72,.w 1 72 0 (ndV x xr xn),aS 9 zga,yP a1,bF,.g 1 72 0 10,.w 0 72 0 (ndV x xr xn),.r 0 72 10] []
theorem zto(_hp:p < h.nx)(g1_:h1.get h.nx=some (.row 72 z72 0 false))(gh1_p:h1.get p=some (zf9 r T k1 E d))(l1_:h.nx < h1.nx)(_lph1:p < h1.nx)(_hk:k1 < 1000)(g21_:h2.get h1.nx=some (yR x xr xn))(l12_:h1.nx < h2.nx)(g3_:h3.get h.nx=some (.row 72 z72 0 false))(l3_:h.nx < h3.nx)(a0:RD n 110 [pv p 0] (al h.fh 72 z72)=some (ndV x xr xn,h1))(a1:Pu n 111 [pv p 0,sv (h1.nx+1) 0 6 6] (.string ⟨⟨s⟩⟩) (al (zaP h1 x xr xn) 9 zga))(a2:(!bqS ⟨⟨s⟩⟩ ⟨#[]⟩)=true)(a3:RD n 110 [pv p 0] (pt (al (zaP h1 x xr xn) 9 zga) p 160 (zf6 r T k1 E d))=some (ndV y yr yn,h2))(a4:RD n 112 [.string ⟨⟨s⟩⟩,ndV x xr xn,ndV y yr yn] h2=some (ndV w wr wn,h3)):∃ H,Fn n 78 [pv p 0] h (ndV w wr wn) H∧tl1 h3 h3.wm h.nx h3.nx H:=
 exV (kZ h) [aS 72 z72,yC a0 (kI (ko gh1_p)),aS 72 z72,.w 1 72 0 (ndV x xr xn),aS 9 zga,yP a1,yT a2,.l 0 3 1,yW ((k1:Int)+1),.w 0 3 1 (zdy k1),.g 1 72 0 10,yC a3 (kI (ko g21_)),yC a4 (kI (ko g3_)),.w 0 72 0 (ndV w wr wn),yN (h1.nx+2),.j 5,.q (.g 1 72 0 10),.j 6,.q (.g 0 72 0 10),.j 8,.r 0 72 10] []
theorem zjs(g3:h.get B3=some (yR x xr xn))(_l3:B3 < h.nx)(_hi:i < 400)(a0:decide ((i:Int) < 400)=true)(a1:Pu n 111 [pv p 0,sv h.nx 0 3 3] (.string ⟨#[]⟩) (al h 9 zf8)):∃ H,Bd n 30 [1,1,0,1,0,0] Tryz.f110 (zen p B2 B3 i) h (.exit 0) [(2,pv B2 0),(3,pv B3 0)] H∧tl0 h h.wm (h.nx+1) H:=
 bdE (kZ h) [yT a0,aS 9 zf8,yP a1,bT,.z 0] []
theorem zts(a0:decide ((i:Int) < 400)=false):Bd n 30 [1,1,0,1,0,0] Tryz.f110 (zen p B2 B3 i) h (.exit 0) [(2,pv B2 0),(3,pv B3 0)] h:=
 bdF (kZ h) [yF a0,.z 0]
theorem zwf(g3:h.get B3=some (yR x xr xn))(_l3:B3 < h.nx)(_hi:i < 400)(hp:h.get p=some (zf9 r T k1 E d))(_lp:p < h.nx)(_hk:k1 < 1000)(_hpB:p≠B3)(gh2_B3:h2.get B3=some (yR x xr xn))(_lB3h2:B3 < h2.nx)(gh3_B3:h3.get B3=some (yR x xr xn))(_lB3h3:B3 < h3.nx)(a0:decide ((i:Int) < 400)=true)(a1:Pu n 111 [pv p 0,sv h.nx 0 3 3] (.string ⟨⟨s⟩⟩) (al h 9 zf8))(a2:bqS ⟨⟨s⟩⟩ ⟨#[]⟩=false)(a3:RD n 151 [pv p 0] (pt (al h 9 zf8) p 160 (zf6 r T k1 E d))=some (ndV y yr yn,h2))(a4:RD n 112 [.string ⟨⟨s⟩⟩,ndV x xr xn,ndV y yr yn] h2=some (ndV w wr wn,h3)):∃ H,Bd n 30 [1,1,0,1,0,0] Tryz.f110 (zen p B2 B3 i) h .normal [(0,pv p 0),(2,pv B2 0),(3,pv B3 0),(4,iv ((i:Int)+1))] H∧tw1 h3 h3.wm B3 h3.nx H (H.get B3=some (.row 72 (ndL w wr wn) 0 false)):=
 bdE (kJ (ko hp) (ko g3)) [yT a0,aS 9 zf8,yP a1,yF a2,.l 0 3 1,yW ((k1:Int)+1),.w 0 3 1 (zdy k1),.g 1 72 0 10,yC a3 (kI (ko gh2_B3)),yC a4 (kI (ko gh3_B3)),.w 0 72 0 (ndV w wr wn),yN (h.nx+1),.j 1,.q (.g 1 72 0 10),.j 2,.q (.g 0 72 0 10),.j 4,yW ((i:Int)+1),.z 0] [0]
theorem zpI(g1_:h1.get h.nx=some (.row 72 z72 0 false))(l1_:h.nx < h1.nx)(ghL_h1nx:hL.get h1.nx=some (.row 72 (ndL y yr yn) 0 false))(ghL_hnx:hL.get h.nx=some (.row 72 z72 0 false))(_lhnxhL:h.nx < hL.nx)(a0:RD n 151 [pv p 0] (al h.fh 72 z72)=some (ndV x xr xn,h1))(a1:Lf n 30 [1,1,0,1,0,0] Tryz.f110 [(0,pv p 0),(2,pv h.nx 0),(6,pv p 0),(7,ndV x xr xn),(3,pv h1.nx 0),(4,iv 0)] (zaP h1 x xr xn) (.exit 0) [(2,pv h.nx 0),(3,pv h1.nx 0)] hL):∃ H,Fn n 110 [pv p 0] h (ndV y yr yn) H∧tl1 hL hL.wm h.nx hL.nx H:=
 exV (kZ h) [aS 72 z72,yC a0 (kZ h1),aS 72 z72,.w 0 72 0 (ndV x xr xn),yS a1 (kJ (ko ghL_h1nx) (ko ghL_hnx)),.g 0 72 0 10,.w 1 72 0 (ndV y yr yn),.r 1 72 10] []
theorem zjr(g3:h.get B3=some (yR x xr xn))(_l3:B3 < h.nx)(_hi:i < 400)(a0:decide ((i:Int) < 400)=true)(a1:Pu n 111 [pv p 0,sv h.nx 0 3 3] (.string ⟨#[]⟩) (al h 9 zf7)):∃ H,Bd n 30 [1,1,0,1,0,0] Tryz.f151 (zen p B2 B3 i) h (.exit 0) [(2,pv B2 0),(3,pv B3 0)] H∧tl0 h h.wm (h.nx+1) H:=
 bdE (kZ h) [yT a0,aS 9 zf7,yP a1,bT,.z 0] []
theorem ztk(a0:decide ((i:Int) < 400)=false):Bd n 30 [1,1,0,1,0,0] Tryz.f151 (zen p B2 B3 i) h (.exit 0) [(2,pv B2 0),(3,pv B3 0)] h:=
 bdF (kZ h) [yF a0,.z 0]
theorem zwa(g3:h.get B3=some (yR x xr xn))(_l3:B3 < h.nx)(_hi:i < 400)(hp:h.get p=some (zf9 r T k1 E d))(_lp:p < h.nx)(_hk:k1 < 1000)(_hpB:p≠B3)(gh2_B3:h2.get B3=some (yR x xr xn))(_lB3h2:B3 < h2.nx)(gh3_B3:h3.get B3=some (yR x xr xn))(_lB3h3:B3 < h3.nx)(a0:decide ((i:Int) < 400)=true)(a1:Pu n 111 [pv p 0,sv h.nx 0 3 3] (.string ⟨⟨s⟩⟩) (al h 9 zf7))(a2:bqS ⟨⟨s⟩⟩ ⟨#[]⟩=false)(a3:RD n 183 [pv p 0] (pt (al h 9 zf7) p 160 (zf6 r T k1 E d))=some (ndV y yr yn,h2))(a4:RD n 112 [.string ⟨⟨s⟩⟩,ndV x xr xn,ndV y yr yn] h2=some (ndV w wr wn,h3)):∃ H,Bd n 30 [1,1,0,1,0,0] Tryz.f151 (zen p B2 B3 i) h .normal [(0,pv p 0),(2,pv B2 0),(3,pv B3 0),(4,iv ((i:Int)+1))] H∧tw1 h3 h3.wm B3 h3.nx H (H.get B3=some (.row 72 (ndL w wr wn) 0 false)):=
 bdE (kJ (ko hp) (ko g3)) [yT a0,aS 9 zf7,yP a1,yF a2,.l 0 3 1,yW ((k1:Int)+1),.w 0 3 1 (zdy k1),.g 1 72 0 10,yC a3 (kI (ko gh2_B3)),yC a4 (kI (ko gh3_B3)),.w 0 72 0 (ndV w wr wn),yN (h.nx+1),.j 1,.q (.g 1 72 0 10),.j 2,.q (.g 0 72 0 10),.j 4,yW ((i:Int)+1),.z 0] [0]
theorem zpG(g1_:h1.get h.nx=some (.row 72 z72 0 false))(l1_:h.nx < h1.nx)(ghL_h1nx:hL.get h1.nx=some (.row 72 (ndL y yr yn) 0 false))(ghL_hnx:hL.get h.nx=some (.row 72 z72 0 false))(_lhnxhL:h.nx < hL.nx)(a0:RD n 183 [pv p 0] (al h.fh 72 z72)=some (ndV x xr xn,h1))(a1:Lf n 30 [1,1,0,1,0,0] Tryz.f151 [(0,pv p 0),(2,pv h.nx 0),(6,pv p 0),(7,ndV x xr xn),(3,pv h1.nx 0),(4,iv 0)] (zaP h1 x xr xn) (.exit 0) [(2,pv h.nx 0),(3,pv h1.nx 0)] hL):∃ H,Fn n 151 [pv p 0] h (ndV y yr yn) H∧tl1 hL hL.wm h.nx hL.nx H:=
 exV (kZ h) [aS 72 z72,yC a0 (kZ h1),aS 72 z72,.w 0 72 0 (ndV x xr xn),yS a1 (kJ (ko ghL_h1nx) (ko ghL_hnx)),.g 0 72 0 10,.w 1 72 0 (ndV y yr yn),.r 1 72 10] []
end
def zbK(m:Int)(h H hk:Heap)(p b:Nat)(ts:List Tk)(E d:Nat)(R:Res)(x:Hd)(r:OA)(l:Nat):Prop:=
 match R with
 | .ok t k'=>zV H h.nx H.nx x r l t∧QSt m hk p b ts E k' d 0 0
 | .err pos c=>c≠0∧∃ k' d',d≤d'∧d'≤41∧QSt m hk p b ts E k' d' c pos
def za1(m:Int)(h:Heap)(p b:Nat)(ts:List Tk)(E d:Nat)(R:Res)(v:Value)(h':Heap):Prop:=
 Fr h h' p∧h'.wm≤h.wm∧h'.wm≤p∧∃ x r l,v=ndV x r l∧zbK m h h' h' p b ts E d R x r l
def wS(m:Int)(p b:Nat)(ts:List Tk)(E:Nat)(N:Nat)(f:FuncId)(d:Nat)(R:PR):Prop:=
 ∀ n h k,N≤n→QSt m h p b ts E k d 0 0→∃ v h',RD n f [pv p 0] h=some (v,h')∧za1 m h p b ts E d (R k) v h'
theorem wS.mono{m:Int}{p b:Nat}{ts:List Tk}{E N M:Nat}{f:FuncId}{d:Nat}{R:PR}(L:wS m p b ts E N f d R)(h:N≤M):wS m p b ts E M f d R:=fun n g k hn s=>L n g k (by omega) s
section
variable {m:Int} {h:Heap} {p b:Nat} {ts:List Tk} {E k d c w:Nat}
theorem jw{lo:Nat}{x:Hd}{r:OA}{l:Nat}{R:Res}{X:Option (Value×Heap)}{H hk:Heap}(e:X=some (zy h (ndV x r l) H))(s0:QSt m h p b ts E k d c w)(F:Fr h.fh hk p)
  (gH:∀ c,c < hk.nx→c < h.nx∨lo≤c→H.get c=hk.get c) (nH:hk.nx≤H.nx) (wp:H.wm≤p) (RR:zbK m h H hk p b ts E d R x r l):
  ∃ v h',X=some (v,h')∧za1 m h p b ts E d R v h':=by
 have F':Fr h H p:=⟨nT F.nx nH,fun c hc hcp=>(gH c (nU hc F.nx) (.inl hc)).trans (F.get c hc hcp)⟩
 have hpk:p < hk.nx:=nU s0.lt F.nx
 refine⟨_,_,ur e (by have:=s0.lt;omega),F'.wm _,Nat.min_le_left _ _,nT (Nat.min_le_right _ _) wp,x,r,l,rfl,?_⟩
 unfold zbK at RR ⊢
 cases R with
 |ok t k'=>
  obtain⟨N,s⟩:=RR
  exact⟨zc.mono (h:=H) (g:={H with wm:=min h.wm H.wm}) (fun c o hc e=>⟨hc,e⟩) N,(s0.fr F' ((gH p hpk (.inl s0.lt)).trans s.pp) s.kT).wm⟩
 |err pos c'=>
  obtain⟨hc,k',d',h1,h2,s⟩:=RR
  exact⟨hc,k',d',h1,h2,(s0.fr F' ((gH p hpk (.inl s0.lt)).trans s.pp) s.kT).wm⟩
end
section
variable {m:Int} {p b:Nat} {ts:List Tk} {E:Nat}
theorem zjq{f g:PR}{d N:Nat}(hd:d≤40)(hf:wS m p b ts E N 207 d f)(hg:d < 40→wS m p b ts E N 183 (d+1) g)(hg0:d=40→∀ k,g k= .err 0 14)(hN:3≤N):wS m p b ts E (N+1) 183 d (ub ts f g):=by
 intro n h k hn s
 obtain⟨n,rfl⟩:=zs_ n
 have K0:Kp h.fh (al h.fh 72 z72):=(Kp.refl _).al 72 z72
 have hp:=s.lt
 have hT:=s.tT
 obtain⟨v1,h1,e1,F1,_,wp1,x,r,l,rfl,R1⟩:=hf n _ k (by omega) (s.fh.kp K0)
 have l1:h.nx+1≤h1.nx:=F1.nx
 have g1:h1.get h.nx=some (.row 72 z72 0 false):=(F1.get h.nx (nS _) (by omega)).trans (zb h.fh _)
 have T1:=(K0.fr p).trans F1
 have K1:Kp h1 (pt (al h1 72 z72) h1.nx 72 (ndL x r l)):=((Kp.refl h1).al _ _).pt _ _ (nL_ _) (nS _)
 unfold ub
 cases hu:f k with
 |err pos c=>
  rw[hu] at R1
  obtain⟨hc,k',d',hd1,hd2,s1⟩:=R1
  have es:=jG (s1.kp K1) [94] n (by omega)
  rw[dF hc,Bool.false_and] at es
  obtain⟨H,e,g,nx,wm,_⟩:=zpE h h1 p ts.length E n x r l hp g1 l1 e1 es
  exact jw (lo:=h.nx+1) e s T1 (fun c hc hd=>g c hc (by omega)) (by omega) (by omega) ⟨hc,k',d',hd1,hd2,s1⟩
 |ok t k1=>
  rw[hu] at R1
  obtain⟨N1,s1⟩:=R1
  have es:=jG (s1.kp K1) [94] n (by omega)
  rw[dT rfl,Bool.true_and] at es
  simp only
  cases hs:sg ts [[94]] k1 with
  |none=>
   rw[hs] at es
   obtain⟨H,e,g,nx,wm,_⟩:=zpE h h1 p ts.length E n x r l hp g1 l1 e1 es
   refine jw (lo:=h.nx+1) e s T1 (fun c hc hd=>g c hc (by omega)) (by omega) (by omega) ⟨zc.mono (fun c o hc e=>?_) N1,s1⟩
   have hc1:h.nx+1≤c:=hc.1
   exact⟨⟨by omega,by have:=hc.2;omega⟩,(g c (za e) (by omega)).trans e⟩
  |some sn=>
   rw[hs] at es
   have hk1:=qR ts hs
   have hsn:=zuc hs
   subst hsn
   have s1':=s1.kp K1
   have gp1:=s1'.pp
   have s2:QSt m (pt (pt (al h1 72 z72) h1.nx 72 (ndL x r l)) p 160 [tsV b ts,iv ((k1:Int)+1),iv (E:Int),iv (d:Int),iv ((0:Nat):Int),iv ((0:Nat):Int)]) p b ts E (k1+1) d 0 0:=s1'.fr (Fr.put _ _ _ s1'.lt) (zi _ _ _ s1'.lt) (by omega)
   have F2:Fr h1 (pt (pt (al h1 72 z72) h1.nx 72 (ndL x r l)) p 160 [tsV b ts,iv ((k1:Int)+1),iv (E:Int),iv (d:Int),iv ((0:Nat):Int),iv ((0:Nat):Int)]) p:=(K1.fr p).trans (Fr.put _ _ _ s1'.lt)
   have nP:(pt (pt (al h1 72 z72) h1.nx 72 (ndL x r l)) p 160 [tsV b ts,iv ((k1:Int)+1),iv (E:Int),iv (d:Int),iv ((0:Nat):Int),iv ((0:Nat):Int)]).nx=h1.nx+1:=rfl
   have gx:(pt (pt (al h1 72 z72) h1.nx 72 (ndL x r l)) p 160 [tsV b ts,iv ((k1:Int)+1),iv (E:Int),iv (d:Int),iv ((0:Nat):Int),iv ((0:Nat):Int)]).get h1.nx=some (.row 72 (ndL x r l) 0 false):=gO (gP (nS _)) s1'.lt (by omega)
   obtain⟨h2,wp2,I2⟩:=zaI s2 hd n (by omega)
   by_cases hd4:40≤d
   ·rw[if_pos hd4] at I2
    obtain⟨e2,T2⟩:=I2
    have n2:=T2.nx
    rw[nP] at n2
    have F12:=F2.trans T2.fr
    obtain⟨H,e,g',nx,wm,_⟩:=zv7 h h1 h2 p ts.length E k1 d n (tsR b ts) x r l hp g1 s1.pp (by omega) s1.lt (by omega) ((F12.get _ (by omega) (by omega)).trans g1) ((T2.fr.get _ (by omega) (by omega)).trans gx) (by omega) (by omega) e1 es e2
    rw[hg0 (by omega)]
    exact jw (lo:=h.nx+1) e s (T1.trans F12) (fun c hc hd=>g' c hc (by omega)) (by omega) (by omega) ⟨by decide,k1+1,d+1,by omega,by omega,T2.st⟩
   ·rw[if_neg hd4] at I2
    obtain⟨e2,T2⟩:=I2
    have n2:=T2.nx
    rw[nP] at n2
    obtain⟨v3,h3,e3,F3,w3,wp3,y,r3,l3,rfl,R3⟩:=hg (by omega) n h2 (k1+1) (by omega) T2.st
    have l3':=F3.nx
    have F13:=(F2.trans T2.fr).trans F3
    have g3:=(F13.get _ (by omega) (by omega)).trans g1
    have gx3:=(F3.get h1.nx (by omega) (by omega)).trans ((T2.fr.get _ (by omega) (by omega)).trans gx)
    have K3:Kp h3 (pt (al h3 72 z72) h3.nx 72 (ndL y r3 l3)):=((Kp.refl h3).al _ _).pt _ _ (nL_ _) (nS _)
    have T3:=T1.trans F13
    have fin3:∀ k3 d3 c3 w3,QSt m h3 p b ts E k3 d3 c3 w3→d+1≤d3→d3≤41→∃ h4 H,RD (n+1) 183 [pv p 0] h=some (zy h (ndV (zg 5 [94]) (some ⟨h3.nx+4,0,none⟩) 2) H)∧
      Fr h3 h4 p∧h4.nx=h3.nx+5∧h4.get (h3.nx+4)=some (.row 72 (ndL x r l++ndL y r3 l3) 0 false)∧QSt m h4 p b ts E k3 (d3 - 1) c3 w3∧(∀ c,c < h4.nx→c≠h.nx→H.get c=h4.get c)∧H.nx=h4.nx∧H.wm≤p:=by
     intro k3 d3 c3 w3' s3 hd3 hd3'
     have s3':=s3.kp K3
     have ed:((d3:Int) - 1)=((d3 - 1:Nat):Int):=by omega
     have s4:QSt m (pt (pt (al h3 72 z72) h3.nx 72 (ndL y r3 l3)) p 160 [tsV b ts,iv (k3:Int),iv (E:Int),iv ((d3:Int) - 1),iv (c3:Int),iv ((w3':Nat):Int)]) p b ts E k3 (d3 - 1) c3 w3':=s3'.fr (Fr.put _ _ _ s3'.lt) (by rw[← ed];exact zi _ _ _ s3'.lt) s3'.kT
     have F4:Fr h3 (pt (pt (al h3 72 z72) h3.nx 72 (ndL y r3 l3)) p 160 [tsV b ts,iv (k3:Int),iv (E:Int),iv ((d3:Int) - 1),iv (c3:Int),iv ((w3':Nat):Int)]) p:=(K3.fr p).trans (Fr.put _ _ _ s3'.lt)
     obtain⟨h4,e4,K4,n4,w4⟩:=zaH (h:=pt (pt (al h3 72 z72) h3.nx 72 (ndL y r3 l3)) p 160 [tsV b ts,iv (k3:Int),iv (E:Int),iv ((d3:Int) - 1),iv (c3:Int),iv ((w3':Nat):Int)]) (x:=x) (xr:=r) (xn:=l) (y:=y) (yr:=r3) (yn:=l3) [94] n (by omega)
     have n4':h4.nx=h3.nx+5:=n4
     have F34:=F4.trans (K4.fr p)
     obtain⟨H,e,g',nx,wm,_⟩:=zv6 h h1 h2 h3 h4 p ts.length E k1 d k3 d3 c3 w3' n (tsR b ts) x r l y r3 l3 (zg 5 [94]) (some ⟨h3.nx+4,0,none⟩) 2 hp g1 s1.pp (by omega) s1.lt (by omega) g3 gx3 s3.pp (by omega) (by omega) s3.lt ((F34.get _ (by omega) (by omega)).trans g3) (by omega) (by omega) e1 es e2 e3 e4
     refine⟨h4,H,e,F34,n4',w4,s4.kp K4,g',nx,?_⟩
     have:h4.wm≤(pt (pt (al h3 72 z72) h3.nx 72 (ndL y r3 l3)) p 160 [tsV b ts,iv (k3:Int),iv (E:Int),iv ((d3:Int) - 1),iv (c3:Int),iv ((w3':Nat):Int)]).wm:=K4.wm
     rw[ze] at this
     omega
    simp only
    cases hg2:g (k1+1) with
    |err pos c=>
     rw[hg2] at R3
     obtain⟨hc,k',d',hd1,hd2,s3⟩:=R3
     obtain⟨h4,H,e,F34,n4,w4,s4,g',nx,wp⟩:=fin3 k' d' c pos s3 hd1 hd2
     exact jw (lo:=h.nx+1) e s (T3.trans F34) (fun c hc hd=>g' c hc (by omega)) (by omega) wp ⟨hc,k',d' - 1,by omega,by omega,s4⟩
    |ok u k2=>
     rw[hg2] at R3
     obtain⟨N3,s3⟩:=R3
     obtain⟨h4,H,e,F34,n4,w4,s4,g',nx,wp⟩:=fin3 k2 (d+1) 0 0 s3 (by omega) (by omega)
     refine jw (lo:=h.nx+1) e s (T3.trans F34) (fun c hc hd=>g' c hc (by omega)) (by omega) wp ⟨?_,s4⟩
     have gH:∀ c o,h.nx+1≤c→h3.get c=some o→H.get c=some o:=fun c o hc e=>(g' c (by have:=za e;omega) (by omega)).trans ((F34.get c (za e) (by omega)).trans e)
     refine zc.mk (P:=fun c=>h.nx≤c∧c < H.nx) (ts:=[t,u]) (es:=0) (ro:=false) (cs:=ndL x r l++ndL y r3 l3) _ ⟨by omega,by omega⟩ ((g' _ (by omega) (by omega)).trans w4) ?_
     unfold ArgsC
     refine⟨x,r,l,ndL y r3 l3,rfl,zc.mono (fun c o hc e=>?_) N1,?_⟩
     ·have hc1:h.nx+1≤c:=hc.1
      exact⟨⟨by omega,by have:=hc.2;omega⟩,gH c o hc1 ((F13.get c (za e) (by omega)).trans e)⟩
     unfold ArgsC
     refine⟨y,r3,l3,[],by rw[List.append_nil],zc.mono (fun c o hc e=>?_) N3,?_⟩
     ·have hc1:h2.nx≤c:=hc.1
      exact⟨⟨by omega,by have:=hc.2;omega⟩,gH c o (by omega) e⟩
     unfold ArgsC;rfl
end
def hdZ:Hd:=⟨0,0,0,eS,0,0,0,0,eS⟩
section
variable {m:Int} {p b:Nat} {ts:List Tk} {E:Nat}
theorem zjo{f g:PR}{d N:Nat}(hd:d≤40)(hf:wS m p b ts E N 225 d f)(hg:d < 40→wS m p b ts E N 207 (d+1) g)(hg0:d=40→∀ k,g k= .err 0 14)(hN:3≤N):wS m p b ts E (N+1) 207 d (unP ts f g):=by
 intro n h k hn s
 obtain⟨n,rfl⟩:=zs_ n
 have K0:Kp h.fh (al h.fh 72 z72):=(Kp.refl _).al 72 z72
 have hp:=s.lt
 have hT:=s.tT
 have s0:=s.fh.kp K0
 have g0:(al h.fh 72 z72).get h.nx=some (.row 72 z72 0 false):=gN (h:=h.fh)
 have es:=jG s0 [45] n (by omega)
 rw[dT rfl,Bool.true_and] at es
 unfold unP
 cases hs:sg ts [[45]] k with
 |none=>
  rw[hs] at es
  obtain⟨v1,h1,e1,F1,_,wp1,x,r,l,rfl,R1⟩:=hf n _ k (by omega) s0
  have l1:h.nx+1≤h1.nx:=F1.nx
  have T1:=(K0.fr p).trans F1
  obtain⟨H,e,g,nx,wm,_⟩:=zvZ h h1 p ts.length E n x r l hp ((F1.get h.nx (nS _) (by omega)).trans g0) l1 es e1
  simp only
  refine jw (lo:=h.nx+1) e s T1 (fun c hc hd=>g c hc (by omega)) (by omega) (by omega) ?_
  unfold zbK at R1 ⊢
  split at R1
  next t k' e'=>
   refine⟨zc.mono (fun c o hc e=>?_) R1.1,R1.2⟩
   have hc1:h.nx+1≤c:=hc.1
   exact⟨⟨by omega,by have:=hc.2;omega⟩,(g c (za e) (by omega)).trans e⟩
  next pos c e'=>exact R1
 |some sn=>
  rw[hs] at es
  have hk1:=qR ts hs
  have s2:QSt m (pt (al h.fh 72 z72) p 160 [tsV b ts,iv ((k:Int)+1),iv (E:Int),iv (d:Int),iv ((0:Nat):Int),iv ((0:Nat):Int)]) p b ts E (k+1) d 0 0:=s0.fr (Fr.put _ _ _ s0.lt) (zi _ _ _ s0.lt) (by omega)
  have F2:Fr h.fh (pt (al h.fh 72 z72) p 160 [tsV b ts,iv ((k:Int)+1),iv (E:Int),iv (d:Int),iv ((0:Nat):Int),iv ((0:Nat):Int)]) p:=(K0.fr p).trans (Fr.put _ _ _ s0.lt)
  have nP:(pt (al h.fh 72 z72) p 160 [tsV b ts,iv ((k:Int)+1),iv (E:Int),iv (d:Int),iv ((0:Nat):Int),iv ((0:Nat):Int)]).nx=h.nx+1:=rfl
  have gz:(pt (al h.fh 72 z72) p 160 [tsV b ts,iv ((k:Int)+1),iv (E:Int),iv (d:Int),iv ((0:Nat):Int),iv ((0:Nat):Int)]).get h.nx=some (.row 72 z72 0 false):=gO g0 s0.lt (by omega)
  obtain⟨h1,wp1,I1⟩:=zaI s2 hd n (by omega)
  simp only
  by_cases hd4:40≤d
  ·rw[if_pos hd4] at I1
   obtain⟨e1,T1⟩:=I1
   have n1:=T1.nx
   rw[nP] at n1
   obtain⟨H,e,g',nx,wm,_⟩:=zv1 h h1 p ts.length E k d n (tsR b ts) s.pp hp (by omega) ((T1.fr.get _ (by omega) (by omega)).trans gz) (by omega) es e1
   rw[hg0 (by omega)]
   exact jw (x:=hdZ) (r:=none) (l:=0) (lo:=h.nx+1) e s (F2.trans T1.fr) (fun c hc hd=>g' c hc (by omega)) (by omega) (by omega) ⟨by decide,k+1,d+1,by omega,by omega,T1.st⟩
  ·rw[if_neg hd4] at I1
   obtain⟨e1,T1⟩:=I1
   have n1:=T1.nx
   rw[nP] at n1
   obtain⟨v3,h3,e3,F3,w3,wp3,y,r3,l3,rfl,R3⟩:=hg (by omega) n h1 (k+1) (by omega) T1.st
   have l3':=F3.nx
   have g3:=(F3.get h.nx (by omega) (by omega)).trans ((T1.fr.get _ (by omega) (by omega)).trans gz)
   have T3:=(F2.trans T1.fr).trans F3
   have fin3:∀ k3 d3 c3 w3,QSt m h3 p b ts E k3 d3 c3 w3→d+1≤d3→d3≤41→∃ hk H,RD (n+1) 207 [pv p 0] h=some (zy h (ndV (zg 4 []) (some ⟨h3.nx+1,0,none⟩) 1) H)∧
     Fr h3 hk p∧hk.nx=h3.nx∧QSt m hk p b ts E k3 (d3 - 1) c3 w3∧(∀ c,c < hk.nx→c≠h.nx→H.get c=hk.get c)∧H.nx=h3.nx+2∧H.wm≤p∧H.get (h3.nx+1)=some (.row 72 (ndL y r3 l3) 0 false):=by
    intro k3 d3 c3 w3' s3 hd3 hd3'
    have ed:((d3:Int) - 1)=((d3 - 1:Nat):Int):=by omega
    obtain⟨H,e,g',nx,wm,_,wp,w,gp⟩:=zv0 h h1 h3 p ts.length E k d k3 d3 c3 w3' n (tsR b ts) y r3 l3 s.pp hp (by omega) g3 s3.pp (by omega) s3.lt (by omega) es e1 e3
    have s4:QSt m (pt h3 p 160 [tsV b ts,iv (k3:Int),iv (E:Int),iv ((d3 - 1:Nat):Int),iv (c3:Int),iv ((w3':Nat):Int)]) p b ts E k3 (d3 - 1) c3 w3':=s3.fr (Fr.put _ _ _ s3.lt) (zi _ _ _ s3.lt) s3.kT
    refine⟨_,H,e,Fr.put _ _ _ s3.lt,rfl,s4,fun c hc hn=>?_,nx,wp,w⟩
    by_cases hcp:c=p
    ·subst hcp
     rw[gp,ed]
     exact(zi _ _ _ s3.lt).symm
    ·exact(g' c hc hn hcp).trans (zf _ _ _ _ s3.lt hcp).symm
   cases hg2:g (k+1) with
   |err pos c=>
    rw[hg2] at R3
    obtain⟨hc,k',d',hd1,hd2,s3⟩:=R3
    obtain⟨hk,H,e,F34,n4,s4,g',nx,wp,w⟩:=fin3 k' d' c pos s3 hd1 hd2
    exact jw (lo:=h.nx+1) e s (T3.trans F34) (fun c hc hd=>g' c hc (by omega)) (by omega) wp ⟨hc,k',d' - 1,by omega,by omega,s4⟩
   |ok u k2=>
    rw[hg2] at R3
    obtain⟨N3,s3⟩:=R3
    obtain⟨hk,H,e,F34,n4,s4,g',nx,wp,w⟩:=fin3 k2 (d+1) 0 0 s3 (by omega) (by omega)
    refine jw (lo:=h.nx+1) e s (T3.trans F34) (fun c hc hd=>g' c hc (by omega)) (by omega) wp ⟨?_,s4⟩
    refine zc.mk (P:=fun c=>h.nx≤c∧c < H.nx) (ts:=[u]) (es:=0) (ro:=false) (cs:=ndL y r3 l3) _ ⟨by omega,by omega⟩ w ?_
    unfold ArgsC
    refine⟨y,r3,l3,[],by rw[List.append_nil],zc.mono (fun c o hc e=>?_) N3,?_⟩
    ·have hc1:h1.nx≤c:=hc.1
     have hc2:=za e
     exact⟨⟨by omega,by omega⟩,(g' c (by omega) (by omega)).trans ((F34.get c hc2 (by omega)).trans e)⟩
    unfold ArgsC;rfl
end
end Go.PanE
