/-
 Part 41 of the proof of Rows.DumpLinesCardSaid. No conditions.
-/
import Derived.Test.YtihkphfmnnndfaaGreatDoorT40
namespace Go.PanE
open Go.Proofs
theorem znk{b c:UInt8}(hb:b≠c)(q:Bsy):∀ (k:Nat) (l:Bsy),Lib.replaceK [c] q k (b::l)=b::Lib.replaceK [c] q k l
 |0,_=>rfl
 |k+1,l=>by
  have hp:([c]:Bsy).isPrefixOf (b::l)=false:=by simp[List.isPrefixOf,Ne.symm hb]
  have hix:Lib.index (b::l) [c]=if Lib.index l [c]== -1 then -1 else Lib.index l [c]+1:=by rw[Lib.index,hp];simp
  by_cases hm:Lib.index l [c]= -1
  ·rw[Lib.replaceK,Lib.replaceK,hix,hm];rfl
  ·have hge:=Lib.index_ge l [c]
   obtain⟨j,hj⟩:∃ j:Nat,Lib.index l [c]=j:=⟨(Lib.index l [c]).toNat,by omega⟩
   have hix':Lib.index (b::l) [c]=((j+1:Nat):Int):=by rw[hix,if_neg (fun e=>hm (beq_iff_eq.1 e)),hj];omega
   rw[Lib.replaceK_hit _ _ k _ _ hix',Lib.replaceK_hit _ _ k _ _ hj]
   simp
theorem zda(c:UInt8)(q:Bsy):∀ l:Bsy,Lib.replaceK [c] q (Lib.count l [c]) l=l.flatMap fun b=>if b=c then q else[b]
 |[]=>by rw[Lib.count_miss (by simp[Lib.index])];rfl
 |b::l=>by
  rw[List.flatMap_cons]
  by_cases h:b=c
  ·subst h
   have hix:Lib.index (b::l) [b]=((0:Nat):Int):=by rw[Lib.index];simp[List.isPrefixOf]
   rw[Lib.count_cons_eq,Nat.add_comm,Lib.replaceK_hit _ _ _ _ _ hix,if_pos rfl]
   simp only[List.take_zero,List.nil_append,lC,lN,Nat.zero_add,List.drop_succ_cons,List.drop_zero,zda b q l]
  ·rw[Lib.count_cons_ne b c l h,znk h,zda c q l,if_neg h];rfl
theorem znA:orcD 216=some zb4:=by kernel_rfl
theorem ztb{m:Int}{h:Heap}(G:Gl m h)(l:Bsy)(hl:l.length≤1000)(n:Nat)(hn:1≤n):RD n 216 [.string ⟨⟨l⟩⟩,.string ⟨#[34]⟩,.string ⟨#[34,34]⟩] h=some (.string ⟨⟨l.flatMap fun b=>if b.toNat=34 then[34,34] else[b]⟩⟩,h):=by
 obtain⟨n,rfl⟩:=zs_ n
 show zB En orcD (drawn En) 18446744073709551616 (n+1) 216 _ h=_
 have g2:h.get 2=some (.row (zj4 2) (zdY m 2) 0 true):=(G.get 2 (by omega)).trans (by rw[vJ,if_pos (by omega)])
 simp only[zB,znA,zb4]
 rw[g2]
 have e1:(Nat.blt (⟨⟨l⟩⟩:BA).size 4294967281 && Nat.ble 1 (⟨#[34]⟩:BA).size && Nat.ble (⟨#[34,34]⟩:BA).size 1000)=true:=by
  have:Nat.blt (⟨⟨l⟩⟩:BA).size 4294967281=true:=by rw[Nat.blt_eq,bsz];omega
  rw[this];rfl
 have e2:Lib.replaceAll l [34] [34,34]=l.flatMap fun b=>if b.toNat=34 then[34,34] else[b]:=by
  unfold Lib.replaceAll Lib.replace Lib.replaceNum
  rw[if_neg (by decide),if_pos (by left;decide),zda]
  congr 1
  funext b
  by_cases h:b=34
  ·rw[if_pos h,h];rfl
  ·rw[if_neg h,if_neg (show ¬ b.toNat=34 from fun e=>h (UInt8.toNat_inj.1 e))]
 show(bif _ then some (Value.string ⟨(Lib.replaceAll l [34] [34,34]).toArray⟩,h) else none)=_
 rw[e1,e2];rfl
def zuk(h:Heap)(v:Value):Option (Value×Heap):=if Nat.ble h.nx h.fh.wm && zM h.nx 5 v then some (v,h) else some (v,{h.fh with wm:=min h.wm h.fh.wm})
theorem zuW(n:Nat)(h:Heap):(wq.map fun o=>RD (n+1) 193 [.string ⟨⟨o⟩⟩] h)=wq.map fun o=>zuk h (iv ((binR o:Nat):Int)):=by kernel_rfl
theorem ziw{s:Bsy}(hs:s∈wq)(h:Heap)(n:Nat)(hn:1≤n):RD n 193 [.string ⟨⟨s⟩⟩] h=some (iv ((binR s:Nat):Int),h):=by
 obtain⟨n,rfl⟩:=zs_ n
 refine(List.map_inj_left.1 (zuW n h) s hs).trans ?_
 unfold zuk
 rw[show Nat.ble h.nx h.fh.wm=true from Nat.ble_eq_true_of_le (nL_ _)]
 rfl
theorem zed:∀ s∈wq,binR s=1∨binR s=2∨binR s=3∨binR s=4:=by decide
theorem zna{s:Bsy}(hs:s∈wq)(h:Heap)(n:Nat)(hn:2≤n):RD n 166 [.string ⟨⟨s⟩⟩] h=some (.tuple #[iv (((wX (binR s)).1:Nat):Int),iv (((wX (binR s)).2:Nat):Int)],h):=by
 obtain⟨n,rfl⟩:=zs_ n
 have e:=ziw hs h.fh n (by omega)
 rcases zed s hs with hb|hb|hb|hb <;>rw[hb] at e ⊢
 ·exact zy8 h n _ e
 ·exact zy7 h n _ e
 ·exact zy6 h n _ e
 ·exact zy5 h n _ e
theorem zqn{t:Tr}(g:GT t){h:Heap}{P:Nat→Prop}{x:Hd}{r:OA}{n:Nat}(N:zc h P x r n t)(m:Nat)(hm:2≤m):RD m 192 [ndV x r n] h=some (iv ((rowT t:Nat):Int),h):=by
 obtain⟨m,rfl⟩:=zs_ m
 cases g <;>(unfold zc at N;obtain⟨rfl,rfl,N⟩:=N)
 case int b hb=>exact zni h m (zz 2 b []) r 0
 case text s hs=>exact zni h m (zz 3 0 s) r 0
 case bool b hb=>exact zni h m (zz 1 b []) r 0
 case cell a c hG=>exact zzo h m (zF 2 a c 0 0) r 0
 case range a c a' c' h1 h2 hr hc=>exact zzn h m (zF 3 a c a' c') r 0
 case neg t ht=>exact zzm h m (zg 4 []) r _
 case two s x y hs hx hy=>exact zzl h m (binR s) (zg 5 s) r _ (ziw hs _ m (by omega))
 case call nm l hw hl hh=>exact zzk h m (zg 6 nm) r _
theorem zqu{m:Int}{h:Heap}(G:Gl m h)(l:Bsy)(hl:l.length≤1000)(n:Nat)(hn:2≤n):RD n 191 [.string ⟨⟨l⟩⟩] h=some (.string ⟨⟨yZ l⟩⟩,h):=by
 obtain⟨n,rfl⟩:=zs_ n
 have hq:=zdf l
 refine(zzr h ⟨⟨l⟩⟩ _ n ?_ (ztb G.fh l hl n (by omega)))
 ·unfold yZ at hq
  simp only[lC,lA] at hq
  rw[bsz]
  omega
abbrev WRT(h:Heap)(W:Nat)(l:Bsy)(X:Option (Value×Heap)):Prop:=∃ h',X=some (.tuple #[],h')∧WO h W l h'
theorem WO.trans{h g f:Heap}{W:Nat}{l l':Bsy}(a:WO h W l g)(b:WO g W l' f):WO h W l' f:=⟨b.st,a.up.trans b.up,b.wm,a.kk.trans b.kk⟩
theorem uZ{h H:Heap}{W:Nat}{l:Bsy}{X:Option (Value×Heap)}(e:X=some (zy h (.tuple #[]) H))(w:WO h.fh W l H)(hW:W < h.nx):WRT h W l X:=by
 refine⟨_,ur e (by have:=w.wm;omega),w.st,⟨w.up.nx,?_,w.up.get⟩,?_,w.kk⟩
 ·have h1:min W h.nx≤H.wm:=w.up.wm
  show min W h.wm≤min h.wm H.wm
  omega
 ·have:=w.wm
  show min h.wm H.wm≤W
  omega
theorem WO.al{h:Heap}{W:Nat}{l:Bsy}(S:WSt h W l)(t:TypeId)(cs:Vs){l':Bsy}{H:Heap}(w:WO (al h t cs) W l' H):WO h W l' H:=
 ⟨w.st,(Up.alloc h _ (Nat.le_of_lt S.1)).trans w.up,w.wm,fun c cs' e=>w.kk c cs' (gA e)⟩
theorem WSt.al{h:Heap}{W:Nat}{l:Bsy}(S:WSt h W l)(t:TypeId)(cs:Vs):WSt (al h t cs) W l:=
 ⟨Nat.lt_succ_of_lt S.1,S.2.imp (fun s=>⟨s.1,gA s.2⟩) fun⟨b,h1,h2,h3,h4⟩=>⟨b,h1,gA h2,gA h3,h4⟩⟩
theorem WSt.fh{h:Heap}{W:Nat}{l:Bsy}(S:WSt h W l):WSt h.fh W l:=S
theorem WSt.pt{h:Heap}{W b:Nat}{l:Bsy}(S:WSt h W l)(t t':TypeId)(cs cs':Vs)(hg:h.get b=some (.row 72 cs' 0 false)):WSt (pt h b t cs) W l:=by
 have hb:=za hg
 refine⟨S.1,S.2.imp (fun s=>⟨s.1,gO s.2 hb fun e=>?_⟩) fun⟨c,h1,h2,h3,h4⟩=>⟨c,h1,gO h2 hb fun e=>?_,gO h3 hb fun e=>?_,h4⟩⟩
 ·rw[← e,s.2] at hg;cases hg
 ·rw[← e,h2] at hg;cases hg
 ·rw[← e,h3] at hg;cases hg
theorem Gl.upW{m:Int}{h g:Heap}{W:Nat}(G:Gl m h)(u:Up W h g)(hW:14≤W):Gl m g:=⟨nT G.nx u.nx,fun b hb=>(u.get b (by omega)).trans (G.get b hb)⟩
def NW(m:Int)(P:Nat→Prop)(W f:Nat)(t:Tr):Prop:=∀ (h:Heap) (x:Hd) (r:OA) (n:Nat) (l:Bsy),Gl m h→zc h P x r n t→WSt h W l→l.length+410 * t.size≤1000000→WRT h W (l++txt t) (RD f 130 [pv W 0,ndV x r n] h)
theorem zcf{m:Int}{P:Nat→Prop}{W f:Nat}(hf:2≤f)(hW:14≤W)(hP:∀ b,P b→b < W){t:Tr}(g:GT t)(nw:NW m P W f t)(R:Nat){h:Heap}{x:Hd}{r:OA}{n:Nat}{l:Bsy}(G:Gl m h)(N:zc h P x r n t)(S:WSt h W l)(hl:l.length+410 * t.size+10≤1000000):
  WRT h W (l++vc R t (txt t)) (RD (f+1) 165 [pv W 0,ndV x r n,iv (R:Int)] h):=by
 have S0:=S.fh.al 72 (ndL x r n)
 have N0:zc (al h.fh 72 (ndL x r n)) P x r n t:=zc.mono (h:=h) (fun c o hc e=>⟨hc,gA (h:=h.fh) e⟩) N
 have er:=zqn g N0 f hf
 have G0:Gl m (al h.fh 72 (ndL x r n)):=G.fh.alloc _
 have hlen:=jU t g
 unfold vc
 by_cases hr:rowT t < R
 ·rw[if_pos hr]
  obtain⟨h1,e1,w1⟩:=yi _ W l [40] f hf S0 (by simp) (by simp only[lC,lN];omega)
  obtain⟨h2,e2,w2⟩:=nw h1 x r n (l++[40]) (G0.upW w1.up hW) (N0.mono fun c o hc e=>⟨hc,(w1.up.get c (hP c hc)).trans e⟩) w1.st (by simp only[lA,lC,lN];omega)
  obtain⟨h3,e3,w3⟩:=yi h2 W (l++[40]++txt t) [41] f hf w2.st (by simp) (by simp only[lA,lC,lN];omega)
  have:=uZ (zAE h h1 h2 h3 W (rowT t) R 1 1 f x r n (w1.kk _ _ (gN (h:=h.fh))) er (dF (by omega)) e1 e2 e3) (((w1.trans w2).trans w3).al S.fh _ _) S.1
  simpa using this
 ·rw[if_neg hr]
  obtain⟨h1,e1,w1⟩:=nw _ x r n l G0 N0 S0 (by omega)
  exact uZ (zAD h h1 W (rowT t) R f x r n er (dT (by omega)) e1) (w1.al S.fh _ _) S.1
theorem vR{h:Heap}{P:Nat→Prop}{b es:Nat}{cs:Vs}{ro:Bool}{ts:List Tr}(hg:h.get b=some (.row 72 cs es ro)):∀ (i:Nat) (cs':Vs) (l:List Tr),ArgsC h P cs' l→cs.drop (i * 10)=cs'→∀ t rest,l=t::rest→∃ x r n cs2,LD h 72 b (0+i * 10) (ndV x r n)∧zc h P x r n t∧ArgsC h P cs2 rest∧cs.drop ((i+1) * 10)=cs2:=by
 intro i cs' l A hd t rest e
 subst e
 unfold ArgsC at A
 obtain⟨x,r,n,cs2,e,N,A2⟩:=A
 exact⟨x,r,n,cs2,zcG hg (hd.trans e),N,A2,by rw[show(i+1) * 10=i * 10+10 by omega,← List.drop_drop,hd,e,List.drop_append,List.drop_eq_nil_of_le (by rw[jl];exact nL_ _),jl];rfl⟩
abbrev NlW(m:Nat):=Loops En (RD m) 116 18446744073709551616 (sub [1,1,0,1,1,1,1,1,1,1,1,1,1,1,0,1,0,1,0,0] (zp Tryz.f130))
theorem zh5{m:Int}{P:Nat→Prop}{W f:Nat}(hf:2≤f)(hW:14≤W)(hP:∀ b,P b→b < W)(ab j es:Nat)(cs:Vs)(ro:Bool)(hab:ab < W):∀ (l:List Tr) (i:Nat) (h:Heap) (cs':Vs) (s:Bsy),(∀ t∈l,GT t∧NW m P W f t)→Gl m h→ArgsC h P cs' l→h.get ab=some (.row 72 cs es ro)→cs.drop (i * 10)=cs'→i+l.length=j→j < 4000→WSt h W s→s.length+410 * zo l+10≤1000000→
  ∃ H,NlW f [(0,pv W 0),(95,sv ab 0 j j),(96,iv j),(97,iv (i:Int))] h (.exit 1) [(0,pv W 0)] H (l.length+1)∧WSt H W (s++if i=0 then qr (wu l) else qQ (wu l))∧Up W h H∧H.wm≤max W h.wm∧(h.wm≤W→H.wm≤W)∧K72 h H
 |[],i,h,cs',s,hn,G,A,hg,hd,hi,hj,S,hl=>⟨h,.out (zlz h (some ⟨ab,0,none⟩) j W i f (zE (by simp only[lN] at hi;omega))),by
   have e:(if i=0 then qr (wu []) else qQ (wu []))=[]:=by split <;>rfl
   rw[e,List.append_nil];exact S,Up.refl _ _,by omega,id,fun _ _ e=>e⟩
 |t::l,i,h,cs',s,hn,G,A,hg,hd,hi,hj,S,hl=>by
  obtain⟨x,r,n,cs2,ld,N,A2,hd2⟩:=vR (ts:=[]) hg i cs' (t::l) A hd t l rfl
  rw[lC] at hi
  unfold zo at hl
  have hWn:=S.1
  have gt:=(hn t (List.mem_cons_self ..)).1
  have nw:=(hn t (List.mem_cons_self ..)).2
  have hlen:=jU t gt
  have Kb:Kp h (pt (al h 72 z72) h.nx 72 (ndL x r n)):=((Kp.refl h).al _ _).pt _ _ (nL_ _) (nS _)
  have u0:Up W h (pt (al h 72 z72) h.nx 72 (ndL x r n)):=(Up.alloc h _ (by omega)).trans (Up.put _ _ (by omega) (nS _))
  have k0:K72 h (pt (al h 72 z72) h.nx 72 (ndL x r n)):=fun c cs e=>(Kb.get c (za e)).trans e
  have S0:WSt (pt (al h 72 z72) h.nx 72 (ndL x r n)) W s:=(S.al 72 z72).pt 72 72 _ _ gN
  have G0:=G.upW u0 hW
  have N0:zc (pt (al h 72 z72) h.nx 72 (ndL x r n)) P x r n t:=N.mono fun c o hc e=>⟨hc,(Kb.get c (za e)).trans e⟩
  have gB:(pt (al h 72 z72) h.nx 72 (ndL x r n)).get h.nx=some (.row 72 (ndL x r n) 0 false):=gP (nS _)
  obtain⟨h1,sep,b1,w1⟩:∃ h1 sep,wC En (RD f) 116 18446744073709551616 (sub [1,1,0,1,1,1,1,1,1,1,1,1,1,1,0,1,0,1,0,0] (zp Tryz.f130)) [(0,pv W 0),(95,sv ab 0 j j),(96,iv j),(97,iv (i:Int))] h .normal [(0,pv W 0),(95,sv ab 0 j j),(96,iv j),(97,iv ((i:Int)+1))] h1∧(sep=if i=0 then txt t else 44::txt t)∧WO (pt (al h 72 z72) h.nx 72 (ndL x r n)) W (s++sep) h1:=by
   by_cases hi0:i=0
   ·obtain⟨h1,e1,w1⟩:=nw _ x r n s G0 N0 S0 (by omega)
    exact⟨h1,txt t,zAj h h1 W ab j i f x r n (by omega) hj (zw (by omega)) ld (dF (by omega)) e1,by rw[if_pos hi0],w1⟩
   ·obtain⟨h1,e1,w1⟩:=yi _ W s [44] f hf S0 (by simp) (by simp only[lC,lN];omega)
    obtain⟨h2,e2,w2⟩:=nw h1 x r n (s++[44]) (G0.upW w1.up hW) (N0.mono fun c o hc e=>⟨hc,(w1.up.get c (hP c hc)).trans e⟩) w1.st (by simp only[lA,lC,lN];omega)
    exact⟨h2,44::txt t,zAi h h1 h2 W ab j i 1 f x r n (by omega) hj (w1.kk _ _ gB) (zw (by omega)) ld (dT (by omega)) e1 e2,by rw[if_neg hi0],by have:=w1.trans w2;simpa using this⟩
  obtain⟨b1,hsep,w1⟩:_∧_∧_:=⟨b1,w1.1,w1.2⟩
  have u1:=u0.trans w1.up
  have hsl:sep.length≤(txt t).length+1:=by rw[hsep];split <;>simp
  obtain⟨H,LL,SS,uu,m1,m2,kk⟩:=zh5 hf hW hP ab j es cs ro hab l (i+1) h1 cs2 (s++sep) (fun t ht=>hn t (List.mem_cons_of_mem _ ht)) (G.upW u1 hW) (A2.mono fun c o hc e=>⟨hc,(u1.get c (hP c hc)).trans e⟩) ((u1.get ab hab).trans hg) hd2 (by omega) hj w1.st (by rw[lA];omega)
  refine⟨H,.on b1 LL,?_,u1.trans uu,?_,fun _=>m2 w1.wm,(k0.trans w1.kk).trans kk⟩
  ·rw[if_neg (by omega)] at SS
   have e:sep++qQ (wu l)=if i=0 then qr (wu (t::l)) else qQ (wu (t::l)):=by
    rw[hsep]
    rw[show wu (t::l)=txt t::wu l from rfl]
    split
    ·rfl
    ·rw[qy];rfl
   rw[← e,← List.append_assoc];exact SS
  ·have:=m2 w1.wm;omega
noncomputable section
abbrev vE(r c i1 i2 i3 i4:Int)(s:BA):Vs:=[iv 1,iv r,iv c,iv i1,iv i2,iv i3,iv i4,.string s]
abbrev zgL:Vs:=[.agg #[iv 0,iv 0,.string ⟨#[]⟩],.agg #[iv 0,iv 0,.string ⟨#[]⟩]]
abbrev zt2:Vs:=[.string ⟨#[]⟩,.string ⟨#[]⟩,.string ⟨#[]⟩,.string ⟨#[]⟩,.string ⟨#[]⟩,.string ⟨#[]⟩,.string ⟨#[]⟩,.string ⟨#[]⟩,.string ⟨#[]⟩]
abbrev zbs(h:Heap)(y:Hd)(yr:OA)(yn:Nat):Heap:=al h.fh 74 (srL 2 0 0 ⟨#[]⟩ y yr yn)
abbrev zjL:Vs:=[iv 0,iv 0,iv 0,iv 0,iv 0,iv 0,iv 0,.string ⟨#[]⟩]
abbrev zbr(s:BA):Vs:=[.agg #[iv 3,iv 0,.string s]]
abbrev zn0(h:Heap)(r c k v:Int)(s:BA):Heap:=zd 1 (pt (al h 31 [iv 0,iv 0,iv 0,iv 0,.string ⟨#[]⟩]) h.nx 31 [iv r,iv c,iv k,iv v,.string s])
abbrev zeQ(h:Heap)(s:BA):Heap:=al h.fh 27 [iv 3,iv 0,.string s]
abbrev zgK(s:BA):AObj:=.row 27 [iv 3,iv 0,.string s] 0 false
abbrev zfW:Value:=.tuple #[.string ⟨#[]⟩,iv 11]
abbrev zfV(h:Heap)(b:Int):Heap:=al h.fh 74 (srL 1 2 b ⟨#[]⟩ hdZ none 0)
abbrev zfU(h:Heap)(b:Int):Heap:=al h.fh 74 (srL 1 1 b ⟨#[]⟩ hdZ none 0)
abbrev zfT(h1:Heap):Heap:=al h1 74 (srL 0 0 0 ⟨#[]⟩ hdZ none 0)
abbrev zfS(h:Heap)(s:BA):Heap:=al h.fh 74 (srL 1 3 0 s hdZ none 0)
abbrev zfR(r c i1 i2 i3 i4:Int)(s:BA):Vs:=[.agg #[iv 1,iv r,iv c,iv i1,iv i2,iv i3,iv i4,.string s]]
abbrev zpR(xr:OA)(N:Nat):List (Nat×Value):=[(0,.slice xr N N),(2,.slice none 0 0),(3,iv 0),(4,.slice none 0 0),(9,.slice xr N N),(10,iv N),(11,iv 0)]
abbrev zdZ(k r c i1 i2 i3 i4:Int)(s:BA):Vs:=[iv k,iv r,iv c,iv i1,iv i2,iv i3,iv i4,.string s]
abbrev zpQ:Vs:=[.slice none 0 0,.slice none 0 0,.func (.func 128) #[] #[]]
abbrev zfQ(s:BA):Value:=.string (⟨#[39]⟩++s)
abbrev zfP(k r c i1 i2 i3 i4:Int)(s:BA):Value:=.agg #[iv k,iv r,iv c,iv i1,iv i2,iv i3,iv i4,.string s]
abbrev zfO(k r c i1 i2 i3 i4:Int)(s:BA):Vs:=[.agg #[iv k,iv r,iv c,iv i1,iv i2,iv i3,iv i4,.string s]]
abbrev nmV:Value:=.agg #[.string ⟨#[]⟩,.string ⟨#[35,68,73,86]⟩,.string ⟨#[35,79,86,69,82]⟩,.string ⟨#[35,84,89,80,69]⟩,.string ⟨#[35,82,69,70]⟩,.string ⟨#[35,65,82,71]⟩,.string ⟨#[35,76,79,79,80]⟩,.string ⟨#[35,76,79,78,71]⟩,.string ⟨#[35,78,79,78,69]⟩]
abbrev nmL:Vs:=match nmV with| .agg a=>a.toList|_=>[]
variable (h:Heap) (sl:Value) (hL:Heap) (xr:OA) (h1 h2:Heap) (ib N i lo:Nat) (k r c i1 i2 i3 i4:Int) (l2:Nat) (s:BA) (n:Nat) (ro r2:OA) (b v sk sa sb:Int) (st t:BA) (a d:Nat) (y:Hd) (yr:OA) (yn:Nat)
theorem zyY(k v:Int)(s:BA)(a0:Pu n 44 [.agg #[iv k,iv v,.string s]] (.bool false) (al h.fh 27 [iv k,iv v,.string s])):Pu (n+1) 25 [.agg #[iv k,iv v,.string s]] (.string ⟨#[63]⟩) h:=
 fpV (kZ h) [aS 27 [iv k,iv v,.string s],.g 0 27 0 3,yP a0,.z 0]
theorem zs0(a0:Pu n 44 [.agg #[iv 2,iv v,.string ⟨#[]⟩]] (.bool true) (al h.fh 27 [iv 2,iv v,.string ⟨#[]⟩]))(a1:Pu n 45 [iv v] (.string t) (al h.fh 27 [iv 2,iv v,.string ⟨#[]⟩])):Pu (n+1) 25 [.agg #[iv 2,iv v,.string ⟨#[]⟩]] (.string t) h:=
 fpV (kZ h) [aS 27 [iv 2,iv v,.string ⟨#[]⟩],.g 0 27 0 3,yP a0,.l 0 3 0,bT,.l 0 2 1,yP a1,.z 0]
theorem zs1(a0:Pu n 44 [.agg #[iv 1,iv 1,.string ⟨#[]⟩]] (.bool true) (al h.fh 27 [iv 1,iv 1,.string ⟨#[]⟩])):Pu (n+1) 25 [.agg #[iv 1,iv 1,.string ⟨#[]⟩]] (.string ⟨#[84,82,85,69]⟩) h:=
 fpV (kZ h) [aS 27 [iv 1,iv 1,.string ⟨#[]⟩],.g 0 27 0 3,yP a0,.l 0 3 0,bF,.l 0 3 0,bT,.l 0 2 1,bT,.z 0]
theorem zs2(a0:Pu n 44 [.agg #[iv 1,iv 0,.string ⟨#[]⟩]] (.bool true) (al h.fh 27 [iv 1,iv 0,.string ⟨#[]⟩])):Pu (n+1) 25 [.agg #[iv 1,iv 0,.string ⟨#[]⟩]] (.string ⟨#[70,65,76,83,69]⟩) h:=
 fpV (kZ h) [aS 27 [iv 1,iv 0,.string ⟨#[]⟩],.g 0 27 0 3,yP a0,.l 0 3 0,bF,.l 0 3 0,bT,.l 0 2 1,bF,.l 0 3 0,bT,.z 0]
theorem zy0(a0:Pu n 44 [.agg #[iv 4,iv v,.string ⟨#[]⟩]] (.bool true) (al h.fh 27 [iv 4,iv v,.string ⟨#[]⟩]))(a1:Pu n 46 [] (nmV) (al h.fh 27 [iv 4,iv v,.string ⟨#[]⟩]))(a2:za8 En 110 (nmV) (iv v)=some (.string t)):Pu (n+1) 25 [.agg #[iv 4,iv v,.string ⟨#[]⟩]] (.string t) h:=
 fpV (kZ h) [aS 27 [iv 4,iv v,.string ⟨#[]⟩],.g 0 27 0 3,yP a0,.l 0 3 0,bF,.l 0 3 0,bF,.l 0 3 0,bF,.l 0 3 0,bT,yP a1,.l 0 2 1,yE a2,yN (h.nx+1),.q (.l 0 2 1),.q (.l 0 2 1),.z 0]
theorem zyZ(s:BA)(a0:Pu n 44 (zbr s) (.bool true) (zeQ h s)):Pu (n+1) 25 (zbr s) (.string s) h:=
 fpV (kZ h) [aS 27 [iv 3,iv 0,.string s],.g 0 27 0 3,yP a0,.l 0 3 0,bF,.l 0 3 0,bF,.l 0 3 0,bF,.l 0 3 0,bF,.l 0 9 2,.z 0]
theorem zy1(a0:Pu n 44 [.agg #[iv 0,iv 0,.string ⟨#[]⟩]] (.bool true) (al h.fh 27 [iv 0,iv 0,.string ⟨#[]⟩])):Pu (n+1) 25 [.agg #[iv 0,iv 0,.string ⟨#[]⟩]] (.string ⟨#[]⟩) h:=
 fpV (kZ h) [aS 27 [iv 0,iv 0,.string ⟨#[]⟩],.g 0 27 0 3,yP a0,.l 0 3 0,bF,.l 0 3 0,bF,.l 0 3 0,bF,.l 0 3 0,bF,.l 0 9 2,.z 0]
theorem zAn:Fn n 46 [] h (nmV) (pt (al h.fh 110 zt2) h.nx 110 nmL):=
 fnV (kZ h) [aS 110 zt2,.w 0 110 0 (nmV),.r 0 110 9]
theorem zyv(g1_:h1.get h.nx=some (zgK s))(a0:RD n 49 [.string s] (zeQ h s)=some (.tuple #[srV sk sa sb st y yr yn,.nilIface],h1))(a1:((sk:Int)==1)=true)(a2:Pu n 94 [.agg #[iv sa,iv sb,.string st],.agg #[iv 3,iv 0,.string s]] (.bool true) (pt (zfT h1) h1.nx 74 (srL sk sa sb st y yr yn))):∃ H,Fn n 96 (zbr s) h (.string s) H∧tl0 h1 h1.wm (h1.nx+1) H:=
 exV (kZ h) [aS 27 [iv 3,iv 0,.string s],.l 0 9 2,yC a0 (kI (ko g1_)),aS 74 (srL 0 0 0 ⟨#[]⟩ hdZ none 0),.w 1 74 0 (srV sk sa sb st y yr yn),bT,.l 1 3 0,yT a1,.g 1 27 1 3,.g 0 27 0 3,yP a2,.l 0 9 2,.z 0] []
theorem zsF(g1_:h1.get h.nx=some (zgK s))(_h:s.size≤1000)(a0:RD n 49 [.string s] (zeQ h s)=some (.tuple #[srV sk sa sb st y yr yn,.nilIface],h1))(a1:((sk:Int)==1)=false):∃ H,Fn n 96 (zbr s) h (zfQ s) H∧tl0 h1 h1.wm (h1.nx+1) H:=
 exV (kZ h) [aS 27 [iv 3,iv 0,.string s],.l 0 9 2,yC a0 (kI (ko g1_)),aS 74 (srL 0 0 0 ⟨#[]⟩ hdZ none 0),.w 1 74 0 (srV sk sa sb st y yr yn),bT,.l 1 3 0,yF a1,.l 0 9 2,yG ⟨#[39]⟩ s,.z 0] []
theorem zmJ(g1_:h1.get h.nx=some (zgK s))(_h:s.size≤1000)(a0:RD n 49 [.string s] (zeQ h s)=some (.tuple #[srV sk sa sb st y yr yn,.nilIface],h1))(a1:((sk:Int)==1)=true)(a2:Pu n 94 [.agg #[iv sa,iv sb,.string st],.agg #[iv 3,iv 0,.string s]] (.bool false) (pt (zfT h1) h1.nx 74 (srL sk sa sb st y yr yn))):∃ H,Fn n 96 (zbr s) h (zfQ s) H∧tl0 h1 h1.wm (h1.nx+1) H:=
 exV (kZ h) [aS 27 [iv 3,iv 0,.string s],.l 0 9 2,yC a0 (kI (ko g1_)),aS 74 (srL 0 0 0 ⟨#[]⟩ hdZ none 0),.w 1 74 0 (srV sk sa sb st y yr yn),bT,.l 1 3 0,yT a1,.g 1 27 1 3,.g 0 27 0 3,yP a2,.l 0 9 2,yG ⟨#[39]⟩ s,.z 0] []
theorem zyw(g1_:h1.get h.nx=some (zgK s))(_h:s.size≤1000)(a0:RD n 49 [.string s] (zeQ h s)=some (.tuple #[srV sk sa sb st y yr yn,.iface 309 (pv 11 0)],h1)):∃ H,Fn n 96 (zbr s) h (zfQ s) H∧tl0 h1 h1.wm (h1.nx+1) H:=
 exV (kZ h) [aS 27 [iv 3,iv 0,.string s],.l 0 9 2,yC a0 (kI (ko g1_)),aS 74 (srL 0 0 0 ⟨#[]⟩ hdZ none 0),.w 1 74 0 (srV sk sa sb st y yr yn),bF,.l 0 9 2,yG ⟨#[39]⟩ s,.z 0] []
theorem zyu(q:Nat)(g1_:h1.get h.nx=some (zgK s))(_h:s.size≤1000)(a0:RD n 49 [.string s] (zeQ h s)=some (.tuple #[srV sk sa sb st y yr yn,.iface 149 (pv q 0)],h1)):∃ H,Fn n 96 (zbr s) h (zfQ s) H∧tl0 h1 h1.wm (h1.nx+1) H:=
 exV (kZ h) [aS 27 [iv 3,iv 0,.string s],.l 0 9 2,yC a0 (kI (ko g1_)),aS 74 (srL 0 0 0 ⟨#[]⟩ hdZ none 0),.w 1 74 0 (srV sk sa sb st y yr yn),bF,.l 0 9 2,yG ⟨#[39]⟩ s,.z 0] []
theorem zx8(a0:Pu n 94 zgL (.bool true) (al h.fh 74 (srL 0 0 0 ⟨#[]⟩ hdZ none 0)))(a1:Pu n 95 [zj,zj] (.bool true) (al h.fh 74 (srL 0 0 0 ⟨#[]⟩ hdZ none 0))):Pu (n+1) 63 [srV 0 0 0 ⟨#[]⟩ hdZ none 0] (.tuple #[.string ⟨#[]⟩,iv 0]) h:=
 fpT (kZ h) [aS 74 (srL 0 0 0 ⟨#[]⟩ hdZ none 0),.g 0 27 1 3,yP a0,.g 0 72 4 10,yP a1,yN (h.nx+1),.q (.g 0 27 1 3),.q (.g 0 72 4 10),.q (.g 0 72 4 10),.l 0 3 0,bT,bF,.z 0]
theorem zx5(a0:Pu n 94 [.agg #[iv 2,iv b,.string ⟨#[]⟩],.agg #[iv 0,iv 0,.string ⟨#[]⟩]] (.bool false) (zfV h b))(a1:Pu n 95 [zj,zj] (.bool true) (zfV h b))(a2:Pu n 44 [.agg #[iv 2,iv b,.string ⟨#[]⟩]] (.bool true) (zfV h b))(a3:Pu n 25 [.agg #[iv 2,iv b,.string ⟨#[]⟩]] (.string t) (zfV h b))(a4:decide ((t.data.toList.length:Int)>300)=false):Pu (n+1) 63 [srV 1 2 b ⟨#[]⟩ hdZ none 0] (.tuple #[.string t,iv 0]) h:=
 fpT (kZ h) [aS 74 (srL 1 2 b ⟨#[]⟩ hdZ none 0),.g 0 27 1 3,yP a0,.g 0 72 4 10,yP a1,yN (h.nx+1),.q (.g 0 27 1 3),.q (.g 0 72 4 10),.q (.g 0 72 4 10),.l 0 3 0,bF,.l 0 3 0,bT,.g 0 27 1 3,yP a2,.l 0 3 1,bT,.g 0 27 1 3,yP a3,yF a4,.z 0]
theorem zx7(a0:Pu n 94 [.agg #[iv 1,iv b,.string ⟨#[]⟩],.agg #[iv 0,iv 0,.string ⟨#[]⟩]] (.bool false) (zfU h b))(a1:Pu n 95 [zj,zj] (.bool true) (zfU h b))(a2:Pu n 44 [.agg #[iv 1,iv b,.string ⟨#[]⟩]] (.bool true) (zfU h b))(a3:Pu n 25 [.agg #[iv 1,iv b,.string ⟨#[]⟩]] (.string t) (zfU h b))(a4:decide ((t.data.toList.length:Int)>300)=false):Pu (n+1) 63 [srV 1 1 b ⟨#[]⟩ hdZ none 0] (.tuple #[.string t,iv 0]) h:=
 fpT (kZ h) [aS 74 (srL 1 1 b ⟨#[]⟩ hdZ none 0),.g 0 27 1 3,yP a0,.g 0 72 4 10,yP a1,yN (h.nx+1),.q (.g 0 27 1 3),.q (.g 0 72 4 10),.q (.g 0 72 4 10),.l 0 3 0,bF,.l 0 3 0,bT,.g 0 27 1 3,yP a2,.l 0 3 1,bF,.l 0 3 1,bT,.g 0 27 1 3,yP a3,yF a4,.z 0]
theorem zx2(s t:BA)(a0:Pu n 94 [.agg #[iv 3,iv 0,.string s],.agg #[iv 0,iv 0,.string ⟨#[]⟩]] (.bool false) (zfS h s))(a1:Pu n 95 [zj,zj] (.bool true) (zfS h s))(a2:Pu n 44 (zbr s) (.bool true) (zfS h s))(a3:RD n 96 (zbr s) (zfS h s)=some (.string t,h1))(a4:decide ((t.data.toList.length:Int)>300)=false):Fn n 63 [srV 1 3 0 s hdZ none 0] h (.tuple #[.string t,iv 0]) h1:=
 fnT (kZ h) [aS 74 (srL 1 3 0 s hdZ none 0),.g 0 27 1 3,yP a0,.g 0 72 4 10,yP a1,yN (h.nx+1),.q (.g 0 27 1 3),.q (.g 0 72 4 10),.q (.g 0 72 4 10),.l 0 3 0,bF,.l 0 3 0,bT,.g 0 27 1 3,yP a2,.l 0 3 1,bF,.l 0 3 1,bF,.l 0 3 0,bT,.g 0 27 1 3,yP a2,.l 0 3 1,bT,.g 0 27 1 3,yC a3 (kZ h1),yF a4,.z 0]
theorem zx6(c:Nat)(a0:Pu n 94 zgL (.bool true) (zbs h y yr yn))(a1:Pu n 95 [ndV y yr yn,zj] (.bool false) (zbs h y yr yn))(a2:RD n 97 [ndV y yr yn] (zbs h y yr yn)=some (.tuple #[.string t,iv (c:Int)],h1))(a3:((c:Int) !=0)=true):Fn n 63 [srV 2 0 0 ⟨#[]⟩ y yr yn] h (.tuple #[.string ⟨#[]⟩,iv (c:Int)]) h1:=
 fnT (kZ h) [aS 74 (srL 2 0 0 ⟨#[]⟩ y yr yn),.g 0 27 1 3,yP a0,.g 0 72 4 10,yP a1,yN (h.nx+1),.q (.g 0 27 1 3),.q (.g 0 72 4 10),.q (.g 0 72 4 10),.l 0 3 0,bF,.l 0 3 0,bF,.l 0 3 0,bF,.l 0 3 0,bT,.g 0 72 4 10,yC a2 (kZ h1),yT a3,.z 0]
theorem zx3(_h:t.size≤10000)(a0:Pu n 94 zgL (.bool true) (zbs h y yr yn))(a1:Pu n 95 [ndV y yr yn,zj] (.bool false) (zbs h y yr yn))(a2:RD n 97 [ndV y yr yn] (zbs h y yr yn)=some (.tuple #[.string t,iv 0],h1))(a3:decide ((((⟨#[61]⟩:BA)++t).data.toList.length:Int)>300)=true):Fn n 63 [srV 2 0 0 ⟨#[]⟩ y yr yn] h (.tuple #[.string ⟨#[]⟩,iv 2]) h1:=
 fnT (kZ h) [aS 74 (srL 2 0 0 ⟨#[]⟩ y yr yn),.g 0 27 1 3,yP a0,.g 0 72 4 10,yP a1,yN (h.nx+1),.q (.g 0 27 1 3),.q (.g 0 72 4 10),.q (.g 0 72 4 10),.l 0 3 0,bF,.l 0 3 0,bF,.l 0 3 0,bF,.l 0 3 0,bT,.g 0 72 4 10,yC a2 (kZ h1),bF,yG ⟨#[61]⟩ t,yT a3,.z 0]
theorem zx4(_h:t.size≤10000)(a0:Pu n 94 zgL (.bool true) (zbs h y yr yn))(a1:Pu n 95 [ndV y yr yn,zj] (.bool false) (zbs h y yr yn))(a2:RD n 97 [ndV y yr yn] (zbs h y yr yn)=some (.tuple #[.string t,iv 0],h1))(a3:decide ((((⟨#[61]⟩:BA)++t).data.toList.length:Int)>300)=false):Fn n 63 [srV 2 0 0 ⟨#[]⟩ y yr yn] h (.tuple #[.string (⟨#[61]⟩++t),iv 0]) h1:=
 fnT (kZ h) [aS 74 (srL 2 0 0 ⟨#[]⟩ y yr yn),.g 0 27 1 3,yP a0,.g 0 72 4 10,yP a1,yN (h.nx+1),.q (.g 0 27 1 3),.q (.g 0 72 4 10),.q (.g 0 72 4 10),.l 0 3 0,bF,.l 0 3 0,bF,.l 0 3 0,bF,.l 0 3 0,bT,.g 0 72 4 10,yC a2 (kZ h1),bF,yG ⟨#[61]⟩ t,yF a3,.z 0]
theorem zy9(a0:Pu n 94 zgL (.bool true) (al (al h.fh 72 z72) 72 z72))(a1:eqV 43 (.agg #[iv 0,iv 0,iv 0,iv 0]) (.agg #[iv 0,iv 0,iv 0,iv 0])=some (.bool true))(a2:Pu n 160 zpQ (.bool true) (al (al h.fh 72 z72) 72 z72)):Pu (n+1) 128 [zj,zj] (.bool true) h:=
 fpV (kZ h) [aS 72 z72,aS 72 z72,.l 0 3 0,.l 1 3 0,bT,.g 0 27 1 3,.g 1 27 1 3,yP a0,.g 0 43 4 4,.g 1 43 4 4,yE a1,.l 0 9 8,.l 1 9 8,bT,.l 0 70 9,.l 1 70 9,yP a2,.z 0]
theorem zza(k:Int)(x:Hd)(xr:OA)(xn:Nat)(a0:((x.k:Int)==0)=false):Pu (n+1) 128 [ndV x xr xn,zj] (.bool false) h:=
 fpV (kZ h) [aS 72 (ndL x xr xn),aS 72 z72,.l 0 3 0,.l 1 3 0,yF a0,.z 0]
theorem zBp(a0:Lf n 32 [1,1,0,1,0,0] Tryz.f160 [(0,.slice none 0 0),(1,.slice none 0 0),(2,.func (.func 128) #[] #[]),(6,.bool false),(10,.slice none 0 0),(11,iv 0),(12,.slice none 0 0),(13,iv 0),(14,.bool false),(15,.slice none 0 0),(16,iv 0),(17,iv 0)] h.fh (.exit 0) [] h.fh):Pu (n+1) 160 zpQ (.bool true) h:=
 fpV (kZ h) [bF,yS a0 (kZ h.fh),.z 0]
theorem zBq:Bd n 32 [1,1,0,1,0,0] Tryz.f160 [(16,iv 0),(17,iv 0)] h (.exit 0) [] h:=
 bdF (kZ h) [bF]
theorem zsU(v:Bool)(x:Hd)(xr:OA)(xn:Nat)(a0:Pu n 127 [ndV x xr xn] (.bool true) (al (al h.fh 72 (ndL x xr xn)) 72 z72))(a1:Pu n 127 [zj] (.bool true) (al (al h.fh 72 (ndL x xr xn)) 72 z72))(a2:Pu n 128 [ndV x xr xn,zj] (.bool v) (al (al h.fh 72 (ndL x xr xn)) 72 z72)):Pu (n+1) 95 [ndV x xr xn,zj] (.bool v) h:=
 fpV (kZ h) [aS 72 (ndL x xr xn),aS 72 z72,.g 0 72 0 10,yP a0,.g 1 72 0 10,yP a1,.g 0 72 0 10,.g 1 72 0 10,yP a2,.z 0]
theorem zBM(c n:Nat)(sk sa sb:Int)(st:BA)(y:Hd)(yr:OA)(yn:Nat)(a0:RD n 29 [.string s] h.fh=some (.tuple #[srV sk sa sb st y yr yn,iv (a:Int),iv (c:Int)],h1))(a1:((c:Int) !=0)=true):Fn n 38 [.string s] h (.tuple #[.string ⟨#[]⟩,iv (a:Int),iv (c:Int)]) (pt (zfT h1) h1.nx 74 (srL sk sa sb st y yr yn)):=
 fnT (kZ h) [yC a0 (kZ h1),aS 74 (srL 0 0 0 ⟨#[]⟩ hdZ none 0),.w 0 74 0 (srV sk sa sb st y yr yn),yT a1,.z 0]
theorem zBL(c n:Nat)(sk sa sb:Int)(st:BA)(y:Hd)(yr:OA)(yn:Nat)(h2:Heap)(t:BA)(d:Nat)(a0:RD n 29 [.string s] h.fh=some (.tuple #[srV sk sa sb st y yr yn,iv (a:Int),iv (c:Int)],h1))(a1:((c:Int) !=0)=false)(a2:RD n 63 [srV sk sa sb st y yr yn] (pt (zfT h1) h1.nx 74 (srL sk sa sb st y yr yn))=some (.tuple #[.string t,iv (d:Int)],h2)):Fn n 38 [.string s] h (.tuple #[.string t,iv 0,iv (d:Int)]) h2:=
 fnT (kZ h) [yC a0 (kZ h1),aS 74 (srL 0 0 0 ⟨#[]⟩ hdZ none 0),.w 0 74 0 (srV sk sa sb st y yr yn),yF a1,.g 0 74 0 14,yC a2 (kZ h2),.z 0]
theorem zAz(a0:((k:Int) !=1)=true):Pu (n+1) 20 (zfO k r c i1 i2 i3 i4 s) zfW h:=
 fpT (kZ h) [aS 45 (zdZ k r c i1 i2 i3 i4 s),.l 0 3 0,yT a0,.z 0]
theorem zAA(a0:((k:Int) !=1)=false)(a1:Pu n 37 [.agg #[iv r,iv c]] (.bool false) (al h.fh 45 (zdZ k r c i1 i2 i3 i4 s))):Pu (n+1) 20 (zfO k r c i1 i2 i3 i4 s) zfW h:=
 fpT (kZ h) [aS 45 (zdZ k r c i1 i2 i3 i4 s),.l 0 3 0,yF a0,.g 0 29 1 2,yP a1,.z 0]
theorem zAB(n:Nat)(g1_:h1.get h.nx=some (.row 45 (vE r c i1 i2 i3 i4 s) 0 false))(a0:Pu n 37 [.agg #[iv r,iv c]] (.bool true) (al h.fh 45 (vE r c i1 i2 i3 i4 s)))(a1:RD n 38 [.string s] (al h.fh 45 (vE r c i1 i2 i3 i4 s))=some (.tuple #[.string t,iv (a:Int),iv (d:Int)],h1))(a2:((d:Int) !=0)=true):Fn n 20 (zfR r c i1 i2 i3 i4 s) h (.tuple #[.string ⟨#[]⟩,iv (d:Int)]) h1:=
 fnT (kZ h) [aS 45 (vE r c i1 i2 i3 i4 s),.l 0 3 0,bF,.g 0 29 1 2,yP a0,.l 0 9 7,yC a1 (kZ h1),yT a2,.z 0]
theorem zAC(n:Nat)(g1_:h1.get h.nx=some (.row 45 (vE r c i1 i2 i3 i4 s) 0 false))(a0:Pu n 37 [.agg #[iv r,iv c]] (.bool true) (al h.fh 45 (vE r c i1 i2 i3 i4 s)))(a1:RD n 38 [.string s] (al h.fh 45 (vE r c i1 i2 i3 i4 s))=some (.tuple #[.string t,iv (a:Int),iv (d:Int)],h1))(a2:((d:Int) !=0)=false)(a3:bqS t ⟨#[]⟩=true):Fn n 20 (zfR r c i1 i2 i3 i4 s) h zfW h1:=
 fnT (kZ h) [aS 45 (vE r c i1 i2 i3 i4 s),.l 0 3 0,bF,.g 0 29 1 2,yP a0,.l 0 9 7,yC a1 (kZ h1),yF a2,yT a3,.z 0]
theorem zAy(n:Nat)(j:Int)(g1_:h1.get h.nx=some (.row 45 (vE r c i1 i2 i3 i4 s) 0 false))(a0:Pu n 37 [.agg #[iv r,iv c]] (.bool true) (al h.fh 45 (vE r c i1 i2 i3 i4 s)))(a1:RD n 38 [.string s] (al h.fh 45 (vE r c i1 i2 i3 i4 s))=some (.tuple #[.string t,iv (a:Int),iv (d:Int)],h1))(a2:((d:Int) !=0)=false)(a3:bqS t ⟨#[]⟩=false)(a4:Pu n 39 [.string t,.int .u8 10] (iv j) h1)(a5:decide ((j:Int)≥0)=true):Fn n 20 (zfR r c i1 i2 i3 i4 s) h zfW h1:=
 fnT (kZ h) [aS 45 (vE r c i1 i2 i3 i4 s),.l 0 3 0,bF,.g 0 29 1 2,yP a0,.l 0 9 7,yC a1 (kZ h1),yF a2,yF a3,yP a4,yT a5,.z 0]
theorem zwY(n:Nat)(j:Int)(u:BA)(g1_:h1.get h.nx=some (.row 45 (vE r c i1 i2 i3 i4 s) 0 false))(_h:u.size≤100)(_h2:t.size≤1000)(a0:Pu n 37 [.agg #[iv r,iv c]] (.bool true) (al h.fh 45 (vE r c i1 i2 i3 i4 s)))(a1:RD n 38 [.string s] (al h.fh 45 (vE r c i1 i2 i3 i4 s))=some (.tuple #[.string t,iv (a:Int),iv (d:Int)],h1))(a2:((d:Int) !=0)=false)(a3:bqS t ⟨#[]⟩=false)(a4:Pu n 39 [.string t,.int .u8 10] (iv j) h1)(a5:decide ((j:Int)≥0)=false)(a6:Pu n 24 [.agg #[iv r,iv c]] (.string u) h1):Fn n 20 (zfR r c i1 i2 i3 i4 s) h (.tuple #[.string ((u++⟨#[32]⟩)++t),iv 0]) h1:=
 fnT (kZ h) [aS 45 (vE r c i1 i2 i3 i4 s),.l 0 3 0,bF,.g 0 29 1 2,yP a0,.l 0 9 7,yC a1 (kI (ko g1_)),yF a2,yF a3,yP a4,yF a5,.g 0 29 1 2,yP a6,yG u ⟨#[32]⟩,yG (u++⟨#[32]⟩) t,.z 0]
theorem zt5(a0:decide ((i:Int) < N)=false):Bd n 29 [1,1,0,1,0,0] Tryz.f7 [(4,.slice ro lo lo),(9,sl),(10,iv N),(11,iv (i:Int))] h (.exit 0) [(4,.slice ro lo lo)] h:=
 bdF (kZ h) [yF a0,.z 0]
theorem zAx(k r c i1 i2 i3 i4:Int)(s t:BA)(d:Nat)(_h1:i < N)(_h2:N < 4000)(a0:decide ((i:Int) < N)=true)(a1:LD h 45 ib (0+i * 8) (zfP k r c i1 i2 i3 i4 s))(a2:RD n 20 (zfO k r c i1 i2 i3 i4 s) (pt (al h 45 zjL) h.nx 45 (zdZ k r c i1 i2 i3 i4 s))=some (.tuple #[.string t,iv (d:Int)],h1))(a3:((d:Int) !=0)=true):Bd n 29 [1,1,0,1,0,0] Tryz.f7 [(4,.slice ro lo lo),(9,sv ib 0 N N),(10,iv N),(11,iv (i:Int))] h .ret [(2,.slice none 0 0),(3,iv (d:Int))] h1:=
 bdF (kZ h) [yT a0,iA 22 45 8 ib N i,yE a1,aS 45 zjL,.w 0 45 0 (zfP k r c i1 i2 i3 i4 s),.g 0 45 0 8,yC a2 (kZ h1),yT a3,.z 0]
theorem zwX(k r c i1 i2 i3 i4:Int)(s t:BA)(h2:Heap)(l2:Nat)(r2:OA)(_h1:i < N)(_h2:N < 4000)(a0:decide ((i:Int) < N)=true)(a1:LD h 45 ib (0+i * 8) (zfP k r c i1 i2 i3 i4 s))(a2:RD n 20 (zfO k r c i1 i2 i3 i4 s) (pt (al h 45 zjL) h.nx 45 (zdZ k r c i1 i2 i3 i4 s))=some (.tuple #[.string t,iv 0],h1))(a3:zu En (al h1 9 [.string t]) #[32,32] (.slice ro lo lo) (sv h1.nx 0 1 1)=some (.slice r2 l2 l2,h2)):Bd n 29 [1,1,0,1,0,0] Tryz.f7 [(4,.slice ro lo lo),(9,sv ib 0 N N),(10,iv N),(11,iv (i:Int))] h .normal [(4,.slice r2 l2 l2),(9,sv ib 0 N N),(10,iv N),(11,iv ((i:Int)+1))] h2:=
 bdF (kZ h) [yT a0,iA 22 45 8 ib N i,yE a1,aS 45 zjL,.w 0 45 0 (zfP k r c i1 i2 i3 i4 s),.g 0 45 0 8,yC a2 (kZ h1),bF,aS 9 [.string t],yC a3 (kZ h2),yW ((i:Int)+1),.z 0]
theorem zAv(a0:Lf n 29 [1,1,0,1,0,0] Tryz.f7 (zpR xr N) h.fh (.exit 0) [(4,.slice ro lo lo)] hL):Fn n 7 [.slice xr N N] h (.tuple #[.slice ro lo lo,iv 0]) hL:=
 fnT (kZ h) [yS a0 (kZ hL),.z 0]
theorem zAw(n:Nat)(a0:Lf n 29 [1,1,0,1,0,0] Tryz.f7 (zpR xr N) h.fh .ret [(2,.slice none 0 0),(3,iv (d:Int))] hL):Fn n 7 [.slice xr N N] h (.tuple #[.slice none 0 0,iv (d:Int)]) hL:=
 fnT (kZ h) [yS a0 (kZ hL),.z 0]
theorem zsK(a0:decide ((i:Int) < N)=false):Bd n 25 [1,1,0,1,0,0] Tryz.f11 [(3,.slice ro lo lo),(6,sl),(7,iv N),(8,iv (i:Int))] h (.exit 0) [(3,.slice ro lo lo)] h:=
 bdF (kZ h) [yF a0,.z 0]
theorem zvx(r c k v:Int)(s t u:BA)(_h1:i < N)(_h2:N < 4000)(_h3:t.size≤100)(_h4:u.size≤1100)(a0:decide ((i:Int) < N)=true)(a1:LD h 31 ib (0+i * 5) (.agg #[iv r,iv c,iv k,iv v,.string s]))(a2:Pu n 24 [.agg #[iv r,iv c]] (.string t) (zn0 h r c k v s))(a3:Pu n 25 [.agg #[iv k,iv v,.string s]] (.string u) (zn0 h r c k v s))(a4:zu En (pt (zn0 h r c k v s) (h.nx+1) 9 [.string ((t++⟨#[32]⟩)++u)]) #[32,32] (.slice ro lo lo) (sv (h.nx+1) 0 1 1)=some (.slice r2 l2 l2,h2)):Bd n 25 [1,1,0,1,0,0] Tryz.f11 [(3,.slice ro lo lo),(6,sv ib 0 N N),(7,iv N),(8,iv (i:Int))] h .normal [(3,.slice r2 l2 l2),(6,sv ib 0 N N),(7,iv N),(8,iv ((i:Int)+1))] h2:=
 bdF (kZ h) [yT a0,iA 23 31 5 ib N i,yE a1,aS 31 [iv 0,iv 0,iv 0,iv 0,.string ⟨#[]⟩],.w 0 31 0 (.agg #[iv r,iv c,iv k,iv v,.string s]),.v 1,.g 0 29 0 2,yP a2,yG t ⟨#[32]⟩,.g 0 27 2 3,yP a3,yG (t++⟨#[32]⟩) u,bS 0 9 [.string ((t++⟨#[32]⟩)++u)],yC a4 (kZ h2),yN (h.nx+2),.j 2,.q (.g 0 29 0 2),.q (.g 0 27 2 3),.q (.g 0 27 2 3),.j 4,yW ((i:Int)+1),.z 0]
theorem zvy(a0:Lf n 25 [1,1,0,1,0,0] Tryz.f11 [(0,.slice xr N N),(2,.slice none 0 0),(3,.slice none 0 0),(6,.slice xr N N),(7,iv N),(8,iv 0)] h.fh (.exit 0) [(3,.slice ro lo lo)] hL):Fn n 11 [.slice xr N N] h (.slice ro lo lo) hL:=
 fnV (kZ h) [yS a0 (kZ hL),.z 0]
end
end Go.PanE
