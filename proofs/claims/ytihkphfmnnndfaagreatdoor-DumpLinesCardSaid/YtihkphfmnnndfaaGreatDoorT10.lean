/-
 Part 10 of the proof of Rows.DumpLinesCardSaid. No conditions.
-/
import Derived.Test.YtihkphfmnnndfaaGreatDoorT09
import Derived.DeepKeys4
import Derived.KernelRfl
import Derived.Laws.Externs
import Derived.Test.YtihkphfmnnndfaaGreatDoorProg
namespace Go.PanE
def zbt(l:List (Nat×Value)):T Value:=l.foldl (fun t p=>t.put p.1 p.2) .nil
def AgL:List (Nat×Value)→T Value→Prop
 |[],_=>True
 |p::l,tm=>rdT tm p.1=p.2∧AgL l tm
theorem zmm(tm:T Value):zW .nil tm:=by
 intro t v h
 have:(T.nil:T Value).get t=none:=by cases t <;>rfl
 rw[this] at h;simp at h
theorem zkk{tm:T Value}:∀ (l:List (Nat×Value)) (ov:T Value),zW ov tm→AgL l tm→zW (l.foldl (fun t p=>t.put p.1 p.2) ov) tm:=by
 intro l
 induction l with
 |nil=>intro ov A _;exact A
 |cons p l ih=>
  intro ov A h
  refine ih (ov.put p.1 p.2) ?_ h.2
  intro t v hv
  rw[T.get_put] at hv
  split at hv
  ·rename_i e
   simp only[sJ] at hv;subst hv;rw[e];exact h.1
  ·exact A t v hv
theorem zho{l:List (Nat×Value)}{tm:T Value}(h:AgL l tm):zW (zbt l) tm:=zkk l .nil (zmm tm) h
section
variable (env:Env) (call:wQ) (nt:Nat) (L:Nat)
def gec:Code→List Guess→St→Option (List Guess×List Prop×Ex×St)
 | .skip=>fun gs s=>some (gs,[],.normal,s)
 | .label _=>fun gs s=>some (gs,[],.normal,s)
 | .region _ ops dr=>fun gs s=>
  match(bif dr then zjY env call nt ops.toList gs s else zeT env call nt ops.toList ops.toList gs s) with
  |some (gs',fs,s')=>some (gs',fs,.normal,s')
  |none=>none
 | .seq a b=>fun gs s=>match gec a gs s with
  |some (gs1,fs,.normal,s1)=>match gec b gs1 s1 with
   |some (gs2,fs2,x,s2)=>some (gs2,fs++fs2,x,s2)
   |none=>none
  |r=>r
 | .cond c a b=>fun gs s=>bif zfX s.tm c then match rd s.tm c with
  |some (.bool t)=>bif t then gec a gs s else gec b gs s
  |_=>none else none
 | .block id b=>fun gs s=>match gec b gs s with
  |some (gs1,fs,.exit i,s')=>if i=id then some (gs1,fs,.normal,s') else some (gs1,fs,.exit i,s')
  |r=>r
 | .loop b=>fun gs s=>match gs with
  | .s x l h'::gs=>some (gs,[∀ tm,zW s.tm tm→∃ tm',jN (ecA env call nt (qB env call nt) L b) L ⟨tm,s.h⟩=some (x,⟨tm',h'⟩)∧AgL l tm'],x,⟨zbt l,h'⟩)
  |_=>none
 | .exit id=>fun gs s=>some (gs,[],.exit id,s)
 | .ret=>fun gs s=>some (gs,[],.ret,s)
 |_=>fun _ _=>none
theorem zlW:∀ (c:Code) (gs gs':List Guess) (s s':St) (x:Ex) (fs:List Prop),gec env call nt L c gs s=some (gs',fs,x,s')→wG fs→∀ tm,zW s.tm tm→
  ∃ tm',ecA env call nt (qB env call nt) L c ⟨tm,s.h⟩=some (x,⟨tm',s'.h⟩)∧zW s'.tm tm':=by
 intro c
 induction c with
 |skip=>
  intro gs gs' s s' x fs e hf tm A
  simp only[gec,sJ,pJ] at e
  obtain⟨_,_,rfl,rfl⟩:=e
  exact⟨tm,rfl,A⟩
 |label l=>
  intro gs gs' s s' x fs e hf tm A
  simp only[gec,sJ,pJ] at e
  obtain⟨_,_,rfl,rfl⟩:=e
  exact⟨tm,rfl,A⟩
 |region id ops dr=>
  intro gs gs' s s' x fs e hf tm A
  simp only[gec] at e
  split at e
  ·rename_i gs1 fs1 s1 h1
   simp only[sJ,pJ] at e
   obtain⟨_,rfl,rfl,rfl⟩:=e
   cases dr with
   |true=>
    simp only[cond_true] at h1
    obtain⟨tm',h2,A2⟩:=zov env call nt ops.toList h1 hf A
    exact⟨tm',by simp only[ecA,cond_true,h2],A2⟩
   |false=>
    simp only[cond_false] at h1
    obtain⟨tm',h2,A2⟩:=zrt env call nt ops.toList _ _ _ _ _ _ h1 hf tm A
    exact⟨tm',by simp only[ecA,cond_false,h2],A2⟩
  ·simp at e
 |seq a b iha ihb=>
  intro gs gs' s s' x fs e hf tm A
  simp only[gec] at e
  split at e
  ·rename_i gs1 fs1 s1 h1
   split at e
   ·rename_i gs2 fs2 x2 s2 h2
    simp only[sJ,pJ] at e
    obtain⟨_,rfl,rfl,rfl⟩:=e
    rw[wZ] at hf
    obtain⟨tm1,h3,A1⟩:=iha _ _ _ _ _ _ h1 hf.1 tm A
    obtain⟨tm2,h4,A2⟩:=ihb _ _ _ _ _ _ h2 hf.2 tm1 A1
    exact⟨tm2,by simp only[ecA,h3,h4],A2⟩
   ·simp at e
  ·rename_i hnn
   obtain⟨tm1,h3,A1⟩:=iha _ _ _ _ _ _ e hf tm A
   refine⟨tm1,?_,A1⟩
   simp only[ecA,h3]
   cases x with
   |normal=>exact absurd e (hnn _ _ _)
   |_=>rfl
 |cond c a b iha ihb=>
  intro gs gs' s s' x fs e hf tm A
  simp only[gec] at e
  cases hk:zfX s.tm c with
  |false=>rw[hk] at e;simp at e
  |true=>
   rw[hk] at e
   simp only[cond_true] at e
   have hr:=zgU A hk
   split at e
   ·rename_i t ht
    rw[hr] at ht
    cases t with
    |true=>
     obtain⟨tm1,h3,A1⟩:=iha _ _ _ _ _ _ e hf tm A
     exact⟨tm1,by simp only[ecA,ht];exact h3,A1⟩
    |false=>
     obtain⟨tm1,h3,A1⟩:=ihb _ _ _ _ _ _ e hf tm A
     exact⟨tm1,by simp only[ecA,ht];exact h3,A1⟩
   ·simp at e
 |block id b ih=>
  intro gs gs' s s' x fs e hf tm A
  simp only[gec] at e
  split at e
  ·rename_i gs1 fs1 i s1 h1
   split at e
   ·rename_i hi
    simp only[sJ,pJ] at e
    obtain⟨_,rfl,rfl,rfl⟩:=e
    obtain⟨tm1,h3,A1⟩:=ih _ _ _ _ _ _ h1 hf tm A
    exact⟨tm1,by simp only[ecA,h3,if_pos hi],A1⟩
   ·rename_i hi
    simp only[sJ,pJ] at e
    obtain⟨_,rfl,rfl,rfl⟩:=e
    obtain⟨tm1,h3,A1⟩:=ih _ _ _ _ _ _ h1 hf tm A
    exact⟨tm1,by simp only[ecA,h3,if_neg hi],A1⟩
  ·rename_i hnn
   obtain⟨tm1,h3,A1⟩:=ih _ _ _ _ _ _ e hf tm A
   refine⟨tm1,?_,A1⟩
   simp only[ecA,h3]
   cases x with
   |exit i=>exact absurd e (hnn _ _ _ _)
   |_=>rfl
 |loop b ih=>
  intro gs gs' s s' x fs e hf tm A
  simp only[gec] at e
  split at e
  ·rename_i x1 l h1 gs1
   simp only[sJ,pJ] at e
   obtain⟨_,rfl,rfl,rfl⟩:=e
   obtain⟨tm',h2,A2⟩:=hf.1 tm A
   exact⟨tm',by simp only[ecA];exact h2,zho A2⟩
  ·simp at e
 |exit id=>
  intro gs gs' s s' x fs e hf tm A
  simp only[gec,sJ,pJ] at e
  obtain⟨_,_,rfl,rfl⟩:=e
  exact⟨tm,rfl,A⟩
 |ret=>
  intro gs gs' s s' x fs e hf tm A
  simp only[gec,sJ,pJ] at e
  obtain⟨_,_,rfl,rfl⟩:=e
  exact⟨tm,rfl,A⟩
 |_=>intro gs gs' s s' x fs e;simp[gec] at e
def zaX(h:Heap)(ov:T Value):List ResultVar→Vs→Option (List Prop)
 |[],[]=>some []
 | .tmp t::rs,v::vs=>match ov.get t with
  |some u=>match zaX h ov rs vs with|some l=>some ((u=v)::l)|none=>none
  |none=>none
 | .cell a t::rs,v::vs=>match ov.get a with
  |some (.pointer (some ad))=>match zaX h ov rs vs with|some l=>some ((ui env h t ad=some v)::l)|none=>none
  |_=>none
 |_,_=>none
theorem zrr{h:Heap}{ov tm:T Value}(A:zW ov tm):∀ (rs:List ResultVar) (vs:Vs) (fs:List Prop),zaX env h ov rs vs=some fs→wG fs→vX env h tm rs=some vs:=by
 intro rs
 induction rs with
 |nil=>
  intro vs fs e hf
  cases vs with
  |nil=>rfl
  |cons v vs=>simp[zaX] at e
 |cons r rs ih=>
  intro vs fs e hf
  cases vs with
  |nil=>cases r <;>simp[zaX] at e
  |cons v vs=>
   cases r with
   |tmp t=>
    simp only[zaX] at e
    split at e
    ·rename_i u hu
     split at e
     ·rename_i l hl
      simp only[sJ] at e;subst e
      obtain⟨rfl,h2⟩:=hf
      simp only[vX,za3,A t u hu,ih vs l hl h2]
     ·simp at e
    ·simp at e
   |cell a t=>
    simp only[zaX] at e
    split at e
    ·rename_i ad hu
     split at e
     ·rename_i l hl
      simp only[sJ] at e;subst e
      obtain⟨h1,h2⟩:=hf
      simp only[vX,za3,A a _ hu,ih vs l hl h2,h1]
     ·simp at e
    ·simp at e
def zeJ:Vs→Value
 |[v]=>v
 |vs=>.tuple ⟨vs⟩
def zy(h:Heap)(v:Value)(g:Heap):Value×Heap:=if Nat.ble h.nx g.wm && zM h.nx 5 v then(v,h) else(v,{g with wm:=min h.wm g.wm})
variable (orc:FuncId→Option (Vs→Heap→Option (Value×Heap)))
noncomputable def zbA(n:Nat)(f:FuncId)(gs:List Guess)(args:Vs)(h:Heap)(vs:Vs):Option (List Prop×Heap):=
 match orc f with
 |some _=>none
 |none=>match env.fn f with
  |some fn=>match fn.body with
   |some c=>bif Nat.ble args.length fn.ntmps then
     match gec env (zB env orc (drawn env) L n) fn.ntmps L c gs ⟨zas args 0 .nil,{h with wm:=h.nx}⟩ with
     |some ([],fs,.normal,s)=>match zaX env s.h s.tm fn.results.toList vs with|some l=>some (fs++l,s.h)|none=>none
     |some ([],fs,.ret,s)=>match zaX env s.h s.tm fn.results.toList vs with|some l=>some (fs++l,s.h)|none=>none
     |_=>none
    else none
   |none=>none
  |none=>none
theorem uS{n:Nat}{f:FuncId}{gs:List Guess}{args:Vs}{h g:Heap}{vs:Vs}{fs:List Prop}(e:zbA env L orc n f gs args h vs=some (fs,g))(hf:wG fs):
  zB env orc (drawn env) L (n+1) f args h=some (zy h (zeJ vs) g):=by
 unfold zbA at e
 split at e
 ·simp at e
 ·rename_i ho
  split at e
  ·rename_i fn hfn
   split at e
   ·rename_i c hc
    cases hb:Nat.ble args.length fn.ntmps with
    |false=>rw[hb] at e;simp at e
    |true=>
     rw[hb] at e
     simp only[cond_true] at e
     have fin:∀ (fs1 l:List Prop) (x:Ex) (s:St),(x= .normal∨x= .ret)→gec env (zB env orc (drawn env) L n) fn.ntmps L c gs ⟨zas args 0 .nil,{h with wm:=h.nx}⟩=some ([],fs1,x,s)→zaX env s.h s.tm fn.results.toList vs=some l→wG (fs1++l)→
       zB env orc (drawn env) L (n+1) f args h=some (zy h (zeJ vs) s.h):=by
      intro fs1 l x s hx hg hr hh
      rw[wZ] at hh
      obtain⟨tm',h1,A⟩:=zlW env (zB env orc (drawn env) L n) fn.ntmps L c _ _ _ _ _ _ hg hh.1 (zas args 0 .nil) (fun t v e=>by simp[rdT,e])
      have h2:=zrr env A _ _ _ hr hh.2
      have h3:uH env fn ⟨tm',s.h⟩=some (zeJ vs):=by
       unfold uH
       rw[h2]
       match vs with
       |[]=>rfl
       |[v]=>rfl
       |_::_::_=>rfl
      simp only[zB,ho,hfn,hc,hb,if_true,zf0]
      have h1':ecA env (zB env orc (drawn env) L n) fn.ntmps (drawn env (zB env orc (drawn env) L n) fn.ntmps) L c ⟨zas args 0 .nil,{h with wm:=h.nx}⟩=some (x,⟨tm',s.h⟩):=h1
      rw[h1']
      rcases hx with rfl|rfl
      ·simp only[h3,zy];split <;>rfl
      ·simp only[h3,zy];split <;>rfl
     split at e
     ·rename_i fs1 s hg
      split at e
      ·rename_i l hl
       simp only[sJ,pJ] at e
       obtain⟨rfl,rfl⟩:=e
       exact fin fs1 l _ s (.inl rfl) hg hl hf
      ·simp at e
     ·rename_i fs1 s hg
      split at e
      ·rename_i l hl
       simp only[sJ,pJ] at e
       obtain⟨rfl,rfl⟩:=e
       exact fin fs1 l _ s (.inr rfl) hg hl hf
      ·simp at e
     ·simp at e
   ·simp at e
  ·simp at e
end
def zci(ov:T Value):List (Nat×Value)→Option (List Prop)
 |[]=>some []
 |p::l=>match ov.get p.1,zci ov l with
  |some u,some fs=>some ((u=p.2)::fs)
  |_,_=>none
theorem zfg{ov tm:T Value}(A:zW ov tm):∀ (l:List (Nat×Value)) (fs:List Prop),zci ov l=some fs→wG fs→AgL l tm:=by
 intro l
 induction l with
 |nil=>intro fs _ _;trivial
 |cons p l ih=>
  intro fs e hf
  simp only[zci] at e
  split at e
  ·rename_i u fs1 hu h1
   simp only[sJ] at e;subst e
   exact⟨by rw[A _ _ hu];exact hf.1,ih fs1 h1 hf.2⟩
  ·simp at e
section
variable (env:Env) (call:wQ) (nt:Nat) (L:Nat)
def zbx(c:Code)(gs:List Guess)(l:List (Nat×Value))(h:Heap)(l':List (Nat×Value)):Option (List Prop×Ex×Heap):=
 match gec env call nt L c gs ⟨zbt l,h⟩ with
 |some ([],fs,x,s)=>match zci s.tm l' with
  |some fs2=>some (fs++fs2,x,s.h)
  |none=>none
 |_=>none
theorem zrp{c:Code}{gs:List Guess}{l l':List (Nat×Value)}{h h':Heap}{fs:List Prop}{x:Ex}(e:zbx env call nt L c gs l h l'=some (fs,x,h'))(hf:wG fs){tm:T Value}(A:AgL l tm):
  ∃ tm',ecA env call nt (qB env call nt) L c ⟨tm,h⟩=some (x,⟨tm',h'⟩)∧AgL l' tm':=by
 unfold zbx at e
 split at e
 ·rename_i fs1 x1 s1 h1
  split at e
  ·rename_i fs2 h2
   simp only[sJ,pJ] at e
   obtain⟨rfl,rfl,rfl⟩:=e
   rw[wZ] at hf
   obtain⟨tm',h3,A2⟩:=zlW env call nt L c _ _ _ _ _ _ h1 hf.1 tm (zho A)
   exact⟨tm',h3,zfg A2 _ _ h2 hf.2⟩
  ·simp at e
 ·simp at e
end
def Heap.fh(h:Heap):Heap:={h with wm:=h.nx}
def stF:Option Heap→Option (Value×Heap)
 |some h=>some (undef,h)
 |none=>none
def bAt(s:BA)(i:Int):Nat:=((s.data.toList.drop i.toNat).headD 0).toNat
def zdL(b:BA):Option ((Nat→Value)×AObj):=
 if Nat.ble b.data.toList.length 140737488355328 then
  some (fun k=>.slice (some ⟨k,0,none⟩) b.data.toList.length b.data.toList.length,.row 5 (b.data.toList.map fun x=>.int .u8 (x.toNat:Int)) 1 false)
 else none
def sub:List Nat→Code→Code
 |[],c=>c
 |0::l,.seq a _=>sub l a
 |1::l,.seq _ b=>sub l b
 |0::l,.cond _ a _=>sub l a
 |1::l,.cond _ _ b=>sub l b
 |0::l,.block _ b=>sub l b
 |0::l,.loop b=>sub l b
 |_,_=>.skip
def zp(f:Func):Code:=match f.body with|some c=>c|none=>.skip
theorem zri{f:St→Option (Ex×St)}{s s1:St}(e:f s=some (.normal,s1))(n:Nat):jN f (n+1) s=jN f n s1:=by
 simp only[jN,e]
theorem zok{f:St→Option (Ex×St)}{s s1:St}{i:Nat}(e:f s=some (.exit i,s1))(n:Nat):jN f (n+1) s=some (.exit i,s1):=by
 simp only[jN,e]
theorem zoj{f:St→Option (Ex×St)}{s s1:St}(e:f s=some (.ret,s1))(n:Nat):jN f (n+1) s=some (.ret,s1):=by
 simp only[jN,e]
theorem zfo(h:Heap):(Heap.fh h).nx=h.nx:=rfl
theorem zX(h:Heap):(Heap.fh h).wm=h.nx:=rfl
theorem zt(h:Heap)(o:AObj):(h.alloc o).nx=h.nx+1:=rfl
theorem zl(h:Heap)(o:AObj):(h.alloc o).wm=h.wm:=rfl
theorem yh(h:Heap)(b:Nat)(o:AObj):(h.put b o).nx=h.nx:=rfl
theorem ze(h:Heap)(b:Nat)(o:AObj):(h.put b o).wm=min b h.wm:=yj b h.wm
theorem zK(n:Nat)(h:Heap):(zd n h).nx=h.nx+n:=(wY n h).1
theorem zJ(n:Nat)(h:Heap):(zd n h).wm=h.wm:=(wY n h).2.1
theorem wJ(n:Nat)(h:Heap){b:Nat}(hb:b < h.nx):(zd n h).get b=h.get b:=by rw[(wY n h).2.2,if_pos hb]
theorem zb(h:Heap)(o:AObj):(h.alloc o).get h.nx=some o:=by rw[wB,if_pos rfl]
theorem zm(h:Heap)(o:AObj){b:Nat}(hb:b < h.nx):(h.alloc o).get b=h.get b:=by rw[wB,if_neg (by omega)]
theorem zi(h:Heap)(b:Nat)(o:AObj)(hb:b < h.nx):(h.put b o).get b=some o:=by rw[Heap.get_put _ _ _ _ hb,if_pos rfl]
theorem zf(h:Heap)(b c:Nat)(o:AObj)(hb:b < h.nx)(hc:c≠b):(h.put b o).get c=h.get c:=by rw[Heap.get_put _ _ _ _ hb,if_neg hc]
theorem zcp(h:Heap)(o o':AObj)(hw:h.wm≤h.nx):(h.alloc o).put h.nx o'=h.alloc o':=by
 unfold Heap.put Heap.alloc
 simp only[T.put_put]
 congr 1
 rw[yj];omega
section
variable {env:Env} {h:Heap}
def yy(env:Env)(t:TypeId):Bool:=match env.und t,env.size t with|some d,some _=>!yz d|_,_=>false
def vq(env:Env)(t:TypeId)(n:Nat):Bool:=match env.und t,env.size t with|some d,some k=>yz d && Nat.beq k n|_,_=>false
theorem zG{t:TypeId}{b o:Nat}{el:TypeId}{cs:Vs}{es:Nat}{ro:Bool}{v:Value}(hg:h.get b=some (.row el cs es ro))(hc:yy env t=true)
  (hv:(cs.drop o).head? =some v):ui env h t ⟨b,o,none⟩=some v:=by
 unfold yy at hc
 unfold ui
 rw[hg]
 cases hu:env.und t with
 |none=>rw[hu] at hc;simp at hc
 |some d=>
  cases hs:env.size t with
  |none=>rw[hu,hs] at hc;simp at hc
  |some n=>
   rw[hu,hs] at hc
   have hd:yz d=false:=by simpa using hc
   simp only[hd,Bool.false_eq_true,if_false,hv]
theorem uj{t:TypeId}{b o:Nat}{el:TypeId}{cs:Vs}{es:Nat}{ro:Bool}{l:Vs}(n:Nat)(hg:h.get b=some (.row el cs es ro))(hc:vq env t n=true)
  (hv:(cs.drop o).take n=l) (hl:l.length=n):ui env h t ⟨b,o,none⟩=some (.agg ⟨l⟩):=by
 have hb:Nat.beq l.length n=true:=by rw[hl];exact Nat.beq_refl n
 unfold vq at hc
 unfold ui
 rw[hg]
 cases hu:env.und t with
 |none=>rw[hu] at hc;simp at hc
 |some d=>
  cases hs:env.size t with
  |none=>rw[hu,hs] at hc;simp at hc
  |some k=>
   rw[hu,hs] at hc
   rw[bA] at hc
   have:=nB_ hc.2
   subst this
   simp only[hc.1,if_true,hv,hb]
theorem yp{t:TypeId}{b o:Nat}{el:TypeId}{cs cs':Vs}{es:Nat}{v:Value}(n:Nat)(hg:h.get b=some (.row el cs es false))(hs:env.size t=some n)(hn:v.cells.size=n)
  (hv:uG cs o v.cells.toList=some cs'):stF (ym env h t ⟨b,o,none⟩ v)=some (undef,h.put b (.row el cs' es false)):=by
 simp only[ym,hs,hn,if_true,jd,hg,hv,stF]
theorem zc6{x:Int}(h1: -9223372036854775808≤x)(h2:x≤9223372036854775807):IntKind.i64.wrap x=x:=by
 simp[IntKind.wrap,IntKind.bits,IntKind.signed] at *
 omega
theorem uV{x:Int}(h1: -9223372036854775808≤x)(h2:x≤9223372036854775807):some (Value.int .i64 (IntKind.i64.wrap x))=some (.int .i64 x):=by rw[zc6 h1 h2]
theorem zrk{t:TypeId}{s:BA}{i:Int}(hu:env.und t=some .string)(h1:0≤i)(h2:i < s.data.toList.length):za8 env t (.string s) (.int .i64 i)=some (.int .u8 (bAt s i:Int)):=by
 unfold za8 bAt
 rw[hu]
 simp only[if_pos h1]
 have hlt:i.toNat < s.data.toList.length:=by omega
 have:(s.data.toList.drop i.toNat).head? =some (s.data.toList[i.toNat]):=by
  rw[List.head?_drop];exact List.getElem?_eq_getElem hlt
 rw[this]
 simp only[List.headD_eq_head?_getD,this,Option.getD_some]
theorem ye{v:Value}{g:Heap}(h1:h.nx≤g.wm)(h2:zM h.nx 5 v=true):zy h v g=(v,h):=by
 unfold zy
 have:Nat.ble h.nx g.wm=true:=Nat.ble_eq_true_of_le h1
 rw[this,h2];rfl
end
end Go.PanE
namespace Go.PanE
open Go.Proofs
def zau:Ext where
 run args h:=match args with
  |[.string s,.int .u8 c]=>some (.int .i64 (firstIdx s c.toNat.toUInt8),h)
  |_=>none
 keep args h v h' e:=by
  split at e
  ·simp only[sJ,pJ] at e
   rw[← e.2];exact Keep.refl _
  ·simp at e
def zoF(f:FuncId):Option Ext:=if f=98 then some zau else none
theorem zh.two{μ:Loc}{a b:Value}{l:Vs}(h:zh μ [a,b] l):∃ a' b',l=[a',b']∧VRel μ a a'∧VRel μ b b':=by
 obtain⟨h1,h2⟩:=h
 match l,h1 with
 |[x,y],_=>exact⟨x,y,rfl,h2 0 a x rfl rfl,h2 1 b y rfl rfl⟩
theorem zrC:zpZ Tryz.prog zoF:=by
 intro f e he args h v h' hr μ w args' R hl
 unfold zoF at he
 split at he
 ·rename_i hf
  subst hf
  simp only[sJ] at he;subst he
  simp only[zau] at hr
  split at hr
  ·rename_i s c
   simp only[sJ,pJ] at hr
   obtain⟨rfl,rfl⟩:=hr
   obtain⟨a',b',rfl,ra,rb⟩:=hl.two
   cases ra;cases rb
   refine⟨w,μ,_,?_,Go1.refl R,.int _ _⟩
   rw[@run_callFunc_extern Tryz.prog 98 _ Extern.BytealgIndexByte.indexByte Tryz.func98 (by kernel_rfl) (by kernel_rfl) (by kernel_rfl) (by kernel_rfl)]
   rw[show(⟨[Value.string s,Value.int .u8 c]⟩:Array Value)= #[.string s,.int .u8 c] from rfl,run_indexByte_string]
   rfl
  ·simp at hr
 ·simp at he
def keyT(t:TypeId)(v:Value):Bool:=Nat.beq t 29 && match v with
 | .agg ⟨[.int .i64 a,.int .i64 b]⟩=>(decide (a=1) && decide (b=1)) || (decide (a=2) && decide (b=2))
 |_=>false
theorem zrf:∀ t v,keyT t v=true→WideMaps.KeyLaw Tryz.prog t∧∃ l,keyOf Tryz.prog t v=some l:=by
 intro t v e
 unfold keyT at e
 rw[bA] at e
 have:=nB_ e.1
 subst this
 refine⟨deep_law_laid (by kernel_rfl) (m:=3) (by omega) (of_decide_eq_true (by kernel_rfl)) (by kernel_rfl) (by kernel_rfl),?_⟩
 have e2:=e.2
 split at e2
 ·rename_i a b
  simp only[Bool.or_eq_true,bA,decide_eq_true_eq] at e2
  rcases e2 with⟨rfl,rfl⟩|⟨rfl,rfl⟩
  ·exact⟨_,(show keyOf Tryz.prog 29 (.agg #[.int .i64 1,.int .i64 1])=some ((keyOf Tryz.prog 29 (.agg #[.int .i64 1,.int .i64 1])).getD (.bool false)) by kernel_rfl)⟩
  ·exact⟨_,(show keyOf Tryz.prog 29 (.agg #[.int .i64 2,.int .i64 2])=some ((keyOf Tryz.prog 29 (.agg #[.int .i64 2,.int .i64 2])).getD (.bool false)) by kernel_rfl)⟩
 ·simp at e2
noncomputable def En:Env:=zbE Tryz.prog zoF keyT
theorem zcQ:EnvOK Tryz.prog En:=zoH Tryz.prog zrC zrf
end Go.PanE
