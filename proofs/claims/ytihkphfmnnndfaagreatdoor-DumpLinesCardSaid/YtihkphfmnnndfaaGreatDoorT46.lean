/-
 Part 46 of the proof of Rows.DumpLinesCardSaid. No conditions.
-/
import Derived.Test.YtihkphfmnnndfaaGreatDoorT10
import Derived.Deep.DeepHandedRow
import Derived.LaidLaws
import Derived.Lib.LaidTab
import Derived.OpenShut
import Derived.ProofKit
import Derived.Test.YtihkphfmnnndfaaGreatDoorCards
import Derived.WalkKit
namespace Go.PanE
open Go.Proofs Go.Proofs.YtihkphfmnnndfaaGreatDoor
noncomputable def w00:World:=(begin Tryz.prog (fun _ _=>0) default).world
theorem zvn:(w00.heap[0]?).bind Obj.row? =some (#[.nilIface],129):=by kernel_rfl
theorem zvm:(w00.heap[1]?).bind Obj.row? =some (#[.nilIface],84):=by kernel_rfl
theorem zvl:(w00.heap[2]?).bind Obj.row? =some (#[.int .i64 0],3):=by kernel_rfl
theorem zvk:(w00.heap[3]?).bind Obj.row? =some ((List.replicate 20 (Value.int .u64 0)).toArray,268):=by kernel_rfl
theorem zvj:(w00.heap[4]?).bind Obj.row? =some (#[.nilIface],84):=by kernel_rfl
theorem zvi:(w00.heap[5]?).bind Obj.row? =some (#[.nilIface],84):=by kernel_rfl
theorem gsz:Tryz.prog.globals.size=10:=by kernel_rfl
theorem zvh:w00.heap.size=15:=by kernel_rfl
theorem tsz:Tryz.prog.types.size=362:=by kernel_rfl
theorem rnm:((List.range 362).all fun t=>!(Tryz.prog.rowNamed t [101,114,114,111,114]) || t==84)=true:=by kernel_rfl
theorem zsE: "*" ++ "errors.errorString" = "*errors.errorString" :=by decide
theorem zs8(u:TypeId)(h:Tryz.prog.typeName? 3 u=some "*errors.errorString"):u=309:=
 typeName_ptr_named (nm:= "errors.errorString") (by rw[zsE];kernel_rfl) (by kernel_rfl) (by decide) u (by rw[zsE];exact h)
theorem g0n:Tryz.prog.globalNamed "errors.errorType" =some 0:=by kernel_rfl
theorem g1n:Tryz.prog.globalNamed "pannier/source.errLong" =some 1:=by kernel_rfl
theorem g3n:Tryz.prog.globalNamed "internal/strconv.uint64pow10" =some 3:=by kernel_rfl
theorem g4n:Tryz.prog.globalNamed "strconv.ErrSyntax" =some 4:=by kernel_rfl
theorem g5n:Tryz.prog.globalNamed "strconv.ErrRange" =some 5:=by kernel_rfl
theorem g1t:(Tryz.prog.globals[1]?).map (·.type)=some 84:=by kernel_rfl
theorem g3t:(Tryz.prog.globals[3]?).map (·.type)=some 268:=by kernel_rfl
theorem g4t:(Tryz.prog.globals[4]?).map (·.type)=some 84:=by kernel_rfl
theorem g5t:(Tryz.prog.globals[5]?).map (·.type)=some 84:=by kernel_rfl
theorem zvt:Tryz.prog.underlying 309=some (.pointer 311):=by kernel_rfl
theorem un9:Tryz.prog.underlying 9=some .string:=by kernel_rfl
theorem un4:Tryz.prog.underlying 4=some .bool:=by kernel_rfl
theorem un3:Tryz.prog.underlying 3=some (.int .i64):=by kernel_rfl
theorem zxG:Tryz.prog.cellsOf 311=1:=by kernel_rfl
theorem ce9:Tryz.prog.cellsOf 9=1:=by kernel_rfl
theorem zxH:Tryz.prog.cellsOf 268=20:=by kernel_rfl
theorem thd:typeHandle Tryz.prog 84= .pointer (some ⟨10,84,none⟩):=by kernel_rfl
theorem zuB:(Tryz.prog.cutTypes.find? (·.1== "internal/reflectlite.rtype")).map (·.2)=some 168:=by kernel_rfl
theorem zBW:Tryz.prog.buildable 3=true:=by kernel_rfl
theorem zBO:Tryz.prog.cellTypes Tryz.prog.depth 3=some [3]:=by kernel_rfl
theorem zyo:∃ ms,Tryz.prog.underlying 84=some (.interface ms):=by
 have h:(match Tryz.prog.underlying 84 with|some (.interface _)=>true|_=>false)=true:=by kernel_rfl
 split at h
 next ms e=>exact⟨ms,e⟩
 next=>cases h
theorem zvs:∃ f:Field,Tryz.prog.underlying 311=some (.struct #[f])∧f.type=9∧f.offset=0:=by
 have h:(match Tryz.prog.underlying 311 with|some (.struct ⟨[f]⟩)=>f.type==9 && f.offset==0|_=>false)=true:=by kernel_rfl
 split at h
 next f e=>
  simp only[bA,beq_iff_eq] at h
  exact⟨f,e,h.1,h.2⟩
 next=>cases h
theorem zvu:Tryz.prog.underlying 268=some (.array 20 142):=by kernel_rfl
theorem zvv:Tryz.prog.underlying 142=some (.int .u64):=by kernel_rfl
theorem zxI:Tryz.prog.cellsOf 142=1:=by kernel_rfl
abbrev zgv:List (String×DataW Unit):=Rows.dumpLinesRow.laid
theorem zd1:zgv.filter (fun x=>x.2.handleName?.isNone)=[("math/bits.deBruijn32tab",Rows.laid_math_bits_deBruijn32tab),("math/bits.deBruijn64tab",Rows.laid_math_bits_deBruijn64tab),("internal/strconv.uint64pow10",Rows.laid_internal_strconv_uint64pow10),("unicode/utf8.acceptRanges",Rows.laid_unicode_utf8_acceptRanges),("strconv.ErrRange",Rows.laid_strconv_ErrRange),("strconv.ErrSyntax",Rows.laid_strconv_ErrSyntax),("pannier/source.errLong",Rows.laid_pannier_source_errLong),("unicode/utf8.first",Rows.laid_unicode_utf8_first)]:=by kernel_rfl
theorem zw1:zgv.filter (fun x=>x.2.handleName?.isSome)=[("errors.errorType",Rows.laid_errors_errorType)]:=by kernel_rfl
theorem zat{W:World}{n:String}{d:DataW Unit}:∀ {l:List (String×DataW Unit)} {ps:List MemPlace},DataW.LaidVars Tryz.prog W l ps→(n,d)∈l→
  ∃ g t cs fuel p,Tryz.prog.globalNamed n=some g∧(Tryz.prog.globals[g]?).map (·.type)=some t∧W.var? Tryz.prog n=some cs∧DataW.trod (fun _=>()) Tryz.prog W 0 (fun _=>true) false fuel t cs.toList=some (d,p)∧(∀ x∈MemPlace.row ⟨g,0,none⟩ cs.size,x∈ps)∧(∀ x∈p,x∈ps)
 |[],_,_,h=>by cases h
 |(n',d')::r,ps,h,hm=>by
  obtain⟨g,t,cs,fuel,p,q,h1,h2,h3,h4,h5,rfl⟩:=h
  rcases List.mem_cons.1 hm with e|hm
  ·cases e
   exact⟨g,t,cs,fuel,p,h1,h2,h3,h4,fun x hx=>List.mem_append_left _ (List.mem_append_left _ hx),fun x hx=>List.mem_append_left _ (List.mem_append_right _ hx)⟩
  ·obtain⟨g',t',cs',fuel',p',a1,a2,a3,a4,a5,a6⟩:=zat h5 hm
   exact⟨g',t',cs',fuel',p',a1,a2,a3,a4,fun x hx=>List.mem_append_right _ (a5 x hx),fun x hx=>List.mem_append_right _ (a6 x hx)⟩
set_option maxRecDepth 100000 in
theorem znc{W:World}(h:laidMet Tryz.prog (zgv.filter fun x=>x.2.handleName?.isNone) W){n:String}{text:Bsy}{g:Nat}(hm:(n,(DataW.iface "*errors.errorString" (.ptr (.agg [.lit (.string text)])):DataW Unit))∈zgv.filter fun x=>x.2.handleName?.isNone)
  (hg:Tryz.prog.globalNamed n=some g) (ht:(Tryz.prog.globals[g]?).map (·.type)=some 84):∃ b o,W.var? Tryz.prog n=some #[.iface 309 (.pointer (some ⟨b,o,none⟩))]∧b < W.heap.size:=by
 obtain⟨ps,hl,_,hrows⟩:=h
 obtain⟨g',t',cs,fuel,p,h1,h2,h3,h4,h5,_⟩:=zat hl hm
 obtain rfl:=Option.some.inj (hg.symm.trans h1)
 obtain rfl:=Option.some.inj (ht.symm.trans h2)
 obtain⟨ms,hms⟩:=zyo
 obtain⟨f,hf,hft,hfo⟩:=zvs
 obtain⟨l⟩:=cs
 have ok:∀ u v,l=[.iface u v]→Value.okWide Tryz.prog W .any 0 u v:=fun u v e=>by
  subst e
  exact(hrows g 0 (h5 _ (by simp[MemPlace.row]))).2 u v (by simpa using World.var?_cell hg h3 0)
 obtain⟨a,s,rfl,hc,_⟩:=errorString_of_trod hms zs8 zvt hf hft hfo un9 zxG ce9 h4 ok
 have hlt:a.block < W.heap.size:=by
  unfold World.cell? at hc
  split at hc
  next e=>exact(Array.getElem?_eq_some_iff.1 e).1
  next=>cases hc
 have hs:a.spot=none:=by
  unfold World.cell? at hc
  split at hc
  next e=>
   split at hc
   ·cases hc
   next h=>simpa using h
  next=>cases hc
 obtain⟨b,o,sp⟩:=a
 simp only at hs
 subst hs
 exact⟨b,o,h3,hlt⟩
structure Start(W:World)(m:Int)(b1 o1 b4 o4 b5 o5:Nat):Prop where
 v0:W.heap[0]? =some (.cells #[.iface 168 (.agg #[.pointer (some ⟨10,84,none⟩)])] 129 (0,0))
 v1:W.heap[1]? =some (.cells #[.iface 309 (.pointer (some ⟨b1,o1,none⟩))] 84 (0,0))
 v2:W.heap[2]? =some (.cells #[.int .i64 m] 3 (0,0))
 v3:W.heap[3]? =some (.cells ((List.range 20).map fun i=>Value.int .u64 ((10 ^ i:Nat):Int)).toArray 268 (0,0))
 v4:W.heap[4]? =some (.cells #[.iface 309 (.pointer (some ⟨b4,o4,none⟩))] 84 (0,0))
 v5:W.heap[5]? =some (.cells #[.iface 309 (.pointer (some ⟨b5,o5,none⟩))] 84 (0,0))
 sz:10 < W.heap.size
 l1:b1 < W.heap.size
 l4:b4 < W.heap.size
 l5:b5 < W.heap.size
theorem zbX{W:World}{n:String}{g:Nat}{cs cs':Array Value}{t:TypeId}{fr:Nat×Nat}(hg:Tryz.prog.globalNamed n=some g)(h:W.var? Tryz.prog n=some cs)(hw:W.heap[g]? =some (.cells cs' t fr)):cs'=cs:=by
 unfold World.var? at h
 rw[hg] at h
 simp only[Option.bind_some,hw,sJ] at h
 exact h
set_option maxRecDepth 100000 in
theorem zm3{W:World}(h:laidMetH Tryz.prog zgv W)(hs:W.ShapedOpen Tryz.prog):∃ m b1 o1 b4 o4 b5 o5,Start W m b1 o1 b4 o4 b5 o5:=by
 unfold laidMetH at h
 rw[zw1] at h
 obtain⟨hL,hH⟩:=h
 obtain⟨hv,hx⟩:=hs
 obtain⟨b1,o1,e1,l1⟩:=znc (n:= "pannier/source.errLong") hL (by rw[zd1];simp[Rows.laid_pannier_source_errLong];rfl) g1n g1t
 obtain⟨b4,o4,e4,l4⟩:=znc (n:= "strconv.ErrSyntax") hL (by rw[zd1];simp[Rows.laid_strconv_ErrSyntax];rfl) g4n g4t
 obtain⟨b5,o5,e5,l5⟩:=znc (n:= "strconv.ErrRange") hL (by rw[zd1];simp[Rows.laid_strconv_ErrRange];rfl) g5n g5t
 obtain⟨c0,h0,z0,_⟩:=hv 0 _ _ (by rw[gsz];decide) zvn
 obtain⟨c1,h1,z1,_⟩:=hv 1 _ _ (by rw[gsz];decide) zvm
 obtain⟨c2,h2,z2,k2⟩:=hv 2 _ _ (by rw[gsz];decide) zvl
 obtain⟨c3,h3,z3,_⟩:=hv 3 _ _ (by rw[gsz];decide) zvk
 obtain⟨c4,h4,z4,_⟩:=hv 4 _ _ (by rw[gsz];decide) zvj
 obtain⟨c5,h5,z5,_⟩:=hv 5 _ _ (by rw[gsz];decide) zvi
 obtain rfl:=zbX g1n e1 h1
 obtain rfl:=zbX g4n e4 h4
 obtain rfl:=zbX g5n e5 h5
 have h10:10 < W.heap.size:=by
  obtain⟨o,_,ho,_⟩:=hx 10 (by rw[gsz];decide) (by show 10 < w00.heap.size;rw[zvh];decide)
  exact(Array.getElem?_eq_some_iff.1 ho).1
 obtain⟨name,u,ty,hn,hu,hty,hr,hva⟩:∃ name u ty,(Rows.laid_errors_errorType:DataW Unit).handleName? =some name∧(Tryz.prog.cutTypes.find? (·.1== "internal/reflectlite.rtype")).map (·.2)=some u∧ty < Tryz.prog.types.size∧Tryz.prog.rowNamed ty name=true∧W.var? Tryz.prog "errors.errorType" =some #[.iface u (.agg #[typeHandle Tryz.prog ty])]:=hH ("errors.errorType",Rows.laid_errors_errorType) (List.mem_singleton.2 rfl)
 have hn':name=[101,114,114,111,114]:=Option.some.inj (hn.symm.trans (show(Rows.laid_errors_errorType:DataW Unit).handleName? =some [101,114,114,111,114] by kernel_rfl))
 subst hn'
 obtain rfl:=Option.some.inj (zuB.symm.trans hu)
 have hty84:ty=84:=by
  rw[tsz] at hty
  have:=List.all_eq_true.1 rnm ty (List.mem_range.2 hty)
  rw[hr] at this
  simpa using this
 subst hty84
 rw[thd] at hva
 obtain rfl:=zbX g0n hva h0
 obtain⟨ps,hl,_,_⟩:=hL
 obtain⟨g',t',cs,fuel,p,a1,a2,a3,a4,_,_⟩:=zat (n:= "internal/strconv.uint64pow10") (d:=Rows.laid_internal_strconv_uint64pow10) hl (by rw[zd1];simp)
 obtain rfl:=Option.some.inj (g3n.symm.trans a1)
 obtain rfl:=Option.some.inj (g3t.symm.trans a2)
 obtain rfl:=zbX g3n a3 h3
 have hpw:(Rows.laid_internal_strconv_uint64pow10:DataW Unit)=Lib.tabData .u64 ((List.range 20).map fun i=>((10 ^ i:Nat):Int)):=by kernel_rfl
 rw[hpw] at a4
 have hc3:=Lib.cells_of_tab zvu zvv zxI zxH a4
 have hc3':c3=((List.range 20).map fun i=>Value.int .u64 ((10 ^ i:Nat):Int)).toArray:=by
  apply Array.toList_inj.1
  rw[hc3,List.map_map]
  rfl
 subst hc3'
 have hm:∃ m,c2= #[.int .i64 m]:=by
  obtain⟨ts,ht,_,hk⟩:=k2 zBW
  obtain rfl:=Option.some.inj (zBO.symm.trans ht)
  obtain⟨l⟩:=c2
  match l,z2 with
  |[v],_=>
   obtain⟨u,hu,hc⟩:=hk 0 v rfl
   have hu':u=3:=by
    have:([3]:List TypeId)[0 % 1]? =some u:=hu
    simpa using this.symm
   subst hu'
   unfold Cell.ok at hc
   rw[un3] at hc
   cases v with
   |int k n=>
    have:k= .i64:=by
     simp at hc
     exact hc.1
    subst this
    exact⟨n,rfl⟩
   |_=>simp at hc
 obtain⟨m,rfl⟩:=hm
 exact⟨m,b1,o1,b4,o4,b5,o5,h0,h1,h2,h3,h4,h5,h10,l1,l4,l5⟩
end Go.PanE
