/-
 Part 35 of the proof of Rows.DumpLinesCardSaid. No conditions.
-/
import Derived.Test.YtihkphfmnnndfaaGreatDoorT34
namespace Go.PanE
open Go.Proofs
noncomputable section
abbrev vD(r c:Nat):Vs:=[iv (r:Int),iv (c:Int)]
abbrev zjm(s:BA)(h:Heap):List (Nat×Value):=[(0,.string s),(2,pv h.nx 0),(3,.bool false),(4,pv (h.nx+1) 0),(7,.string s),(8,iv s.data.toList.length),(9,.bool false),(11,.string s),(12,pv (h.nx+2) 0)]
abbrev zaV(s:BA)(B2 B4 BI:Nat):List (Nat×Value):=[(0,.string s),(2,pv B2 0),(4,pv B4 0),(12,pv BI 0)]
abbrev zao:AObj:=.row 29 [iv 0,iv 0] 0 false
abbrev znq(h:Heap)(s:BA):Heap:=(al (al h.fh 29 [iv 0,iv 0]) 29 [iv 0,iv 0]).alloc (.siter s 0)
abbrev znp:Value:=.tuple #[.agg #[iv 0,iv 0],.bool false]
abbrev zjl(B2:Nat):List (Nat×Value):=[(2,pv B2 0),(3,.bool false)]
abbrev zjk(s:BA)(h:Heap):List (Nat×Value):=[(0,.string s),(2,pv h.nx 0),(4,pv (h.nx+1) 0)]
abbrev ztd(r c:Nat):Vs:=[.agg #[iv (r:Int),iv (c:Int)]]
abbrev zpD(r c:Nat):AObj:=.row 29 (vD r c) 0 false
variable (h hL:Heap) (s d:BA) (pos u w r c B2 B4 BI n:Nat)
theorem zu4(u w r c B2 B4 BI n:Nat)(gi:h.get BI=some (.siter s pos))(hs:¬ pos < s.size):Bd n 69 [1,1,1,0,1,0,0] Tryz.f28 (zaV s B2 B4 BI) h (.exit 0) [(0,.string s),(2,pv B2 0),(4,pv B4 0)] h:=
 bdF (kZ h) [yP (znW gi hs),.z 0]
theorem zu6(g4:h.get B4=some (zpD r c))(gi:h.get BI=some (.siter s pos))(g2:h.get B2=some zao)(hs:pos < s.size)(hd:Utf8.decode s pos=(u,w))(_h4:B4 < h.nx)(_hi:BI < h.nx)(_h24:B2 < B4)(_h4i:B4 < BI)(_hr:r < 1000000)(_hc:c < 1000)(_hu:u < 2000000)(a0:decide ((u:Int)≥65)=true)(a1:decide ((u:Int)≤90)=true)(a2:((r:Int)==0)=true)(a3:decide ((c:Int)≤26)=true):Bd n 69 [1,1,1,0,1,0,0] Tryz.f28 (zaV s B2 B4 BI) h .normal (zaV s B2 B4 BI) (pt (h.put BI (.siter s (pos+w))) B4 29 [iv (r:Int),iv ((((c:Int) * 26)+((u:Int) - 65))+1)]):=
 bdF (kZ h) [yC (uM gi hs hd) (kI (ko (gX BI (.siter s (pos+w)) g4))),yT a0,yT a1,.l 0 3 0,yT a2,.l 0 3 1,yT a3,.l 0 3 1,yW ((c:Int) * 26),yJ ((u:Int) - 65),yW ((u:Int) - 65),yW (((c:Int) * 26)+((u:Int) - 65)),yW ((((c:Int) * 26)+((u:Int) - 65))+1),.w 0 3 1 (iv ((((c:Int) * 26)+((u:Int) - 65))+1)),.z 0]
theorem zu5(g4:h.get B4=some (zpD r c))(gi:h.get BI=some (.siter s pos))(g2:h.get B2=some zao)(hs:pos < s.size)(hd:Utf8.decode s pos=(u,w))(_h4:B4 < h.nx)(_hi:BI < h.nx)(_h24:B2 < B4)(_h4i:B4 < BI)(_hr:r < 1000000)(_hc:c < 1000)(_hu:u < 2000000)(a0:decide ((u:Int)≥65)=false)(a1:decide ((u:Int)≥48)=true)(a2:decide ((u:Int)≤57)=true):Bd n 69 [1,1,1,0,1,0,0] Tryz.f28 (zaV s B2 B4 BI) h .normal (zaV s B2 B4 BI) (pt (h.put BI (.siter s (pos+w))) B4 29 [iv (((r:Int) * 10)+((u:Int) - 48)),iv (c:Int)]):=
 bdF (kZ h) [yC (uM gi hs hd) (kI (ko (gX BI (.siter s (pos+w)) g4))),yF a0,yT a1,yT a2,.l 0 3 0,yW ((r:Int) * 10),yJ ((u:Int) - 48),yW ((u:Int) - 48),yW (((r:Int) * 10)+((u:Int) - 48)),.w 0 3 0 (iv (((r:Int) * 10)+((u:Int) - 48))),.z 0]
theorem zxX(g4:h.get B4=some (zpD r c))(gi:h.get BI=some (.siter s pos))(g2:h.get B2=some zao)(hs:pos < s.size)(hd:Utf8.decode s pos=(u,w))(_h4:B4 < h.nx)(_hi:BI < h.nx)(_h24:B2 < B4)(_h4i:B4 < BI)(a0:decide ((u:Int)≥65)=false)(a1:decide ((u:Int)≥48)=false):Bd n 69 [1,1,1,0,1,0,0] Tryz.f28 (zaV s B2 B4 BI) h .ret (zjl B2) (pt (h.put BI (.siter s (pos+w))) B2 29 [iv 0,iv 0]):=
 bdF (kZ h) [yC (uM gi hs hd) (kI (ko (gX BI (.siter s (pos+w)) g2))),yF a0,yF a1,.w 0 29 0 (.agg #[iv 0,iv 0]),.z 0]
theorem zxW(g4:h.get B4=some (zpD r c))(gi:h.get BI=some (.siter s pos))(g2:h.get B2=some zao)(hs:pos < s.size)(hd:Utf8.decode s pos=(u,w))(_h4:B4 < h.nx)(_hi:BI < h.nx)(_h24:B2 < B4)(_h4i:B4 < BI)(a0:decide ((u:Int)≥65)=false)(a1:decide ((u:Int)≥48)=true)(a2:decide ((u:Int)≤57)=false):Bd n 69 [1,1,1,0,1,0,0] Tryz.f28 (zaV s B2 B4 BI) h .ret (zjl B2) (pt (h.put BI (.siter s (pos+w))) B2 29 [iv 0,iv 0]):=
 bdF (kZ h) [yC (uM gi hs hd) (kI (ko (gX BI (.siter s (pos+w)) g2))),yF a0,yT a1,yF a2,.w 0 29 0 (.agg #[iv 0,iv 0]),.z 0]
theorem zpY(g4:h.get B4=some (zpD r c))(gi:h.get BI=some (.siter s pos))(g2:h.get B2=some zao)(hs:pos < s.size)(hd:Utf8.decode s pos=(u,w))(_h4:B4 < h.nx)(_hi:BI < h.nx)(_h24:B2 < B4)(_h4i:B4 < BI)(a0:decide ((u:Int)≥65)=true)(a1:decide ((u:Int)≤90)=false)(a2:decide ((u:Int)≥48)=true)(a3:decide ((u:Int)≤57)=false):Bd n 69 [1,1,1,0,1,0,0] Tryz.f28 (zaV s B2 B4 BI) h .ret (zjl B2) (pt (h.put BI (.siter s (pos+w))) B2 29 [iv 0,iv 0]):=
 bdF (kZ h) [yC (uM gi hs hd) (kI (ko (gX BI (.siter s (pos+w)) g2))),yT a0,yF a1,yT a2,yF a3,.w 0 29 0 (.agg #[iv 0,iv 0]),.z 0]
theorem zxV(g4:h.get B4=some (zpD r c))(gi:h.get BI=some (.siter s pos))(g2:h.get B2=some zao)(hs:pos < s.size)(hd:Utf8.decode s pos=(u,w))(_h4:B4 < h.nx)(_hi:BI < h.nx)(_h24:B2 < B4)(_h4i:B4 < BI)(a0:decide ((u:Int)≥65)=true)(a1:decide ((u:Int)≤90)=true)(a2:((r:Int)==0)=false)(a3:decide ((u:Int)≥48)=true)(a4:decide ((u:Int)≤57)=false):Bd n 69 [1,1,1,0,1,0,0] Tryz.f28 (zaV s B2 B4 BI) h .ret (zjl B2) (pt (h.put BI (.siter s (pos+w))) B2 29 [iv 0,iv 0]):=
 bdF (kZ h) [yC (uM gi hs hd) (kJ (ko (gX BI (.siter s (pos+w)) g4)) (ko (gX BI (.siter s (pos+w)) g2))),yT a0,yT a1,.l 0 3 0,yF a2,yT a3,yF a4,.w 1 29 0 (.agg #[iv 0,iv 0]),.z 0]
theorem zxU(g4:h.get B4=some (zpD r c))(gi:h.get BI=some (.siter s pos))(g2:h.get B2=some zao)(hs:pos < s.size)(hd:Utf8.decode s pos=(u,w))(_h4:B4 < h.nx)(_hi:BI < h.nx)(_h24:B2 < B4)(_h4i:B4 < BI)(a0:decide ((u:Int)≥65)=true)(a1:decide ((u:Int)≤90)=true)(a2:((r:Int)==0)=true)(a3:decide ((c:Int)≤26)=false)(a4:decide ((u:Int)≥48)=true)(a5:decide ((u:Int)≤57)=false):Bd n 69 [1,1,1,0,1,0,0] Tryz.f28 (zaV s B2 B4 BI) h .ret (zjl B2) (pt (h.put BI (.siter s (pos+w))) B2 29 [iv 0,iv 0]):=
 bdF (kZ h) [yC (uM gi hs hd) (kJ (ko (gX BI (.siter s (pos+w)) g4)) (ko (gX BI (.siter s (pos+w)) g2))),yT a0,yT a1,.l 0 3 0,yT a2,.l 0 3 1,yF a3,yT a4,yF a5,.w 1 29 0 (.agg #[iv 0,iv 0]),.z 0]
theorem zsa(a0:decide ((s.data.toList.length:Int)>6)=true):Fn n 28 [.string s] h znp (pt (al (al h.fh 29 [iv 0,iv 0]) 29 [iv 0,iv 0]) h.nx 29 [iv 0,iv 0]):=
 fnT (kZ h) [aS 29 [iv 0,iv 0],aS 29 [iv 0,iv 0],yT a0,.w 0 29 0 (.agg #[iv 0,iv 0]),.r 0 29 2,.z 1]
theorem zu1(gL:hL.get h.nx=some zao)(a0:decide ((s.data.toList.length:Int)>6)=false)(a1:Lf n 69 [1,1,1,0,1,0,0] Tryz.f28 (zjm s h) (znq h s) .ret [(2,pv h.nx 0),(3,.bool false)] hL):Fn n 28 [.string s] h znp hL:=
 fnT (kZ h) [aS 29 [iv 0,iv 0],aS 29 [iv 0,iv 0],yF a0,.o (.siter s 0),yS a1 (kI (ko gL)),.r 0 29 2,.z 1]
theorem zu3(gL:hL.get h.nx=some zao)(g4:hL.get (h.nx+1)=some (zpD r c))(_l:h.nx+1 < hL.nx)(a0:decide ((s.data.toList.length:Int)>6)=false)(a1:Lf n 69 [1,1,1,0,1,0,0] Tryz.f28 (zjm s h) (znq h s) (.exit 0) (zjk s h) hL)(a2:Pu n 37 (ztd r c) (.bool false) hL):Fn n 28 [.string s] h znp (pt hL h.nx 29 [iv 0,iv 0]):=
 fnT (kZ h) [aS 29 [iv 0,iv 0],aS 29 [iv 0,iv 0],yF a0,.o (.siter s 0),yS a1 (kJ (ko g4) (ko gL)),.g 0 29 0 2,yP a2,.w 1 29 0 (.agg #[iv 0,iv 0]),.r 1 29 2,.z 1]
theorem zu2(gL:hL.get h.nx=some zao)(g4:hL.get (h.nx+1)=some (zpD r c))(_l:h.nx+1 < hL.nx)(a0:decide ((s.data.toList.length:Int)>6)=false)(a1:Lf n 69 [1,1,1,0,1,0,0] Tryz.f28 (zjm s h) (znq h s) (.exit 0) (zjk s h) hL)(a2:Pu n 37 (ztd r c) (.bool true) hL)(a3:Pu n 24 (ztd r c) (.string d) hL)(a4:(!bqS d s)=true):Fn n 28 [.string s] h znp (pt hL h.nx 29 [iv 0,iv 0]):=
 fnT (kZ h) [aS 29 [iv 0,iv 0],aS 29 [iv 0,iv 0],yF a0,.o (.siter s 0),yS a1 (kJ (ko g4) (ko gL)),.g 0 29 0 2,yP a2,.g 0 29 0 2,yP a3,yT a4,.w 1 29 0 (.agg #[iv 0,iv 0]),.r 1 29 2,.z 1]
theorem zxT(gL:hL.get h.nx=some zao)(g4:hL.get (h.nx+1)=some (zpD r c))(_l:h.nx+1 < hL.nx)(a0:decide ((s.data.toList.length:Int)>6)=false)(a1:Lf n 69 [1,1,1,0,1,0,0] Tryz.f28 (zjm s h) (znq h s) (.exit 0) (zjk s h) hL)(a2:Pu n 37 (ztd r c) (.bool true) hL)(a3:Pu n 24 (ztd r c) (.string d) hL)(a4:(!bqS d s)=false):Fn n 28 [.string s] h (.tuple #[.agg #[iv (r:Int),iv (c:Int)],.bool true]) (pt hL h.nx 29 (vD r c)):=
 fnT (kZ h) [aS 29 [iv 0,iv 0],aS 29 [iv 0,iv 0],yF a0,.o (.siter s 0),yS a1 (kJ (ko g4) (ko gL)),.g 0 29 0 2,yP a2,.g 0 29 0 2,yP a3,yF a4,.g 0 29 0 2,.w 1 29 0 (.agg #[iv (r:Int),iv (c:Int)]),.r 1 29 2,.z 1]
theorem zAu(d:BA)(_hr:1≤r)(_hr2:r≤1000)(_hc:1≤c)(_hc2:c≤50)(_hd:d.size≤100)(a0:Pu n 37 (ztd r c) (.bool true) (al h.fh 29 (vD r c)))(a1:decide ((c:Int)>26)=false)(a2:Pu n 43 [iv (r:Int)] (.string d) (zd 1 (al h.fh 29 (vD r c)))):Fn n 24 (ztd r c) h (.string ((⟨#[]⟩++⟨⟨[UInt8.ofNat (65+(((c:Int) - 1) % 26)).toNat]⟩⟩)++d)) (pt (zd 1 (al h.fh 29 (vD r c))) (h.nx+1) 5 [.int .u8 (65+(((c:Int) - 1) % 26))]):=
 fnV (kZ h) [aS 29 (vD r c),.g 0 29 0 2,yP a0,.l 0 3 1,yF a1,.v 1,.l 0 3 1,yW ((c:Int) - 1),yM ((c:Int) - 1) 26,yW (65+(((c:Int) - 1) % 26)),yU (65+(((c:Int) - 1) % 26)),bS 0 5 [.int .u8 (65+(((c:Int) - 1) % 26))],.x [.v (.string ⟨⟨[UInt8.ofNat (65+(((c:Int) - 1) % 26)).toNat]⟩⟩)] fun _=>[⟨conv En (pt (zd 1 (al h.fh 29 (vD r c))) (h.nx+1) 5 [.int .u8 (65+(((c:Int) - 1) % 26))]) 108 9 (sv (h.nx+1) 0 1 1)=some (.string ⟨⟨[UInt8.ofNat (65+(((c:Int) - 1) % 26)).toNat]⟩⟩),qD (gP (show h.nx+1 < h.nx+2 by omega)) (by kernel_rfl) rfl rfl⟩],.x [.v (.string (⟨#[]⟩++⟨⟨[UInt8.ofNat (65+(((c:Int) - 1) % 26)).toNat]⟩⟩))] fun _=>[⟨jn .add ⟨#[]⟩ ⟨⟨[UInt8.ofNat (65+(((c:Int) - 1) % 26)).toNat]⟩⟩=some (.string (⟨#[]⟩++⟨⟨[UInt8.ofNat (65+(((c:Int) - 1) % 26)).toNat]⟩⟩)),jV (by first|(show 0+1≤9223372036854775807;omega)|(show 1+1≤9223372036854775807;omega)|(rw[ByteArray.size_append];first|(show 0+1+d.size≤9223372036854775807;omega)|(show 1+1+d.size≤9223372036854775807;omega)))⟩],.j 1,.l 0 3 0,yP a2,.j 2,.x [.v (.string ((⟨#[]⟩++⟨⟨[UInt8.ofNat (65+(((c:Int) - 1) % 26)).toNat]⟩⟩)++d))] fun _=>[⟨jn .add (⟨#[]⟩++⟨⟨[UInt8.ofNat (65+(((c:Int) - 1) % 26)).toNat]⟩⟩) d=some (.string ((⟨#[]⟩++⟨⟨[UInt8.ofNat (65+(((c:Int) - 1) % 26)).toNat]⟩⟩)++d)),jV (by first|(show 0+1≤9223372036854775807;omega)|(show 1+1≤9223372036854775807;omega)|(rw[ByteArray.size_append];first|(show 0+1+d.size≤9223372036854775807;omega)|(show 1+1+d.size≤9223372036854775807;omega)))⟩],yN (h.nx+2),.j 1,.q (.l 0 3 1),.q (.l 0 3 1),.q (yU (65+(((c:Int) - 1) % 26))),.q (yU (65+(((c:Int) - 1) % 26))),.j 2,.q (.x [.v (.string ⟨⟨[UInt8.ofNat (65+(((c:Int) - 1) % 26)).toNat]⟩⟩)] fun _=>[⟨conv En (pt (zd 1 (al h.fh 29 (vD r c))) (h.nx+1) 5 [.int .u8 (65+(((c:Int) - 1) % 26))]) 108 9 (sv (h.nx+1) 0 1 1)=some (.string ⟨⟨[UInt8.ofNat (65+(((c:Int) - 1) % 26)).toNat]⟩⟩),qD (gP (show h.nx+1 < h.nx+2 by omega)) (by kernel_rfl) rfl rfl⟩]),.q (.x [.v (.string ⟨⟨[UInt8.ofNat (65+(((c:Int) - 1) % 26)).toNat]⟩⟩)] fun _=>[⟨conv En (pt (zd 1 (al h.fh 29 (vD r c))) (h.nx+1) 5 [.int .u8 (65+(((c:Int) - 1) % 26))]) 108 9 (sv (h.nx+1) 0 1 1)=some (.string ⟨⟨[UInt8.ofNat (65+(((c:Int) - 1) % 26)).toNat]⟩⟩),qD (gP (show h.nx+1 < h.nx+2 by omega)) (by kernel_rfl) rfl rfl⟩]),.j 1,.q (.l 0 3 0),.j 2,.z 0]
theorem zAt(d:BA)(_hr:1≤r)(_hr2:r≤1000)(_hc:1≤c)(_hc2:c≤50)(_hd:d.size≤100)(a0:Pu n 37 (ztd r c) (.bool true) (al h.fh 29 (vD r c)))(a1:decide ((c:Int)>26)=true)(a2:Pu n 43 [iv (r:Int)] (.string d) (zd 1 (al h.fh 29 (vD r c)))):Fn n 24 (ztd r c) h (.string ((⟨#[65]⟩++⟨⟨[UInt8.ofNat (65+(((c:Int) - 1) % 26)).toNat]⟩⟩)++d)) (pt (zd 1 (al h.fh 29 (vD r c))) (h.nx+1) 5 [.int .u8 (65+(((c:Int) - 1) % 26))]):=
 fnV (kZ h) [aS 29 (vD r c),.g 0 29 0 2,yP a0,.l 0 3 1,yT a1,.v 1,.l 0 3 1,yW ((c:Int) - 1),yM ((c:Int) - 1) 26,yW (65+(((c:Int) - 1) % 26)),yU (65+(((c:Int) - 1) % 26)),bS 0 5 [.int .u8 (65+(((c:Int) - 1) % 26))],.x [.v (.string ⟨⟨[UInt8.ofNat (65+(((c:Int) - 1) % 26)).toNat]⟩⟩)] fun _=>[⟨conv En (pt (zd 1 (al h.fh 29 (vD r c))) (h.nx+1) 5 [.int .u8 (65+(((c:Int) - 1) % 26))]) 108 9 (sv (h.nx+1) 0 1 1)=some (.string ⟨⟨[UInt8.ofNat (65+(((c:Int) - 1) % 26)).toNat]⟩⟩),qD (gP (show h.nx+1 < h.nx+2 by omega)) (by kernel_rfl) rfl rfl⟩],.x [.v (.string (⟨#[65]⟩++⟨⟨[UInt8.ofNat (65+(((c:Int) - 1) % 26)).toNat]⟩⟩))] fun _=>[⟨jn .add ⟨#[65]⟩ ⟨⟨[UInt8.ofNat (65+(((c:Int) - 1) % 26)).toNat]⟩⟩=some (.string (⟨#[65]⟩++⟨⟨[UInt8.ofNat (65+(((c:Int) - 1) % 26)).toNat]⟩⟩)),jV (by first|(show 0+1≤9223372036854775807;omega)|(show 1+1≤9223372036854775807;omega)|(rw[ByteArray.size_append];first|(show 0+1+d.size≤9223372036854775807;omega)|(show 1+1+d.size≤9223372036854775807;omega)))⟩],.j 1,.l 0 3 0,yP a2,.j 2,.x [.v (.string ((⟨#[65]⟩++⟨⟨[UInt8.ofNat (65+(((c:Int) - 1) % 26)).toNat]⟩⟩)++d))] fun _=>[⟨jn .add (⟨#[65]⟩++⟨⟨[UInt8.ofNat (65+(((c:Int) - 1) % 26)).toNat]⟩⟩) d=some (.string ((⟨#[65]⟩++⟨⟨[UInt8.ofNat (65+(((c:Int) - 1) % 26)).toNat]⟩⟩)++d)),jV (by first|(show 0+1≤9223372036854775807;omega)|(show 1+1≤9223372036854775807;omega)|(rw[ByteArray.size_append];first|(show 0+1+d.size≤9223372036854775807;omega)|(show 1+1+d.size≤9223372036854775807;omega)))⟩],yN (h.nx+2),.j 1,.q (.l 0 3 1),.q (.l 0 3 1),.q (yU (65+(((c:Int) - 1) % 26))),.q (yU (65+(((c:Int) - 1) % 26))),.j 2,.q (.x [.v (.string ⟨⟨[UInt8.ofNat (65+(((c:Int) - 1) % 26)).toNat]⟩⟩)] fun _=>[⟨conv En (pt (zd 1 (al h.fh 29 (vD r c))) (h.nx+1) 5 [.int .u8 (65+(((c:Int) - 1) % 26))]) 108 9 (sv (h.nx+1) 0 1 1)=some (.string ⟨⟨[UInt8.ofNat (65+(((c:Int) - 1) % 26)).toNat]⟩⟩),qD (gP (show h.nx+1 < h.nx+2 by omega)) (by kernel_rfl) rfl rfl⟩]),.q (.x [.v (.string ⟨⟨[UInt8.ofNat (65+(((c:Int) - 1) % 26)).toNat]⟩⟩)] fun _=>[⟨conv En (pt (zd 1 (al h.fh 29 (vD r c))) (h.nx+1) 5 [.int .u8 (65+(((c:Int) - 1) % 26))]) 108 9 (sv (h.nx+1) 0 1 1)=some (.string ⟨⟨[UInt8.ofNat (65+(((c:Int) - 1) % 26)).toNat]⟩⟩),qD (gP (show h.nx+1 < h.nx+2 by omega)) (by kernel_rfl) rfl rfl⟩]),.j 1,.q (.l 0 3 0),.j 2,.z 0]
end
theorem zqL:orcD 43=some zdW:=by kernel_rfl
theorem zqK:orcD 70=some zdV:=by kernel_rfl
theorem zio{m:Int}{h:Heap}(G:Gl m h){n:Int}(h1: -9223372036854775808≤n)(h2:n≤9223372036854775807):zcO h n=some (.string ⟨(Lib.itoa n).toArray⟩,h):=by
 have g3:=(G.get 3 (by omega)).trans (vJ m 3)
 rw[if_pos (by omega)] at g3
 have hb:((List.range 20).all (fun i=>match(zdY m 3)[i]? with|some (.int .u64 z)=>z==((10 ^ i:Nat):Int)|_=>false) && Nat.beq (zdY m 3).length 20 && decide (-9223372036854775808≤n) && decide (n≤9223372036854775807))=true:=by
  rw[dT h1,dT h2,Bool.and_true,Bool.and_true]
  kernel_rfl
 unfold zcO
 simp only[g3]
 exact(congrArg (fun b=>bif b then some (Value.string ⟨(Lib.itoa n).toArray⟩,h) else none) hb)
theorem zoi{m:Int}{h:Heap}(G:Gl m h)(r:Nat)(hr:r≤1000)(n:Nat)(hn:1≤n):RD n 43 [iv (r:Int)] h=some (.string ⟨⟨Lib.decDigits r⟩⟩,h):=by
 obtain⟨n,rfl⟩:=zs_ n
 show zB En orcD (drawn En) 18446744073709551616 (n+1) 43 _ h=_
 have:=zio G (n:=(r:Int)) (by omega) (by omega)
 rw[zbu] at this
 simp only[zB,zqL,zdW]
 exact this
theorem zb8{m:Int}{h:Heap}(G:Gl m h){r c:Nat}(g:inG r c)(n:Nat)(hn:2≤n):RD n 24 [.agg #[iv (r:Int),iv (c:Int)]] h=some (.string ⟨⟨nmB r c⟩⟩,h):=by
 obtain⟨n,rfl⟩:=zs_ n
 obtain⟨g1,g2,g3,g4⟩:=g
 have hl:(⟨⟨Lib.decDigits r⟩⟩:BA).size≤100:=by
  have:=qC 3 r (by omega)
  rw[wx];omega
 have e37:=uQ ⟨g1,g2,g3,g4⟩ (al h.fh 29 [iv (r:Int),iv (c:Int)]) n (by omega)
 have e43:=zoi ((G.fh.alloc (.row 29 [iv (r:Int),iv (c:Int)] 0 false)).reserve 1) r g2 n (by omega)
 have fl:h.nx≤(pt (zd 1 (al h.fh 29 [iv (r:Int),iv (c:Int)])) (h.nx+1) 5 [.int .u8 (65+(((c:Int) - 1) % 26))]).wm:=by
  rw[ze,zJ]
  have:(al h.fh 29 [iv (r:Int),iv (c:Int)]).wm=h.nx:=rfl
  omega
 by_cases hc:c≤26
 ·refine(zAu h r c n _ g1 g2 g3 g4 hl e37 (zR (a:=c) (b:=26) (by omega)) e43).trans ?_
  rw[zk fl rfl]
  have e:(65+(((c:Int) - 1) % 26)).toNat=64+c:=by omega
  rw[e]
  unfold nmB we
  rw[if_pos hc]
  congr 1
 ·refine(zAt h r c n _ g1 g2 g3 g4 hl e37 (wj (a:=c) (b:=26) (by omega)) e43).trans ?_
  rw[zk fl rfl]
  have e:(65+(((c:Int) - 1) % 26)).toNat=64+(c - 26):=by omega
  rw[e]
  unfold nmB we
  rw[if_neg hc]
  congr 1
abbrev AL(n:Nat):=Loops En (RD n) 69 18446744073709551616 (sub [1,1,1,0,1,0,0] (zp Tryz.f28))
theorem zux{l:Bsy}{pos:Nat}{b:UInt8}{r:Bsy}(h:l.drop pos=b::r):pos < (⟨⟨l⟩⟩:BA).size∧(if b.toNat < 128 then Utf8.decode ⟨⟨l⟩⟩ pos=(b.toNat,1) else 128≤(Utf8.decode ⟨⟨l⟩⟩ pos).1):=by
 have hlt:pos < l.length:=by
  rcases Nat.lt_or_ge pos l.length with h1|h1
  ·exact h1
  ·rw[List.drop_eq_nil_of_le h1] at h;cases h
 have hp:pos < (⟨⟨l⟩⟩:BA).size:=by rw[wx];exact hlt
 have hb:(⟨⟨l⟩⟩:BA)[pos]'hp=b:=by
  have:l[pos]'hlt=b:=by
   have:=congrArg List.head? h
   rw[List.head?_drop,List.getElem?_eq_getElem hlt] at this
   simpa using this
  exact this
 refine⟨hp,?_⟩
 split
 next h1=>rw[decode_ascii _ _ hp (by rw[hb];exact h1),hb]
 next h1=>exact(decode_high _ _ hp (by rw[hb];omega)).1
theorem zm2{a:Nat×Nat}{b:UInt8}(h:¬ b.toNat < 128):wO a b=none:=by
 unfold wO
 rw[if_neg (by omega),if_neg (by omega)]
theorem zr9(l:Bsy)(hl:l.length≤6)(n lo B2 B4 BI:Nat)(h0:lo≤B2)(h24:B2 < B4)(h4i:B4 < BI):∀ (rest:Bsy) (pos r c:Nat) (h:Heap),l.drop pos=rest→r < 10 ^ pos→c≤702→pos≤6→
  h.get B4=some (.row 29 [iv (r:Int),iv (c:Int)] 0 false)→h.get BI=some (.siter ⟨⟨l⟩⟩ pos)→h.get B2=some (.row 29 [iv 0,iv 0] 0 false)→lo≤h.wm→
  ∃ hL R,R≤rest.length+1∧h.nx≤hL.nx∧lo≤hL.wm∧(∀ x,x < lo→hL.get x=h.get x)∧hL.get B2=some (.row 29 [iv 0,iv 0] 0 false)∧
   match wP rest (r,c) with
   |some (r',c')=>AL n [(0,.string ⟨⟨l⟩⟩),(2,pv B2 0),(4,pv B4 0),(12,pv BI 0)] h (.exit 0) [(0,.string ⟨⟨l⟩⟩),(2,pv B2 0),(4,pv B4 0)] hL R∧hL.get B4=some (.row 29 [iv ((r':Nat):Int),iv ((c':Nat):Int)] 0 false)
   |none=>AL n [(0,.string ⟨⟨l⟩⟩),(2,pv B2 0),(4,pv B4 0),(12,pv BI 0)] h .ret [(2,pv B2 0),(3,.bool false)] hL R:=by
 intro rest
 induction rest with
 |nil=>
  intro pos r c h hr hrr hc hp g4 gi g2 hw
  have:l.length≤pos:=List.drop_eq_nil_iff.1 hr
  exact⟨h,1,by simp,nL_ _,hw,fun _ _=>rfl,g2,.out (zu4 h ⟨⟨l⟩⟩ pos 0 0 r c B2 B4 BI n gi (by rw[wx];omega)),g4⟩
 |cons b rest ih=>
  intro pos r c h hr hrr hc hp g4 gi g2 hw
  have h4:=za g4
  have hi:=za gi
  obtain⟨hs,hd⟩:=zux hr
  have hpl:pos < 6:=by rw[wx] at hs;omega
  have hr6:r < 1000000:=nU hrr (by
   have:10 ^ pos≤10 ^ 6:=Nat.pow_le_pow_right (by decide) hp
   exact this)
  have hdr:l.drop (pos+1)=rest:=by rw[← List.drop_drop,hr];rfl
  have bad:∀ {w:Nat},wC En (RD n) 69 18446744073709551616 (sub [1,1,1,0,1,0,0] (zp Tryz.f28)) [(0,.string ⟨⟨l⟩⟩),(2,pv B2 0),(4,pv B4 0),(12,pv BI 0)] h .ret [(2,pv B2 0),(3,.bool false)] (pt (h.put BI (.siter ⟨⟨l⟩⟩ (pos+w))) B2 29 [iv 0,iv 0])→wO (r,c) b=none→
    ∃ hL R,R≤(b::rest).length+1∧h.nx≤hL.nx∧lo≤hL.wm∧(∀ x,x < lo→hL.get x=h.get x)∧hL.get B2=some (.row 29 [iv 0,iv 0] 0 false)∧
     match wP (b::rest) (r,c) with
     |some (r',c')=>AL n [(0,.string ⟨⟨l⟩⟩),(2,pv B2 0),(4,pv B4 0),(12,pv BI 0)] h (.exit 0) [(0,.string ⟨⟨l⟩⟩),(2,pv B2 0),(4,pv B4 0)] hL R∧hL.get B4=some (.row 29 [iv ((r':Nat):Int),iv ((c':Nat):Int)] 0 false)
     |none=>AL n [(0,.string ⟨⟨l⟩⟩),(2,pv B2 0),(4,pv B4 0),(12,pv BI 0)] h .ret [(2,pv B2 0),(3,.bool false)] hL R:=by
   intro w hb hn
   have e:wP (b::rest) (r,c)=none:=by
    show(match wO (r,c) b with|some a'=>wP rest a'|none=>none)=none
    rw[hn]
   rw[e]
   refine⟨pt (h.put BI (.siter ⟨⟨l⟩⟩ (pos+w))) B2 29 [iv 0,iv 0],1,by simp,nL_ _,?_,fun x hx=>(zf _ B2 x _ (by show B2 < h.nx;omega) (by omega)).trans (zf _ BI x _ hi (by omega)),gP (by show B2 < h.nx;omega),.ret hb⟩
   rw[ze,ze];omega
  by_cases h128:b.toNat < 128
  ·rw[if_pos h128] at hd
   have on:∀ {r' c':Nat} {x y:Int},wC En (RD n) 69 18446744073709551616 (sub [1,1,1,0,1,0,0] (zp Tryz.f28)) [(0,.string ⟨⟨l⟩⟩),(2,pv B2 0),(4,pv B4 0),(12,pv BI 0)] h .normal [(0,.string ⟨⟨l⟩⟩),(2,pv B2 0),(4,pv B4 0),(12,pv BI 0)] (pt (h.put BI (.siter ⟨⟨l⟩⟩ (pos+1))) B4 29 [iv x,iv y])→x=((r':Nat):Int)→y=((c':Nat):Int)→wO (r,c) b=some (r',c')→r' < 10 ^ (pos+1)→c'≤702→
     ∃ hL R,R≤(b::rest).length+1∧h.nx≤hL.nx∧lo≤hL.wm∧(∀ x,x < lo→hL.get x=h.get x)∧hL.get B2=some (.row 29 [iv 0,iv 0] 0 false)∧
      match wP (b::rest) (r,c) with
      |some (r',c')=>AL n [(0,.string ⟨⟨l⟩⟩),(2,pv B2 0),(4,pv B4 0),(12,pv BI 0)] h (.exit 0) [(0,.string ⟨⟨l⟩⟩),(2,pv B2 0),(4,pv B4 0)] hL R∧hL.get B4=some (.row 29 [iv ((r':Nat):Int),iv ((c':Nat):Int)] 0 false)
      |none=>AL n [(0,.string ⟨⟨l⟩⟩),(2,pv B2 0),(4,pv B4 0),(12,pv BI 0)] h .ret [(2,pv B2 0),(3,.bool false)] hL R:=by
    intro r' c' x y hb hx hy hn hr' hc'
    subst hx hy
    have e:wP (b::rest) (r,c)=wP rest (r',c'):=by
     show(match wO (r,c) b with|some a'=>wP rest a'|none=>none)=_
     rw[hn]
    rw[e]
    have o:∀ x,x < h.nx→x≠B4→x≠BI→(pt (h.put BI (.siter ⟨⟨l⟩⟩ (pos+1))) B4 29 [iv ((r':Nat):Int),iv ((c':Nat):Int)]).get x=h.get x:=fun x hx h1 h2=>(zf _ B4 x _ (by exact h4) h1).trans (zf _ BI x _ hi h2)
    obtain⟨hL,R,hR,nL,wL,gL,g2L,M⟩:=ih (pos+1) r' c' (pt (h.put BI (.siter ⟨⟨l⟩⟩ (pos+1))) B4 29 [iv ((r':Nat):Int),iv ((c':Nat):Int)]) hdr hr' hc' hpl (gP (by exact h4)) ((zf _ B4 BI _ (by exact h4) (by omega)).trans (zi _ _ _ hi)) ((o B2 (by omega) (by omega) (by omega)).trans g2) (by rw[ze,ze];omega)
    refine⟨hL,R+1,by rw[lC];omega,nL,wL,fun x hx=>(gL x hx).trans (o x (by omega) (by omega) (by omega)),g2L,?_⟩
    split at M
    next=>exact⟨.on hb M.1,M.2⟩
    next=>exact .on hb M
   by_cases A:65≤b.toNat∧b.toNat≤90∧r=0∧c≤26
   ·obtain⟨a1,a2,a3,a4⟩:=A
    refine on (r':=r) (c':=c * 26+(b.toNat - 65)+1) (zu6 h ⟨⟨l⟩⟩ pos b.toNat 1 r c B2 B4 BI n g4 gi g2 hs hd h4 hi h24 h4i hr6 (by omega) (by omega) (dT (by omega)) (dT (by omega)) (eqK (k:=0) a3) (dT (by omega))) rfl (by omega) ?_ ?_ (by omega)
    ·unfold wO;rw[if_pos ⟨a1,a2,a3,a4⟩]
    ·rw[a3];exact Nat.pow_pos (by decide)
   ·by_cases D:48≤b.toNat∧b.toNat≤57
    ·have h10:10 ^ (pos+1)=10 ^ pos * 10:=Nat.pow_succ ..
     refine on (r':=r * 10+(b.toNat - 48)) (c':=c) (zu5 h ⟨⟨l⟩⟩ pos b.toNat 1 r c B2 B4 BI n g4 gi g2 hs hd h4 hi h24 h4i hr6 (by omega) (by omega) (dF (by omega)) (dT (by omega)) (dT (by omega))) (by omega) rfl ?_ (by omega) hc
     unfold wO;rw[if_neg A,if_pos D]
    ·have hn:wO (r,c) b=none:=by unfold wO;rw[if_neg A,if_neg D]
     by_cases h65:b.toNat < 65
     ·by_cases h48:b.toNat < 48
      ·exact bad (zxX h ⟨⟨l⟩⟩ pos b.toNat 1 r c B2 B4 BI n g4 gi g2 hs hd h4 hi h24 h4i (dF (by omega)) (dF (by omega))) hn
      ·exact bad (zxW h ⟨⟨l⟩⟩ pos b.toNat 1 r c B2 B4 BI n g4 gi g2 hs hd h4 hi h24 h4i (dF (by omega)) (dT (by omega)) (dF (by omega))) hn
     ·by_cases h90:90 < b.toNat
      ·exact bad (zpY h ⟨⟨l⟩⟩ pos b.toNat 1 r c B2 B4 BI n g4 gi g2 hs hd h4 hi h24 h4i (dT (by omega)) (dF (by omega)) (dT (by omega)) (dF (by omega))) hn
      ·by_cases hr0:r=0
       ·exact bad (zxU h ⟨⟨l⟩⟩ pos b.toNat 1 r c B2 B4 BI n g4 gi g2 hs hd h4 hi h24 h4i (dT (by omega)) (dT (by omega)) (eqK (k:=0) hr0) (dF (by omega)) (dT (by omega)) (dF (by omega))) hn
       ·exact bad (zxV h ⟨⟨l⟩⟩ pos b.toNat 1 r c B2 B4 BI n g4 gi g2 hs hd h4 hi h24 h4i (dT (by omega)) (dT (by omega)) (neK (k:=0) hr0) (dT (by omega)) (dF (by omega))) hn
  ·rw[if_neg h128] at hd
   exact bad (w:=(Utf8.decode ⟨⟨l⟩⟩ pos).2) (zpY h ⟨⟨l⟩⟩ pos (Utf8.decode ⟨⟨l⟩⟩ pos).1 (Utf8.decode ⟨⟨l⟩⟩ pos).2 r c B2 B4 BI n g4 gi g2 hs rfl h4 hi h24 h4i (dT (by omega)) (dF (by omega)) (dT (by omega)) (dF (by omega))) (zm2 h128)
theorem zB1(m:Int):zdv m adr 3:=by
 refine⟨fun l a c e=>(uU.1 e).1,fun l h n hn G hl=>?_⟩
 obtain⟨n,rfl⟩:=zs_ n
 by_cases h6:6 < l.length
 ·have e:adr l=none:=by
   cases e:adr l with
   |none=>rfl
   |some v=>
    obtain⟨r,c⟩:=v
    obtain⟨g,rfl⟩:=uU.1 e
    have:=yw g
    omega
  rw[e]
  refine⟨0,0,(zsa h ⟨⟨l⟩⟩ n (wj (a:=l.length) (b:=6) h6)).trans ?_⟩
  rw[zk (by simp only[al,pt,zl,ze,zX];omega) rfl]
 ·have K:∀ c,c < h.nx→((al (al h.fh 29 [iv 0,iv 0]) 29 [iv 0,iv 0]).alloc (.siter ⟨⟨l⟩⟩ 0)).get c=h.get c:=fun c hc=>(zm _ _ (by show c < h.nx+1+1;omega)).trans ((zm _ _ (by show c < h.nx+1;omega)).trans (zm _ _ (by show c < h.nx;omega)))
  have nK:((al (al h.fh 29 [iv 0,iv 0]) 29 [iv 0,iv 0]).alloc (.siter ⟨⟨l⟩⟩ 0)).nx=h.nx+3:=rfl
  have g0:((al (al h.fh 29 [iv 0,iv 0]) 29 [iv 0,iv 0]).alloc (.siter ⟨⟨l⟩⟩ 0)).get h.nx=some (.row 29 [iv 0,iv 0] 0 false):=(zm _ _ (by show h.nx < h.nx+1+1;omega)).trans (gA (gN (h:=h.fh)))
  have g1:((al (al h.fh 29 [iv 0,iv 0]) 29 [iv 0,iv 0]).alloc (.siter ⟨⟨l⟩⟩ 0)).get (h.nx+1)=some (.row 29 [iv ((0:Nat):Int),iv ((0:Nat):Int)] 0 false):=(zm _ _ (by show h.nx+1 < h.nx+1+1;omega)).trans (gN (h:=al h.fh 29 [iv 0,iv 0]))
  obtain⟨hL,R,hR,nL,wL,gL,g2L,M⟩:=zr9 l (by omega) n h.nx h.nx (h.nx+1) (h.nx+2) (nL_ _) (by omega) (by omega) l 0 0 0 _ List.drop_zero (by decide) (by omega) (by omega) g1 (zb _ _) g0 (by show h.nx≤h.nx;omega)
  have h6':=zR (a:=l.length) (b:=6) h6
  have GL:Gl m hL:=⟨by have:=G.nx;omega,fun c hc=>(gL c (by have:=G.nx;omega)).trans ((K c (by have:=G.nx;omega)).trans (G.get c hc))⟩
  cases hlo:wP l (0,0) with
  |none=>
   rw[hlo] at M
   have e:adr l=none:=by unfold adr;rw[hlo]
   rw[e]
   refine⟨0,0,(zu1 h hL ⟨⟨l⟩⟩ n g2L h6' (Loops.fact' M (by omega) ⟨by kernel_rfl,by kernel_rfl,by kernel_rfl,by kernel_rfl,trivial⟩)).trans ?_⟩
   rw[zk wL rfl]
  |some v=>
   obtain⟨r,c⟩:=v
   rw[hlo] at M
   obtain⟨LL,g4⟩:=M
   have LF:=Loops.fact' (ov:=zbt [(0,.string ⟨⟨l⟩⟩),(2,pv h.nx 0),(3,.bool false),(4,pv (h.nx+1) 0),(7,.string ⟨⟨l⟩⟩),(8,iv (⟨⟨l⟩⟩:BA).data.toList.length),(9,.bool false),(11,.string ⟨⟨l⟩⟩),(12,pv (h.nx+2) 0)]) LL (by omega) ⟨by kernel_rfl,by kernel_rfl,by kernel_rfl,by kernel_rfl,trivial⟩
   by_cases hg:inG r c
   ·have e37:=uQ hg hL n (by omega)
    have e24:=zb8 GL hg n (by omega)
    by_cases he:nmB r c=l
    ·have e:adr l=some (r,c):=uU.2 ⟨hg,he⟩
     rw[e]
     refine(zxT h hL ⟨⟨l⟩⟩ ⟨⟨nmB r c⟩⟩ r c n g2L g4 (by omega) h6' LF e37 e24 (by rw[he];simp)).trans ?_
     rw[zk (by rw[ze];omega) rfl]
    ·have e:adr l=none:=by unfold adr;rw[hlo];simp only;rw[if_neg (fun hh=>he hh.2)]
     rw[e]
     refine⟨0,0,(zu2 h hL ⟨⟨l⟩⟩ ⟨⟨nmB r c⟩⟩ r c n g2L g4 (by omega) h6' LF e37 e24 (congrArg (! ·) ((zZ (nmB r c) l).trans (dF he)))).trans ?_⟩
     rw[zk (by rw[ze];omega) rfl]
   ·have e:adr l=none:=by unfold adr;rw[hlo];simp only;rw[if_neg (fun hh=>hg hh.1)]
    rw[e]
    have e37:=vQ (r:Int) (c:Int) hL n (by omega)
    have eb:wE (r:Int) (c:Int)=false:=by
     cases hb:wE (r:Int) (c:Int) with
     |false=>rfl
     |true=>
      exfalso
      apply hg
      unfold wE at hb
      simp only[Bool.cond_false_right,bA,decide_eq_true_eq] at hb
      exact⟨by omega,by omega,by omega,by omega⟩
    rw[eb] at e37
    refine⟨0,0,(zu3 h hL ⟨⟨l⟩⟩ r c n g2L g4 (by omega) h6' LF e37).trans ?_⟩
    rw[zk (by rw[ze];omega) rfl]
theorem ze1(s:BA)(a b:Int){k:Nat}(h:s.data.toList.length≤k):(zv s a b).size≤k:=by
 unfold zv
 rw[wx]
 exact nT (List.length_take_le' _ _) (by rw[List.length_drop];omega)
end Go.PanE
