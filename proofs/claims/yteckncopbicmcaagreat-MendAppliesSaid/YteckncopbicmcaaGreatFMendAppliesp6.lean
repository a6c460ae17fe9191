/- What the proof of this claim leans on, part 6. -/
import Derived.Test.YteckncopbicmcaaGreatFMendAppliesp5
set_option linter.all false
namespace Go.Proofs.YteckncopbicmcaaGreat
open Go Go.Esc
section
def dkC (q len:Nat) (w r:Int):List Cell:=[.sl q 0 len 256,.i .i64 0,.b false,.b false,.i .i64 w,.i .i64 r]
structure IsDk (h:A4) (p q:Nat) (D:Dev) (w r:Int):Prop where
 ne:p≠q
 row:rd h p=some ⟨dkC q D.length w r,true⟩
 blk:rd h q=some ⟨D7 D,true⟩
def But (p q:Nat) (h h':A4):Prop:=h.length<=h'.length/\∀ id,id<h.length->id≠p->id≠q->rd h' id=rd h id
theorem But.refl (p q:Nat) (h:A4):But p q h h:=⟨Nat.le_refl _,fun _ _ _ _=>rfl⟩
theorem But.trans {p q:Nat} {h h' h'':A4} (a:But p q h h') (b:But p q h' h''):But p q h h'' :=
 ⟨Nat.le_trans a.1 b.1,fun id hid h1 h2=>(b.2 id (by have:=a.1;omega) h1 h2).trans (a.2 id hid h1 h2)⟩
theorem But.more {p q:Nat} {h h':A4} (a:But p q h h') (t:A4):But p q h (h'++t) :=
 ⟨by have:=a.1;simp;omega,fun id hid h1 h2=>by rw [E3 (by have:=a.1;omega)];exact a.2 id hid h1 h2⟩
theorem But.set {p q id:Nat} {h h':A4} {x:Option Row} (a:But p q h h') (hid:h.length<=id\/id=p\/id=q):But p q h (h'.set id x) :=
 ⟨by simpa using a.1,fun j hj h1 h2=>by rw [B7 (by omega)];exact a.2 j hj h1 h2⟩
theorem IsDk.more {h:A4} {p q:Nat} {D:Dev} {w r:Int} (k:IsDk h p q D w r) (t:A4):IsDk (h++t) p q D w r:=⟨k.ne,B6 k.row,B6 k.blk⟩
theorem IsDk.setO {h:A4} {p q id:Nat} {D:Dev} {w r:Int} {x:Option Row} (k:IsDk h p q D w r) (h1:id≠p) (h2:id≠q):IsDk (h.set id x) p q D w r :=
 ⟨k.ne,by rw [B7 h1];exact k.row,by rw [B7 h2];exact k.blk⟩
theorem IsDk.ro {h:A4} {p q:Nat} {D:Dev} {w r:Int} (k:IsDk h p q D w r):rd (ro h) p=some ⟨dkC q D.length w r,false⟩/\rd (ro h) q=some ⟨D7 D,false⟩:=by
 have e1:(Row.mk (dkC q D.length w r) true).head=false:=rfl;refine ⟨B4W k.row e1,B4W k.blk ?_⟩;cases hD:D7 D with
 | nil=>rfl
 | cons c l =>
  have:=cD D;rw [hD] at this;cases c<;>first | rfl | (simp [noX,Cell.isX] at this)
theorem C5U {N:Nat} {h:A4} (h1:16<=N) (h2:N<=512):A1b [.c (.i .i64 (N:Int))] h=some (.c (.p (h.length+1) 0),h++[some ⟨D7 (List.replicate N (zeros 256)),true⟩,some ⟨dkC h.length N 0 0,true⟩]):=by
 refine C1M (n:=0) ?_;have m1:A7r (.c (.i .i64 (N:Int))) (.c (.i .i64 512))=some (.c (.i .i64 (N:Int))):=by simp only [A7r];simp;omega
 have m2:B6b (.c (.i .i64 16)) (.c (.i .i64 (N:Int)))=some (.c (.i .i64 (N:Int))):=by simp only [B6b];simp;omega
 have mk:=D0G (N:=N) (by omega);have ef:C7 [.ns,.i .i64 0,.b false,.b false,.i .i64 0,.i .i64 0] [(0,1,.c (.sl h.length 0 N 256))]=some (dkC h.length N 0 0):=rfl;rw [C1F];simp only [esc,m1,m2,mk,ef,C6N]
section
variable {h:A4} {p q:Nat} {D:Dev} {w r:Int}
theorem B3Y (k:IsDk h p q D w r):R5 [.c (.p p 0)] h=some (.c (.i .i64 (D.length:Nat)),h):=by
 have l0:A7 (ro h) (.c (.p p 0))=some (.c (.sl q 0 D.length 256)):=C1 k.ro.1 rfl rfl;have key:jP 0 [.c (.p p 0)] (ro h)=some (.c (.i .i64 (D.length:Nat)),ro h):=by
  rw [A96];simp only [esc,l0]
 exact A7n key rfl
theorem B7w {no:Nat} (k:IsDk h p q D w r) (gJ:no<D.length):V3 [.c (.p p 0),.c (.i .i64 (no:Int))] h=some (.c (.i .i64 0),h):=by
 have l0:A7 (ro h) (.c (.p p 0))=some (.c (.sl q 0 D.length 256)):=C1 k.ro.1 rfl rfl;have l3:A7 (ro h) (.c (.p p 3))=some (.c (.b false)):=C1 k.ro.1 rfl rfl;have c0:¬ (no:Int)<0:=by omega
 have c1:¬ (no:Int)>=(D.length:Nat):=by omega
 have key:nK 0 [.c (.p p 0),.c (.i .i64 (no:Int))] (ro h)=some (.c (.i .i64 0),ro h):=by
  rw [B1P];simp only [esc,Nat.reduceAdd,l0,l3,c0,c1]
 exact A8k key rfl
theorem B8x {a b:Nat} (k:IsDk h p q D w r) (ha:rd h a=some ⟨[.i .i64 0],true⟩) (hb:rd h b=some ⟨[.p p 0],true⟩) (hw:0<=w/\w<1000) :
  K2 [.c (.p a 0),.c (.p b 0)] h=some (.t [],h.set p (some ⟨dkC q D.length (w+1) r,true⟩)):=by
 refine A5K (n:=0) ?_;have l1:A7 h (.c (.p a 0))=some (.c (.i .i64 0)):=C1 ha rfl rfl;have l2:A7 h (.c (.p b 0))=some (.c (.p p 0)):=C1 hb rfl rfl;have l3:A7 h (.c (.p p 4))=some (.c (.i .i64 w)):=C1 k.row rfl rfl;have s1:D3 h (.c (.p p 4)) (.c (.i .i64 (w+1)))=some (h.set p (some ⟨dkC q D.length (w+1) r,true⟩)):=by rw [G3 k.row (by simp [dkC])];rfl
 have ww:IntKind.wrap .i64 (w+1)=w+1:=wrap_i64 (by omega) (by omega);rw [A5z];simp only [esc,Nat.reduceAdd,l1,l2,l3,ww,s1];rfl
theorem A3O {no:Nat} {b:List UInt8} (k:IsDk h p q D w r) (hD:okD D) (hb:b.length=256) (gJ:no<D.length) (hw:0<=w/\w<1000) :
  ∃ h',P9 [.c (.p p 0),.c (.i .i64 (no:Int)),.a (A5 b)] h=some (.c (.i .i64 0),h')/\IsDk h' p q (D.set no b) (w+1) r/\But p q h h':=by
 have kp:=E4 k.row;have kq:=E4 k.blk;obtain ⟨G,hG⟩:∃ G,G=h++[some (Row.mk [.p p 0] true),some (Row.mk (A5 b) true),some (Row.mk [.i .i64 0] true)]:=⟨_,rfl⟩;have kG:IsDk G p q D w r:=by rw [hG];exact k.more _
 have lG:G.length=h.length+3:=by rw [hG];simp
 have r0:rd G h.length=some ⟨[.p p 0],true⟩:=by rw [hG,H5];rfl
 have r1:rd G (h.length+1)=some ⟨A5 b,true⟩:=by rw [hG,cG];rfl
 have r2:rd G (h.length+2)=some ⟨[.i .i64 0],true⟩:=by rw [hG,cG];rfl
 have hm:=B7w kG gJ;have l0:A7 G (.c (.p h.length 0))=some (.c (.p p 0)):=C1 r0 rfl rfl;have lb:A8 G 256 (.c (.p (h.length+1) 0))=some (.a (A5 b)):=D4 r1 (by rw [A6,hb]);have l2:A7 G (.c (.p (h.length+2) 0))=some (.c (.i .i64 0)):=C1 r2 rfl rfl;have s2:D3 G (.c (.p (h.length+2) 0)) (.c (.i .i64 0))=some G:=by
  rw [G3 r2 (by simp),hG];simp
 have d0:A7 G (.c (.p p 0))=some (.c (.sl q 0 D.length 256)):=C1 kG.row rfl rfl;have d2:A7 G (.c (.p p 2))=some (.c (.b false)):=C1 kG.row rfl rfl;have ad:C4 256 (.c (.sl q 0 D.length 256)) (.c (.i .i64 (no:Int)))=some (.c (.p q (no*256))):=by rw [E5 gJ];simp
 have sd:B4 G 256 (.c (.p q (no*256))) (.a (A5 b))=some (G.set q (some ⟨D7 (D.set no b),true⟩)):=A0N kG.blk hD hb gJ;have n2:h.length+2≠q:=by omega
 have n2p:h.length+2≠p:=by omega
 obtain ⟨H,hH⟩:∃ H,H=G.set q (some ⟨D7 (D.set no b),true⟩):=⟨_,rfl⟩;have kH:IsDk H p q (D.set no b) w r:=by
  rw [hH];refine ⟨k.ne,?_,?_⟩
  ·rw [B7 (Ne.symm k.ne),List.length_set];exact kG.row
  ·rw [C8 (by omega)]
 have q0:rd H h.length=some ⟨[.p p 0],true⟩:=by rw [hH,B7 (by omega)];exact r0
 have q2:rd H (h.length+2)=some ⟨[.i .i64 0],true⟩:=by rw [hH,B7 (by omega)];exact r2
 have s3:D3 H (.c (.p (h.length+2) 0)) (.c (.i .i64 0))=some H:=by
  rw [G3 q2 (by simp)];have:H.set (h.length+2) (some ⟨[Cell.i .i64 0].set 0 (.i .i64 0),true⟩)=H:=by
   rw [rd_some] at q2;refine List.ext_getElem? fun i=>?_
   rw [List.getElem?_set];split
   ·rename_i e;subst e;have hl:=(List.getElem?_eq_some_iff.1 q2).1;rw [if_pos hl,q2];rfl
   ·rfl
  rw [this]
 have hW:=B8x kH q2 q0 hw;have hcd:B3R K2 (.c (.f 272 [(h.length+2,0),(h.length,0)])) H=some (.t [],H.set p (some ⟨dkC q (D.set no b).length (w+1) r,true⟩)):=hW;have l4:A7 (H.set p (some ⟨dkC q (D.set no b).length (w+1) r,true⟩)) (.c (.p (h.length+2) 0))=some (.c (.i .i64 0)):=C1 (by rw [B7 (by omega)];exact q2) rfl rfl;refine ⟨H.set p (some ⟨dkC q (D.set no b).length (w+1) r,true⟩),?_,⟨k.ne,?_,?_⟩,?_⟩
 ·rw [A8i];have e1:cells? (.c (.p p 0))=some [.p p 0]:=rfl;have e2:cells? (.a (A5 b))=some (A5 b):=rfl;have mf:A5Q 272 [.c (.p (h.length+2) 0),.c (.p h.length 0)]=some (.c (.f 272 [(h.length+2,0),(h.length,0)])):=rfl;simp only [e1,e2,V9,List.append_assoc,List.cons_append,List.nil_append,List.length_append,List.length_cons,List.length_nil,Nat.zero_add,Nat.reduceAdd,<-hG];simp only [esc,Nat.reduceAdd,l0,hm,s2,l2,mf,d0,d2,lb,ad,sd,<-hH,s3,hcd,l4]
 ·rw [C8 (by rw [hH];simp;omega)]
 ·rw [B7 k.ne];exact kH.blk
 ·refine But.set ?_ (.inr (.inl rfl));rw [hH];refine But.set ?_ (.inr (.inr rfl));rw [hG];exact (But.refl p q h).more _
theorem C38 {no:Nat} (k:IsDk h p q D w r) (hD:okD D) (gJ:no<D.length) (hr:0<=r/\r<1000) :
  ∃ h',cM [.c (.p p 0),.c (.i .i64 (no:Int))] h=some (.t [.a (A5 D[no]),.c (.i .i64 0)],h')/\IsDk h' p q D w (r+1)/\But p q h h':=by
 have kp:=E4 k.row;have kq:=E4 k.blk;obtain ⟨G,hG⟩:∃ G,G=h++[some (Row.mk [.p p 0] true),some (Row.mk (A5 (zeros 256)) true)]:=⟨_,rfl⟩;have kG:IsDk G p q D w r:=by rw [hG];exact k.more _
 have lG:G.length=h.length+2:=by rw [hG];simp
 have r0:rd G h.length=some ⟨[.p p 0],true⟩:=by rw [hG,H5];rfl
 have r1:rd G (h.length+1)=some ⟨A5 (zeros 256),true⟩:=by rw [hG,cG];rfl
 have hm:=B7w kG gJ;have l0:A7 G (.c (.p h.length 0))=some (.c (.p p 0)):=C1 r0 rfl rfl;have d0:A7 G (.c (.p p 0))=some (.c (.sl q 0 D.length 256)):=C1 kG.row rfl rfl;have ad:C4 256 (.c (.sl q 0 D.length 256)) (.c (.i .i64 (no:Int)))=some (.c (.p q (no*256))):=by rw [E5 gJ];simp
 have ld:A8 G 256 (.c (.p q (no*256)))=some (.a (A5 D[no])):=by
  rw [T2 kG.blk (by rw [F7 hD];omega) rfl,fC hD gJ]
 have sb:B4 G 256 (.c (.p (h.length+1) 0)) (.a (A5 D[no]))=some (G.set (h.length+1) (some ⟨A5 D[no],true⟩)):=storeAll r1 (by rw [A6,zeros_length]) (by rw [A6,hD.at gJ]);obtain ⟨H,hH⟩:∃ H,H=G.set (h.length+1) (some ⟨A5 D[no],true⟩):=⟨_,rfl⟩;have kH:IsDk H p q D w r:=by rw [hH];exact kG.setO (by omega) (by omega)
 have q0:rd H h.length=some ⟨[.p p 0],true⟩:=by rw [hH,B7 (by omega)];exact r0
 have q1:rd H (h.length+1)=some ⟨A5 D[no],true⟩:=by rw [hH,C8 (by omega)]
 have ww:IntKind.wrap .i64 (r+1)=r+1:=wrap_i64 (by omega) (by omega);have h1:R4 [.c (.p h.length 0)] H=some (.t [],H.set p (some ⟨dkC q D.length w (r+1),true⟩)):=by
  refine A7m (n:=0) ?_;have l1:A7 H (.c (.p h.length 0))=some (.c (.p p 0)):=C1 q0 rfl rfl;have l3:A7 H (.c (.p p 5))=some (.c (.i .i64 r)):=C1 kH.row rfl rfl;have s1:D3 H (.c (.p p 5)) (.c (.i .i64 (r+1)))=some (H.set p (some ⟨dkC q D.length w (r+1),true⟩)):=by rw [G3 kH.row (by simp [dkC])];rfl
  rw [A7i];simp only [esc,Nat.reduceAdd,l1,l3,ww,s1];rfl
 have hcd:B3R R4 (.c (.f 273 [(h.length,0)])) H=some (.t [],H.set p (some ⟨dkC q D.length w (r+1),true⟩)):=h1;have l4:A8 (H.set p (some ⟨dkC q D.length w (r+1),true⟩)) 256 (.c (.p (h.length+1) 0))=some (.a (A5 D[no])):=D4 (by rw [B7 (by omega)];exact q1) (by rw [A6,hD.at gJ]);refine ⟨H.set p (some ⟨dkC q D.length w (r+1),true⟩),?_,⟨k.ne,?_,?_⟩,?_⟩
 ·rw [B0c];have e1:cells? (.c (.p p 0))=some [.p p 0]:=rfl;have mf:A5Q 273 [.c (.p h.length 0)]=some (.c (.f 273 [(h.length,0)])):=rfl;have ez:List.replicate 256 (Cell.i .u8 0)=A5 (zeros 256):=F5 256;simp only [e1,ez,V9,List.append_assoc,List.cons_append,List.nil_append,List.length_append,List.length_cons,List.length_nil,Nat.zero_add,Nat.reduceAdd,<-hG];simp only [esc,Nat.reduceAdd,l0,hm,mf,d0,ad,ld,sb,<-hH,hcd,l4,C8T]
 ·rw [C8 (by rw [hH];simp;omega)]
 ·rw [B7 k.ne];exact kH.blk
 ·refine But.set ?_ (.inr (.inl rfl));rw [hH];refine But.set ?_ (.inl (by omega));rw [hG];exact (But.refl p q h).more _
theorem C19 (k:IsDk h p q D w r) (hD:okD D) (hl:D.length<=512):aZ [.c (.p p 0)] h=some (.c (.sl h.length 0 D.length 256),h++[some ⟨D7 D,true⟩]):=by
 obtain ⟨G,hG⟩:∃ G,G=ro h++[some (Row.mk [] true),some (Row.mk [] true)]:=⟨_,rfl⟩;have d0:A7 G (.c (.p p 0))=some (.c (.sl q 0 D.length 256)):=by rw [hG];exact C1 (B6 k.ro.1) rfl rfl
 have hQ:Has G (.c (.sl q 0 D.length 256)) 256 D.length (D7 D):=by
  rw [hG];exact Has.row (B6 k.ro.2) (F7 hD) (cD D)
 have rI:rd G ((ro h).length+1)=some ⟨[],true⟩:=by rw [hG,cG];rfl
 have ho:Out (ro h).length G (.c (.sl ((ro h).length+1) 0 0 256)) 256 0 []:=⟨rfl,(ro h).length+1,rfl,by omega,rI⟩;obtain ⟨id,v',h',e1,e2,e3,_⟩:=ho.app (m:=D.length) (by omega) hQ.add (by rw [F7 hD]) (by omega);have key:fZ 0 [.c (.p p 0)] (ro h)=some (v',h'):=by
  rw [A77];have ef:C7 [] []=some []:=rfl;simp only [List.append_assoc,List.cons_append,List.nil_append,List.length_append,List.length_cons,List.length_nil,Nat.zero_add,Nat.reduceAdd,ef,V9,<-hG];simp only [esc,Nat.reduceAdd,d0,e2]
 rw [Nat.zero_add,List.nil_append] at e3;exact A7l key (by rw [I8] at e3;exact e3) eD
end
end
end Go.Proofs.YteckncopbicmcaaGreat
namespace Go.Proofs.YteckncopbicmcaaGreat
open Go Go.Esc
set_option maxRecDepth 100000
noncomputable section
def A7E:AFn:=⟨sO [0] [aO 2 (.mv (.v (.c .np)))] (.seq [0] (sO [0,4] [aM 3 0,aO 4 (.eqN false false (.t 3))] (.cond (.t 4) (sO [2] [aO 2 (.mv (.v (.c .np)))] .ret) .skip)) (sO [2] [aM 5 0,aO 6 (.mkMap),aO 7 (.build ([.np,.nm,.ns,.i .i64 0]) [(0,1,(.t 5)),(1,1,(.t 6))]),aB 8 7,aM 2 8] .ret)),[.tmp 2]⟩
def A7N:E2:=E6
def A73:=rx A7N A7E
theorem B88 (n:Nat) (a0:Val) (h:A4):A73 n [a0] h=bnd (B0k false false a0) fun v1=>cnd v1 (some ((.c .np),h)) (bnd (C7 ([.np,.nm,.ns,.i .i64 0]) [(0,1,a0),(1,1,(.c (.m h.length)))]) fun c2=>bnd (cells? (.a c2)) fun c3=>some ((.c (.p (h++[some (J3 [])]).length 0)),((h++[some (J3 [])])++[some (Row.mk (c3) true)]))):=by kernel_rfl
theorem B6O:FnK Tryz.prog 257 A7E A7N A73:=.mk2 C9 Tryz.func257 (by kernel_rfl)
def wD:=Lim A7E A7N
theorem B9v:SOk Tryz.prog 257 wD:=B6O.ok
theorem B9u:OfT A73 wD:=B6O.of
end
noncomputable section
def A7d:ACode:=sO [0,3,5,7,9] [aM 45 0,aM 46 7,aL' 47 256 8,aO 48 (.call 255 [(.t 45),(.t 46),(.t 47)]),aM 9 48] (sO [0,3,5,7,9,50] [aM 49 9,aO 50 (.bin .neq (.t 49) (.v (.c (.i .i64 0))))] (.cond (.t 50) (sO [4] [aM 51 9,aM 4 51] .ret) .skip))
def A7c:ACode:=.ops [aM 33 7,aO 34 (.bin .add (.t 33) (.v (.c (.i .i64 1)))),aM 7 34]
def yN:ACode:=.seq [0,3,5,7] (sO [0,3,5,7,32] [aM 29 7,aL' 30 3 3,aO 31 (.call 151 [(.t 30)]),aO 32 (.bin .lss (.t 29) (.t 31))] (.cond (.t 32) .skip (.exit 0))) (.seq [0,3,5,7] (.block 1 (sO [0,3,5,7,8] [aO 8 (.alloc (List.replicate 256 (.i .u8 0)))] (.seq [0,3,5,7,8] (sO [0,3,5,7,8,38] [aM 35 7,aO 36 (.call 116 []),aO 37 (.bin .add (.t 36) (.v (.c (.i .i64 1)))),aO 38 (.bin .eql (.t 35) (.t 37))] (.cond (.t 38) (.ops [aL' 40 256 8,aO 41 (.build ([.i .i64 0,.i .i64 0,.i .i64 0,.i .i64 0,.i .i64 0,.i .i64 0,.i .i64 0,.i .i64 0,.i .i64 0,.i .i64 0,.i .i64 0]) [(0,1,(.v (.c (.i .i64 2)))),(1,1,(.v (.c (.i .i64 1)))),(3,1,(.v (.c (.i .i64 1))))]),aO 42 (.call 115 [(.t 40),(.v (.c (.i .i64 0))),(.t 41)]),aM 39 42,aE 43 39 0,aE 44 39 1,aN (.storeN 256 (.t 8) (.t 43))]) .skip)) A7d))) A7c)
def A7b:ACode:=.seq [0,5] (.seq [0,5,10] (.draw 0 [aM 52 0,aO 53 (.call 116 []),aL' 54 3 3,aO 55 (.call 105 [(.t 54)]),aO 56 (.call 117 [(.t 55)])] [aO 57 (.call 255 [(.t 52),(.t 53),(.t 56)]),aM 10 57]) (sO [0,5,10,59] [aM 58 10,aO 59 (.bin .neq (.t 58) (.v (.c (.i .i64 0))))] (.cond (.t 59) (sO [4] [aM 60 10,aM 4 60] .ret) .skip))) (sO [4] [aM 61 0,aL' 62 256 5,aO 63 (.call 255 [(.t 61),(.v (.c (.i .i64 0))),(.t 62)]),aM 4 63] .ret)
def pK:AFn:=⟨sO [0,3] [aB 3 1,aO 4 (.mv (.v (.c (.i .i64 0))))] (sO [0,3,5,6] [aL' 12 3 3,aO 13 (.call 137 [(.t 12)]),aM 11 13,aE 14 11 0,aE 15 11 1,aO 5 (.alloc (List.replicate 256 (.i .u8 0))),aN (.storeN 256 (.t 5) (.t 14)),aM 6 15] (.seq [0,3,5] (sO [0,3,5,21] [aM 16 0,aO 17 (.eqN false false (.t 16)),aM 18 17,gM 19 18 false 6,aG 20 18 false (.bin .neq (.t 19) (.v (.c (.i .i64 0)))),aO 21 (.pick (.t 18) (.v (.c (.b true))) (.t 20))] (.cond (.t 21) (sO [4] [aO 4 (.mv (.v (.c (.i .i64 1))))] .ret) .skip)) (.seq [0,3,5] (.seq [0,3,5,26] (.draw 0 [aM 22 0,aO 23 (.call 254 [(.t 22)]),aF 24 3 0,aL 25 24] [aO 26 (.bin .neq (.t 23) (.t 25))]) (.cond (.t 26) (sO [4] [aO 4 (.mv (.v (.c (.i .i64 2))))] .ret) .skip)) (.seq [0,3,5] (sO [0,3,5,7] [aO 27 (.call 116 []),aO 28 (.bin .add (.t 27) (.v (.c (.i .i64 1)))),aM 7 28] (.block 0 (.loop [0,3,5,7] yN))) A7b)))),[.tmp 4]⟩
def S4:E2:=D6 137 iL (D6 254 R5 (D6 116 R6 (D6 151 X7 (D6 115 bA (D6 255 P9 (D6 105 nX (D6 117 dT E6)))))))
def B8I (n:Nat):KV:=kQ S4 n A7b [0,3,5] pK.fin
def A7e (n:Nat):KV:=F6 0 (B8I n)
def yP (n m:Nat) (x0 x3 x5 x7:Val):AtH:=ar S4 n yN [0,3,5,7] (A7e n) m [x0,x3,x5,x7]
def A04:=rx S4 pK
def B8J (n m:Nat):KV:=kL S4 n yN [0,3,5,7] (A7e n) m
def B8K (n m:Nat):KV:=kQ S4 n A7c [0,3,5,7] (B8J n m)
def B8L (n m:Nat):KV:=F6 1 (B8K n m)
def yO (n m:Nat) (x0 x3 x5 x7 x8:Val):AtH:=aj S4 n A7d (B8L n m) [0,3,5,7,8] [x0,x3,x5,x7,x8]
theorem B3l (n:Nat) (a0 a1:Val) (h:A4):A04 n [a0,a1] h=bnd (cells? a1) fun c1=>bnd (A8 (h++[some (Row.mk (c1) true)]) 3 (.c (.p h.length 0))) fun v2=>bnd (iL [v2] (h++[some (Row.mk (c1) true)])) fun p3=>bnd (H0 p3.1 0) fun v4=>bnd (H0 p3.1 1) fun v5=>bnd (B4 (p3.2++[some (Row.mk (List.replicate 256 (.i .u8 0)) true)]) 256 (.c (.p p3.2.length 0)) v4) fun h6=>bnd (B0k false false a0) fun v7=>bnd (gd v7 false (some (v5,h6)) (some (.no,h6))) fun p8=>bnd (gd v7 false (bnd (B5 .neq p8.1 (.c (.i .i64 0))) fun v9=>some (v9,p8.2)) (some (.no,p8.2))) fun p10=>bnd (F0 v7 (.c (.b true)) p10.1) fun v11=>cnd v11 (some ((.c (.i .i64 1)),p10.2)) (bnd (quiet (p10.2++[]) (R5 [a0] (p10.2++[]))) fun p12=>bnd (A9 (.c (.p h.length 0)) 0) fun v13=>bnd (A7 p10.2 v13) fun cE=>bnd (B5 .neq p12.1 cE) fun dE=>cnd dE (some ((.c (.i .i64 2)),p12.2)) (bnd (R6 [] p12.2) fun sF=>bnd (B5 .add sF.1 (.c (.i .i64 1))) fun W3=>yP n n a0 (.c (.p h.length 0)) (.c (.p p3.2.length 0)) W3 sF.2)):=by kernel_rfl
theorem A1J (n m:Nat) (x0 x3 x5 x7:Val) (h:A4):yP n (m+1) x0 x3 x5 x7 h=bnd (A8 h 3 x3) fun dN=>bnd (X7 [dN] h) fun oY=>bnd (B5 .lss x7 oY.1) fun jN=>cnd jN (bnd (R6 [] (oY.2++[some (Row.mk (List.replicate 256 (.i .u8 0)) true)])) fun p21=>bnd (B5 .add p21.1 (.c (.i .i64 1))) fun v22=>bnd (B5 .eql x7 v22) fun v23=>cnd v23 (bnd (A8 p21.2 256 (.c (.p oY.2.length 0))) fun v24=>bnd (C7 ([.i .i64 0,.i .i64 0,.i .i64 0,.i .i64 0,.i .i64 0,.i .i64 0,.i .i64 0,.i .i64 0,.i .i64 0,.i .i64 0,.i .i64 0]) [(0,1,.c (.i .i64 2)),(1,1,.c (.i .i64 1)),(3,1,.c (.i .i64 1))]) fun c25=>bnd (bA [v24,.c (.i .i64 0),(.a c25)] p21.2) fun p26=>bnd (H0 p26.1 0) fun v27=>bnd (H0 p26.1 1) fun v28=>bnd (B4 p26.2 256 (.c (.p oY.2.length 0)) v27) fun h29=>yO n m x0 x3 x5 x7 (.c (.p oY.2.length 0)) h29) (yO n m x0 x3 x5 x7 (.c (.p oY.2.length 0)) p21.2)) (bnd (quiet (oY.2++[]) (R6 [] (oY.2++[]))) fun p30=>bnd (A8 oY.2 3 x3) fun v31=>bnd (quiet p30.2 (nX [v31] p30.2)) fun p32=>bnd (quiet p32.2 (dT [p32.1] p32.2)) fun p33=>bnd (P9 [x0,p30.1,p33.1] p33.2) fun p34=>bnd (B5 .neq p34.1 (.c (.i .i64 0))) fun v35=>cnd v35 (some (p34.1,p34.2)) (bnd (A8 p34.2 256 x5) fun v36=>bnd (P9 [x0,.c (.i .i64 0),v36] p34.2) fun p37=>some (p37.1,p37.2))):=by kernel_rfl
theorem B2P (n m:Nat) (x0 x3 x5 x7 x8:Val) (h:A4):yO n m x0 x3 x5 x7 x8 h=bnd (A8 h 256 x8) fun v38=>bnd (P9 [x0,x7,v38] h) fun p39=>bnd (B5 .neq p39.1 (.c (.i .i64 0))) fun v40=>cnd v40 (some (p39.1,p39.2)) (bnd (B5 .add x7 (.c (.i .i64 1))) fun v41=>yP n m x0 x3 x5 v41 p39.2):=by kernel_rfl
theorem A72:FnK Tryz.prog 230 pK S4 A04:=.mk2 (B8 A8t (B8 yT (B8 vC (B8 A1d (B8 A6P (B8 A8j (B8 B0W (B8 A6K C9)))))))) Tryz.func230 (by kernel_rfl)
def iJ:=Lim pK S4
theorem B3J:SOk Tryz.prog 230 iJ:=A72.ok
theorem B3I:OfT A04 iJ:=A72.of
def A3h:AFn:=⟨sO [0] [aO 2 (.mv (.v (.c .np))),aO 3 (.mv (.v (.c (.i .i64 0))))] (.seq [0] (sO [0,8] [aM 7 0,aO 8 (.eqN false false (.t 7))] (.cond (.t 8) (sO [2,3] [aO 2 (.mv (.v (.c .np))),aO 3 (.mv (.v (.c (.i .i64 1))))] .ret) .skip)) (sO [0,4,5] [aM 10 0,aO 11 (.call 256 [(.t 10),(.v (.c (.i .i64 0)))]),aM 9 11,aE 12 9 0,aE 13 9 1,aO 4 (.alloc (List.replicate 256 (.i .u8 0))),aN (.storeN 256 (.t 4) (.t 12)),aM 5 13] (.seq [0,4] (sO [0,4,5,15] [aM 14 5,aO 15 (.bin .neq (.t 14) (.v (.c (.i .i64 0))))] (.cond (.t 15) (sO [2,3] [aM 16 5,aO 2 (.mv (.v (.c .np))),aM 3 16] .ret) .skip)) (sO [0,5,6] [aL' 18 256 4,aO 19 (.call 66 [(.t 18)]),aM 17 19,aE 20 17 0,aE 21 17 1,aO 6 (.alloc ([.i .i64 0,.i .i64 0,.i .u64 0])),aN (.storeN 3 (.t 6) (.t 20)),aM 5 21] (.seq [0,6] (.seq [0,6,30] (.draw 0 [aM 22 5,aO 23 (.bin .neq (.t 22) (.v (.c (.i .i64 0)))),aM 24 23,aG 25 24 false (.fAddr (.t 6) 0),aG 26 24 false (.load1 (.t 25)),gM 27 24 false 0,aG 28 24 false (.call 254 [(.t 27)])] [aG 29 24 false (.bin .neq (.t 26) (.t 28)),aO 30 (.pick (.t 24) (.v (.c (.b true))) (.t 29))]) (.cond (.t 30) (sO [2,3] [aO 2 (.mv (.v (.c .np))),aO 3 (.mv (.v (.c (.i .i64 13))))] .ret) .skip)) (.seq [2,3] (.draw 1 [aM 31 0,aO 32 (.call 257 [(.t 31)]),aL' 33 3 6,aS 34 0 (.mkMap)] [aO 35 (.build ([.np,.i .i64 0,.i .i64 0,.i .u64 0,.i .i64 0,.nm]) [(0,1,(.t 32)),(1,3,(.t 33)),(5,1,(.t 34))]),aB 36 35,aM 2 36,aO 3 (.mv (.v (.c (.i .i64 0))))]) .ret)))))),[.tmp 2,.tmp 3]⟩
def A3v:E2:=D6 256 cM (D6 66 iK (D6 254 R5 (D6 257 wD E6)))
def A3D:=rx A3v A3h
theorem B5z (n:Nat) (a0:Val) (h:A4):A3D n [a0] h=bnd (B0k false false a0) fun v1=>cnd v1 (I6 [some (.c .np),some (.c (.i .i64 1))] h) (bnd (cM [a0,.c (.i .i64 0)] h) fun p2=>bnd (H0 p2.1 0) fun v3=>bnd (H0 p2.1 1) fun v4=>bnd (B4 (p2.2++[some (Row.mk (List.replicate 256 (.i .u8 0)) true)]) 256 (.c (.p p2.2.length 0)) v3) fun h5=>bnd (B5 .neq v4 (.c (.i .i64 0))) fun v6=>cnd v6 (I6 [some (.c .np),some v4] h5) (bnd (A8 h5 256 (.c (.p p2.2.length 0))) fun v7=>bnd (iK [v7] h5) fun p8=>bnd (H0 p8.1 0) fun v9=>bnd (H0 p8.1 1) fun T6=>bnd (B4 (p8.2++[some (Row.mk ([.i .i64 0,.i .i64 0,.i .u64 0]) true)]) 3 (.c (.p p8.2.length 0)) v9) fun h11=>bnd (B5 .neq T6 (.c (.i .i64 0))) fun v12=>bnd (gd v12 false (bnd (A9 (.c (.p p8.2.length 0)) 0) fun v13=>some (v13,(h11++[]))) (some (.no,(h11++[])))) fun dG=>bnd (gd v12 false (bnd (A7 h11 dG.1) fun dE=>some (dE,dG.2)) (some (.no,dG.2))) fun sF=>bnd (gd v12 false (some (a0,sF.2)) (some (.no,sF.2))) fun xQ=>bnd (gd v12 false (bnd (quiet xQ.2 (R5 [xQ.1] xQ.2)) fun pB=>some (pB.1,pB.2)) (some (.no,xQ.2))) fun oY=>bnd (gd v12 false (bnd (B5 .neq sF.1 oY.1) fun jN=>some (jN,oY.2)) (some (.no,oY.2))) fun p21=>bnd (F0 v12 (.c (.b true)) p21.1) fun v22=>cnd v22 (I6 [some (.c .np),some (.c (.i .i64 13))] p21.2) (bnd (quiet (p21.2++[none]) (wD [a0] (p21.2++[none]))) fun p23=>bnd (A8 p21.2 3 (.c (.p p8.2.length 0))) fun v24=>bnd (C7 ([.np,.i .i64 0,.i .i64 0,.i .u64 0,.i .i64 0,.nm]) [(0,1,p23.1),(1,3,v24),(5,1,(.c (.m (p21.2.length+0))))]) fun c25=>bnd (cells? (.a c25)) fun c26=>I6 [some (.c (.p (p23.2.set (p21.2.length+0) (some (J3 []))).length 0)),some (.c (.i .i64 0))] ((p23.2.set (p21.2.length+0) (some (J3 [])))++[some (Row.mk (c26) true)])))):=by kernel_rfl
theorem B0S:FnK Tryz.prog 231 A3h A3v A3D:=.mk2 (B8 B0d (B8 A8s (B8 yT (B8 B9v C9)))) Tryz.func231 (by kernel_rfl)
def mP:=Lim A3h A3v
theorem B53:SOk Tryz.prog 231 mP:=B0S.ok
theorem B52:OfT A3D mP:=B0S.of
end
noncomputable section
def A5d:AFn:=⟨sO [1] [aB 1 0,aO 2 (.mv (.v (.c .np))),aO 3 (.mv (.v (.c .np)))] (sO [1,4] [aF 7 1 0,aL 8 7,aO 9 (.call 229 [(.t 8)]),aM 4 9] (.seq [4] (sO [4,13] [aM 10 4,aL' 11 3 1,aO 12 (.call 230 [(.t 10),(.t 11)]),aO 13 (.bin .neq (.t 12) (.v (.c (.i .i64 0))))] (.cond (.t 13) (sO [2,3] [aM 14 4,aM 2 14,aO 3 (.mv (.v (.c .np)))] .ret) .skip)) (sO [4,5] [aM 16 4,aO 17 (.call 231 [(.t 16)]),aM 15 17,aE 18 15 0,aE 19 15 1,aM 5 18,aM 6 19] (sO [2,3] [aM 20 4,aM 21 5,aM 2 20,aM 3 21] .ret)))),[.tmp 2,.tmp 3]⟩
def A5q:E2:=D6 229 A1b (D6 230 iJ (D6 231 mP E6))
def A5A:=rx A5q A5d
theorem B7Z (n:Nat) (a0:Val) (h:A4):A5A n [a0] h=bnd (cells? a0) fun c1=>bnd (A9 (.c (.p h.length 0)) 0) fun v2=>bnd (A7 (h++[some (Row.mk (c1) true)]) v2) fun v3=>bnd (A1b [v3] (h++[some (Row.mk (c1) true)])) fun p4=>bnd (A8 p4.2 3 (.c (.p h.length 0))) fun v5=>bnd (iJ [p4.1,v5] p4.2) fun p6=>bnd (B5 .neq p6.1 (.c (.i .i64 0))) fun v7=>cnd v7 (I6 [some p4.1,some (.c .np)] p6.2) (bnd (mP [p4.1] p6.2) fun p8=>bnd (H0 p8.1 0) fun v9=>bnd (H0 p8.1 1) fun T6=>I6 [some p4.1,some v9] p8.2):=by kernel_rfl
theorem B22:FnK Tryz.prog 170 A5d A5q A5A:=.mk2 (B8 C1N (B8 B3J (B8 B53 C9))) Tryz.func170 (by kernel_rfl)
def qP:=Lim A5d A5q
theorem A6L:SOk Tryz.prog 170 qP:=B22.ok
theorem B8h:OfT A5A qP:=B22.of
end
noncomputable section
def B1H:AFn:=⟨sO [0] [aO 0 (.alloc ([.i .i64 0,.i .i64 0,.i .u64 0]))] (sO [0] [aO 1 (.build ([.i .i64 0,.i .i64 0,.i .u64 0]) [(0,1,(.v (.c (.i .i64 16)))),(1,1,(.v (.c (.i .i64 8))))]),aN (.storeN 3 (.t 0) (.t 1))] .ret),[.cellN 0 3]⟩
def B1L:E2:=E6
def A5B:=rx B1L B1H
theorem C1G (n:Nat) (h:A4):A5B n [] h=bnd (C7 ([.i .i64 0,.i .i64 0,.i .u64 0]) [(0,1,.c (.i .i64 16)),(1,1,.c (.i .i64 8))]) fun c1=>bnd (B4 (h++[some (Row.mk ([.i .i64 0,.i .i64 0,.i .u64 0]) true)]) 3 (.c (.p h.length 0)) (.a c1)) fun h2=>mp (A8 h2 3 (.c (.p h.length 0))) fun v=>(v,h2):=by kernel_rfl
theorem B81:FnK Tryz.prog 103 B1H B1L A5B:=.mk2 C9 Tryz.func103 (by kernel_rfl)
def A1c:=tl B1H B1L
theorem C1O:SOk Tryz.prog 103 A1c:=B81.sok
theorem B8i:G0 A5B A1c:=B81.flat
end
noncomputable section
def tF:AFn:=⟨sO [1] [aB 1 0,aO 2 (.nilrow 256)] (sO [3] [aL' 6 3 1,aO 7 (.call 170 [(.t 6)]),aM 5 7,aE 8 5 0,aE 9 5 1,aM 3 8,aM 4 9] (sO [2] [aM 10 3,aO 11 (.call 171 [(.t 10)]),aM 2 11] .ret)),[.tmp 2]⟩
def tJ:E2:=D6 170 qP (D6 171 aZ E6)
def jQ:=rx tJ tF
theorem A97 (n:Nat) (a0:Val) (h:A4):jQ n [a0] h=bnd (cells? a0) fun c1=>bnd (A8 ((h++[some (Row.mk (c1) true)])++[some (Row.mk ([]) true)]) 3 (.c (.p h.length 0))) fun v2=>bnd (qP [v2] ((h++[some (Row.mk (c1) true)])++[some (Row.mk ([]) true)])) fun p3=>bnd (H0 p3.1 0) fun v4=>bnd (H0 p3.1 1) fun v5=>bnd (aZ [v4] p3.2) fun p6=>some (p6.1,p6.2):=by kernel_rfl
theorem A4g:FnK Tryz.prog 102 tF tJ jQ:=.mk2 (B8 A6L (B8 A8h C9)) Tryz.func102 (by kernel_rfl)
def cO:=tl tF tJ
theorem B0e:SOk Tryz.prog 102 cO:=A4g.sok
theorem A8l:B5h jQ cO:=A4g.out
end
end Go.Proofs.YteckncopbicmcaaGreat
namespace Go.Proofs.YteckncopbicmcaaGreat
open Go Go.Esc
def map40:List UInt8:=mZ [0,1,2]
def tab40:List UInt8:=I1 (zeros 256) (32*0) (pA 2 1 0 1 (zI 7))
def D40a:Dev:=(List.replicate 16 (zeros 256)).set 2 tab40
def D40b:Dev:=D40a.set 1 map40
def D40:Dev:=D40b.set 0 (pC 16 8 0)
theorem A0A:map40.length=256:=by unfold map40 mZ;rw [eE,zeros_length]
theorem A0F:tab40.length=256:=by decide +kernel
theorem okD40a:okD D40a:=(B6D 16).set A0F
theorem okD40b:okD D40b:=okD40a.set A0A
theorem okD40:okD D40:=okD40b.set Y0
theorem D3l:D40a.length=16:=by unfold D40a;rw [List.length_set,List.length_replicate]
theorem D3m:D40b.length=16:=by unfold D40b;rw [List.length_set,D3l]
theorem A3S:D40.length=16:=by unfold D40;rw [List.length_set,D3m]
theorem C3z {h t:A4} {v:Val} (hn:t.all C3r=true):quiet h (some (v,h++t))=some (v,h++t):=by
 have:=C3A (g:=h) (l:=[]) (l':=t) (v:=v) (List.nil_prefix) (by simpa using hn);simpa using this
theorem D1E (h:A4):A1c [] h=some (.a (J1 16 8 0),h):=by
 have key:∀ g,∃ g',A5B 0 [] g=some (.a (J1 16 8 0),g'):=fun g=>by
  have ef:C7 [Cell.i .i64 0,.i .i64 0,.i .u64 0] [(0,1,.c (.i .i64 16)),(1,1,.c (.i .i64 8))]=some (J1 16 8 0):=rfl;have st:B4 (g++[some (Row.mk [Cell.i .i64 0,.i .i64 0,.i .u64 0] true)]) 3 (.c (.p g.length 0)) (.a (J1 16 8 0))=some (g++[some (Row.mk (J1 16 8 0) true)]):=by rw [H7];rfl
  have ll:ldN (some (Row.mk (J1 16 8 0) true)) 0 3=some (.a (J1 16 8 0)):=rfl;rw [C1G];generalize J1 16 8 0=L at *;exact ⟨_,by simp only [esc,ef,st,K3,ll]<;>rfl⟩
 obtain ⟨g',e⟩:=key (ro h);exact B8i e rfl
theorem B8H {p q:Nat} {h:A4} (k:IsDk h p q (List.replicate 16 (zeros 256)) 0 0) :
  ∃ h',iJ [.c (.p p 0),.a (J1 16 8 0)] h=some (.c (.i .i64 0),h')/\IsDk h' p q D40 3 0/\But p q h h':=by
 have kp:=E4 k.row;have kq:=E4 k.blk;have hm:T3 16 8=true:=by decide
 have hp:=fun h=>B42 (b:=16) (n:=8) (m:=0) (h:=h) (by omega) (by omega)
 simp only [hm,cond_true] at hp;have D5H:∀ h,X7 [.a (J1 16 8 0)] h=some (.c (.i .i64 3),h):=fun h=>A0r
 have A1z:=fun h=>B7A (b:=16) (n:=8) (m:=0) (h:=h)
 have ed:(tU 16 8).toNat=3:=by decide
 rw [ed] at A1z;have hT:∀ h,bA [.a (A5 (zeros 256)),.c (.i .i64 0),.a (G9 2 1 0 1 (zI 7))] h=some (.t [.a (A5 tab40),.c (.i .i64 0)],h):=fun h=>B1E (j:=0) (k:=2) (l:=1) (s:=0) (p:=1) (d:=zI 7) (b:=zeros 256) (h:=h) zeros_length rfl (by omega) (by decide)
 obtain ⟨G,hG⟩:∃ G,G=h++[some (Row.mk (J1 16 8 0) true),some (Row.mk (A5 (pC 16 8 0)) true)]:=⟨_,rfl⟩;have lG:G.length=h.length+2:=by rw [hG];simp
 have kG:IsDk G p q (List.replicate 16 (zeros 256)) 0 0:=by rw [hG];exact k.more _
 have r0:rd G h.length=some ⟨J1 16 8 0,true⟩:=by rw [hG,H5];rfl
 have r1:rd G (h.length+1)=some ⟨A5 (pC 16 8 0),true⟩:=by rw [hG,cG];rfl
 obtain ⟨h1,w1,k1,b1⟩:=A3O (no:=2) (b:=tab40) (kG.more [some (Row.mk (A5 tab40) true)]) (B6D 16) A0F (by simp) (by omega);have x1:rd h1 h.length=some ⟨J1 16 8 0,true⟩:=by rw [b1.2 _ (by simp;omega) (by omega) (by omega)];exact B6 r0
 have y1:rd h1 (h.length+1)=some ⟨A5 (pC 16 8 0),true⟩:=by rw [b1.2 _ (by simp;omega) (by omega) (by omega)];exact B6 r1
 have lh1:=b1.1;rw [List.length_append] at lh1;have kO:=k1.more [some (Row.mk (encI (upto 3)) true)];obtain ⟨h2,w2,k2,b2⟩:=A3O (no:=1) (b:=map40) kO okD40a A0A (by simp) (by omega);have y2:rd h2 (h.length+1)=some ⟨A5 (pC 16 8 0),true⟩:=by rw [b2.2 _ (by simp;omega) (by omega) (by omega)];exact B6 y1
 have lh2:=b2.1;rw [List.length_append] at lh2;obtain ⟨h3,w3,k3,b3⟩:=A3O (no:=0) (b:=pC 16 8 0) k2 okD40b Y0 (by simp) (by omega);have hC:=B06 (v:=.c (.sl h1.length 0 3 1)) (nv:=3) (l:=[0,1,2]) (h:=h1++[some (Row.mk (encI (upto 3)) true)]) (by decide) (by decide) (Has.tr (cs:=encI (upto 3)) (by simp) rfl rfl);have eC:mZ [0,1,2]=map40:=rfl;rw [eC] at hC;refine ⟨h3,?_,k3,?_⟩
 ·refine B3I (n:=9) ?_;have hSz:=B3Y kG;have lR:((List.replicate 16 (zeros 256)).length:Int)=16:=rfl;rw [lR] at hSz;have eS:B4 (h++[some (Row.mk (J1 16 8 0) true),some (Row.mk (A5 (zeros 256)) true)]) 256 (.c (.p (h.length+1) 0)) (.a (A5 (pC 16 8 0)))=some G:=by
   rw [storeAll (cs:=A5 (zeros 256)) (by rw [cG];rfl) (by rw [A6,zeros_length]) (by rw [A6,Y0]),hG,A34];rfl
  have l3:A8 (h++[some (Row.mk (J1 16 8 0) true)]) 3 (.c (.p h.length 0))=some (.a (J1 16 8 0)):=by rw [K3];rfl
  have g0:A7 G (.c (.p h.length 0))=some (.c (.i .i64 16)):=C1 r0 rfl rfl;have g3:A8 G 3 (.c (.p h.length 0))=some (.a (J1 16 8 0)):=D4 r0 rfl;have ef:C7 [Cell.i .i64 0,.i .i64 0,.i .i64 0,.i .i64 0,.i .i64 0,.i .i64 0,.i .i64 0,.i .i64 0,.i .i64 0,.i .i64 0,.i .i64 0] [(0,1,.c (.i .i64 2)),(1,1,.c (.i .i64 1)),(3,1,.c (.i .i64 1))]=some (G9 2 1 0 1 (zI 7)):=rfl;have lz:A8 (G++[some (Row.mk (A5 (zeros 256)) true)]) 256 (.c (.p G.length 0))=some (.a (A5 (zeros 256))):=D4 (by rw [H5];rfl) (by rw [A6,zeros_length]);have sz:B4 (G++[some (Row.mk (A5 (zeros 256)) true)]) 256 (.c (.p G.length 0)) (.a (A5 tab40))=some (G++[some (Row.mk (A5 tab40) true)]):=by
   rw [storeAll (cs:=A5 (zeros 256)) (by rw [H5];rfl) (by rw [A6,zeros_length]) (by rw [A6,A0F]),kJ];rfl
  have lt:A8 (G++[some (Row.mk (A5 tab40) true)]) 256 (.c (.p G.length 0))=some (.a (A5 tab40)):=D4 (by rw [H5];rfl) (by rw [A6,A0F]);have h13:A8 h1 3 (.c (.p h.length 0))=some (.a (J1 16 8 0)):=D4 x1 rfl;have h26:A8 h2 256 (.c (.p (h.length+1) 0))=some (.a (A5 (pC 16 8 0))):=D4 y2 (by rw [A6,Y0]);have cl:cells? (.a (J1 16 8 0))=some (J1 16 8 0):=rfl;have c2:((2:Nat):Int)=2:=rfl;have c1:((1:Nat):Int)=1:=rfl;have c0:((0:Nat):Int)=0:=rfl;rw [c2] at w1;rw [c1] at w2;rw [c0] at w3;have wr2:IntKind.wrap .i64 (1+1)=2:=rfl;have wr3:IntKind.wrap .i64 (2+1)=3:=rfl;have n1:¬ (1:Int)=0:=by decide
  have l23:(2:Int)<3:=by decide
  have l33:¬ (3:Int)<3:=by decide
  have e4:G++[some (Row.mk (A5 (zeros 256)) true)]=G++[some (Row.mk (A5 (zeros 256)) true)]:=rfl;rw [B3l,F5];generalize A5 tab40=T at *;generalize A5 map40=M at *;generalize A5 (pC 16 8 0)=S at *;generalize hZ:A5 (zeros 256)=Z at *;generalize encI (upto 3)=U at *;generalize G9 2 1 0 1 (zI 7)=I at *;generalize J1 16 8 0=L at *;simp only [esc,Nat.reduceAdd,cl,l3,hp,eS,hSz,g0,oV,wr2];rw [A1J,F5,hZ];simp only [esc,Nat.reduceAdd,g3,D5H,l23,oV,wr2,lz,ef,hT,sz,lt,B2P,w1,wr3];rw [A1J,F5,hZ];have hq:=C3z (h:=h1) (t:=[some (Row.mk U true)]) (v:=.c (.sl h1.length 0 3 1)) rfl;simp only [esc,Nat.reduceAdd,h13,D5H,l33,oV,A1z,hq,hC,w2,h26,w3]
 ·refine But.trans (h':=h1) ?_ (But.trans (h':=h2) ?_ b3)
  ·refine But.trans (h':=G++[some (Row.mk (A5 tab40) true)]) ?_ b1;rw [hG];exact ((But.refl p q h).more _).more _
  ·refine But.trans (h':=h1++[some (Row.mk (encI (upto 3)) true)]) ((But.refl p q h1).more _) b2
theorem D52:okS (pC 16 8 0)=true:=by decide +kernel
theorem D4W:C7F (pC 16 8 0)=J1 16 8 0:=by decide +kernel
theorem C1q {p q:Nat} {h:A4} (k:IsDk h p q D40 3 0) :
  ∃ v h',mP [.c (.p p 0)] h=some (.t [.c v,.c (.i .i64 0)],h')/\IsDk h' p q D40 3 1:=by
 obtain ⟨h1,e1,k1,b1⟩:=C38 (no:=0) k okD40 (by rw [A3S];omega) (by omega);have kp:=E4 k1.row;have kq:=E4 k1.blk;have e0:D40[0]'(by rw [A3S];omega)=pC 16 8 0:=by unfold D40;rw [List.getElem_set_self]
 rw [e0] at e1;have hG:=fun h=>B41 (b:=pC 16 8 0) (h:=h) Y0
 rw [D52,cond_true,D4W] at hG;have c0:((0:Nat):Int)=0:=rfl;rw [c0] at e1;obtain ⟨T,hT⟩:∃ T:A4,T=[some (Row.mk (A5 (pC 16 8 0)) true),some (Row.mk (J1 16 8 0) true)]:=⟨_,rfl⟩;obtain ⟨H,hH⟩:∃ H,H=h1++T:=⟨_,rfl⟩;have kH:IsDk H p q D40 3 (0+1):=by rw [hH];exact k1.more _
 have lH:H.length=h1.length+2:=by rw [hH,hT];simp
 have hS:=B3Y kH;have e16:(D40.length:Int)=16:=by rw [A3S];rfl
 rw [e16] at hS;have hN:∀ g,wD [.c (.p p 0)] g=some (.c (.p (g.length+1) 0),g++[some (J3 []),some (Row.mk [.p p 0,.m g.length,.ns,.i .i64 0] true)]):=fun g=>by
  refine B9u (n:=0) ?_;have ef:C7 [Cell.np,.nm,.ns,.i .i64 0] [(0,1,.c (.p p 0)),(1,1,.c (.m g.length))]=some [.p p 0,.m g.length,.ns,.i .i64 0]:=rfl;rw [B88];simp only [esc,ef]
 have s1:B4 (h1++[some (Row.mk (A5 (zeros 256)) true)]) 256 (.c (.p h1.length 0)) (.a (A5 (pC 16 8 0)))=some (h1++[some (Row.mk (A5 (pC 16 8 0)) true)]):=by
  rw [storeAll (cs:=A5 (zeros 256)) (by rw [H5];rfl) (by rw [A6,zeros_length]) (by rw [A6,Y0]),kJ];rfl
 have l1:A8 (h1++[some (Row.mk (A5 (pC 16 8 0)) true)]) 256 (.c (.p h1.length 0))=some (.a (A5 (pC 16 8 0))):=D4 (by rw [H5];rfl) (by rw [A6,Y0]);have s2:B4 (h1++[some (Row.mk (A5 (pC 16 8 0)) true),some (Row.mk [Cell.i .i64 0,.i .i64 0,.i .u64 0] true)]) 3 (.c (.p (h1.length+1) 0)) (.a (J1 16 8 0))=some H:=by
  rw [storeAll (n:=3) (cs:=[Cell.i .i64 0,.i .i64 0,.i .u64 0]) (by rw [cG];rfl) rfl rfl,A34,hH,hT];rfl
 have l2:A7 H (.c (.p (h1.length+1) 0))=some (.c (.i .i64 16)):=C1 (cs:=J1 16 8 0) (rw:=true) (by rw [hH,hT,cG];rfl) rfl rfl;have l3:A8 H 3 (.c (.p (h1.length+1) 0))=some (.a (J1 16 8 0)):=D4 (by rw [hH,hT,cG];rfl) rfl;obtain ⟨H2,hH2⟩:∃ H2,H2=(H++[some (J3 []),some (J3 []),some (Row.mk [.p p 0,.m (H.length+1),.ns,.i .i64 0] true)])++[some (Row.mk [.p (H.length+2) 0,.i .i64 16,.i .i64 8,.i .u64 0,.i .i64 0,.m H.length] true)]:=⟨_,rfl⟩;refine ⟨.p (H.length+3) 0,H2,?_,by rw [hH2];exact (kH.more _).more _⟩
 ·refine B52 (n:=0) ?_;have hNH:=hN (H++[none]);have qs:(H++[none]).length+1=H.length+2:=by simp
  rw [qs] at hNH;have n1:¬ (0:Int)≠0:=by decide
  have ef:C7 [Cell.np,.i .i64 0,.i .i64 0,.i .u64 0,.i .i64 0,.nm] [(0,1,.c (.p (H.length+2) 0)),(1,3,.a (J1 16 8 0)),(5,1,.c (.m H.length))]=some [.p (H.length+2) 0,.i .i64 16,.i .i64 8,.i .u64 0,.i .i64 0,.m H.length]:=rfl;rw [B5z,F5];generalize A5 (pC 16 8 0)=S at *;generalize hZ:A5 (zeros 256)=Z at *;generalize J1 16 8 0=L at *;simp only [esc,Nat.reduceAdd,e1,s1,l1,hG,s2,l2,hS,eq_self];have hq:=C3z (h:=H++[none]) (t:=[some (J3 []),some (Row.mk [.p p 0,.m (H++[none]).length,.ns,.i .i64 0] true)]) (v:=.c (.p (H.length+2) 0)) (by simp [C0X,C9R]);simp only [List.length_append,List.length_cons,List.length_nil,Nat.zero_add] at hq hNH;simp only [esc,Nat.reduceAdd] at hq hNH;simp only [esc,Nat.reduceAdd,hNH,hq,l3,ef,kJ,A34,hH2]
theorem C7i {h:A4}:∃ p q v h',qP [.a (J1 16 8 0)] h=some (.t [.c (.p p 0),.c v],h')/\IsDk h' p q D40 3 1/\h.length<=q/\h.length<=p:=by
 obtain ⟨G,hG⟩:∃ G,G=h++[some (Row.mk (J1 16 8 0) true)]:=⟨_,rfl⟩;have lG:G.length=h.length+1:=by rw [hG];simp
 have hN:=C5U (N:=16) (h:=G) (by omega) (by omega);obtain ⟨H,hH⟩:∃ H,H=G++[some (Row.mk (D7 (List.replicate 16 (zeros 256))) true),some (Row.mk (dkC G.length 16 0 0) true)]:=⟨_,rfl⟩;rw [<-hH] at hN;have kH:IsDk H (G.length+1) G.length (List.replicate 16 (zeros 256)) 0 0:=by
  refine ⟨by omega,?_,?_⟩
  ·rw [hH,cG];rfl
  ·rw [hH,H5];rfl
 obtain ⟨h1,e1,k1,b1⟩:=B8H kH;obtain ⟨v,h2,e2,k2⟩:=C1q k1;refine ⟨G.length+1,G.length,v,h2,?_,k2,by omega,by omega⟩;refine B8h (n:=0) ?_;have l0:A7 G (.c (.p h.length 0))=some (.c (.i .i64 16)):=C1 (cs:=J1 16 8 0) (rw:=true) (by rw [hG,H5];rfl) rfl rfl;have l3:A8 H 3 (.c (.p h.length 0))=some (.a (J1 16 8 0)):=D4 (by rw [hH];refine B6 ?_;rw [hG,H5];rfl) rfl;have cl:cells? (.a (J1 16 8 0))=some (J1 16 8 0):=rfl;have c16:((16:Nat):Int)=16:=rfl;rw [c16] at hN;rw [B7Z];generalize J1 16 8 0=L at *;simp only [esc,cl,<-hG,l0,hN,l3,e1,eq_self,e2]
theorem C4f (h:A4):cO [.a (J1 16 8 0)] h=some (.c (.sl h.length 0 16 256),h++[some ⟨D7 D40,true⟩]):=by
 have key:∀ g,∃ v g',jQ 0 [.a (J1 16 8 0)] g=some (v,g')/\Out g.length g' v 256 16 (D7 D40):=fun g=>by
  obtain ⟨G,hG⟩:∃ G,G=g++[some (Row.mk (J1 16 8 0) true),some (Row.mk [] true)]:=⟨_,rfl⟩;have lG:G.length=g.length+2:=by rw [hG];simp
  obtain ⟨p,q,v,h',e1,k,_,_⟩:=C7i (h:=G);have hI:=C19 k okD40 (by rw [A3S];omega);have l3:A8 G 3 (.c (.p g.length 0))=some (.a (J1 16 8 0)):=D4 (by rw [hG,H5];rfl) rfl;have cl:cells? (.a (J1 16 8 0))=some (J1 16 8 0):=rfl;have hl:G.length<=h'.length:=(A6L _ _ _ _ e1).2.2;refine ⟨.c (.sl h'.length 0 16 256),h'++[some ⟨D7 D40,true⟩],?_,by rw [F7 okD40,A3S],h'.length,rfl,by omega,V6⟩;have ll:D40.length=16:=A3S;rw [ll] at hI;rw [A97];generalize J1 16 8 0=L at *;simp only [esc,cl,<-hG,l3,e1,hI]
 obtain ⟨v,g',e,ho⟩:=key (ro h);exact A8l e (by rw [I8] at ho;exact ho) eD
theorem D4m:C37 D40=true:=by decide +kernel
theorem D4n:B2u D40=8:=by decide +kernel
end Go.Proofs.YteckncopbicmcaaGreat
namespace Go.Proofs.YteckncopbicmcaaGreat
open Go Go.Esc
set_option maxRecDepth 100000
noncomputable section
def A5e:AFn:=⟨sO [] [aO 0 (.mv (.v (.c (.b false))))] (sO [1] [aO 8 (.call 103 []),aO 9 (.call 102 [(.t 8)]),aM 1 9] (.seq [1] (sO [1,12] [aM 10 1,aO 11 (.len (.t 10)),aO 12 (.bin .neq (.t 11) (.v (.c (.i .i64 16))))] (.cond (.t 12) (sO [0] [aO 0 (.mv (.v (.c (.b false))))] .ret) .skip)) (sO [1,2,3] [aM 14 1,aO 15 (.call 53 [(.t 14)]),aM 13 15,aE 16 13 0,aE 17 13 1,aM 2 16,aM 3 17] (sO [1,2,3] [aM 18 1,aO 19 (.build (List.replicate 256 (.i .u8 0)) []),aO 20 (.iAddrL 256 (.t 18) (.v (.c (.i .i64 1)))),aN (.storeN 256 (.t 20) (.t 19))] (sO [1,2,3,4,5] [aM 22 1,aO 23 (.call 53 [(.t 22)]),aM 21 23,aE 24 21 0,aE 25 21 1,aM 4 24,aM 5 25] (sO [2,3,4,5,6,7] [aM 27 1,aO 28 (.call 55 [(.t 27)]),aM 26 28,aE 29 26 0,aE 30 26 1,aO 6 (.alloc ([.i .i64 0,.i .i64 0,.i .i64 0,.i .i64 0,.i .i64 0,.i .i64 0,.i .i64 0,.i .i64 0])),aN (.storeN 8 (.t 6) (.t 29)),aM 7 30] (sO [0] [aM 31 3,aO 32 (.bin .eql (.t 31) (.v (.c (.i .i64 0)))),aM 33 32,gM 34 33 true 2,aG 35 33 true (.len (.t 34)),aG 36 33 true (.bin .eql (.t 35) (.v (.c (.i .i64 0)))),aO 37 (.pick (.t 33) (.t 36) (.v (.c (.b false)))),aM 38 37,gM 39 38 true 5,aG 40 38 true (.bin .eql (.t 39) (.v (.c (.i .i64 0)))),aO 41 (.pick (.t 38) (.t 40) (.v (.c (.b false)))),aM 42 41,gM 43 42 true 4,aG 44 42 true (.len (.t 43)),aG 45 42 true (.bin .eql (.t 44) (.v (.c (.i .i64 1)))),aO 46 (.pick (.t 42) (.t 45) (.v (.c (.b false)))),aM 47 46,gM 48 47 true 4,aG 49 47 true (.iAddrL 257 (.t 48) (.v (.c (.i .i64 0)))),aG 50 47 true (.fAddr (.t 49) 0),aG 51 47 true (.load1 (.t 50)),aG 52 47 true (.bin .eql (.t 51) (.v (.c (.i .i64 1)))),aO 53 (.pick (.t 47) (.t 52) (.v (.c (.b false)))),aM 54 53,gM 55 54 true 7,aG 56 54 true (.bin .eql (.t 55) (.v (.c (.i .i64 0)))),aO 57 (.pick (.t 54) (.t 56) (.v (.c (.b false)))),aM 58 57,aG 59 58 true (.loadN 8 (.t 6)),aG 60 58 true (.build ([.i .i64 0,.i .i64 0,.i .i64 0,.i .i64 0,.i .i64 0,.i .i64 0,.i .i64 0,.i .i64 0]) [(0,1,(.v (.c (.i .i64 1)))),(7,1,(.v (.c (.i .i64 3))))]),aG 61 58 true (.eqA false ([.i .i64,.i .i64,.i .i64,.i .i64,.i .i64,.i .i64,.i .i64,.i .i64]) (.t 59) (.t 60)),aO 62 (.pick (.t 58) (.t 61) (.v (.c (.b false)))),aM 63 62,aG 64 63 true (.loadN 8 (.t 6)),aG 65 63 true (.call 57 [(.t 64)]),aG 66 63 true (.bin .eql (.t 65) (.v (.c (.i .i64 3)))),aO 67 (.pick (.t 63) (.t 66) (.v (.c (.b false)))),aM 0 67] .ret))))))),[.tmp 0]⟩
def A5r:E2:=D6 103 A1c (D6 102 cO (D6 53 dI (D6 55 qS (D6 57 A1e E6))))
def A0e:=rx A5r A5e
theorem B70 (n:Nat) (h:A4):A0e n [] h=bnd (A1c [] h) fun p1=>bnd (cO [p1.1] p1.2) fun p2=>bnd (O0 p2.1) fun v3=>bnd (B5 .neq v3 (.c (.i .i64 16))) fun v4=>cnd v4 (some ((.c (.b false)),p2.2)) (bnd (dI [p2.1] p2.2) fun p5=>bnd (H0 p5.1 0) fun v6=>bnd (H0 p5.1 1) fun v7=>bnd (C7 (List.replicate 256 (.i .u8 0)) []) fun c8=>bnd (C4 256 p2.1 (.c (.i .i64 1))) fun v9=>bnd (B4 p5.2 256 v9 (.a c8)) fun h10=>bnd (dI [p2.1] h10) fun p11=>bnd (H0 p11.1 0) fun v12=>bnd (H0 p11.1 1) fun v13=>bnd (qS [p2.1] p11.2) fun dG=>bnd (H0 dG.1 0) fun dE=>bnd (H0 dG.1 1) fun T7=>bnd (B4 (dG.2++[some (Row.mk ([.i .i64 0,.i .i64 0,.i .i64 0,.i .i64 0,.i .i64 0,.i .i64 0,.i .i64 0,.i .i64 0]) true)]) 8 (.c (.p dG.2.length 0)) dE) fun h17=>bnd (B5 .eql v7 (.c (.i .i64 0))) fun dN=>bnd (gd dN true (some (v6,h17)) (some (.no,h17))) fun oY=>bnd (gd dN true (bnd (O0 oY.1) fun jN=>some (jN,oY.2)) (some (.no,oY.2))) fun p21=>bnd (gd dN true (bnd (B5 .eql p21.1 (.c (.i .i64 0))) fun v22=>some (v22,p21.2)) (some (.no,p21.2))) fun p23=>bnd (F0 dN p23.1 (.c (.b false))) fun v24=>bnd (gd v24 true (some (v13,p23.2)) (some (.no,p23.2))) fun p25=>bnd (gd v24 true (bnd (B5 .eql p25.1 (.c (.i .i64 0))) fun v26=>some (v26,p25.2)) (some (.no,p25.2))) fun p27=>bnd (F0 v24 p27.1 (.c (.b false))) fun v28=>bnd (gd v28 true (some (v12,p27.2)) (some (.no,p27.2))) fun p29=>bnd (gd v28 true (bnd (O0 p29.1) fun v30=>some (v30,p29.2)) (some (.no,p29.2))) fun p31=>bnd (gd v28 true (bnd (B5 .eql p31.1 (.c (.i .i64 1))) fun v32=>some (v32,p31.2)) (some (.no,p31.2))) fun p33=>bnd (F0 v28 p33.1 (.c (.b false))) fun v34=>bnd (gd v34 true (some (v12,p33.2)) (some (.no,p33.2))) fun p35=>bnd (gd v34 true (bnd (C4 257 p35.1 (.c (.i .i64 0))) fun v36=>some (v36,p35.2)) (some (.no,p35.2))) fun p37=>bnd (gd v34 true (bnd (A9 p37.1 0) fun v38=>some (v38,p37.2)) (some (.no,p37.2))) fun p39=>bnd (gd v34 true (bnd (A7 p39.2 p39.1) fun v40=>some (v40,p39.2)) (some (.no,p39.2))) fun p41=>bnd (gd v34 true (bnd (B5 .eql p41.1 (.c (.i .i64 1))) fun v42=>some (v42,p41.2)) (some (.no,p41.2))) fun p43=>bnd (F0 v34 p43.1 (.c (.b false))) fun v44=>bnd (gd v44 true (some (T7,p43.2)) (some (.no,p43.2))) fun p45=>bnd (gd v44 true (bnd (B5 .eql p45.1 (.c (.i .i64 0))) fun v46=>some (v46,p45.2)) (some (.no,p45.2))) fun p47=>bnd (F0 v44 p47.1 (.c (.b false))) fun v48=>bnd (gd v48 true (bnd (A8 p47.2 8 (.c (.p dG.2.length 0))) fun v49=>some (v49,p47.2)) (some (.no,p47.2))) fun p50=>bnd (gd v48 true (bnd (C7 ([.i .i64 0,.i .i64 0,.i .i64 0,.i .i64 0,.i .i64 0,.i .i64 0,.i .i64 0,.i .i64 0]) [(0,1,.c (.i .i64 1)),(7,1,.c (.i .i64 3))]) fun c51=>some ((.a c51),p50.2)) (some (.no,p50.2))) fun p52=>bnd (gd v48 true (bnd (aeq false ([.i .i64,.i .i64,.i .i64,.i .i64,.i .i64,.i .i64,.i .i64,.i .i64]) p50.1 p52.1) fun v53=>some (v53,p52.2)) (some (.no,p52.2))) fun p54=>bnd (F0 v48 p54.1 (.c (.b false))) fun v55=>bnd (gd v55 true (bnd (A8 p54.2 8 (.c (.p dG.2.length 0))) fun v56=>some (v56,p54.2)) (some (.no,p54.2))) fun p57=>bnd (gd v55 true (bnd (A1e [p57.1] p57.2) fun p58=>some (p58.1,p58.2)) (some (.no,p57.2))) fun p59=>bnd (gd v55 true (bnd (B5 .eql p59.1 (.c (.i .i64 3))) fun v60=>some (v60,p59.2)) (some (.no,p59.2))) fun p61=>bnd (F0 v55 p61.1 (.c (.b false))) fun v62=>some (v62,p61.2)):=by kernel_rfl
theorem B23:FnK Tryz.prog 52 A5e A5r A0e:=.mk2 (B8 C1O (B8 B0e (B8 A8p (B8 B8n (B8 C1P C9))))) Tryz.func52 (by kernel_rfl)
def jS:=tl A5e A5r
theorem B8j:SOk Tryz.prog 52 jS:=B23.sok
theorem B3v:G0 A0e jS:=B23.flat
end
end Go.Proofs.YteckncopbicmcaaGreat
namespace Go.Proofs.YteckncopbicmcaaGreat
open Go Go.Esc
def D42:Dev:=D40.set 1 (zeros 256)
theorem C7G:D42.length=16:=by unfold D42;rw [List.length_set,A3S]
theorem D1S:okD D42:=okD40.set zeros_length
theorem D05:C37 D42=true:=by decide +kernel
theorem D06:B2u D42=8:=by decide +kernel
theorem D45:bN (A86 D40 8 (J0 D40 8)) D40 0=[]:=by decide +kernel
theorem D46:bN (A86 D42 8 (J0 D42 8)) D42 0=[(1,map40)]:=by decide +kernel
theorem D23:B6k D42 8=[1,0,0,0,0,0,0,3]:=by decide +kernel
theorem B2S (h:A4):jS [] h=some (.c (.b true),h):=by
 have key:∀ g,∃ g',A0e 0 [] g=some (.c (.b true),g'):=fun g=>by
  have hF:=C4f g;obtain ⟨G,hG⟩:∃ G,G=g++[some (Row.mk (D7 D40) true)]:=⟨_,rfl⟩;rw [<-hG] at hF;have hH:Has G (.c (.sl g.length 0 D40.length 256)) 256 D40.length (D7 D40):=by rw [hG];exact Has.tr (by simp) (F7 okD40) (cD _)
  have hP:=A6k hH okD40 D4m (by rw [A3S];omega);rw [D4n,D45] at hP;obtain ⟨H,hHe⟩:∃ H,H=G++[some (Row.mk (jK []) true)]:=⟨_,rfl⟩;rw [<-hHe] at hP;have rg:rd H g.length=some ⟨D7 D40,true⟩:=by rw [hHe,hG];refine B6 ?_;rw [H5];rfl
  have ad1:C4 256 (.c (.sl g.length 0 16 256)) (.c (.i .i64 1))=some (.c (.p g.length 256)):=rfl;have ef:C7 (A5 (zeros 256)) []=some (A5 (zeros 256)):=rfl;obtain ⟨K,hK⟩:∃ K,K=H.set g.length (some ⟨D7 D42,true⟩):=⟨_,rfl⟩;have st:B4 H 256 (.c (.p g.length 256)) (.a (A5 (zeros 256)))=some K:=by
   have:=A0N (i:=1) rg okD40 zeros_length (by rw [A3S];omega);rw [hK];exact this
  have rK:rd K g.length=some ⟨D7 D42,true⟩:=by rw [hK];exact C8 (E4 rg)
  have hHK:Has K (.c (.sl g.length 0 D42.length 256)) 256 D42.length (D7 D42):=Has.tr rK (F7 D1S) (cD _);have hP2:=A6k hHK D1S D05 (by rw [C7G];omega);rw [D06,D46] at hP2;obtain ⟨L,hL⟩:∃ L,L=K++[some (Row.mk (jK [(1,map40)]) true)]:=⟨_,rfl⟩;rw [<-hL] at hP2;have hHL:Has L (.c (.sl g.length 0 D42.length 256)) 256 D42.length (D7 D42):=by rw [hL];exact hHK.more _
  obtain ⟨hC,_⟩:=C2u hHL D1S D05 (by rw [C7G];omega);rw [D06,D23] at hC;have z8:[Cell.i .i64 0,.i .i64 0,.i .i64 0,.i .i64 0,.i .i64 0,.i .i64 0,.i .i64 0,.i .i64 0]=encI (zI 8):=rfl;obtain ⟨Q,hQ⟩:∃ Q,Q=L++[some (Row.mk (encI [1,0,0,0,0,0,0,3]) true)]:=⟨_,rfl⟩;have s8:B4 (L++[some (Row.mk (encI (zI 8)) true)]) 8 (.c (.p L.length 0)) (.a (encI [1,0,0,0,0,0,0,3]))=some Q:=by
   rw [storeAll (by rw [H5];rfl) (by rfl) (by rfl),kJ,hQ];rfl
  have l8:A8 Q 8 (.c (.p L.length 0))=some (.a (encI [1,0,0,0,0,0,0,3])):=D4 (by rw [hQ,H5];rfl) (by rfl);have hw:Has Q (.c (.sl K.length 0 [((1:Int),map40)].length 257)) 257 [((1:Int),map40)].length (jK [(1,map40)]):=by
   have hok:okW [(1,map40)]:=fun x hx=>by simp at hx;subst hx;exact A0A
   rw [hQ,hL];exact (Has.tr (by rw [H5];rfl) (jL hok) (C00 _)).more _
  obtain ⟨_,_,e1,_,a1,_,b1⟩:=D1r hw (fun x hx=>by simp at hx;subst hx;exact A0A) (i:=0) (by decide);cases e1;have ef2:C7 (encI (zI 8)) [(0,1,.c (.i .i64 1)),(7,1,.c (.i .i64 3))]=some (encI [1,0,0,0,0,0,0,3]):=rfl;have eq:=C7a (l:=[1,0,0,0,0,0,0,3]) (m:=[1,0,0,0,0,0,0,3]) (n:=8) rfl rfl;have er:List.replicate 8 (Sh.i .i64)=[Sh.i .i64,.i .i64,.i .i64,.i .i64,.i .i64,.i .i64,.i .i64,.i .i64]:=rfl;rw [er,decide_eq_true rfl] at eq;have hS:=C6o (x:=[1,0,0,0,0,0,0,3]) (h:=Q) rfl (by decide);have es:[1,0,0,0,0,0,0,3].tail.sum=(3:Int):=by decide
  rw [es] at hS;rw [A3S] at hP;rw [C7G] at hP2 hC;have c16:((16:Nat):Int)=16:=rfl;have c0:((0:Nat):Int)=0:=rfl;have c1:((1:Nat):Int)=1:=rfl;have l0:([]:List Wr).length=0:=rfl;have l1:[((1:Int),map40)].length=1:=rfl;rw [l0] at hP;rw [l1] at hP2 a1;rw [c0] at a1;have b1':A7 Q (.c (.p K.length 0))=some (.c (.i .i64 1)):=b1;have a1':C4 257 (.c (.sl K.length 0 1 257)) (.c (.i .i64 0))=some (.c (.p K.length 0)):=a1;have ll:G.length=g.length+1:=by rw [hG];simp
  rw [B70,F5,z8];generalize encI [1,0,0,0,0,0,0,3]=R at *;generalize encI (zI 8)=Z at *;generalize A5 (zeros 256)=W at *;exact ⟨Q,by simp only [esc,Nat.reduceAdd,D1E,hF,c16,hP,ef,ad1,st,hP2,hC,s8,c0,c1,a1',b1',l8,ef2,eq,hS,eq_self]⟩
 obtain ⟨g',e⟩:=key (ro h);exact B3v e rfl
end Go.Proofs.YteckncopbicmcaaGreat
namespace Go.Proofs.YteckncopbicmcaaGreat
open Go Go.Esc
set_option maxRecDepth 100000
noncomputable section
def B3Z:ACode:=.seq [0,2,3,4] (sO [0,2,3,4,6] [aM 5 4,aO 6 (.bin .lss (.t 5) (.v (.c (.i .i64 256))))] (.cond (.t 6) .skip (.exit 0))) (.seq [0,2,3,4] (.block 1 (.ops [aM 9 4,aM 10 0,aO 11 (.iAddrA 256 1 (.t 3) (.t 9)),aN (.store1 (.t 11) (.t 10))])) (.ops [aM 7 4,aO 8 (.bin .add (.t 7) (.v (.c (.i .i64 1)))),aM 4 8]))
def B30:ACode:=sO [2] [aL' 12 256 3,aN (.storeN 256 (.t 2) (.t 12))] .ret
def A1V:AFn:=⟨sO [0,2] [aO 2 (.alloc (List.replicate 256 (.i .u8 0)))] (sO [0,2,3] [aO 3 (.alloc (List.replicate 256 (.i .u8 0)))] (.seq [2,3] (sO [0,2,3,4] [aO 4 (.mv (.v (.c (.i .i64 0))))] (.block 0 (.loop [0,2,3,4] B3Z))) B30)),[.cellN 2 256]⟩
def vT:E2:=E6
def C39 (n:Nat):KV:=kQ vT n B30 [2,3] A1V.fin
def C4a (n:Nat):KV:=F6 0 (C39 n)
def A0p (n m:Nat) (x0 x2 x3 x4:Val):AtH:=ar vT n B3Z [0,2,3,4] (C4a n) m [x0,x2,x3,x4]
def A2e:=rx vT A1V
theorem B9a (n:Nat) (a0:Val) (h:A4):A2e n [a0] h=A0p n n a0 (.c (.p h.length 0)) (.c (.p (h++[some (Row.mk (List.replicate 256 (.i .u8 0)) true)]).length 0)) (.c (.i .i64 0)) ((h++[some (Row.mk (List.replicate 256 (.i .u8 0)) true)])++[some (Row.mk (List.replicate 256 (.i .u8 0)) true)]):=by kernel_rfl
theorem A6S (n m:Nat) (x0 x2 x3 x4:Val) (h:A4):A0p n (m+1) x0 x2 x3 x4 h=bnd (B5 .lss x4 (.c (.i .i64 256))) fun v1=>cnd v1 (bnd (D8 256 1 x3 x4) fun v2=>bnd (D3 h v2 x0) fun h3=>bnd (B5 .add x4 (.c (.i .i64 1))) fun v4=>A0p n m x0 x2 x3 v4 h3) (bnd (A8 h 256 x3) fun v5=>bnd (B4 h 256 x2 v5) fun h6=>mp (A8 h6 256 x2) fun v=>(v,h6)):=by kernel_rfl
theorem B6Q:FnK Tryz.prog 58 A1V vT A2e:=.mk2 C9 Tryz.func58 (by kernel_rfl)
def dH:=tl A1V vT
theorem B9x:SOk Tryz.prog 58 dH:=B6Q.sok
theorem B5G:G0 A2e dH:=B6Q.flat
end
noncomputable section
def zC:ACode:=.seq [0,1,2,7,8] (sO [0,1,2,7,8,26] [aM 23 8,aM 24 0,aO 25 (.len (.t 24)),aO 26 (.bin .lss (.t 23) (.t 25))] (.cond (.t 26) .skip (.exit 0))) (.seq [0,1,2,7,8] (.block 1 (.ops [aM 29 7,aM 30 0,aM 31 8,aO 32 (.iAddrL 1 (.t 30) (.t 31)),aL 33 32,aO 34 (.call 58 [(.t 33)]),aO 35 (.buildSl 256 1 (List.replicate 256 (.i .u8 0)) [(0,256,(.t 34))]),aO 36 (.app 256 (.t 29) (.t 35)),aM 7 36])) (.ops [aM 27 8,aO 28 (.bin .add (.t 27) (.v (.c (.i .i64 1)))),aM 8 28]))
def zG:ACode:=.ops [aM 44 11,aO 45 (.bin .add (.t 44) (.v (.c (.i .i64 1)))),aM 11 45]
def lM:ACode:=.seq [0,1,2,7,9,10,11] (sO [0,1,2,7,9,10,11,43] [aM 40 11,aM 41 1,aO 42 (.len (.t 41)),aO 43 (.bin .lss (.t 40) (.t 42))] (.cond (.t 43) .skip (.exit 2))) (.seq [0,1,2,7,9,10,11] (.block 3 (.seq [0,1,2,7,9,10,11] (.draw 1 [aM 46 9,aM 47 1,aM 48 11,aO 49 (.iAddrL 1 (.t 47) (.t 48)),aL 50 49,aM 51 11,aO 52 (.bin .add (.v (.c (.i .i64 100))) (.t 51)),aO 53 (.conv .u8 (.t 52)),aO 54 (.call 58 [(.t 53)]),aO 55 (.build ([.i .i64 0]++List.replicate 256 (.i .u8 0)) [(0,1,(.t 50)),(1,256,(.t 54))]),aS 56 0 (.buildSl 257 1 (([.i .i64 0]++List.replicate 256 (.i .u8 0))) [(0,257,(.t 55))])] [aO 57 (.app 257 (.t 46) (.t 56)),aM 9 57]) (sO [0,1,2,7,9,10,11,76] [aM 58 11,aM 59 2,aO 60 (.bin .lss (.t 58) (.t 59)),aM 61 60,gM 62 61 true 1,gM 63 61 true 11,aG 64 61 true (.iAddrL 1 (.t 62) (.t 63)),aG 65 61 true (.load1 (.t 64)),aG 66 61 true (.bin .geq (.t 65) (.v (.c (.i .i64 0)))),aO 67 (.pick (.t 61) (.t 66) (.v (.c (.b false)))),aM 68 67,gM 69 68 true 1,gM 70 68 true 11,aG 71 68 true (.iAddrL 1 (.t 69) (.t 70)),aG 72 68 true (.load1 (.t 71)),gM 73 68 true 0,aG 74 68 true (.len (.t 73)),aG 75 68 true (.bin .lss (.t 72) (.t 74)),aO 76 (.pick (.t 68) (.t 75) (.v (.c (.b false))))] (.cond (.t 76) (.ops [aM 77 10,aM 78 1,aM 79 11,aO 80 (.iAddrL 1 (.t 78) (.t 79)),aL 81 80,aM 82 11,aO 83 (.bin .add (.v (.c (.i .i64 100))) (.t 82)),aO 84 (.conv .u8 (.t 83)),aO 85 (.iAddrL 1 (.t 77) (.t 81)),aN (.store1 (.t 85) (.t 84))]) .skip)))) zG)
def zH:ACode:=.seq [0,7,10,12,13] (sO [0,7,10,12,13,93] [aM 90 13,aM 91 0,aO 92 (.len (.t 91)),aO 93 (.bin .lss (.t 90) (.t 92))] (.cond (.t 93) .skip (.exit 4))) (.seq [0,7,10,12,13] (.block 5 (.seq [0,7,10,12,13,124] (.draw 0 [aM 96 12,aO 97 (.len (.t 96)),aM 98 0,aO 99 (.len (.t 98)),aO 100 (.bin .neq (.t 97) (.t 99)),aM 101 100,gM 102 101 false 12,gM 103 101 false 13,aG 104 101 false (.iAddrL 256 (.t 102) (.t 103)),aG 105 101 false (.loadN 256 (.t 104)),gM 106 101 false 10,gM 107 101 false 13,aG 108 101 false (.iAddrL 1 (.t 106) (.t 107)),aG 109 101 false (.load1 (.t 108)),aG 110 101 false (.call 58 [(.t 109)]),aG 111 101 false (.eqA true (List.replicate 256 (.i .u8)) (.t 105) (.t 110)),aO 112 (.pick (.t 101) (.v (.c (.b true))) (.t 111)),aM 113 112,gM 114 113 false 7,gM 115 113 false 13,aG 116 113 false (.iAddrL 256 (.t 114) (.t 115)),aG 117 113 false (.loadN 256 (.t 116)),gM 118 113 false 0,gM 119 113 false 13,aG 120 113 false (.iAddrL 1 (.t 118) (.t 119)),aG 121 113 false (.load1 (.t 120)),aG 122 113 false (.call 58 [(.t 121)])] [aG 123 113 false (.eqA true (List.replicate 256 (.i .u8)) (.t 117) (.t 122)),aO 124 (.pick (.t 113) (.v (.c (.b true))) (.t 123))]) (.cond (.t 124) (sO [6] [aO 6 (.mv (.v (.c (.b false))))] .ret) .skip))) (.ops [aM 94 13,aO 95 (.bin .add (.t 94) (.v (.c (.i .i64 1)))),aM 13 95]))
def zJ:ACode:=sO [6] [aM 125 12,aO 126 (.len (.t 125)),aM 127 0,aO 128 (.len (.t 127)),aO 129 (.bin .eql (.t 126) (.t 128)),aM 130 129,aG 131 130 true (.call 52 []),aO 132 (.pick (.t 130) (.t 131) (.v (.c (.b false)))),aM 6 132] .ret
def zF:ACode:=sO [0,7,10,12] [aM 86 7,aM 87 9,aM 88 2,aO 89 (.call 59 [(.t 86),(.t 87),(.t 88)]),aM 12 89] (.seq [0,12] (sO [0,7,10,12,13] [aO 13 (.mv (.v (.c (.i .i64 0))))] (.block 4 (.loop [0,7,10,12,13] zH))) zJ)
def zD:ACode:=sO [0,1,2,7,9] [aO 9 (.nilrow 257)] (sO [0,1,2,7,9,10] [aO 37 (.buildSl 1 0 ([]) []),aM 38 0,aO 39 (.app 1 (.t 37) (.t 38)),aM 10 39] (.seq [0,2,7,9,10] (sO [0,1,2,7,9,10,11] [aO 11 (.mv (.v (.c (.i .i64 0))))] (.block 2 (.loop [0,1,2,7,9,10,11] lM))) zF))
def R1:AFn:=⟨sO [0,1,2] [aO 6 (.mv (.v (.c (.b false))))] (.seq [0,1,2] (sO [0,1,2,21] [aM 14 0,aO 15 (.len (.t 14)),aO 16 (.bin .gtr (.t 15) (.v (.c (.i .i64 40)))),aM 17 16,gM 18 17 false 1,aG 19 17 false (.len (.t 18)),aG 20 17 false (.bin .gtr (.t 19) (.v (.c (.i .i64 20)))),aO 21 (.pick (.t 17) (.v (.c (.b true))) (.t 20))] (.cond (.t 21) (sO [6] [aO 22 (.call 52 []),aM 6 22] .ret) .skip)) (sO [0,1,2,7] [aO 7 (.nilrow 256)] (.seq [0,1,2,7] (sO [0,1,2,7,8] [aO 8 (.mv (.v (.c (.i .i64 0))))] (.block 0 (.loop [0,1,2,7,8] zC))) zD))),[.tmp 6]⟩
def H3:E2:=D6 52 jS (D6 58 dH (D6 59 qR E6))
def B0u (n:Nat):KV:=kQ H3 n zD [0,1,2,7] R1.fin
def B0v (n:Nat):KV:=F6 0 (B0u n)
def W0 (n m:Nat) (x0 x1 x2 x7 x8:Val):AtH:=ar H3 n zC [0,1,2,7,8] (B0v n) m [x0,x1,x2,x7,x8]
def dS:=rx H3 R1
def B0w (n:Nat):KV:=kQ H3 n zF [0,2,7,9,10] R1.fin
def zK (n:Nat):KV:=F6 2 (B0w n)
def M8 (n m:Nat) (x0 x1 x2 x7 x9 x10 x11:Val):AtH:=ar H3 n lM [0,1,2,7,9,10,11] (zK n) m [x0,x1,x2,x7,x9,x10,x11]
def B0x (n m:Nat):KV:=kL H3 n lM [0,1,2,7,9,10,11] (zK n) m
def lO (n m:Nat) (x0 x1 x2 x7 x9 x10 x11:Val):AtH:=aj H3 n zG (B0x n m) [0,1,2,7,9,10,11] [x0,x1,x2,x7,x9,x10,x11]
def B0y (n:Nat):KV:=kQ H3 n zJ [0,12] R1.fin
def B0z (n:Nat):KV:=F6 4 (B0y n)
def cJ (n m:Nat) (x0 x7 x10 x12 kN:Val):AtH:=ar H3 n zH [0,7,10,12,13] (B0z n) m [x0,x7,x10,x12,kN]
theorem A7j (n:Nat) (a0 a1 a2:Val) (h:A4):dS n [a0,a1,a2] h=bnd (O0 a0) fun v1=>bnd (B5 .gtr v1 (.c (.i .i64 40))) fun v2=>bnd (gd v2 false (some (a1,h)) (some (.no,h))) fun p3=>bnd (gd v2 false (bnd (O0 p3.1) fun v4=>some (v4,p3.2)) (some (.no,p3.2))) fun p5=>bnd (gd v2 false (bnd (B5 .gtr p5.1 (.c (.i .i64 20))) fun v6=>some (v6,p5.2)) (some (.no,p5.2))) fun p7=>bnd (F0 v2 (.c (.b true)) p7.1) fun v8=>cnd v8 (bnd (jS [] p7.2) fun p9=>some (p9.1,p9.2)) (W0 n n a0 a1 a2 (.c (.sl p7.2.length 0 0 256)) (.c (.i .i64 0)) (p7.2++[some (Row.mk ([]) true)])):=by kernel_rfl
theorem rJ (n m:Nat) (x0 x1 x2 x7 x8:Val) (h:A4):W0 n (m+1) x0 x1 x2 x7 x8 h=bnd (O0 x0) fun T6=>bnd (B5 .lss x8 T6) fun v11=>cnd v11 (bnd (C4 1 x0 x8) fun v12=>bnd (A7 h v12) fun v13=>bnd (dH [v13] h) fun dG=>bnd (C7 (List.replicate 256 (.i .u8 0)) [(0,256,dG.1)]) fun c15=>bnd (W7 (dG.2++[some (Row.mk (c15) true)]) 256 x7 (.c (.sl dG.2.length 0 1 256))) fun sF=>bnd (B5 .add x8 (.c (.i .i64 1))) fun W3=>W0 n m x0 x1 x2 sF.1 W3 sF.2) (bnd (C7 ([]) []) fun c18=>bnd (W7 ((h++[some (Row.mk ([]) true)])++[some (Row.mk (c18) true)]) 1 (.c (.sl (h++[some (Row.mk ([]) true)]).length 0 0 1)) x0) fun oY=>M8 n n x0 x1 x2 x7 (.c (.sl h.length 0 0 257)) oY.1 (.c (.i .i64 0)) oY.2):=by kernel_rfl
theorem Q2 (n m:Nat) (x0 x1 x2 x7 x9 x10 x11:Val) (h:A4):M8 n (m+1) x0 x1 x2 x7 x9 x10 x11 h=bnd (O0 x1) fun jN=>bnd (B5 .lss x11 jN) fun v21=>cnd v21 (bnd (C4 1 x1 x11) fun v22=>bnd (A7 h v22) fun v23=>bnd (B5 .add (.c (.i .i64 100)) x11) fun v24=>bnd (dJ .u8 v24) fun v25=>bnd (quiet (h++[none]) (dH [v25] (h++[none]))) fun p26=>bnd (C7 ([.i .i64 0]++List.replicate 256 (.i .u8 0)) [(0,1,v23),(1,256,p26.1)]) fun c27=>bnd (C7 (([.i .i64 0]++List.replicate 256 (.i .u8 0))) [(0,257,(.a c27))]) fun c28=>bnd (W7 (p26.2.set (h.length+0) (some (Row.mk (c28) true))) 257 x9 (.c (.sl (h.length+0) 0 1 257))) fun p29=>bnd (B5 .lss x11 x2) fun v30=>bnd (gd v30 true (some (x1,p29.2)) (some (.no,p29.2))) fun p31=>bnd (gd v30 true (some (x11,p31.2)) (some (.no,p31.2))) fun p32=>bnd (gd v30 true (bnd (C4 1 p31.1 p32.1) fun v33=>some (v33,p32.2)) (some (.no,p32.2))) fun p34=>bnd (gd v30 true (bnd (A7 p34.2 p34.1) fun v35=>some (v35,p34.2)) (some (.no,p34.2))) fun p36=>bnd (gd v30 true (bnd (B5 .geq p36.1 (.c (.i .i64 0))) fun v37=>some (v37,p36.2)) (some (.no,p36.2))) fun p38=>bnd (F0 v30 p38.1 (.c (.b false))) fun v39=>bnd (gd v39 true (some (x1,p38.2)) (some (.no,p38.2))) fun p40=>bnd (gd v39 true (some (x11,p40.2)) (some (.no,p40.2))) fun p41=>bnd (gd v39 true (bnd (C4 1 p40.1 p41.1) fun v42=>some (v42,p41.2)) (some (.no,p41.2))) fun p43=>bnd (gd v39 true (bnd (A7 p43.2 p43.1) fun v44=>some (v44,p43.2)) (some (.no,p43.2))) fun p45=>bnd (gd v39 true (some (x0,p45.2)) (some (.no,p45.2))) fun p46=>bnd (gd v39 true (bnd (O0 p46.1) fun v47=>some (v47,p46.2)) (some (.no,p46.2))) fun p48=>bnd (gd v39 true (bnd (B5 .lss p45.1 p48.1) fun v49=>some (v49,p48.2)) (some (.no,p48.2))) fun p50=>bnd (F0 v39 p50.1 (.c (.b false))) fun v51=>cnd v51 (bnd (C4 1 x1 x11) fun v52=>bnd (A7 p50.2 v52) fun v53=>bnd (B5 .add (.c (.i .i64 100)) x11) fun v54=>bnd (dJ .u8 v54) fun v55=>bnd (C4 1 x10 v53) fun v56=>bnd (D3 p50.2 v56 v55) fun h57=>lO n m x0 x1 x2 x7 p29.1 x10 x11 h57) (lO n m x0 x1 x2 x7 p29.1 x10 x11 p50.2)) (bnd (qR [x7,x9,x2] h) fun p58=>cJ n n x0 x7 x10 p58.1 (.c (.i .i64 0)) p58.2):=by kernel_rfl
theorem X3 (n m:Nat) (x0 x1 x2 x7 x9 x10 x11:Val) (h:A4):lO n m x0 x1 x2 x7 x9 x10 x11 h=bnd (B5 .add x11 (.c (.i .i64 1))) fun v59=>M8 n m x0 x1 x2 x7 x9 x10 v59 h:=by kernel_rfl
theorem rL (n m:Nat) (x0 x7 x10 x12 kN:Val) (h:A4):cJ n (m+1) x0 x7 x10 x12 kN h=bnd (O0 x0) fun v60=>bnd (B5 .lss kN v60) fun v61=>cnd v61 (bnd (O0 x12) fun v62=>bnd (O0 x0) fun v63=>bnd (B5 .neq v62 v63) fun v64=>bnd (gd v64 false (some (x12,(h++[]))) (some (.no,(h++[])))) fun p65=>bnd (gd v64 false (some (kN,p65.2)) (some (.no,p65.2))) fun p66=>bnd (gd v64 false (bnd (C4 256 p65.1 p66.1) fun v67=>some (v67,p66.2)) (some (.no,p66.2))) fun p68=>bnd (gd v64 false (bnd (A8 h 256 p68.1) fun v69=>some (v69,p68.2)) (some (.no,p68.2))) fun p70=>bnd (gd v64 false (some (x10,p70.2)) (some (.no,p70.2))) fun p71=>bnd (gd v64 false (some (kN,p71.2)) (some (.no,p71.2))) fun p72=>bnd (gd v64 false (bnd (C4 1 p71.1 p72.1) fun v73=>some (v73,p72.2)) (some (.no,p72.2))) fun p74=>bnd (gd v64 false (bnd (A7 h p74.1) fun v75=>some (v75,p74.2)) (some (.no,p74.2))) fun p76=>bnd (gd v64 false (bnd (quiet p76.2 (dH [p76.1] p76.2)) fun p77=>some (p77.1,p77.2)) (some (.no,p76.2))) fun p78=>bnd (gd v64 false (bnd (aeq true (List.replicate 256 (.i .u8)) p70.1 p78.1) fun v79=>some (v79,p78.2)) (some (.no,p78.2))) fun p80=>bnd (F0 v64 (.c (.b true)) p80.1) fun v81=>bnd (gd v81 false (some (x7,p80.2)) (some (.no,p80.2))) fun p82=>bnd (gd v81 false (some (kN,p82.2)) (some (.no,p82.2))) fun p83=>bnd (gd v81 false (bnd (C4 256 p82.1 p83.1) fun v84=>some (v84,p83.2)) (some (.no,p83.2))) fun p85=>bnd (gd v81 false (bnd (A8 h 256 p85.1) fun v86=>some (v86,p85.2)) (some (.no,p85.2))) fun p87=>bnd (gd v81 false (some (x0,p87.2)) (some (.no,p87.2))) fun p88=>bnd (gd v81 false (some (kN,p88.2)) (some (.no,p88.2))) fun p89=>bnd (gd v81 false (bnd (C4 1 p88.1 p89.1) fun v90=>some (v90,p89.2)) (some (.no,p89.2))) fun p91=>bnd (gd v81 false (bnd (A7 h p91.1) fun v92=>some (v92,p91.2)) (some (.no,p91.2))) fun p93=>bnd (gd v81 false (bnd (quiet p93.2 (dH [p93.1] p93.2)) fun p94=>some (p94.1,p94.2)) (some (.no,p93.2))) fun p95=>bnd (gd v81 false (bnd (aeq true (List.replicate 256 (.i .u8)) p87.1 p95.1) fun v96=>some (v96,p95.2)) (some (.no,p95.2))) fun p97=>bnd (F0 v81 (.c (.b true)) p97.1) fun v98=>cnd v98 (some ((.c (.b false)),p97.2)) (bnd (B5 .add kN (.c (.i .i64 1))) fun v99=>cJ n m x0 x7 x10 x12 v99 p97.2)) (bnd (O0 x12) fun D60=>bnd (O0 x0) fun D61=>bnd (B5 .eql D60 D61) fun D6a=>bnd (gd D6a true (bnd (jS [] h) fun D54=>some (D54.1,D54.2)) (some (.no,h))) fun D55=>bnd (F0 D6a D55.1 (.c (.b false))) fun D62=>some (D62,D55.2)):=by kernel_rfl
theorem A00:FnK Tryz.prog 10 R1 H3 dS:=.mk2 (B8 B8j (B8 B9x (B8 B8m C9))) Tryz.func10 (by kernel_rfl)
def nW:=tl R1 H3
theorem A7o:SOk Tryz.prog 10 nW:=A00.sok
theorem A4u:G0 dS nW:=A00.flat
end
end Go.Proofs.YteckncopbicmcaaGreat
namespace Go.Proofs.YteckncopbicmcaaGreat
open Go Go.Esc
section
def H4 (x:UInt8):List UInt8:=List.replicate 256 x
theorem K6 {x:UInt8}:(H4 x).length=256:=List.length_replicate
theorem B8S {x:UInt8} {h:A4}:dH [.c (.i .u8 x.toNat)] h=some (.a (A5 (H4 x)),h):=by
 have loop:∀ (g:A4) (e i M:Nat) , i+e=256->e<M->∃ g',A0p 300 M (.c (.i .u8 x.toNat)) (.c (.p g.length 0)) (.c (.p (g.length+1) 0)) (.c (.i .i64 (i:Int))) (g++[some (Row.mk (A5 (zeros 256)) true),some (Row.mk (A5 (List.replicate i x++zeros e)) true)])=some (.a (A5 (H4 x)),g'):=by
  intro g e
  induction e with
  | zero =>
   intro i M hi hM;obtain ⟨M,rfl⟩:∃ M',M=M'+1:=⟨M-1,by omega⟩;have ei:i=256:=by omega
   subst ei;have c0:¬ ((256:Nat):Int)<256:=by omega
   have e1:List.replicate 256 x++zeros 0=H4 x:=by unfold zeros H4;rw [List.replicate_zero,List.append_nil]
   rw [e1,A6S];obtain ⟨G,hG⟩:∃ G,G=g++[some (Row.mk (A5 (zeros 256)) true),some (Row.mk (A5 (H4 x)) true)]:=⟨_,rfl⟩;rw [<-hG];have l1:A8 G 256 (.c (.p (g.length+1) 0))=some (.a (A5 (H4 x))):=D4 (by rw [hG,cG];rfl) (by rw [A6,K6]);have s1:B4 G 256 (.c (.p g.length 0)) (.a (A5 (H4 x)))=some (g++[some (Row.mk (A5 (H4 x)) true),some (Row.mk (A5 (H4 x)) true)]):=by
    rw [storeAll (cs:=A5 (zeros 256)) (by rw [hG,H5];rfl) (by rw [A6,zeros_length]) (by rw [A6,K6]),hG,kJ];rfl
   have l2:A8 (g++[some (Row.mk (A5 (H4 x)) true),some (Row.mk (A5 (H4 x)) true)]) 256 (.c (.p g.length 0))=some (.a (A5 (H4 x))):=D4 (by rw [H5];rfl) (by rw [A6,K6]);generalize A5 (H4 x)=X at *;exact ⟨_,by simp only [esc,c0,l1,s1,l2]<;>rfl⟩
  | succ e ih =>
   intro i M hi hM;obtain ⟨M,rfl⟩:∃ M',M=M'+1:=⟨M-1,by omega⟩;have c0:(i:Int)<256:=by omega
   have w1:=E8 (show i+1<9223372036854775808 by omega);have ad:D8 256 1 (.c (.p (g.length+1) 0)) (.c (.i .i64 (i:Int)))=some (.c (.p (g.length+1) i)):=by rw [I7 (by omega)];simp
   have es:(A5 (List.replicate i x++zeros (e+1))).set i (.i .u8 x.toNat)=A5 (List.replicate (i+1) x++zeros e):=by
    unfold A5 zeros;rw [List.map_append,List.map_append,List.map_replicate,List.map_replicate,List.map_replicate,List.map_replicate,List.set_append_right _ _ (by simp),List.length_replicate,Nat.sub_self,List.replicate_succ (n:=e),List.set_cons_zero,List.replicate_succ' (n:=i),List.append_assoc];rfl
   have s1:D3 (g++[some (Row.mk (A5 (zeros 256)) true),some (Row.mk (A5 (List.replicate i x++zeros (e+1))) true)]) (.c (.p (g.length+1) i)) (.c (.i .u8 x.toNat))=some (g++[some (Row.mk (A5 (zeros 256)) true),some (Row.mk (A5 (List.replicate (i+1) x++zeros e)) true)]):=by
    rw [G3 (cs:=A5 (List.replicate i x++zeros (e+1))) (by rw [cG];rfl) (by simp [A5,zeros]),es,A34];rfl
   obtain ⟨g',f1⟩:=ih (i+1) M (by omega) (by omega);refine ⟨g',?_⟩;rw [A6S];generalize A5 (List.replicate i x++zeros (e+1))=X at *;generalize A5 (zeros 256)=Z at *;simp only [esc,c0,ad,s1,w1];exact f1
 have key:∀ g,∃ g',A2e 300 [.c (.i .u8 x.toNat)] g=some (.a (A5 (H4 x)),g'):=fun g=>by
  obtain ⟨g',f1⟩:=loop g 256 0 300 (by omega) (by omega);refine ⟨g',?_⟩;rw [B9a,F5];have e1:List.replicate 0 x++zeros 256=zeros 256:=rfl;rw [e1] at f1;simp only [esc];exact f1
 obtain ⟨g',e⟩:=key (ro h);exact B5G e (by simp [Val.flat])
def byN (i:Nat):UInt8:=UInt8.ofNat (100+i)
def wrF:Nat->List Int->List Wr
 | _,[]=>[]
 | i,no::l=>(no,H4 (byN i))::wrF (i+1) l
def nF (n:Int):List UInt8->Nat->List Int->List UInt8
 | w,_,[]=>w
 | w,i,no::l=>nF n (if (i:Int)<n/\0<=no/\no<w.length then w.set no.toNat (byN i) else w) (i+1) l
theorem C1B:∀ {l:List Int} {i:Nat},okW (wrF i l)/\(wrF i l).length=l.length
 | [],_=>⟨fun x hx=>by simp [wrF] at hx,rfl⟩
 | no::l,i=>by
  obtain ⟨h1,h2⟩:=C1B (l:=l) (i:=i+1);refine ⟨fun x hx=>?_,by simp [wrF,h2]⟩;rcases List.mem_cons.1 hx with rfl | hx
  ·exact K6
  ·exact h1 x hx
theorem C66:∀ {l:List Int} {i:Nat} {no:Int},wrF i (l++[no])=wrF i l++[(no,H4 (byN (i+l.length)))]
 | [],i,no=>by simp [wrF]
 | a::l,i,no=>by
  have:=C66 (l:=l) (i:=i+1) (no:=no);simp only [List.cons_append,wrF,this,List.length_cons];rw [show i+1+l.length=i+(l.length+1) by omega]
theorem A6C {n:Int}:∀ {l:List Int} {w:List UInt8} {i:Nat},(nF n w i l).length=w.length
 | [],_,_=>rfl
 | no::l,w,i=>by
  unfold nF;rw [A6C];split<;>simp
theorem C1z {n:Int}:∀ {l:List Int} {w:List UInt8} {i:Nat} {no:Int},nF n w i (l++[no])=if ((i+l.length:Nat):Int)<n/\0<=no/\no<w.length then (nF n w i l).set no.toNat (byN (i+l.length)) else nF n w i l
 | [],w,i,no=>by simp [nF]
 | a::l,w,i,no=>by
  have:=C1z (n:=n) (l:=l) (w:=if (i:Int)<n/\0<=a/\a<w.length then w.set a.toNat (byN i) else w) (i:=i+1) (no:=no);simp only [List.cons_append,nF,this,List.length_cons];rw [show i+1+l.length=i+(l.length+1) by omega];have hl:(if (i:Int)<n/\0<=a/\a<w.length then w.set a.toNat (byN i) else w).length=w.length:=by split<;>simp
  rw [hl]
theorem C91 {l:List UInt8} {no:Int} {x:UInt8}:nD (l.map H4) no (H4 x)=(if 0<=no/\no<l.length then l.set no.toNat x else l).map H4:=by
 unfold nD;rw [List.length_map];split
 ·rw [List.map_set]
 ·rfl
theorem B9X {n:Int}:∀ {to:List Int} {l:List UInt8} {i:Nat},A3K n (l.map H4) i (wrF i to)=(nF n l i to).map H4
 | [],_,_=>rfl
 | no::to,l,i=>by
  unfold wrF A3K nF;dsimp only;rw [C91];have e:(if (i:Int)<n then (if 0<=no/\no<l.length then l.set no.toNat (byN i) else l).map H4 else l.map H4)=(if (i:Int)<n/\0<=no/\no<l.length then l.set no.toNat (byN i) else l).map H4:=by
   by_cases c:(i:Int)<n
   ·simp [c]
   ·simp [c]
  rw [e];exact B9X
theorem A1G (l:List UInt8):okD (l.map H4):=fun b hb=>by
 obtain ⟨x,_,rfl⟩:=List.mem_map.1 hb;exact K6
section
variable {v u:Val} {l:List UInt8} {to:List Int} {n:Int} {q:Nat}
theorem D5q {g:A4} (hv:Has g v 1 l.length (A5 l)) (hl:l.length<=40):∀ (e i M id:Nat) (h:A4),i+e=l.length->e<M->Low g.length g h->g.length<=id->rd h id=some ⟨D7 ((l.take i).map H4),true⟩ ->
  ∃ bP h' M',W0 q M v u (.c (.i .i64 n)) (.c (.sl id 0 i 256)) (.c (.i .i64 (i:Int))) h=W0 q (M'+1) v u (.c (.i .i64 n)) (.c (.sl bP 0 l.length 256)) (.c (.i .i64 (l.length:Nat))) h' /\
   Low g.length g h'/\g.length<=bP/\rd h' bP=some ⟨D7 (l.map H4),true⟩:=by
 intro e
 induction e with
 | zero =>
  intro i M id h hi hM hlow hid hr;obtain ⟨M,rfl⟩:∃ M',M=M'+1:=⟨M-1,by omega⟩;have ei:i=l.length:=by omega
  subst ei;rw [List.take_length] at hr;exact ⟨id,h,M,rfl,hlow,hid,hr⟩
 | succ e ih =>
  intro i M id h hi hM hlow hid hr;obtain ⟨M,rfl⟩:∃ M',M=M'+1:=⟨M-1,by omega⟩;have S3:i<l.length:=by omega
  have c0:(i:Int)<(l.length:Nat):=by omega
  have w1:=E8 (show i+1<9223372036854775808 by omega);have hlen:=(hv.since hlow).len;obtain ⟨ii,oi,ei,_,hA,_⟩:=(hv.since hlow).sl (by omega);cases ei;have a1:C4 1 (.c (.sl ii oi l.length 1)) (.c (.i .i64 (i:Int)))=some (.c (.p ii (oi+i))):=by rw [E5 S3];simp
  have a2:A7 h (.c (.p ii (oi+i)))=some (.c (.i .u8 (l[i]).toNat)):=hA i _ (by simp [A5,S3]);have hF:=B8S (x:=l[i]) (h:=h);have ef:=C2P (K6 (x:=l[i]));obtain ⟨h',p1,p2,p3,p4,p5⟩:=push (ys:=A5 (H4 l[i])) (n:=i) (sz:=256) hlow hr (by rw [F7 (A1G _)];simp;omega) hid (by rw [A6,K6]) (by omega) (by omega);have et:D7 ((l.take i).map H4)++A5 (H4 l[i])=D7 ((l.take (i+1)).map H4):=by
   rw [List.take_succ_eq_append_getElem S3,List.map_append,C11];simp [D7]
  rw [et] at p2;obtain ⟨bP,h'',M',f1,f2⟩:=ih (i+1) M (h.length+1) h' (by omega) (by omega) p3 p4 p2;refine ⟨bP,h'',M',?_,f2⟩;rw [rJ];generalize A5 (H4 l[i])=y at *;simp only [esc,c0,A9Q,a1,a2,hF,ef,p1,w1];exact f1
theorem D22 {i:Nat} (hi:i<20):IntKind.wrap .u8 (100+(i:Int))=((byN i).toNat:Int):=by
 have h1:IntKind.wrap .u8 (100+(i:Int))=100+(i:Int):=by
  show (100+(i:Int))%256=100+(i:Int);omega
 rw [h1];unfold byN;rw [UInt8.toNat_ofNat'];omega
theorem D5r {g:A4} {id7 id10:Nat} (hu:Has g u 1 to.length (encI to)) (hv:Has g v 1 l.length (A5 l)) (hl:l.length<=40) (ht:to.length<=20) (n710:id7≠id10) (h7:g.length<=id7) (h10:g.length<=id10) :
  ∀ (e i M id9:Nat) (h:A4),i+e=to.length->e<M->Low g.length g h->g.length<=id9->id9≠id7->id9≠id10->rd h id7=some ⟨D7 (l.map H4),true⟩->rd h id10=some ⟨A5 (nF n l 0 (to.take i)),true⟩->rd h id9=some ⟨jK (wrF 0 (to.take i)),true⟩ ->
  ∃ B6u h' M',M8 q M v u (.c (.i .i64 n)) (.c (.sl id7 0 l.length 256)) (.c (.sl id9 0 i 257)) (.c (.sl id10 0 l.length 1)) (.c (.i .i64 (i:Int))) h =
    M8 q (M'+1) v u (.c (.i .i64 n)) (.c (.sl id7 0 l.length 256)) (.c (.sl B6u 0 to.length 257)) (.c (.sl id10 0 l.length 1)) (.c (.i .i64 (to.length:Nat))) h' /\
   Low g.length g h'/\rd h' id7=some ⟨D7 (l.map H4),true⟩/\rd h' id10=some ⟨A5 (nF n l 0 to),true⟩/\rd h' B6u=some ⟨jK (wrF 0 to),true⟩:=by
 intro e
 induction e with
 | zero =>
  intro i M id9 h hi hM hlow h9 n97 n910 r7 r10 r9;obtain ⟨M,rfl⟩:∃ M',M=M'+1:=⟨M-1,by omega⟩;have ei:i=to.length:=by omega
  subst ei;rw [List.take_length] at r10 r9;exact ⟨id9,h,M,rfl,hlow,r7,r10,r9⟩
 | succ e ih =>
  intro i M id9 h hi hM hlow h9 n97 n910 r7 r10 r9;obtain ⟨M,rfl⟩:∃ M',M=M'+1:=⟨M-1,by omega⟩;have S3:i<to.length:=by omega
  have c0:(i:Int)<(to.length:Nat):=by omega
  have w1:=E8 (show i+1<9223372036854775808 by omega);have htl:(to.take i).length=i:=by rw [List.length_take];omega
  have D3R:IntKind.wrap .i64 (100+(i:Int))=100+(i:Int):=wrap_i64 (by omega) (by omega);have wc:=D22 (i:=i) (by omega);have hlen:=(hu.since hlow).len;obtain ⟨ii,oi,ei,_,hA,_⟩:=(hu.since hlow).sl (by omega);cases ei;have a1:C4 1 (.c (.sl ii oi to.length 1)) (.c (.i .i64 (i:Int)))=some (.c (.p ii (oi+i))):=by rw [E5 S3];simp
  have a2:A7 h (.c (.p ii (oi+i)))=some (.c (.i .i64 to[i])):=hA i _ (by rw [H9,List.getElem?_eq_getElem S3];rfl);have hF:=B8S (x:=byN i) (h:=h++[none]);have ef:=C5r (a:=to[i]) (K6 (x:=byN i));have ef2:=C2Q (w:=(to[i],H4 (byN i))) K6;have okw:okW (wrF 0 (to.take i)):=C1B.1;have lw:(wrF 0 (to.take i)).length=i:=by rw [C1B.2,htl]
  obtain ⟨h1,p1,p2,p3,p4⟩:=C1g (n:=i) (sz:=257) (ys:=wrC (to[i],H4 (byN i))) r9 (by rw [jL okw,lw]) (jJ K6) (by omega) (by omega);have et:to.take (i+1)=to.take i++[to[i]]:=List.take_succ_eq_append_getElem S3;have hlow1:Low g.length g h1:=hlow.trans (p4 g.length h9 (by have:=hlow.2.1;omega));have q7:=p3 _ _ (Ne.symm n97) r7;have q10:=p3 _ _ (Ne.symm n910) r10;have q9:rd h1 (h.length+1)=some ⟨jK (wrF 0 (to.take (i+1))),true⟩:=by
   rw [p2,et,C66,B7S,htl,Nat.zero_add];simp [jK]
  have b7:=E4 r7;have b10:=E4 r10;obtain ⟨_,_,ei2,_,hA1,_⟩:=(hu.since hlow1).sl (by omega);cases ei2;have a3:A7 h1 (.c (.p ii (oi+i)))=some (.c (.i .i64 to[i])):=hA1 i _ (by rw [H9,List.getElem?_eq_getElem S3];rfl);have hvl:=(hv.since hlow1).len;have ew:nF n l 0 (to.take (i+1))=if (i:Int)<n/\0<=to[i]/\to[i]<l.length then (nF n l 0 (to.take i)).set (to[i]).toNat (byN i) else nF n l 0 (to.take i):=by
   rw [et,C1z,htl,Nat.zero_add]
  have nxt:∀ h2,(h2=h1/\¬ ((i:Int)<n/\0<=to[i]/\to[i]<l.length))\/(h2=h1.set id10 (some ⟨A5 (nF n l 0 (to.take (i+1))),true⟩)) ->
    ∃ B6u h' M',M8 q M v (.c (.sl ii oi to.length 1)) (.c (.i .i64 n)) (.c (.sl id7 0 l.length 256)) (.c (.sl (h.length+1) 0 (i+1) 257)) (.c (.sl id10 0 l.length 1)) (.c (.i .i64 ((i+1:Nat):Int))) h2 =
     M8 q (M'+1) v (.c (.sl ii oi to.length 1)) (.c (.i .i64 n)) (.c (.sl id7 0 l.length 256)) (.c (.sl B6u 0 to.length 257)) (.c (.sl id10 0 l.length 1)) (.c (.i .i64 (to.length:Nat))) h' /\
    Low g.length g h'/\rd h' id7=some ⟨D7 (l.map H4),true⟩/\rd h' id10=some ⟨A5 (nF n l 0 to),true⟩/\rd h' B6u=some ⟨jK (wrF 0 to),true⟩:=by
   intro h2 hh;rcases hh with ⟨rfl,gJ⟩ | rfl
   ·rw [if_neg gJ] at ew;exact ih (i+1) M (h.length+1) h2 (by omega) (by omega) hlow1 (by have:=hlow.2.1;omega) (by omega) (by omega) q7 (by rw [ew];exact q10) q9
   ·exact ih (i+1) M (h.length+1) _ (by omega) (by omega) (hlow1.set h10 _) (by have:=hlow.2.1;omega) (by omega) (by omega) (by rw [B7 (Ne.symm n710)];exact q7) (C8 (E4 q10)) (by rw [B7 (by omega)];exact q9)
  by_cases ci:(i:Int)<n
  ·by_cases cn:0<=to[i]
   ·have cn':to[i]>=0:=cn;by_cases cl:to[i]<(l.length:Nat)
    ·obtain ⟨k,hk⟩:=Int.eq_ofNat_of_zero_le cn;have ad:C4 1 (.c (.sl id10 0 l.length 1)) (.c (.i .i64 to[i]))=some (.c (.p id10 k)):=by rw [hk,E5 (show k<l.length by omega)];simp
     rw [if_pos ⟨ci,cn,cl⟩] at ew;have sw:D3 h1 (.c (.p id10 k)) (.c (.i .u8 (byN i).toNat))=some (h1.set id10 (some ⟨A5 (nF n l 0 (to.take (i+1))),true⟩)):=by
      rw [G3 q10 (by rw [A6,A6C];omega),ew,hk];simp [A5,List.map_set]
     obtain ⟨B6u,h',M',f1,f2⟩:=nxt _ (.inr rfl);refine ⟨B6u,h',M',?_,f2⟩;rw [Q2,F5];generalize wrC (to[i],H4 (byN i))=x at *;generalize A5 (H4 (byN i))=y at *;generalize A5 (zeros 256)=z at *;simp only [List.cons_append,List.nil_append] at ef ef2;simp only [esc,Nat.reduceAdd,c0,a1,a2,D3R,wc,hF,ef,ef2,p1,ci,a3,cn',hvl,cl,ad,sw,X3,w1];exact f1
    ·obtain ⟨B6u,h',M',f1,f2⟩:=nxt h1 (.inl ⟨rfl,fun h=>cl h.2.2⟩);refine ⟨B6u,h',M',?_,f2⟩;rw [Q2,F5];generalize wrC (to[i],H4 (byN i))=x at *;generalize A5 (H4 (byN i))=y at *;generalize A5 (zeros 256)=z at *;simp only [List.cons_append,List.nil_append] at ef ef2;simp only [esc,Nat.reduceAdd,c0,a1,a2,D3R,wc,hF,ef,ef2,p1,ci,a3,cn',hvl,cl,X3,w1];exact f1
   ·have cn':¬ to[i]>=0:=cn;obtain ⟨B6u,h',M',f1,f2⟩:=nxt h1 (.inl ⟨rfl,fun h=>cn h.2.1⟩);refine ⟨B6u,h',M',?_,f2⟩;rw [Q2,F5];generalize wrC (to[i],H4 (byN i))=x at *;generalize A5 (H4 (byN i))=y at *;generalize A5 (zeros 256)=z at *;simp only [List.cons_append,List.nil_append] at ef ef2;simp only [esc,Nat.reduceAdd,c0,a1,a2,D3R,wc,hF,ef,ef2,p1,ci,a3,cn',X3,w1];exact f1
  ·obtain ⟨B6u,h',M',f1,f2⟩:=nxt h1 (.inl ⟨rfl,fun h=>ci h.1⟩);refine ⟨B6u,h',M',?_,f2⟩;rw [Q2,F5];generalize wrC (to[i],H4 (byN i))=x at *;generalize A5 (H4 (byN i))=y at *;generalize A5 (zeros 256)=z at *;simp only [List.cons_append,List.nil_append] at ef ef2;simp only [esc,Nat.reduceAdd,c0,a1,a2,D3R,wc,hF,ef,ef2,p1,ci,X3,w1];exact f1
theorem D5s {h:A4} {w:List UInt8} {id7 id10 id12:Nat} (hv:Has h v 1 l.length (A5 l)) (hl:l.length<=40) (hw:w.length=l.length) (h7:rd h id7=some ⟨D7 (l.map H4),true⟩) (h10:rd h id10=some ⟨A5 w,true⟩) (h12:rd h id12=some ⟨D7 (w.map H4),true⟩) :
  ∀ (e i M:Nat),i+e=l.length->e<M ->
  cJ q M v (.c (.sl id7 0 l.length 256)) (.c (.sl id10 0 l.length 1)) (.c (.sl id12 0 l.length 256)) (.c (.i .i64 (i:Int))) h=some (.c (.b true),h):=by
 intro e
 induction e with
 | zero =>
  intro i M hi hM;obtain ⟨M,rfl⟩:∃ M',M=M'+1:=⟨M-1,by omega⟩;have c0:¬ (i:Int)<(l.length:Nat):=by omega
  have hlen:=hv.len;rw [rL];simp only [esc,hlen,c0,B2S]
 | succ e ih =>
  intro i M hi hM;obtain ⟨M,rfl⟩:∃ M',M=M'+1:=⟨M-1,by omega⟩;have S3:i<l.length:=by omega
  have hiw:i<w.length:=by omega
  have c0:(i:Int)<(l.length:Nat):=by omega
  have w1:=E8 (show i+1<9223372036854775808 by omega);have hlen:=hv.len;obtain ⟨ii,oi,ei,_,hA,_⟩:=hv.sl (by omega);cases ei;have a1:∀ x o,C4 1 (.c (.sl x o l.length 1)) (.c (.i .i64 (i:Int)))=some (.c (.p x (o+i))):=fun x o=>by rw [E5 S3];simp
  have a2:A7 h (.c (.p ii (oi+i)))=some (.c (.i .u8 (l[i]).toNat)):=hA i _ (by simp [A5,S3]);have a3:∀ x,C4 256 (.c (.sl x 0 l.length 256)) (.c (.i .i64 (i:Int)))=some (.c (.p x (i*256))):=fun x=>by rw [E5 S3];simp
  have a4:A7 h (.c (.p id10 i))=some (.c (.i .u8 (w[i]).toNat)):=C1 h10 (by simp [A5,hiw]) rfl;have b7:A8 h 256 (.c (.p id7 (i*256)))=some (.a (A5 (H4 l[i]))):=by
   rw [T2 h7 (by rw [F7 (A1G _),List.length_map];omega) rfl,fC (A1G _) (by simpa using S3)];simp
  have b12:A8 h 256 (.c (.p id12 (i*256)))=some (.a (A5 (H4 w[i]))):=by
   rw [T2 h12 (by rw [F7 (A1G _),List.length_map];omega) rfl,fC (A1G _) (by simpa using hiw)];simp
  have hFl:=B8S (x:=l[i]) (h:=h);have hFw:=B8S (x:=w[i]) (h:=h);have q1:=B9Q (l:=H4 l[i]) (m:=H4 l[i]) (n:=256) K6 K6;have q2:=B9Q (l:=H4 w[i]) (m:=H4 w[i]) (n:=256) K6 K6;rw [decide_eq_true rfl] at q1 q2;have f1:=ih (i+1) M (by omega) (by omega);rw [rL];generalize A5 (H4 l[i])=x at *;generalize A5 (H4 w[i])=y at *;simp only [esc,Bool.not_true,c0,A9Q,a1,a3,a4,b7,b12,hFw,a2,hFl,q1,q2,w1,eq_self];exact f1
theorem C0T {h:A4} {nl nt:Nat} (hv:Has h v 1 nl (A5 l)) (hu:Has h u 1 nt (encI to)):nW [v,u,.c (.i .i64 n)] h=some (.c (.b true),h):=by
 have el:nl=l.length:=by have:=hv.length;rw [A6] at this;omega
 have et:nt=to.length:=by have:=hu.length;rw [B9] at this;omega
 subst el;subst et;have key:∃ g',dS 100 [v,u,.c (.i .i64 n)] (ro h)=some (.c (.b true),g'):=by
  have hvr:=hv.ro;have hur:=hu.ro;have l1:=hvr.len;have l2:=hur.len;rw [A7j];by_cases c0:(40:Int)<(l.length:Nat)
  ·exact ⟨_,by simp only [esc,l1,c0,B2S]<;>rfl⟩
  by_cases c1:(20:Int)<(to.length:Nat)
  ·exact ⟨_,by simp only [esc,l1,l2,c0,c1,B2S]<;>rfl⟩
  obtain ⟨id7,h1,M1,f1,f2,f3,f4⟩:=D5q (u:=u) (n:=n) (q:=100) hvr (by omega) l.length 0 100 (ro h).length (ro h++[some (Row.mk [] true)]) (by omega) (by omega) ((Low.refl (Nat.le_refl _)).new _) (Nat.le_refl _) (by rw [H5];rfl);obtain ⟨K,hK⟩:∃ K,K=h1++[some (Row.mk [] true),some (Row.mk [] true)]:=⟨_,rfl⟩;have b7:=E4 f4;have lK:K.length=h1.length+2:=by rw [hK];simp
  have C8D:Low (ro h).length (ro h) K:=by rw [hK];exact f2.new _
  have rK:rd K (h1.length+1)=some ⟨[],true⟩:=by rw [hK,cG];rfl
  have r9:rd K h1.length=some ⟨[],true⟩:=by rw [hK,H5];rfl
  have r7:rd K id7=some ⟨D7 (l.map H4),true⟩:=by rw [hK];exact B6 f4
  have ho:Out (h1.length+1) K (.c (.sl (h1.length+1) 0 0 1)) 1 0 []:=⟨rfl,h1.length+1,rfl,by omega,rK⟩;obtain ⟨id,v',h2,e1,e2,e3,e4,e5⟩:=ho.app (m:=l.length) (by omega) (hvr.since C8D).add (by rw [A6];omega) (by omega);rw [Nat.zero_add,List.nil_append] at e3;obtain ⟨_,id10,rfl,i1,i2⟩:=e3;have eid:id=h1.length+1:=by cases e1;rfl
  subst eid;have g7:rd h2 id7=some ⟨D7 (l.map H4),true⟩:=e5 _ _ r7 (by omega);have g9:rd h2 h1.length=some ⟨jK (wrF 0 (to.take 0)),true⟩:=e5 _ _ r9 (by omega);have lb:=f2.2.1;have low2:Low (ro h).length (ro h) h2:=⟨C8D.1,by have:=e4.2.1;have:=C8D.2.1;omega,fun j hj=>by rw [e4.2.2 j (by omega)];exact C8D.2.2 j hj⟩;obtain ⟨id9,h3,M3,u1,u2,u3,u4,u5⟩:=D5r (n:=n) (q:=100) (g:=ro h) (id7:=id7) (id10:=id10) hur hvr (by omega) (by omega) (by omega) f3 (by omega) to.length 0 100 h1.length h2 (by omega) (by omega) low2 (by omega) (by omega) (by omega) g7 i2 g9;have okw:okW (wrF 0 to):=C1B.1;have lw:(wrF 0 to).length=to.length:=C1B.2;have hB:Has h3 (.c (.sl id7 0 (l.map H4).length 256)) 256 (l.map H4).length (D7 (l.map H4)):=Has.tr u3 (F7 (A1G _)) (cD _);have hW:Has h3 (.c (.sl id9 0 (wrF 0 to).length 257)) 257 (wrF 0 to).length (jK (wrF 0 to)):=Has.tr u5 (jL okw) (C00 _);have hA:=C2n (n:=n) hB (A1G _) hW okw (by rw [lw];omega) (by rw [List.length_map];omega);rw [B9X,List.length_map,lw] at hA;have c2:¬ ((to.length:Nat):Int)<(to.length:Nat):=by omega
  have c3:¬ ((l.length:Nat):Int)<(l.length:Nat):=by omega
  have hul:=(hur.since u2).len;have hvl:=(hvr.since f2).len;have z:=D5s (q:=100) (h:=h3++[some (Row.mk (D7 ((nF n l 0 to).map H4)) true)]) (w:=nF n l 0 to) (id7:=id7) (id10:=id10) (id12:=h3.length) ((hvr.since u2).more _) (by omega) A6C (B6 u3) (B6 u4) (by rw [H5];rfl) l.length 0 100 (by omega) (by omega);have c00:((0:Nat):Int)=0:=rfl;rw [c00] at f1 u1 z;have ef:C7 [] []=some []:=rfl;refine ⟨h3++[some (Row.mk (D7 ((nF n l 0 to).map H4)) true)],?_⟩;simp only [esc,l1,l2,c0,c1];refine f1.trans ?_;rw [rJ];simp only [esc,Nat.reduceAdd,hvl,c3,ef,<-hK,e2];refine u1.trans ?_;rw [Q2];simp only [esc,Nat.reduceAdd,hul,c2,hA];exact z
 obtain ⟨g',e⟩:=key;exact A4u e rfl
end
end
end Go.Proofs.YteckncopbicmcaaGreat
namespace Go.Proofs.YteckncopbicmcaaGreat
open Go
section
def A6A:List Char:=(([104,97,114,110,101,115,115,32,53,57,51,50,51,57,101,98,53,97,49,50,101,51,52,102,99,48,55,48,99,54,56,49,101,49,48,49,54,57,100,49,54,53,48,49,57,101,48,50,54,101,49,101,51,53,49,102,102,48,99,53,53,51,55,99,101,100,52,54,97,52,54,52,32,99,117,116,32,97,116,32,101,115,99,104,101,97,116,47,101,115,99,104,101,97,116,108,97,119,50,52,46,68,114,101,97,100,76,111,111,107,115,32,101,115,99,104,101,97,116,47,101,115,99,104,101,97,116,108,97,119,50,52,46,68,114,101,97,100,76,105,115,116,115,32,101,115,99,104,101,97,116,47,101,115,99,104,101,97,116,108,97,119,50,53,46,84,114,101,101,84,101,108,108,115,32,101,115,99,104,101,97,116,47,101,115,99,104,101,97,116,108,97,119,52,49,46,67,108,97,105,109,79,102,32,101,115,99,104,101,97,116,47,101,115,99,104,101,97,116,108,97,119,52,49,46,67,108,97,105,109,73,109,97,103,101,32,101,115,99,104,101,97,116,47,101,115,99,104,101,97,116,108,97,119,52,50,46,77,101,110,100,80,108,97,110,115,32,101,115,99,104,101,97,116,47,101,115,99,104,101,97,116,108,97,119,52,50,46,77,101,110,100,67,111,117,110,116,115,32,101,115,99,104,101,97,116,47,101,115,99,104,101,97,116,108,97,119,52,50,46,77,101,110,100,65,112,112,108,105,101,115,32,101,115,99,104,101,97,116,47,101,115,99,104,101,97,116,108,97,119,52,50,46,77,101,110,100,67,117,116,115,32,101,115,99,104,101,97,116,47,101,115,99,104,101,97,116,108,97,119,52,49,46,67,108,97,105,109,82,105,103,104,116,32,101,115,99,104,101,97,116,47,101,115,99,104,101,97,116,108,97,119,52,49,46,67,108,97,105,109,75,101,101,112,115,32,101,115,99,104,101,97,116,47,101,115,99,104,101,97,116,108,97,119,52,50,46,77,101,110,100,87,104,111,108,101]:List Nat).map Char.ofNat)
set_option maxRecDepth 100000
theorem D44:ownKnob Tryz.prog.godebug=none:=by kernel_rfl
theorem D3i:laidOutB Tryz.prog=true:=by kernel_rfl
theorem start_eq:Tryz.prog.initOrder=String.ofList A6A:=by kernel_rfl
theorem C8d:Tryz.prog.initOrder.toList=A6A:=by rw [start_eq,String.toList_ofList]
def startRest:List (List Char):=(([[99,117,116],[97,116],[101,115,99,104,101,97,116,47,101,115,99,104,101,97,116,108,97,119,50,52,46,68,114,101,97,100,76,111,111,107,115],[101,115,99,104,101,97,116,47,101,115,99,104,101,97,116,108,97,119,50,52,46,68,114,101,97,100,76,105,115,116,115],[101,115,99,104,101,97,116,47,101,115,99,104,101,97,116,108,97,119,50,53,46,84,114,101,101,84,101,108,108,115],[101,115,99,104,101,97,116,47,101,115,99,104,101,97,116,108,97,119,52,49,46,67,108,97,105,109,79,102],[101,115,99,104,101,97,116,47,101,115,99,104,101,97,116,108,97,119,52,49,46,67,108,97,105,109,73,109,97,103,101],[101,115,99,104,101,97,116,47,101,115,99,104,101,97,116,108,97,119,52,50,46,77,101,110,100,80,108,97,110,115],[101,115,99,104,101,97,116,47,101,115,99,104,101,97,116,108,97,119,52,50,46,77,101,110,100,67,111,117,110,116,115],[101,115,99,104,101,97,116,47,101,115,99,104,101,97,116,108,97,119,52,50,46,77,101,110,100,65,112,112,108,105,101,115],[101,115,99,104,101,97,116,47,101,115,99,104,101,97,116,108,97,119,52,50,46,77,101,110,100,67,117,116,115],[101,115,99,104,101,97,116,47,101,115,99,104,101,97,116,108,97,119,52,49,46,67,108,97,105,109,82,105,103,104,116],[101,115,99,104,101,97,116,47,101,115,99,104,101,97,116,108,97,119,52,49,46,67,108,97,105,109,75,101,101,112,115],[101,115,99,104,101,97,116,47,101,115,99,104,101,97,116,108,97,119,52,50,46,77,101,110,100,87,104,111,108,101]]:List (List Nat)).map (fun l=>l.map Char.ofNat))
theorem D2p:wordsSigns A6A=(([104,97,114,110,101,115,115]:List Nat).map Char.ofNat)::(([53,57,51,50,51,57,101,98,53,97,49,50,101,51,52,102,99,48,55,48,99,54,56,49,101,49,48,49,54,57,100,49,54,53,48,49,57,101,48,50,54,101,49,101,51,53,49,102,102,48,99,53,53,51,55,99,101,100,52,54,97,52,54,52]:List Nat).map Char.ofNat)::startRest:=by kernel_rfl
theorem D5f:isSumSigns ((([53,57,51,50,51,57,101,98,53,97,49,50,101,51,52,102,99,48,55,48,99,54,56,49,101,49,48,49,54,57,100,49,54,53,48,49,57,101,48,50,54,101,49,101,51,53,49,102,102,48,99,53,53,51,55,99,101,100,52,54,97,52,54,52]:List Nat).map Char.ofNat))=true:=by decide +kernel
theorem C7z : ((([104, 97, 114, 110, 101, 115, 115] : List Nat).map Char.ofNat) == "harness".toList) = true := by decide +kernel
theorem C7j (h s : List Char) (r : List (List Char)) (h1 : (h == "harness".toList) = true) (h2 : isSumSigns s = true) : behindMainWord (h :: s :: r) = r := by
 unfold behindMainWord;simp only [h1,h2,Bool.true_or,Bool.true_and,if_true]
theorem C9g:behindMainWord (wordsSigns A6A)=startRest:=by rw [D2p];exact C7j _ _ _ C7z D5f
theorem start_words:behindMainWord (wordsSigns Tryz.prog.initOrder.toList)=startRest:=by rw [C8d];exact C9g
def D0f:List (List Char):=startRest.drop 1
theorem C44 : startRest = "cut".toList :: D0f := by decide +kernel
theorem D1K {P : Program} {rest : List (List Char)} (h : behindMainWord (wordsSigns P.initOrder.toList) = "cut".toList :: rest) : P.make = some .cut := by
 have e1 : ("cut".toList == "gc".toList) = false := by decide +kernel
 have e2 : ("cut".toList == "spec".toList) = false := by decide +kernel
 have e3 : ("cut".toList == "cut".toList) = true := by decide +kernel
 unfold Program.make;rw [h];simp only [e1,e2,e3,Bool.or_self,Bool.true_or,Bool.false_eq_true,if_false,if_true]
theorem D3n:Tryz.prog.make=some .cut:=D1K (start_words.trans C44)
theorem C1s {w:List Char} {ws:List (List Char)}:∀ os:List String,(os.all fun o=>!(w==o.toList))=true->stripLifts os (w::ws)=([],w::ws)
 | [],_=>rfl
 | o::os,h=>by
  simp only [List.all_cons,Bool.and_eq_true,Bool.not_eq_true'] at h;unfold stripLifts;rw [h.1,if_neg (by simp)];exact C1s os h.2
theorem C3J (rest : List (List Char)) : stripLifts liftWords ("cut".toList :: rest) = ([], "cut".toList :: rest) := C1s _ (by decide +kernel)
theorem D1D:Tryz.prog.laysLater=false:=by kernel_rfl
theorem C73:Tryz.prog.bearsReflect=false:=by kernel_rfl
theorem D28:Tryz.prog.doorFits []=true:=by kernel_rfl
theorem C9q {P : Program} {rest : List (List Char)} (h : behindMainWord (wordsSigns P.initOrder.toList) = "cut".toList :: rest) (h1 : P.laysLater = false) (h2 : P.bearsReflect = false) (h3 : P.doorFits [] = true) : P.mayEnter = true := by
 unfold Program.mayEnter;rw [h];simp only [C3J,h1,h2,h3];simp
theorem C6n:Tryz.prog.mayEnter=true:=C9q (start_words.trans C44) D1D C73 D28
theorem C9J {P : Program} {rest : List (List Char)} (h : behindMainWord (wordsSigns P.initOrder.toList) = "cut".toList :: rest) : P.liftsFinal = false := by
 unfold Program.liftsFinal Program.headLifts;rw [h];simp only [C3J];simp
theorem D1G:Tryz.prog.liftsFinal=false:=C9J (start_words.trans C44)
end
end Go.Proofs.YteckncopbicmcaaGreat
