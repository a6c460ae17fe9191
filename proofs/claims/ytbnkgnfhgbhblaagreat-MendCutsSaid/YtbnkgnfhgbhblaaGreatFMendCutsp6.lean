/- What the proof of this claim leans on, part 6. -/
import Derived.Test.YtbnkgnfhgbhblaaGreatFMendCutsp5
set_option linter.all false
set_option maxRecDepth 100000
open Go Go.Esc
noncomputable section
open Bool renaming and_eq_true→D9v,false_and→D9L,false_eq_true→E0v,not_eq_true'→E0e,not_false→E0E,true_and→D9R,false→A6,true→A5
open Int renaming toNat_natCast→D9N
open IntKind renaming wrap→D9B
open List renaming all_cons→E0j,append_assoc→D9C,append_nil→D9Q,cons_append→D99,drop_eq_getElem_cons→D9E,drop_of_length_le→D9K,drop_zero→D9O,ext_getElem?→E0q,getElem?_drop→E0u,getElem?_eq_getElem→D9u,getElem?_take_of_lt→D97,getElem_mem→D9Y,length_append→D9A,length_cons→D9G,length_drop→E0f,length_filter_le→E0m,length_nil→D95,length_replicate→D9X,length_set→E0c,map_cons→E0d,nil_append→D9U,range→D90,replicate→D9w
open Nat renaming le_refl→D9x,le_trans→D93,zero_add→D9T
open Go.Proofs.Tryz renaming prog→A8
open Option renaming none→A7,some→A4
namespace Go.Proofs.YtbnkgnfhgbhblaaGreat
def dkC (q len:Nat) (w r:Int):List Cell:=[.sl q 0 len 256,o0,.b A6,.b A6,.i .i64 w,.i .i64 r]
structure IsDk (h:A9) (p q:Nat) (D:Dev) (w r:Int):Prop where
 ne:p≠q
 row:rd h p=rT (dkC q D.length w r)
 blk:rd h q=rT (C8 D)
def But (p q:Nat) (h h':A9):Prop:=h.length<=h'.length/\∀ id,id<h.length->id≠p->id≠q->rd h' id=rd h id
def But.refl (p q:Nat) (h:A9):But p q h h:=⟨D9x _,λ_ _ _ _=>rfl⟩
def But.trans {p q:Nat} {h h' h'':A9} (a:But p q h h') (b:But p q h' h''):But p q h h'' :=
 ⟨D93 a.1 b.1,λid hid h1 h2=>(b.2 id (by have:=a.1;omega) h1 h2).trans (a.2 id hid h1 h2)⟩
def But.more {p q:Nat} {h h':A9} (a:But p q h h') (t:A9):But p q h (h'++t) :=
 ⟨by have:=a.1;simp;omega,λid hid h1 h2=>by rw [E2 (by have:=a.1;omega)];exact a.2 id hid h1 h2⟩
def But.set {p q id:Nat} {h h':A9} {x:Option Row} (a:But p q h h') (hid:h.length<=id\/id=p\/id=q):But p q h (h'.set id x) :=
 ⟨by simpa using a.1,λj hj h1 h2=>by rw [B7 (by omega)];exact a.2 j hj h1 h2⟩
def IsDk.more {h:A9} {p q:Nat} {D:Dev} {w r:Int} (k:IsDk h p q D w r) (t:A9):IsDk (h++t) p q D w r:=⟨k.ne,B6 k.row,B6 k.blk⟩
def IsDk.setO {h:A9} {p q id:Nat} {D:Dev} {w r:Int} {x:Option Row} (k:IsDk h p q D w r) (h1:id≠p) (h2:id≠q):IsDk (h.set id x) p q D w r :=
 ⟨k.ne,by rw [B7 h1];exact k.row,by rw [B7 h2];exact k.blk⟩
def IsDk.ro {h:A9} {p q:Nat} {D:Dev} {w r:Int} (k:IsDk h p q D w r):rd (ro h) p=A4 ⟨dkC q D.length w r,A6⟩/\rd (ro h) q=A4 ⟨C8 D,A6⟩:=by
 have e1:(Row.mk (dkC q D.length w r) A5).head=A6:=rfl;refine ⟨B4l k.row e1,B4l k.blk ?_⟩;cases hD:C8 D with
 | nil=>rfl
 | cons c l =>
  have:=T5 D;rw [hD] at this;cases c<;>first | rfl | (simp [noX,Cell.isX] at this)
def C6c {N:Nat} {h:A9} (h1:16<=N) (h2:N<=512):B1f [iV (N:Int)] h=A4 (pV (h.length+1) 0,h++[rT (C8 (D9w N (zeros 256))),rT (dkC h.length N 0 0)]):=by
 refine C1R (n:=0) ?_;have m1:A90 (iV (N:Int)) (iV 512)=A4 (iV (N:Int)):=by simp only [A90];simp;omega
 have m2:B8k (iV 16) (iV (N:Int))=A4 (iV (N:Int)):=by simp only [B8k];simp;omega
 have mk:=D2i (N:=N) (by omega);have ef:E7 [.ns,o0,.b A6,.b A6,o0,o0] [(0,1,sV h.length 0 N 256)]=A4 (dkC h.length N 0 0):=rfl;rw [C1K];simp only [esc,m1,m2,mk,ef,C7o]
section
variable {h:A9} {p q:Nat} {D:Dev} {w r:Int}
def B3t (k:IsDk h p q D w r):kC [pV p 0] h=A4 (iV (D.length:Nat),h):=by
 have l0:B8 (ro h) (pV p 0)=A4 (sV q 0 D.length 256):=B9 k.ro.1 rfl rfl;have key:sS 0 [pV p 0] (ro h)=A4 (iV (D.length:Nat),ro h):=by
  rw [A9O];simp only [esc,l0]
 exact A6F key rfl
def B7g {no:Nat} (k:IsDk h p q D w r) (aK:no<D.length):V7 [pV p 0,iV (no:Int)] h=A4 (iV 0,h):=by
 have l0:B8 (ro h) (pV p 0)=A4 (sV q 0 D.length 256):=B9 k.ro.1 rfl rfl;have l3:B8 (ro h) (pV p 3)=A4 (bV A6):=B9 k.ro.1 rfl rfl;have c0:¬ (no:Int)<0:=by omega
 have c1:¬ (no:Int)>=(D.length:Nat):=by omega
 have key:wJ 0 [pV p 0,iV (no:Int)] (ro h)=A4 (iV 0,ro h):=by
  rw [B05];simp only [esc,l0,l3,c0,c1]
 exact A7F key rfl
def B8o {a b:Nat} (k:IsDk h p q D w r) (ha:rd h a=rT [o0]) (hb:rd h b=rT [.p p 0]) (hw:0<=w/\w<1000) :
  N2 [pV a 0,pV b 0] h=A4 (.t [],h.set p (rT (dkC q D.length (w+1) r))):=by
 refine A48 (n:=0) ?_;have l1:B8 h (pV a 0)=A4 (iV 0):=B9 ha rfl rfl;have l2:B8 h (pV b 0)=A4 (pV p 0):=B9 hb rfl rfl;have l3:B8 h (pV p 4)=A4 (iV w):=B9 k.row rfl rfl;have s1:H1 h (pV p 4) (iV (w+1))=A4 (h.set p (rT (dkC q D.length (w+1) r))):=by rw [I3 k.row (by simp [dkC])];rfl
 have ww:D9B .i64 (w+1)=w+1:=wrap_i64 (by omega) (by omega);rw [A4K];simp only [esc,l1,l2,l3,ww,s1];rfl
def A2X {no:Nat} {b:List UInt8} (k:IsDk h p q D w r) (hD:okD D) (hb:b.length=256) (aK:no<D.length) (hw:0<=w/\w<1000) :
  ∃ h',pS [pV p 0,iV (no:Int),.a (B4 b)] h=A4 (iV 0,h')/\IsDk h' p q (D.set no b) (w+1) r/\But p q h h':=by
 have kp:=D7 k.row;have kq:=D7 k.blk;obtain ⟨G,hG⟩:∃ G,G=h++[rT [.p p 0],rT (B4 b),rT [o0]]:=⟨_,rfl⟩;have kG:IsDk G p q D w r:=by rw [hG];exact k.more _
 have lG:G.length=h.length+3:=by rw [hG];simp
 have r0:rd G h.length=rT [.p p 0]:=by rw [hG,I1];rfl
 have r1:rd G (h.length+1)=rT (B4 b):=by rw [hG,dW];rfl
 have r2:rd G (h.length+2)=rT [o0]:=by rw [hG,dW];rfl
 have hm:=B7g kG aK;have l0:B8 G (pV h.length 0)=A4 (pV p 0):=B9 r0 rfl rfl;have lb:D3 G 256 (pV (h.length+1) 0)=A4 (.a (B4 b)):=C9 r1 (by rw [B5,hb]);have l2:B8 G (pV (h.length+2) 0)=A4 (iV 0):=B9 r2 rfl rfl;have s2:H1 G (pV (h.length+2) 0) (iV 0)=A4 G:=by
  rw [I3 r2 (by simp),hG];simp
 have d0:B8 G (pV p 0)=A4 (sV q 0 D.length 256):=B9 kG.row rfl rfl;have d2:B8 G (pV p 2)=A4 (bV A6):=B9 kG.row rfl rfl;have ad:E5 256 (sV q 0 D.length 256) (iV (no:Int))=A4 (pV q (no*256)):=by rw [D8 aK];simp
 have sd:E9 G 256 (pV q (no*256)) (.a (B4 b))=A4 (G.set q (rT (C8 (D.set no b)))):=zX kG.blk hD hb aK;obtain ⟨H,hH⟩:∃ H,H=G.set q (rT (C8 (D.set no b))):=⟨_,rfl⟩;have kH:IsDk H p q (D.set no b) w r:=by
  rw [hH];refine ⟨k.ne,?_,?_⟩
  ·rw [B7 (Ne.symm k.ne),E0c];exact kG.row
  ·rw [D1 (by omega)]
 have q0:rd H h.length=rT [.p p 0]:=by rw [hH,B7 (by omega)];exact r0
 have q2:rd H (h.length+2)=rT [o0]:=by rw [hH,B7 (by omega)];exact r2
 have s3:H1 H (pV (h.length+2) 0) (iV 0)=A4 H:=by
  rw [I3 q2 (by simp)];have:H.set (h.length+2) (rT ([o0].set 0 o0))=H:=by
   rw [rd_some] at q2;refine E0q λi=>?_
   rw [List.getElem?_set];split
   ·rename_i e;subst e;have hl:=(List.getElem?_eq_some_iff.1 q2).1;rw [if_pos hl,q2];rfl
   ·rfl
  rw [this]
 have hW:=B8o kH q2 q0 hw;have hcd:B3n N2 (.c (.f 239 [(h.length+2,0),(h.length,0)])) H=A4 (.t [],H.set p (rT (dkC q (D.set no b).length (w+1) r))):=hW;have l4:B8 (H.set p (rT (dkC q (D.set no b).length (w+1) r))) (pV (h.length+2) 0)=A4 (iV 0):=B9 (by rw [B7 (by omega)];exact q2) rfl rfl;refine ⟨H.set p (rT (dkC q (D.set no b).length (w+1) r)),?_,⟨k.ne,?_,?_⟩,?_⟩
 ·rw [A7D];have e1:cells? (pV p 0)=A4 [.p p 0]:=rfl;have e2:cells? (.a (B4 b))=A4 (B4 b):=rfl;have mf:A70 239 [pV (h.length+2) 0,pV h.length 0]=A4 (.c (.f 239 [(h.length+2,0),(h.length,0)])):=rfl;simp only [e1,e2,E4,D9C,D99,D9U,D9A,D9G,D95,D9T,Nat.reduceAdd,<-hG];simp only [esc,l0,hm,s2,l2,mf,d0,d2,lb,ad,sd,<-hH,s3,hcd,l4]
 ·rw [D1 (by rw [hH];simp;omega)]
 ·rw [B7 k.ne];exact kH.blk
 ·refine But.set ?_ (.inr (.inl rfl));rw [hH];refine But.set ?_ (.inr (.inr rfl));rw [hG];exact (But.refl p q h).more _
def C4q {no:Nat} (k:IsDk h p q D w r) (hD:okD D) (aK:no<D.length) (hr:0<=r/\r<1000) :
  ∃ h',sW [pV p 0,iV (no:Int)] h=A4 (.t [.a (B4 D[no]),.c o0],h')/\IsDk h' p q D w (r+1)/\But p q h h':=by
 have kp:=D7 k.row;have kq:=D7 k.blk;obtain ⟨G,hG⟩:∃ G,G=h++[rT [.p p 0],rT (B4 (zeros 256))]:=⟨_,rfl⟩;have kG:IsDk G p q D w r:=by rw [hG];exact k.more _
 have lG:G.length=h.length+2:=by rw [hG];simp
 have r0:rd G h.length=rT [.p p 0]:=by rw [hG,I1];rfl
 have r1:rd G (h.length+1)=rT (B4 (zeros 256)):=by rw [hG,dW];rfl
 have hm:=B7g kG aK;have l0:B8 G (pV h.length 0)=A4 (pV p 0):=B9 r0 rfl rfl;have d0:B8 G (pV p 0)=A4 (sV q 0 D.length 256):=B9 kG.row rfl rfl;have ad:E5 256 (sV q 0 D.length 256) (iV (no:Int))=A4 (pV q (no*256)):=by rw [D8 aK];simp
 have ld:D3 G 256 (pV q (no*256))=A4 (.a (B4 D[no])):=by
  rw [T2 kG.blk (by rw [F0 hD];omega) rfl,kE hD aK]
 have sb:E9 G 256 (pV (h.length+1) 0) (.a (B4 D[no]))=A4 (G.set (h.length+1) (rT (B4 D[no]))):=storeAll r1 (by rw [B5,zeros_length]) (by rw [B5,hD.at aK]);obtain ⟨H,hH⟩:∃ H,H=G.set (h.length+1) (rT (B4 D[no])):=⟨_,rfl⟩;have kH:IsDk H p q D w r:=by rw [hH];exact kG.setO (by omega) (by omega)
 have q0:rd H h.length=rT [.p p 0]:=by rw [hH,B7 (by omega)];exact r0
 have q1:rd H (h.length+1)=rT (B4 D[no]):=by rw [hH,D1 (by omega)]
 have ww:D9B .i64 (r+1)=r+1:=wrap_i64 (by omega) (by omega);have h1:T3 [pV h.length 0] H=A4 (.t [],H.set p (rT (dkC q D.length w (r+1)))):=by
  refine A6E (n:=0) ?_;have l1:B8 H (pV h.length 0)=A4 (pV p 0):=B9 q0 rfl rfl;have l3:B8 H (pV p 5)=A4 (iV r):=B9 kH.row rfl rfl;have s1:H1 H (pV p 5) (iV (r+1))=A4 (H.set p (rT (dkC q D.length w (r+1)))):=by rw [I3 kH.row (by simp [dkC])];rfl
  rw [A6C];simp only [esc,l1,l3,ww,s1];rfl
 have hcd:B3n T3 (.c (.f 240 [(h.length,0)])) H=A4 (.t [],H.set p (rT (dkC q D.length w (r+1)))):=h1;have l4:D3 (H.set p (rT (dkC q D.length w (r+1)))) 256 (pV (h.length+1) 0)=A4 (.a (B4 D[no])):=C9 (by rw [B7 (by omega)];exact q1) (by rw [B5,hD.at aK]);refine ⟨H.set p (rT (dkC q D.length w (r+1))),?_,⟨k.ne,?_,?_⟩,?_⟩
 ·rw [A9T];have e1:cells? (pV p 0)=A4 [.p p 0]:=rfl;have mf:A70 240 [pV h.length 0]=A4 (.c (.f 240 [(h.length,0)])):=rfl;have ez:D9w 256 (Cell.i .u8 0)=B4 (zeros 256):=F7 256;simp only [e1,ez,E4,D9C,D99,D9U,D9A,D9G,D95,D9T,<-hG];simp only [esc,l0,hm,mf,d0,ad,ld,sb,<-hH,hcd,l4,C99]
 ·rw [D1 (by rw [hH];simp;omega)]
 ·rw [B7 k.ne];exact kH.blk
 ·refine But.set ?_ (.inr (.inl rfl));rw [hH];refine But.set ?_ (.inl (by omega));rw [hG];exact (But.refl p q h).more _
def C16 (k:IsDk h p q D w r) (hD:okD D) (hl:D.length<=512):pR [pV p 0] h=A4 (sV h.length 0 D.length 256,h++[rT (C8 D)]):=by
 obtain ⟨G,hG⟩:∃ G,G=ro h++[rT [],rT []]:=⟨_,rfl⟩;have d0:B8 G (pV p 0)=A4 (sV q 0 D.length 256):=by rw [hG];exact B9 (B6 k.ro.1) rfl rfl
 have hQ:Has G (sV q 0 D.length 256) 256 D.length (C8 D):=by
  rw [hG];exact Has.row (B6 k.ro.2) (F0 hD) (T5 D)
 have rI:rd G ((ro h).length+1)=rT []:=by rw [hG,dW];rfl
 have ho:Out (ro h).length G (sV ((ro h).length+1) 0 0 256) 256 0 []:=⟨rfl,(ro h).length+1,rfl,by omega,rI⟩;obtain ⟨id,v',h',e1,e2,e3,_⟩:=ho.app (m:=D.length) (by omega) hQ.add (by rw [F0 hD]) (by omega);have key:pK 0 [pV p 0] (ro h)=A4 (v',h'):=by
  rw [A7a];have ef:E7 [] []=A4 []:=rfl;simp only [D9C,D99,D9U,D9A,D9G,D95,D9T,ef,E4,<-hG];simp only [esc,d0,e2]
 rw [D9T,D9U] at e3;exact A6D key (by rw [G5] at e3;exact e3) bL
end
section
variable (n m m2:Nat) (a0:Val) (h:A9)
def A1e:FD A8:=⟨px 0X118f2003a238138750502012b20140062240386121942032b201042,[.c .np],[.eqN A6 A6 (.t 3),.mkMap,.build ([.np,.nm,.ns,o0]) [(0,1,(.t 5)),(1,1,(.t 6))]],[.tmp 2],[]⟩
def B6G:=A1e.R
def B8V:=mR B6G A1e (tT []) n [a0] h
def B6t:=A1e.K Tryz.func207
def A7z:=A1e.Q
def B9n:SOk A8 207 A7z:=B6t.ok
def B9m:OfT B6G A7z:=B6t.of
end
section
variable (n m m2:Nat) (a0 a1 x0 x3 x5 x7 x8:Val) (h:A9)
def T8:FD A8:=⟨px 0X17ff400143535f4881877d0402017cf401cc121900001722410321c87a021ef4279f1a00181a3532017301633f31802376c050192d434101934af7050026c490318016bf401ac12190000003722410321a869021cd4268f19004635319e488187f17152b446200198488611a280185b2c5af4f0014343513511191033b3b188488581c7182406225002023784b0419d42011a1c181b168421541307024061201336e3185c3d041894203006053cf705002023b5c31f421b2101d301194015c000017224063210405a5011372e040196d431b2101d30154014a00001722401b6191034c1a3a4c701038728065b423131ff11ef248861c51b11828061e2c1df1b001032a31c1c181d1b18211432e270182,[],[.eqN A6 A6 (.t 16)],[.tmp 4],[E1 A1I A65,E1 kC sQ,E1 sY zZ,E1 oC A1s,E1 pZ A4C,cal A7E,E1 A5c B03,E1 yL A4u]⟩
def A7o:=T8.R
def B8C:AtH:=T8.lj 0 n [m] [x0,x3,x5,x7]
def B8B:AtH:=T8.lj 1 n [m] [x0,x3,x5,x7,x8]
def A0A:=tT [⟨2,4,B8C⟩,⟨2,5,B8B⟩]
def B2F:=mR A7o T8 A0A n [a0,a1] h
def A05:=mL T8 A0A 0 n [m] [x0,x3,x5,x7] h
def B2a:=mJ T8 A0A 1 n [m] [x0,x3,x5,x7,x8] h
def A63:=T8.K Tryz.func155
def A0x:=T8.Q
def B23:OfT A7o A0x:=A63.of
def uI:FD A8:=⟨px 0X1114cf2003a2384101986e318013373f0411903016d12b2027500001b22401b1c19063681a2012682f76870681e04e681f0110324a2e070197d431132df502cf2362a61b11828062c2c2bf29001133c4882a1c181d1b6001e20128f12b202e1375000011b22410322a1e023f01822131df11cf248861c41b11828061c2c1bf1901020371a0181b196001e201512b20275001a2240387702294203112b202042,[.c .np],[.eqN A6 A6 (.t 7),.mkMap,.build ([.np,o0,o0,.i .u64 0,o0,.nm]) [(0,1,(.t 32)),(1,3,(.t 33)),(5,1,(.t 34))]],[.tmp 2,.tmp 3],[cal A9U,E1 A1H A64,E1 kC sQ,cal B9n]⟩
def B0m:=uI.R
def B45:=mR B0m uI (tT []) n [a0] h
def B0i:=uI.K Tryz.func156
def A2Q:=uI.Q
def B5u:OfT B0m A2Q:=B0i.of
end
section
variable (n m m2:Nat) (a0:Val) (h:A9)
def xY:FD A8:=⟨px 0X12df12cf20481482c0465001a22bf12af5011828062a2c29f1f001233828071b19001a2012b11ef202c1375001a2241032042132c3181c1a043b4201319f4001030401c72b419422b12b103a3342,[.c .np],[],[.tmp 2,.tmp 3],[lM B1f B8Q,lM A0x A63,lM A2Q B0i]⟩
def B2x:=xY.R
def B7P:=mR B2x xY (tT []) n [a0] h
def A4v:=xY.K Tryz.func83
def yM:=xY.Q
def B8a:SOk A8 83 yM:=A4v.ok
def B79:OfT B2x yM:=A4v.of
end
section
variable (n m m2:Nat) (h:A9)
def A4r:FD A8:=⟨px 0X1203649111891022a3b2022a01b1042,[],[],[.cellN 0 3],[]⟩
def B06:=A4r.R
def C1L:=mR B06 A4r (tT []) n [] h
def B8R:=A4r.K Tryz.func39
def B1h:=A4r.S
def B8b:G3 B06 B1h:=B8R.flat
end
section
variable (n m m2:Nat) (a0:Val) (h:A9)
def jU:FD A8:=⟨px 0X11bf2001131e1a03405219f118f301182806182c7f5001031a361c770524884a03a2342,[],[],[.tmp 2],[lM yM A4v,E1 pR A1r]⟩
def sT:=jU.R
def A9P:=mR sT jU (tT []) n [a0] h
def A3m:=jU.K Tryz.func38
def sX:=jU.S
def A7G:A4D sT sX:=A3m.out
end
def map40:List UInt8:=jG [0,1,2]
def tab40:List UInt8:=G0 (zeros 256) (32*0) (Z6 2 1 0 1 (zI 7))
def D40a:Dev:=(D9w 16 (zeros 256)).set 2 tab40
def D40b:Dev:=D40a.set 1 map40
def D40:Dev:=D40b.set 0 (oW 16 8 0)
def zH:map40.length=256:=by unfold map40 jG;rw [eX,zeros_length]
def zJ:tab40.length=256:=by decide +kernel
def okD40a:okD D40a:=(B6b 16).set zJ
def okD40b:okD D40b:=okD40a.set zH
def okD40:okD D40:=okD40b.set Y8
def D5l:D40a.length=16:=by unfold D40a;rw [E0c,D9X]
def D5m:D40b.length=16:=by unfold D40b;rw [E0c,D5l]
def A24:D40.length=16:=by unfold D40;rw [E0c,D5m]
def C3z {h t:A9} {v:Val} (hn:t.all B0P=A5):quiet h (A4 (v,h++t))=A4 (v,h++t):=by
 have:=C3A (g:=h) (l:=[]) (l':=t) (v:=v) (List.nil_prefix) (by simpa using hn);simpa using this
def D3q (h:A9):B1h [] h=A4 (.a (J8 16 8 0),h):=by
 have key:∀ g,∃ g',B06 0 [] g=A4 (.a (J8 16 8 0),g'):=λg=>by
  have ef:E7 [o0,o0,.i .u64 0] [(0,1,iV 16),(1,1,iV 8)]=A4 (J8 16 8 0):=rfl;have st:E9 (g++[rT [o0,o0,.i .u64 0]]) 3 (pV g.length 0) (.a (J8 16 8 0))=A4 (g++[rT (J8 16 8 0)]):=by rw [F8];rfl
  have ll:ldN (rT (J8 16 8 0)) 0 3=A4 (.a (J8 16 8 0)):=rfl;rw [C1L];generalize J8 16 8 0=L at *;exact ⟨_,by simp only [esc,ef,st,G6,ll]<;>rfl⟩
 obtain ⟨g',e⟩:=key (ro h);exact B8b e rfl
def B8A {p q:Nat} {h:A9} (k:IsDk h p q (D9w 16 (zeros 256)) 0 0) :
  ∃ h',A0x [pV p 0,.a (J8 16 8 0)] h=A4 (iV 0,h')/\IsDk h' p q D40 3 0/\But p q h h':=by
 have kp:=D7 k.row;have kq:=D7 k.blk;have hm:P5 16 8=A5:=by decide
 have hp:=λh=>B4u (b:=16) (n:=8) (m:=0) (h:=h) (by omega) (by omega)
 simp only [hm,cond_true] at hp;have D7O:∀ h,oC [.a (J8 16 8 0)] h=A4 (iV 3,h):=λh=>zB
 have A0R:=λh=>B7k (b:=16) (n:=8) (m:=0) (h:=h)
 have ed:(eV 16 8).toNat=3:=by decide
 rw [ed] at A0R;have hT:∀ h,pZ [.a (B4 (zeros 256)),iV 0,.a (D4 2 1 0 1 (zI 7))] h=A4 (.t [.a (B4 tab40),.c o0],h):=λh=>B0X (j:=0) (k:=2) (l:=1) (s:=0) (p:=1) (d:=zI 7) (b:=zeros 256) (h:=h) zeros_length rfl (by omega) (by decide)
 obtain ⟨G,hG⟩:∃ G,G=h++[rT (J8 16 8 0),rT (B4 (oW 16 8 0))]:=⟨_,rfl⟩;have lG:G.length=h.length+2:=by rw [hG];simp
 have kG:IsDk G p q (D9w 16 (zeros 256)) 0 0:=by rw [hG];exact k.more _
 have r0:rd G h.length=rT (J8 16 8 0):=by rw [hG,I1];rfl
 have r1:rd G (h.length+1)=rT (B4 (oW 16 8 0)):=by rw [hG,dW];rfl
 obtain ⟨h1,w1,k1,b1⟩:=A2X (no:=2) (b:=tab40) (kG.more [rT (B4 tab40)]) (B6b 16) zJ (by simp) (by omega);have x1:rd h1 h.length=rT (J8 16 8 0):=by rw [b1.2 _ (by simp;omega) (by omega) (by omega)];exact B6 r0
 have y1:rd h1 (h.length+1)=rT (B4 (oW 16 8 0)):=by rw [b1.2 _ (by simp;omega) (by omega) (by omega)];exact B6 r1
 have lh1:=b1.1;rw [D9A] at lh1;have kO:=k1.more [rT (encI (upto 3))];obtain ⟨h2,w2,k2,b2⟩:=A2X (no:=1) (b:=map40) kO okD40a zH (by simp) (by omega);have y2:rd h2 (h.length+1)=rT (B4 (oW 16 8 0)):=by rw [b2.2 _ (by simp;omega) (by omega) (by omega)];exact B6 y1
 have lh2:=b2.1;rw [D9A] at lh2;obtain ⟨h3,w3,k3,b3⟩:=A2X (no:=0) (b:=oW 16 8 0) k2 okD40b Y8 (by simp) (by omega);have hC:=B0w (v:=sV h1.length 0 3 1) (nv:=3) (l:=[0,1,2]) (h:=h1++[rT (encI (upto 3))]) (by decide) (by decide) (Has.tr (cs:=encI (upto 3)) (by simp) rfl rfl);have eC:jG [0,1,2]=map40:=rfl;rw [eC] at hC;refine ⟨h3,?_,k3,?_⟩
 ·refine B23 (n:=9) ?_;have hSz:=B3t kG;have lR:((D9w 16 (zeros 256)).length:Int)=16:=rfl;rw [lR] at hSz;have eS:E9 (h++[rT (J8 16 8 0),rT (B4 (zeros 256))]) 256 (pV (h.length+1) 0) (.a (B4 (oW 16 8 0)))=A4 G:=by
   rw [storeAll (cs:=B4 (zeros 256)) (by rw [dW];rfl) (by rw [B5,zeros_length]) (by rw [B5,Y8]),hG,A5R];rfl
  have l3:D3 (h++[rT (J8 16 8 0)]) 3 (pV h.length 0)=A4 (.a (J8 16 8 0)):=by rw [G6];rfl
  have g0:B8 G (pV h.length 0)=A4 (iV 16):=B9 r0 rfl rfl;have g3:D3 G 3 (pV h.length 0)=A4 (.a (J8 16 8 0)):=C9 r0 rfl;have ef:E7 [o0,o0,o0,o0,o0,o0,o0,o0,o0,o0,o0] [(0,1,iV 2),(1,1,iV 1),(3,1,iV 1)]=A4 (D4 2 1 0 1 (zI 7)):=rfl;have lz:D3 (G++[rT (B4 (zeros 256))]) 256 (pV G.length 0)=A4 (.a (B4 (zeros 256))):=C9 (by rw [I1];rfl) (by rw [B5,zeros_length]);have sz:E9 (G++[rT (B4 (zeros 256))]) 256 (pV G.length 0) (.a (B4 tab40))=A4 (G++[rT (B4 tab40)]):=by
   rw [storeAll (cs:=B4 (zeros 256)) (by rw [I1];rfl) (by rw [B5,zeros_length]) (by rw [B5,zJ]),nC];rfl
  have lt:D3 (G++[rT (B4 tab40)]) 256 (pV G.length 0)=A4 (.a (B4 tab40)):=C9 (by rw [I1];rfl) (by rw [B5,zJ]);have h13:D3 h1 3 (pV h.length 0)=A4 (.a (J8 16 8 0)):=C9 x1 rfl;have h26:D3 h2 256 (pV (h.length+1) 0)=A4 (.a (B4 (oW 16 8 0))):=C9 y2 (by rw [B5,Y8]);have cl:cells? (.a (J8 16 8 0))=A4 (J8 16 8 0):=rfl;have c2:((2:Nat):Int)=2:=rfl;have c1:((1:Nat):Int)=1:=rfl;have c0:((0:Nat):Int)=0:=rfl;rw [c2] at w1;rw [c1] at w2;rw [c0] at w3;have wr2:D9B .i64 (1+1)=2:=rfl;have wr3:D9B .i64 (2+1)=3:=rfl;have l23:(2:Int)<3:=by decide
  have l33:¬ (3:Int)<3:=by decide
  have e4:G++[rT (B4 (zeros 256))]=G++[rT (B4 (zeros 256))]:=rfl;rw [B2F,F7];generalize B4 tab40=T at *;generalize B4 map40=M at *;generalize B4 (oW 16 8 0)=S at *;generalize hZ:B4 (zeros 256)=Z at *;generalize encI (upto 3)=U at *;generalize D4 2 1 0 1 (zI 7)=I at *;generalize J8 16 8 0=L at *;simp only [esc,cl,l3,hp,eS,hSz,g0,oM,wr2];rw [A05,F7,hZ];simp only [esc,g3,D7O,l23,oM,wr2,lz,ef,hT,sz,lt,B2a,w1,wr3];rw [A05,F7,hZ];have hq:=C3z (h:=h1) (t:=[rT U]) (v:=sV h1.length 0 3 1) rfl;simp only [esc,h13,D7O,l33,oM,A0R,hq,hC,w2,h26,w3]
 ·refine But.trans (h':=h1) ?_ (But.trans (h':=h2) ?_ b3)
  ·refine But.trans (h':=G++[rT (B4 tab40)]) ?_ b1;rw [hG];exact ((But.refl p q h).more _).more _
  ·refine But.trans (h':=h1++[rT (encI (upto 3))]) ((But.refl p q h1).more _) b2
def D78:okS (oW 16 8 0)=A5:=by decide +kernel
def D67:C4K (oW 16 8 0)=J8 16 8 0:=by decide +kernel
def C1q {p q:Nat} {h:A9} (k:IsDk h p q D40 3 0) :
  ∃ v h',A2Q [.c (.p p 0)] h=A4 (.t [.c v,.c o0],h')/\IsDk h' p q D40 3 1:=by
 obtain ⟨h1,e1,k1,b1⟩:=C4q (no:=0) k okD40 (by rw [A24];omega) (by omega);have kp:=D7 k1.row;have kq:=D7 k1.blk;have e0:D40[0]'(by rw [A24];omega)=oW 16 8 0:=by unfold D40;rw [List.getElem_set_self]
 rw [e0] at e1;have hG:=λh=>A5W (b:=oW 16 8 0) (h:=h) Y8
 rw [D78,cond_true,D67] at hG;have c0:((0:Nat):Int)=0:=rfl;rw [c0] at e1;obtain ⟨T,hT⟩:∃ T:A9,T=[rT (B4 (oW 16 8 0)),rT (J8 16 8 0)]:=⟨_,rfl⟩;obtain ⟨H,hH⟩:∃ H,H=h1++T:=⟨_,rfl⟩;have kH:IsDk H p q D40 3 (0+1):=by rw [hH];exact k1.more _
 have hS:=B3t kH;have e16:(D40.length:Int)=16:=by rw [A24];rfl
 rw [e16] at hS;have hN:∀ g,A7z [.c (.p p 0)] g=A4 (.c (.p (g.length+1) 0),g++[A4 (K8 []),rT [.p p 0,.m g.length,.ns,o0]]):=λg=>by
  refine B9m (n:=0) ?_;have ef:E7 [Cell.np,.nm,.ns,o0] [(0,1,.c (.p p 0)),(1,1,.c (.m g.length))]=A4 [.p p 0,.m g.length,.ns,o0]:=rfl;rw [B8V];simp only [esc,ef]
 have s1:E9 (h1++[rT (B4 (zeros 256))]) 256 (.c (.p h1.length 0)) (.a (B4 (oW 16 8 0)))=A4 (h1++[rT (B4 (oW 16 8 0))]):=by
  rw [storeAll (cs:=B4 (zeros 256)) (by rw [I1];rfl) (by rw [B5,zeros_length]) (by rw [B5,Y8]),nC];rfl
 have l1:D3 (h1++[rT (B4 (oW 16 8 0))]) 256 (.c (.p h1.length 0))=A4 (.a (B4 (oW 16 8 0))):=C9 (by rw [I1];rfl) (by rw [B5,Y8]);have s2:E9 (h1++[rT (B4 (oW 16 8 0)),rT [o0,o0,.i .u64 0]]) 3 (.c (.p (h1.length+1) 0)) (.a (J8 16 8 0))=A4 H:=by
  rw [storeAll (n:=3) (cs:=[o0,o0,.i .u64 0]) (by rw [dW];rfl) rfl rfl,A5R,hH,hT];rfl
 have l2:B8 H (.c (.p (h1.length+1) 0))=A4 (.c (.i .i64 16)):=B9 (cs:=J8 16 8 0) (rw:=A5) (by rw [hH,hT,dW];rfl) rfl rfl;have l3:D3 H 3 (.c (.p (h1.length+1) 0))=A4 (.a (J8 16 8 0)):=C9 (by rw [hH,hT,dW];rfl) rfl;obtain ⟨H2,hH2⟩:∃ H2,H2=(H++[A4 (K8 []),A4 (K8 []),rT [.p p 0,.m (H.length+1),.ns,o0]])++[rT [.p (H.length+2) 0,.i .i64 16,.i .i64 8,.i .u64 0,o0,.m H.length]]:=⟨_,rfl⟩;refine ⟨.p (H.length+3) 0,H2,?_,by rw [hH2];exact (kH.more _).more _⟩
 ·refine B5u (n:=0) ?_;have hNH:=hN (H++[A7]);have qs:(H++[A7]).length+1=H.length+2:=by simp
  rw [qs] at hNH;have ef:E7 [Cell.np,o0,o0,.i .u64 0,o0,.nm] [(0,1,.c (.p (H.length+2) 0)),(1,3,.a (J8 16 8 0)),(5,1,.c (.m H.length))]=A4 [.p (H.length+2) 0,.i .i64 16,.i .i64 8,.i .u64 0,o0,.m H.length]:=rfl;rw [B45,F7];generalize B4 (oW 16 8 0)=S at *;generalize hZ:B4 (zeros 256)=Z at *;generalize J8 16 8 0=L at *;simp only [esc,e1,s1,l1,hG,s2,l2,hS,eq_self];have hq:=C3z (h:=H++[A7]) (t:=[A4 (K8 []),rT [.p p 0,.m (H++[A7]).length,.ns,o0]]) (v:=.c (.p (H.length+2) 0)) (by simp [C0V,C3r]);simp only [D9A,D9G,D95,D9T] at hq hNH;simp only [esc] at hq hNH;simp only [esc,Nat.reduceAdd,hNH,hq,l3,ef,nC,A5R,hH2]
def C72 {h:A9}:∃ p q v h',yM [.a (J8 16 8 0)] h=A4 (.t [.c (.p p 0),.c v],h')/\IsDk h' p q D40 3 1/\h.length<=q/\h.length<=p:=by
 obtain ⟨G,hG⟩:∃ G,G=h++[rT (J8 16 8 0)]:=⟨_,rfl⟩;have lG:G.length=h.length+1:=by rw [hG];simp
 have hN:=C6c (N:=16) (h:=G) (by omega) (by omega);obtain ⟨H,hH⟩:∃ H,H=G++[rT (C8 (D9w 16 (zeros 256))),rT (dkC G.length 16 0 0)]:=⟨_,rfl⟩;rw [<-hH] at hN;have kH:IsDk H (G.length+1) G.length (D9w 16 (zeros 256)) 0 0:=by
  refine ⟨by omega,?_,?_⟩
  ·rw [hH,dW];rfl
  ·rw [hH,I1];rfl
 obtain ⟨h1,e1,k1,b1⟩:=B8A kH;obtain ⟨v,h2,e2,k2⟩:=C1q k1;refine ⟨G.length+1,G.length,v,h2,?_,k2,by omega,by omega⟩;refine B79 (n:=0) ?_;have l0:B8 G (pV h.length 0)=A4 (iV 16):=B9 (cs:=J8 16 8 0) (rw:=A5) (by rw [hG,I1];rfl) rfl rfl;have l3:D3 H 3 (pV h.length 0)=A4 (.a (J8 16 8 0)):=C9 (by rw [hH];refine B6 ?_;rw [hG,I1];rfl) rfl;have cl:cells? (.a (J8 16 8 0))=A4 (J8 16 8 0):=rfl;have c16:((16:Nat):Int)=16:=rfl;rw [c16] at hN;rw [B7P];generalize J8 16 8 0=L at *;simp only [esc,cl,<-hG,l0,hN,l3,e1,eq_self,e2]
def C4u (h:A9):sX [.a (J8 16 8 0)] h=A4 (sV h.length 0 16 256,h++[rT (C8 D40)]):=by
 have key:∀ g,∃ v g',sT 0 [.a (J8 16 8 0)] g=A4 (v,g')/\Out g.length g' v 256 16 (C8 D40):=λg=>by
  obtain ⟨G,hG⟩:∃ G,G=g++[rT (J8 16 8 0),rT []]:=⟨_,rfl⟩;have lG:G.length=g.length+2:=by rw [hG];simp
  obtain ⟨p,q,v,h',e1,k,_,_⟩:=C72 (h:=G);have hI:=C16 k okD40 (by rw [A24];omega);have l3:D3 G 3 (pV g.length 0)=A4 (.a (J8 16 8 0)):=C9 (by rw [hG,I1];rfl) rfl;have cl:cells? (.a (J8 16 8 0))=A4 (J8 16 8 0):=rfl;have hl:G.length<=h'.length:=(B8a _ _ _ _ e1).2.2;refine ⟨sV h'.length 0 16 256,h'++[rT (C8 D40)],?_,by rw [F0 okD40,A24],h'.length,rfl,by omega,O8⟩;have ll:D40.length=16:=A24;rw [ll] at hI;rw [A9P];generalize J8 16 8 0=L at *;simp only [esc,cl,<-hG,l3,e1,hI]
 obtain ⟨v,g',e,ho⟩:=key (ro h);exact A7G e (by rw [G5] at ho;exact ho) bL
def D6z:A5w D40=A5:=by decide +kernel
def D6A:yX D40=8:=by decide +kernel
section
variable (n m m2:Nat) (h:A9)
def xZ:FD A8:=⟨px 0X118bf003018191d021ff1a0141ff2f6f181ff3c0130181901ed4e1d1751023a1ed6d6f181ed3c01306191021dd1a7f1dd701301c195021bf1a01bf1e001bf1f104891bf4f4f1bf7013018195021ad1a01ad4b4f1ad7013061910219d1a5f19d70130181910218b1a018b4b2f18b7011022783f04e10000003723ef13df21863a61b11828063d2c3cf3a001336c3b0181f1d019239f138f401182806382c2ff2d001235a2e073e48182024886544881d01c3b4a2a040229f128f201182806282c1ff1d001233a1e0775301d201300110062241890320292a1a0339420319f10011300185c3342300102,[],[.eqA A6 ([.i .i64,.i .i64,.i .i64,.i .i64,.i .i64,.i .i64,.i .i64,.i .i64]) (.t 59) (.t 60)],[.tmp 0],[E1 B1h B8R,E1 sX A3m,E1 oD A1t,E1 A5e B2r,E1 B1u B8S]⟩
def A4M:=xZ.R
def B7Q:=mR A4M xZ (tT []) n [] h
def B2n:=xZ.K Tryz.func23
def A5a:=xZ.S
def B2P:G3 A4M A5a:=B2n.flat
end
def D42:Dev:=D40.set 1 (zeros 256)
def C8G:D42.length=16:=by unfold D42;rw [E0c,A24]
def D3L:okD D42:=okD40.set zeros_length
def D2I:A5w D42=A5:=by decide +kernel
def D2J:yX D42=8:=by decide +kernel
def D7i:N3 (kK D40 8 (F5 D40 8)) D40 0=[]:=by decide +kernel
def D7j:N3 (kK D42 8 (F5 D42 8)) D42 0=[(1,map40)]:=by decide +kernel
def D4V:B5R D42 8=[1,0,0,0,0,0,0,3]:=by decide +kernel
def B2b (h:A9):A5a [] h=A4 (bV A5,h):=by
 have key:∀ g,∃ g',A4M 0 [] g=A4 (bV A5,g'):=λg=>by
  have hF:=C4u g;obtain ⟨G,hG⟩:∃ G,G=g++[rT (C8 D40)]:=⟨_,rfl⟩;rw [<-hG] at hF;have hH:Has G (sV g.length 0 D40.length 256) 256 D40.length (C8 D40):=by rw [hG];exact Has.tr (by simp) (F0 okD40) (T5 _)
  have hP:=rB hH okD40 D6z (by rw [A24];omega);rw [D6A,D7i] at hP;obtain ⟨H,hHe⟩:∃ H,H=G++[rT (fG [])]:=⟨_,rfl⟩;rw [<-hHe] at hP;have rg:rd H g.length=rT (C8 D40):=by rw [hHe,hG];refine B6 ?_;rw [I1];rfl
  have ad1:E5 256 (sV g.length 0 16 256) (iV 1)=A4 (pV g.length 256):=rfl;have ef:E7 (B4 (zeros 256)) []=A4 (B4 (zeros 256)):=rfl;obtain ⟨K,hK⟩:∃ K,K=H.set g.length (rT (C8 D42)):=⟨_,rfl⟩;have st:E9 H 256 (pV g.length 256) (.a (B4 (zeros 256)))=A4 K:=by
   have:=zX (i:=1) rg okD40 zeros_length (by rw [A24];omega);rw [hK];exact this
  have rK:rd K g.length=rT (C8 D42):=by rw [hK];exact D1 (D7 rg)
  have hHK:Has K (sV g.length 0 D42.length 256) 256 D42.length (C8 D42):=Has.tr rK (F0 D3L) (T5 _);have hP2:=rB hHK D3L D2I (by rw [C8G];omega);rw [D2J,D7j] at hP2;obtain ⟨L,hL⟩:∃ L,L=K++[rT (fG [(1,map40)])]:=⟨_,rfl⟩;rw [<-hL] at hP2;have hHL:Has L (sV g.length 0 D42.length 256) 256 D42.length (C8 D42):=by rw [hL];exact hHK.more _
  obtain ⟨hC,_⟩:=C2m hHL D3L D2I (by rw [C8G];omega);rw [D2J,D4V] at hC;have z8:[o0,o0,o0,o0,o0,o0,o0,o0]=encI (zI 8):=rfl;obtain ⟨Q,hQ⟩:∃ Q,Q=L++[rT (encI [1,0,0,0,0,0,0,3])]:=⟨_,rfl⟩;have s8:E9 (L++[rT (encI (zI 8))]) 8 (pV L.length 0) (.a (encI [1,0,0,0,0,0,0,3]))=A4 Q:=by
   rw [storeAll (by rw [I1];rfl) (by rfl) (by rfl),nC,hQ];rfl
  have l8:D3 Q 8 (pV L.length 0)=A4 (.a (encI [1,0,0,0,0,0,0,3])):=C9 (by rw [hQ,I1];rfl) (by rfl);have hw:Has Q (sV K.length 0 [((1:Int),map40)].length 257) 257 [((1:Int),map40)].length (fG [(1,map40)]):=by
   have hok:okW [(1,map40)]:=λx hx=>by simp at hx;subst hx;exact zH
   rw [hQ,hL];exact (Has.tr (by rw [I1];rfl) (jM hok) (B35 _)).more _
  obtain ⟨_,_,e1,_,a1,_,b1⟩:=C4y hw (λx hx=>by simp at hx;subst hx;exact zH) (i:=0) (by decide);cases e1;have ef2:E7 (encI (zI 8)) [(0,1,iV 1),(7,1,iV 3)]=A4 (encI [1,0,0,0,0,0,0,3]):=rfl;have eq:=C7V (l:=[1,0,0,0,0,0,0,3]) (m:=[1,0,0,0,0,0,0,3]) (n:=8) rfl rfl;have er:D9w 8 (Sh.i .i64)=[Sh.i .i64,.i .i64,.i .i64,.i .i64,.i .i64,.i .i64,.i .i64,.i .i64]:=rfl;rw [er,decide_eq_true rfl] at eq;have hS:=C6R (x:=[1,0,0,0,0,0,0,3]) (h:=Q) rfl (by decide);have es:[1,0,0,0,0,0,0,3].tail.sum=(3:Int):=by decide
  rw [es] at hS;rw [A24] at hP;rw [C8G] at hP2 hC;have c16:((16:Nat):Int)=16:=rfl;have c0:((0:Nat):Int)=0:=rfl;have c1:((1:Nat):Int)=1:=rfl;have l0:([]:List Wr).length=0:=rfl;have l1:[((1:Int),map40)].length=1:=rfl;rw [l0] at hP;rw [l1] at hP2 a1;rw [c0] at a1;have b1':B8 Q (pV K.length 0)=A4 (iV 1):=b1;have a1':E5 257 (sV K.length 0 1 257) (iV 0)=A4 (pV K.length 0):=a1;rw [B7Q,F7,z8];generalize encI [1,0,0,0,0,0,0,3]=R at *;generalize encI (zI 8)=Z at *;generalize B4 (zeros 256)=W at *;exact ⟨Q,by simp only [esc,D3q,hF,c16,hP,ef,ad1,st,hP2,hC,s8,c0,c1,a1',b1',l8,ef2,eq,hS,eq_self]⟩
 obtain ⟨g',e⟩:=key (ro h);exact B2P e rfl
def C7K {h:A9} {v:Val} {t:List Nd} (ht:IsTree h v t) {i:Nat} (hi:i<t.length) :
  ∃ id o cs,E5 7 v (iV (i:Int))=A4 (pV id o)/\D3 h 7 (pV id o)=A4 (.a cs)/\(∀ k c,cs[k]?=A4 c->B8 h (pV id (o+k))=A4 (.c c))/\IsNd h cs t[i]:=by
 obtain ⟨cs,h1,h2⟩:=ht;have hcs:=h2.noX;obtain ⟨id,off,rfl,hid,hA,hB⟩:=h1.sl (by omega);refine ⟨id,off+i*7,_,D8 hi,hB (i*7) 7 (by rw [hcs.2];omega),λk c hk=>?_,h2.at (D9u hi)⟩;have hk7:k<7:=by
  have:=(List.getElem?_eq_some_iff.1 hk).1;simp at this;omega
 rw [D97 hk7,E0u] at hk;have:=hA _ _ hk
 rwa [<-Nat.add_assoc] at this
def C9s {neg:Bool} {x y:Ent}:aeq neg [.s,.i .i64] (.a (R0 (A4 x))) (.a (R0 (A4 y)))=A4 (.c (.b (bif neg then !(decide (x=y)) else decide (x=y)))):=by
 have e:decide (R0 (A4 x)=R0 (A4 y))=decide (x=y):=by
  apply Bool.eq_iff_iff.2;rw [decide_eq_true_iff,decide_eq_true_iff];constructor
  ·intro h;simp only [R0,List.cons.injEq,Cell.s.injEq,Cell.i.injEq,true_and,and_true] at h;exact Prod.ext h.1 h.2
  ·rintro rfl;rfl
 simp only [aeq];rw [if_pos ⟨rfl,rfl⟩,e]
def A8U (x y:Nd):Prop:=x.ino=y.ino/\x.kind=y.kind/\x.size=y.size/\x.data=y.data/\x.names=y.names
instance (x y:Nd):Decidable (A8U x y):=inferInstanceAs (Decidable (_/\_))
def B9M {b z:Cell} {l r:List Ent} {q rid:Nat} {g:A9} {dc:List Cell} (hb:Has g (.c b) 2 l.length (I7 l)) (hz:Has g (.c z) 2 r.length (I7 r)) (hr:rd g rid=rT dc) (h6:dc[6]?=A4 z) (hlr:l.length=r.length) (h62:l.length<=1000000):∀ (e i M:Nat) (h:A9),i+e=l.length->e<M->Low g.length g h ->
  ∃ h',B0Z q M (.c (.p rid 0)) (.c b) (.c (.i .i64 (l.length:Int))) (.c (.i .i64 (i:Int))) h=A4 (.c (.b (decide (l.drop i=r.drop i))),h')
 | e,i,0,h,_,hm,_=>by omega
 | 0,i,M+1,h,hi,hm,hlow=>by
  have c0:¬ ((i:Int)<(l.length:Nat)):=by omega
  rw [A4n,D9K (by omega),D9K (by omega)];exact ⟨h,by simp only [E4,H7,c0,decide_false,dT,decide_true]⟩
 | e+1,i,M+1,h,hi,hm,hlow=>by
  have L8:i<l.length:=by omega
  have c0:(i:Int)<(l.length:Nat):=by omega
  have w1:=D9 (show i+1<9223372036854775808 by omega);obtain ⟨a,a1,a2⟩:=A31 (hb.since hlow) L8;have low2:Low g.length g (h++[rT (R0 (A4 l[i]))]):=hlow.new _;obtain ⟨b',b1,b2⟩:=A31 (hz.since low2) (show i<r.length by omega);have g6:B8 (h++[rT (R0 (A4 l[i]))]) (.c (.p rid 6))=A4 (.c z):=B9 (low2.rd hr) h6 (by simp);have le:D3 (h++[rT (R0 (A4 l[i]))]) 2 (.c (.p h.length 0))=A4 (.a (R0 (A4 l[i]))):=C9 O8 rfl;obtain ⟨h',ih⟩:=B9M (q:=q) hb hz hr h6 hlr h62 e (i+1) M _ (by omega) (by omega) low2;rw [A4n,D9E L8,D9E (show i<r.length by omega)];by_cases c:l[i]=r[i]
  ·refine ⟨h',?_⟩;have ec:(l[i]::l.drop (i+1)=r[i]::r.drop (i+1))=(l.drop (i+1)=r.drop (i+1)):=by rw [c];exact propext ⟨λh=>(List.cons.inj h).2,λh=>by rw [h]⟩
   have ae:=C9s (neg:=A5) (x:=l[i]) (y:=r[i]);rw [decide_eq_true c] at ae;simp only [E4,H7,c0,decide_true,fD,a1,a2,C1p,le,qL,D9T,g6,b1,b2,ae,cond_true,Bool.not_true,dT,P6,w1,D9Q,ec];exact ih
  ·have ec:¬ (l[i]::l.drop (i+1)=r[i]::r.drop (i+1)):=λe=>c (List.cons.inj e).1
   exact ⟨_,by simp only [E4,H7,c0,decide_true,fD,a1,a2,C1p,le,qL,D9T,g6,b1,b2,C9s,cond_true,c,decide_false,E0E,D9Q,ec]<;>rfl⟩
def C2u {cs ds:List Cell} {x y:Nd} {h:A9} (hx:IsNd h cs x) (hy:IsNd h ds y) (h1:x.data.length<=1000000) (h2:x.names.length<=1000000) :
  A5f [.a cs,.a ds] h=A4 (bV (decide (A8U x y)),h):=by
 have key:∀ g,IsNd g cs x->IsNd g ds y->∃ g',A4Z (x.names.length+1) [.a cs,.a ds] g=A4 (bV (decide (A8U x y)),g'):=by
  rintro g ⟨a,b,rfl,hA,hB⟩ ⟨c,d,rfl,hC,hDD⟩;obtain ⟨H,hH⟩:∃ H,H=(g++[rT (ndC x.ino x.kind x.links x.parent x.size a b)])++[rT (ndC y.ino y.kind y.links y.parent y.size c d)]:=⟨_,rfl⟩;have e1:(g++[rT (ndC x.ino x.kind x.links x.parent x.size a b)]).length=g.length+1:=by simp
  have r0:rd H g.length=rT (ndC x.ino x.kind x.links x.parent x.size a b):=by rw [hH];simp
  have r1:rd H (g.length+1)=rT (ndC y.ino y.kind y.links y.parent y.size c d):=by rw [hH,<-e1];exact O8
  have low:Low g.length g H:=by rw [hH];exact ((Low.refl (D9x _)).new _).new _
  have x0:B8 H (pV g.length 0)=A4 (iV x.ino):=B9 r0 rfl rfl;have x1:B8 H (pV g.length 1)=A4 (iV x.kind):=B9 r0 rfl rfl;have x4:B8 H (pV g.length 4)=A4 (iV x.size):=B9 r0 rfl rfl;have x5:B8 H (pV g.length 5)=A4 (.c a):=B9 r0 rfl (by simp);have x6:B8 H (pV g.length 6)=A4 (.c b):=B9 r0 rfl (by simp);have y0:B8 H (pV (g.length+1) 0)=A4 (iV y.ino):=B9 r1 rfl rfl;have y1:B8 H (pV (g.length+1) 1)=A4 (iV y.kind):=B9 r1 rfl rfl;have y4:B8 H (pV (g.length+1) 4)=A4 (iV y.size):=B9 r1 rfl rfl;have y5:B8 H (pV (g.length+1) 5)=A4 (.c c):=B9 r1 rfl (by simp);have y6:B8 H (pV (g.length+1) 6)=A4 (.c d):=B9 r1 rfl (by simp);have bA:=(hA.since low).str;have bC:=(hC.since low).str;have lB:=hB.len;have lD:=hDD.len;rw [B75];simp only [fC,E4];rw [e1,<-hH];by_cases c0:x.ino=y.ino
  ·by_cases c1:x.kind=y.kind
   ·by_cases c4:x.size=y.size
    ·by_cases c5:x.data=y.data
     ·by_cases cl:x.names.length=y.names.length
      ·obtain ⟨h',f1⟩:=B9M (q:=x.names.length+1) (hB.since low) (hDD.since low) r1 (z:=d) rfl cl h2 x.names.length 0 (x.names.length+1) H (by omega) (by omega) (Low.refl (D9x _));rw [D9O,D9O] at f1;have el:decide (x.names=y.names)=decide (A8U x y):=by
        apply Bool.eq_iff_iff.2;rw [decide_eq_true_iff,decide_eq_true_iff];exact ⟨λh=>⟨c0,c1,c4,c5,h⟩,λh=>h.2.2.2.2⟩
       rw [el] at f1;refine ⟨h',?_⟩;rw [<-cl] at lD;rw [<-c5] at bC;rw [<-c4] at y4;rw [<-c1] at y1;rw [<-c0] at y0;simp only [esc,x0,x1,x4,x5,x6,y0,y1,y4,y5,y6,bA,bC,lB,lD,eq_self];exact f1
      ·have ce:¬ A8U x y:=λe=>cl (by rw [e.2.2.2.2])
       have c2:¬ ((x.names.length:Nat):Int)=(y.names.length:Nat):=by omega
       rw [<-c5] at bC;rw [<-c4] at y4;rw [<-c1] at y1;rw [<-c0] at y0;exact ⟨H,by simp only [esc,x0,x1,x4,x5,x6,y0,y1,y4,y5,y6,bA,bC,lB,lD,eq_self,c2,ce]⟩
     ·have ce:¬ A8U x y:=λe=>c5 e.2.2.2.1
      rw [<-c4] at y4;rw [<-c1] at y1;rw [<-c0] at y0;exact ⟨H,by simp only [esc,x0,x1,x4,x5,x6,y0,y1,y4,y5,y6,bA,bC,lB,lD,eq_self,c5,ce]⟩
    ·have ce:¬ A8U x y:=λe=>c4 e.2.2.1
     rw [<-c1] at y1;rw [<-c0] at y0;exact ⟨H,by simp only [esc,x0,x1,x4,x5,x6,y0,y1,y4,y5,y6,bA,bC,lB,lD,eq_self,c4,ce]⟩
   ·have ce:¬ A8U x y:=λe=>c1 e.2.1
    rw [<-c0] at y0;exact ⟨H,by simp only [esc,x0,x1,x4,x5,x6,y0,y1,y4,y5,y6,bA,bC,lB,lD,eq_self,c1,ce]⟩
  ·have ce:¬ A8U x y:=λe=>c0 e.1
   exact ⟨H,by simp only [esc,x0,x1,x4,x5,x6,y0,y1,y4,y5,y6,bA,bC,lB,lD,eq_self,c0,ce]⟩
 obtain ⟨g',e⟩:=key (ro h) hx.ro hy.ro;exact B25 e rfl
def qM (p:Nat->Bool):Nat->Nat->Bool
 | 0,_=>A5
 | e+1,i=>p i&&qM p e (i+1)
def B53 (t u:List Nd) (i:Nat):Bool:=match t[i]?,u[i]? with
 | some x,A4 y=>decide (A8U x y)
 | _,_=>A6
def C1g (t u:List Nd) (i:Nat):Bool:=match t[i]?,u[i]? with
 | some x,A4 y=>decide (x.links=y.links/\x.parent=y.parent)
 | _,_=>A6
def C3n (t u:List Nd):Bool:=decide (t.length=u.length)&&qM (B53 t u) t.length 0
def D0f (t u:List Nd):Bool:=C3n t u&&qM (C1g t u) t.length 0
def C3o {v w:Val} {t u:List Nd} {h:A9} {q:Nat} (hv:IsTree h v t) (hw:IsTree h w u) (hs:small t) (hl:t.length=u.length):∀ e i M:Nat,i+e=t.length->e<M ->
  B4y q M v w (iV (t.length:Int)) (iV (i:Int)) h=A4 (bV (qM (B53 t u) e i),h)
 | e,i,0,_,hm=>by omega
 | 0,i,M+1,hi,hm=>by
  have c0:¬ ((i:Int)<(t.length:Nat)):=by omega
  rw [A6y,qM];simp only [E4,H7,c0,decide_false,dT]
 | e+1,i,M+1,hi,hm=>by
  have L8:i<t.length:=by omega
  have h6:=hs.1;have c0:(i:Int)<(t.length:Nat):=by omega
  have w1:=D9 (show i+1<9223372036854775808 by omega);obtain ⟨a,cs,a1,a2,a3⟩:=hv.at L8;obtain ⟨b,ds,b1,b2,b3⟩:=hw.at (show i<u.length by omega);have hsm:=hs.2 _ (D9Y L8);have hA:=C2u a3 b3 hsm.1 hsm.2;have ih:=C3o (q:=q) hv hw hs hl e (i+1) M (by omega) (by omega);have el:B53 t u i=decide (A8U t[i] u[i]):=by unfold B53;rw [D9u L8,D9u (show i<u.length by omega)]
  rw [<-el] at hA;rw [A6y,qM];cases c:B53 t u i with
  | false =>
   rw [c] at hA;simp only [E4,H7,c0,decide_true,fD,a1,a2,b1,b2,D9Q,hA,A5n,E0E,D9L]
  | true =>
   rw [c] at hA;simp only [E4,H7,c0,decide_true,fD,a1,a2,b1,b2,D9Q,hA,A5n,Bool.not_true,dT,P6,w1,D9R,ih]
def C5e {v w:Val} {t u:List Nd} {h:A9} (hv:IsTree h v t) (hw:IsTree h w u) (hs:small t):A7Q [v,w] h=A4 (bV (C3n t u),h):=by
 refine B5z (n:=t.length+1) (h2:=ro h) ?_ rfl;have l1:=hv.ro.len;have l2:=hw.ro.len;rw [B9i];unfold C3n;by_cases c:t.length=u.length
 ·have k:=C3o (q:=t.length+1) hv.ro hw.ro hs c t.length 0 (t.length+1) (by omega) (by omega);rw [<-c] at l2;rw [decide_eq_true c,D9R];simp only [E4,l1,l2,B3e,ne_eq,eq_self,not_true_eq_false,decide_false,dT];exact k
 ·have c2:¬ ((t.length:Nat):Int)=(u.length:Nat):=by omega
  rw [decide_eq_false c,D9L];simp only [E4,l1,l2,B3e,ne_eq,c2,not_false_eq_true,decide_true,fD]
def C1F {v w:Val} {t u:List Nd} {h:A9} {q:Nat} (hv:IsTree h v t) (hw:IsTree h w u) (hs:small t) (hl:t.length=u.length):∀ e i M:Nat,i+e=t.length->e<M ->
  B4z q M v w (iV (t.length:Int)) (iV (i:Int)) h=A4 (bV (qM (C1g t u) e i),h)
 | e,i,0,_,hm=>by omega
 | 0,i,M+1,hi,hm=>by
  have c0:¬ ((i:Int)<(t.length:Nat)):=by omega
  rw [A6z,qM];simp only [E4,H7,c0,decide_false,dT]
 | e+1,i,M+1,hi,hm=>by
  have L8:i<t.length:=by omega
  have h6:=hs.1;have c0:(i:Int)<(t.length:Nat):=by omega
  have w1:=D9 (show i+1<9223372036854775808 by omega);obtain ⟨id,o,cs,a1,_,a3,a4⟩:=C7K hv L8;obtain ⟨bQ,o',ds,b1,_,b3,b4⟩:=C7K hw (show i<u.length by omega);obtain ⟨x,y,rfl,_,_⟩:=a4;obtain ⟨x',y',rfl,_,_⟩:=b4;have g2:=a3 2 _ rfl;have g3:=a3 3 _ rfl;have k2:=b3 2 _ rfl;have k3:=b3 3 _ rfl;have ih:=C1F (q:=q) hv hw hs hl e (i+1) M (by omega) (by omega);have el:C1g t u i=decide ((t[i]).links=(u[i]).links/\(t[i]).parent=(u[i]).parent):=by unfold C1g;rw [D9u L8,D9u (show i<u.length by omega)]
  rw [A6z,qM,el];by_cases c1:(t[i]).links=(u[i]).links
  ·by_cases c2:(t[i]).parent=(u[i]).parent
   ·rw [<-c1] at k2;rw [<-c2] at k3;rw [decide_eq_true ⟨c1,c2⟩,D9R];simp only [esc,c0,a1,b1,g2,g3,k2,k3,eq_self,w1,ih]
   ·rw [<-c1] at k2;rw [decide_eq_false (λh=>c2 h.2),D9L];simp only [esc,c0,a1,b1,g2,g3,k2,k3,eq_self,c2]
  ·rw [decide_eq_false (λh=>c1 h.1),D9L];simp only [esc,c0,a1,b1,g2,g3,k2,k3,c1]
def C5f {v w:Val} {t u:List Nd} {h:A9} (hv:IsTree h v t) (hw:IsTree h w u) (hs:small t):A7S [v,w] h=A4 (bV (D0f t u),h):=by
 refine B5A (n:=t.length+1) (h2:=ro h) ?_ rfl;have l1:=hv.ro.len;have hL:=C5e hv.ro hw.ro hs;rw [B9j];unfold D0f;cases c:C3n t u with
 | false =>
  rw [c] at hL;simp only [E4,hL,A5n,E0E,fD,D9L]
 | true =>
  rw [c] at hL;have cl:t.length=u.length:=by
   unfold C3n at c;rw [D9v] at c;exact of_decide_eq_true c.1
  have k:=C1F (q:=t.length+1) hv.ro hw.ro hs cl t.length 0 (t.length+1) (by omega) (by omega);simp only [E4,hL,A5n,Bool.not_true,dT,l1,D9R];exact k
def D1C {D:Dev} {n a:Int} (h2:kdV D n 1=2) (ha:a∈C7m D n):kdV D n a=1\/kdV D n a=2:=by
 obtain ⟨j,_,hi⟩:=C1h (D:=D) (n:=n);by_cases c:a=1
 ·subst c;exact .inr h2
 ·obtain ⟨b,_,e,he,rfl⟩:=hi.by_ a ha c;exact C95 e he
def C1C {D:Dev} {n:Int} {x:Nd} (hx:x∈A4l D n):kdV D n 1=2/\x.ino∈C7m D n/\(x.kind=1\/x.kind=2)/\x.names=A4f D n x.ino/\x.data=wU D n x.ino/\x.kind=kdV D n x.ino:=by
 obtain ⟨h1,h2,h3⟩:=C3W.1 hx;refine ⟨h1,h2,?_,by rw [h3];rfl,by rw [h3];rfl,by rw [h3];rfl⟩;have:=D1C h1 h2;rw [h3];exact this
def D1Z {D:Dev} {n:Int}:(A4l D n).length<=129:=by
 unfold A4l;split
 ·have:=E0m (λ(i:Nat)=>decide ((i:Int)∈C7m D n)) (D90 129);simpa using this
 ·simp
def D2G {D:Dev} {n i:Int}:(wU D n i).length<=34304:=by
 unfold wU;rw [C46];unfold dA;split<;>omega
def C7I {D:Dev} {n:Int} {x:Nd} (hx:x∈A4l D n):x.names.length<=224/\∀ e∈x.names,e.1.length<=24:=by
 obtain ⟨_,_,_,hn,_⟩:=C1C hx;rw [hn];exact ⟨C6V,λe he=>(aZ (C8H (List.mem_filter.1 he).1)).2⟩
def C7J {D:Dev} {n:Int}:small (A4l D n):=by
 refine ⟨by have:=D1Z (D:=D) (n:=n);omega,λx hx=>?_⟩;obtain ⟨_,_,_,hn,hd,_⟩:=C1C hx;have h1:=(C7I hx).1;have h2:=D2G (D:=D) (n:=n) (i:=x.ino);rw [hd];omega
section
variable (n m m2:Nat) (a0 a1 x5 x6 x8 x9 x10 x12:Val) (h:A9)
def aV:FD A8:=⟨px 0X11edf4030419003cf2f01301a191053bb1a03bb4b0153bb2f2fe43bb3c01301c19062639d2f01539d2f1d2e8439d3c01539d2f2e8439d3c013061910238d1a2ca38d70110222c81c801a0193c00001731bff11bef2462e291b11828061be2c1bdf1bb001432bc1bc0184d4b01921baf11b9f2462e1f1b11828061b92c1b8f1ae001432ac1af018493f01921adf11a8f1d006183330292aa12a812a8106183330296f16f15f19c01c3d3b0192188f1c050021ce7f03180134011900000004722403810489180184891d04021ee11fc16f1048918044891d1dc11de18901a0192af43156130702406120291cc11be7b041fd42030060511c0139291822d2b1d1b0293013401190000003722401b281901a31cc1a0471cc1a1be1cc701cc4b6f1cc701cc4b1aa1cc701103219a6801b1ed425135ff15ef1a011828065e2c5df5b0012318e5c072f2d1825af19004633318a16f15f4f052b424ef18001818250020297a10681f4907291d1b01d20148f4000326e00001722410325e3e027f423133df13cf6011828063c2c3bf39001235a3a071f1d18238f50011372f031b60192012ef4000324a000072243e905202972b035b4203340130182,[],[.eqA A5 ([.i .i64]++D9w 256 (.i .u8)) (.t 68) (.t 74)],[.tmp 4],[E1 A5a B2n,E1 B5b C2z,E1 oD A1t,E1 yR B2q,lM oG A9i,lM aY A55,E1 A7S B6D]⟩
def wL:=aV.R
def tH:AtH:=aV.lj 0 n [m] [x5,x6,x8,x9,x10,x12]
def A6b:=tT [⟨2,6,tH⟩]
def B07:=mR wL aV A6b n [a0,a1] h
def xN:=mL aV A6b 0 n [m] [x5,x6,x8,x9,x10,x12] h
def A54:=aV.K Tryz.func7
def wO:=aV.S
def B1i:SOk A8 7 wO:=A54.sok
def A7H:G3 wL wO:=A54.flat
end
def B1D {p:Nat->Bool}:∀ {e i:Nat},(∀ j,i<=j->j<i+e->p j=A5)->qM p e i=A5
 | 0,_,_=>rfl
 | e+1,i,h=>by
  unfold qM;rw [h i (D9x _) (by omega),B1D λj h1 h2=>h j (by omega) (by omega)];rfl
def C9a {t:List Nd}:D0f t t=A5:=by
 unfold D0f C3n;rw [decide_eq_true rfl,B1D λj _ hj=>?_,B1D λj _ hj=>?_]
 ·rfl
 ·unfold C1g;rw [D9u (show j<t.length by omega)];exact decide_eq_true ⟨rfl,rfl⟩
 ·unfold B53;rw [D9u (show j<t.length by omega)];exact decide_eq_true ⟨rfl,rfl,rfl,rfl,rfl⟩
def D4r {D:Dev} {n:Int} (h:kdV D n 1=2):0<(A4l D n).length:=by
 obtain ⟨j,_,hR⟩:=C1h (D:=D) (n:=n);exact List.length_pos_of_mem ((C3W (x:=xS D n 1)).2 ⟨h,hR.hd,rfl⟩)
def D6s {w:Wr} (h:w.2.length=256):aeq A5 ([Sh.i .i64]++D9w 256 (Sh.i .u8)) (.a (wrC w)) (.a (wrC w))=A4 (bV A6):=by
 simp only [aeq];have e:(wrC w).map Cell.sh=([Sh.i .i64]++D9w 256 (Sh.i .u8)).map A4:=by
  unfold wrC;rw [E0d,C4r,h];rfl
 rw [if_pos ⟨e,e⟩];simp
section
variable {D E I:Dev} {L:List Wr} {k q:Nat} {Y:A9} {x5 x6 x9 x10:Val}
def D3z (hD:okD D) (hE:okD E) (hI:okD I) (lE:E.length=D.length) (lI:I.length=D.length) (h60:D.length<=60) (dI:A5w I=A5) (rI:kdV I (yX I) 1=2) (okL:okW L) (hL:L.length<=60)
  (h5:Has Y x5 256 D.length (C8 D)) (h6:Has Y x6 257 L.length (fG L)) (h9:Has Y x9 256 E.length (C8 E)) (h10:Has Y x10 257 (L.drop k).length (fG (L.drop k)))
  (aD:cQ (L.length:Nat) D 0 L=I) (aE:cQ ((L.drop k).length:Nat) E 0 (L.drop k)=I) {M:Nat} :
  ∃ g',tH q (M+1) x5 x6 (iV (k:Int)) x9 x10 (iV ((L.drop k).length:Nat)) Y=A4 (bV A5,g'):=by
 have okR:okW (L.drop k):=λx hx=>okL x (List.mem_of_mem_drop hx)
 have lR:(L.drop k).length<=60:=by rw [E0f];omega
 obtain ⟨R,hR⟩:∃ R,R=L.drop k:=⟨_,rfl⟩;rw [<-hR] at h10 aE okR lR ⊢;have al6:=h6.len;have al10:=h10.len;have hA:=A25 (n:=(L.length:Nat)) h5 hD h6 okL (by omega) (by omega);rw [aD,<-lI] at hA;obtain ⟨Y1,hY1⟩:∃ Y1,Y1=Y++[rT (C8 I)]:=⟨_,rfl⟩;rw [<-hY1] at hA;have h9':Has Y1 x9 256 E.length (C8 E):=by rw [hY1];exact h9.more _
 have D8w:Has Y1 x10 257 R.length (fG R):=by rw [hY1];exact h10.more _
 have hB:=A25 (n:=(R.length:Nat)) h9' hE D8w okR (by omega) (by omega);rw [aE,lE,<-lI] at hB;obtain ⟨Y2,hY2⟩:∃ Y2,Y2=Y1++[rT (C8 I)]:=⟨_,rfl⟩;rw [<-hY2] at hB;have ha:Has Y2 (sV Y.length 0 I.length 256) 256 I.length (C8 I):=by
  rw [hY2];refine Has.more ?_ _;rw [hY1];exact Has.tr (by rw [I1];rfl) (F0 hI) (T5 I)
 have hb:Has Y2 (sV Y1.length 0 I.length 256) 256 I.length (C8 I):=by
  rw [hY2];exact Has.tr (by rw [I1];rfl) (F0 hI) (T5 I)
 obtain ⟨f,t,v1,v2⟩:=A5Y ha hI dI (by omega);obtain ⟨n,en⟩:∃ n,n=yX I:=⟨_,rfl⟩;obtain ⟨m,em⟩:∃ m,m=C57 I:=⟨_,rfl⟩;rw [<-en] at rI;rw [<-en,<-em] at v1;obtain ⟨T,hT⟩:∃ T,T=Y2++t:=⟨_,rfl⟩;rw [<-hT] at v1 v2;obtain ⟨Y3,hY3⟩:∃ Y3,Y3=T++[rT (vwC I.length n m f)]:=⟨_,rfl⟩;have s1:E9 (T++[rT [o0,o0,.i .u64 0,.nf]]) 4 (pV T.length 0) (.a (vwC I.length n m f))=A4 Y3:=by rw [F8,hY3];rfl
 have hb3:Has Y3 (sV Y1.length 0 I.length 256) 256 I.length (C8 I):=by rw [hY3,hT];exact (hb.more _).more _
 obtain ⟨f',t',u1,u2⟩:=A5Y hb3 hI dI (by omega);rw [<-en,<-em] at u1;obtain ⟨U,hU⟩:∃ U,U=Y3++t':=⟨_,rfl⟩;rw [<-hU] at u1 u2;obtain ⟨Y5,hY5⟩:∃ Y5,Y5=U++[rT (vwC I.length n m f')]:=⟨_,rfl⟩;have s2:E9 (U++[rT [o0,o0,.i .u64 0,.nf]]) 4 (pV U.length 0) (.a (vwC I.length n m f'))=A4 Y5:=by rw [F8,hY5];rfl
 have r3:rd Y5 T.length=rT (vwC I.length n m f):=by
  rw [hY5,hU];refine B6 (B6 ?_);rw [hY3,I1];rfl
 have r4:rd Y5 U.length=rT (vwC I.length n m f'):=by rw [hY5,I1];rfl
 have lT:D3 Y5 4 (pV T.length 0)=A4 (.a (vwC I.length n m f)):=C9 r3 rfl;have lU:D3 Y5 4 (pV U.length 0)=A4 (.a (vwC I.length n m f')):=C9 r4 rfl;have hv5:IsView Y5 f I:=by rw [hY5,hU,hY3];exact ((v2.more _).more _).more _
 have hu5:IsView Y5 f' I:=by rw [hY5];exact u2.more _
 obtain ⟨w1,Z1,o1,o2,o3⟩:=C2t (n:=n) (m:=m) hI hv5;have o1q:quiet Y5 (aY [.a (vwC I.length n m f)] Y5)=A4 (w1,Z1):=by rw [o1];exact Y7 o3
 have hlow1:Low Y5.length Y5 Z1:=by
  refine ⟨D9x _,o3.len,λid hid=>?_⟩;obtain ⟨tt,rfl⟩:=o3.1;exact E2 hid
 obtain ⟨w2,Z2,q1,q2,q3⟩:=C1D (n:=n) (m:=m) hI (hu5.since hlow1);have hS:=C5f (o2.since q3) q2 C7J;rw [C9a] at hS;have hlow2:Low Y5.length Y5 Z2:=hlow1.trans ⟨hlow1.2.1,q3.2.1,λid hid=>q3.2.2 id (by have:=hlow1.2.1;omega)⟩;have lT2:D3 Z2 4 (pV T.length 0)=A4 (.a (vwC I.length n m f)):=C9 (hlow2.rd r3) rfl;obtain ⟨w3,Z3,p1,p2,p3⟩:=C1D (n:=n) (m:=m) hI (hv5.since hlow2);have al3:=p2.len;have c3:((A4l I n).length:Int) > 0:=by have:=D4r rI;omega
 have c0:¬ ((R.length:Nat):Int)<(R.length:Nat):=by omega
 rw [xN];generalize vwC I.length n m f=V at *;generalize vwC I.length n m f'=V' at *;refine ⟨Z3,?_⟩;simp only [esc,al10,c0,al6,hA,hB,v1,s1,u1,s2,lT,o1q,lU,q1,hS,lT2,p1,al3,c3,B2b,C9N,D26,eq_self]
def D69 (hD:okD D) (hE:okD E) (hI:okD I) (lE:E.length=D.length) (lI:I.length=D.length) (h60:D.length<=60) (dI:A5w I=A5) (rI:kdV I (yX I) 1=2) (okL:okW L) (hL:L.length<=60) (hk:k<=L.length)
  (h5:Has Y x5 256 D.length (C8 D)) (h6:Has Y x6 257 L.length (fG L)) (h9:Has Y x9 256 E.length (C8 E)) (h10:Has Y x10 257 (L.drop k).length (fG (L.drop k)))
  (aD:cQ (L.length:Nat) D 0 L=I) (aE:cQ ((L.drop k).length:Nat) E 0 (L.drop k)=I) :
  ∀ e i M:Nat,i+e=(L.drop k).length->e<M->∃ g',tH q M x5 x6 (iV (k:Int)) x9 x10 (iV (i:Int)) Y=A4 (bV A5,g'):=by
 intro e
 induction e with
 | zero =>
  intro i M hi hM;obtain ⟨M,rfl⟩:∃ M',M=M'+1:=⟨M-1,by omega⟩;have ei:i=(L.drop k).length:=by omega
  subst ei;exact D3z hD hE hI lE lI h60 dI rI okL hL h5 h6 h9 h10 aD aE
 | succ e ih =>
  intro i M hi hM;obtain ⟨M,rfl⟩:∃ M',M=M'+1:=⟨M-1,by omega⟩;have okR:okW (L.drop k):=λx hx=>okL x (List.mem_of_mem_drop hx)
  have lR:(L.drop k).length=L.length-k:=E0f;have L8:i<(L.drop k).length:=by omega
  have hkl:k+i<L.length:=by omega
  have c0:(i:Int)<((L.drop k).length:Nat):=by omega
  have w1:=D9 (show i+1<9223372036854775808 by omega);have wk:D9B .i64 ((k:Int)+(i:Int))=((k+i:Nat):Int):=by rw [wrap_i64 (by omega) (by omega)];omega
  have al10:=h10.len;obtain ⟨id,off,e1,_,a1,b1,_⟩:=C4y h10 okR L8;obtain ⟨id6,off6,e6,_,a6,b6,_⟩:=C4y h6 okL hkl;have eg:(L.drop k)[i]=L[k+i]:=by rw [List.getElem_drop]
  rw [eg] at b1;have eq:=D6s (okL _ (D9Y hkl));obtain ⟨g',f1⟩:=ih (i+1) M (by omega) (by omega);refine ⟨g',?_⟩;rw [xN];generalize wrC L[k+i]=X at *;generalize [Sh.i .i64]++D9w 256 (Sh.i .u8)=S at *;simp only [D9Q,E4,al10,H7,c0,decide_true,fD,a1,b1,P6,wk,a6,b6,eq,dT,w1];exact f1
end
def C6Q {v:Val} {c:Nat} {D:Dev} {h:A9} (hv:Has h v 256 D.length (C8 D)) (hD:okD D) (hc:c<256):wO [v,.c (.i .u8 (c:Int))] h=A4 (bV A5,h):=by
 have key:∀ g,Has g v 256 D.length (C8 D)->∃ g',wL 600 [v,.c (.i .u8 (c:Int))] g=A4 (bV A5,g'):=by
  intro g hv;have hl:=hv.len;rw [B07];by_cases c0:(60:Int)<(D.length:Nat)
  ·exact ⟨_,by simp only [esc,hl,c0,B2b]<;>rfl⟩
  ·have hT:=D8g hv hD (by omega);obtain ⟨G,hG⟩:∃ G,G=g++[rT (C8 D)]:=⟨_,rfl⟩;rw [<-hG] at hT;have hH:Has G (sV g.length 0 D.length 256) 256 D.length (C8 D):=by rw [hG];exact Has.tr (by simp) (F0 hD) (T5 D)
   cases cd:A5w D with
   | false =>
    have hP:=C2n hH hD cd;have n13:¬ (13:Int)=0:=by decide
    exact ⟨_,by simp only [esc,hl,c0,hT,hP,n13,B2b]<;>rfl⟩
   | true =>
    have hm:=C0c cd;have hP:=rB hH hD cd (by omega);obtain ⟨n,en⟩:∃ n,n=yX D:=⟨_,rfl⟩;rw [<-en] at hP hm;obtain ⟨I,eI⟩:∃ I,I=kK D n (F5 D n):=⟨_,rfl⟩;obtain ⟨okI,lI⟩:=B3G hD hm;have hh0:=D3m hD hm;have D6c:=D3n hD hm;rw [<-eI] at hP okI lI hh0 D6c;obtain ⟨L,eL⟩:∃ L,L=N3 I D 0:=⟨_,rfl⟩;obtain ⟨okL,lenL⟩:=B4i (D:=D) (i:=0) okI;rw [<-eL] at hP okL lenL;obtain ⟨k,ek⟩:∃ k,k=c%(L.length+1):=⟨_,rfl⟩;have hk:k<=L.length:=by
     have:=Nat.mod_lt c (show 0<L.length+1 by omega);omega
    obtain ⟨H,hHe⟩:∃ H,H=G++[rT (fG L)]:=⟨_,rfl⟩;rw [<-hHe] at hP;have hxH:Has H (sV g.length 0 D.length 256) 256 D.length (C8 D):=by rw [hHe];exact hH.more _
    have hwH:Has H (sV G.length 0 L.length 257) 257 L.length (fG L):=by rw [hHe];exact Has.tr (by rw [I1];rfl) (jM okL) (B35 _)
    have hA:=A25 (n:=(k:Int)) hxH hD hwH okL (by omega) (by omega);obtain ⟨E,eE⟩:∃ E,E=cQ (k:Int) D 0 L:=⟨_,rfl⟩;obtain ⟨okE,lE⟩:=B5F (n:=(k:Int)) (i:=0) hD okL;rw [<-eE] at hA okE lE;have eM:E=A5G k I D:=by rw [eE,eL,B1F,D9N]
    have MX:Mixed D E n:=by rw [eM,eI];exact D3C hD hm
    have D7Q:=C58 lE (by rw [eM];exact D3B lI hh0);have D58:=C58 lI hh0;have hA:yR [sV g.length 0 D.length 256,sV G.length 0 L.length 257,iV (k:Int)] H=A4 (sV H.length 0 E.length 256,H++[rT (C8 E)]):=by rw [lE];exact hA
    obtain ⟨K,hK⟩:∃ K,K=H++[rT (C8 E)]:=⟨_,rfl⟩;rw [<-hK] at hA;have hyK:Has K (sV H.length 0 E.length 256) 256 E.length (C8 E):=by rw [hK];exact Has.tr (by rw [I1];rfl) (F0 okE) (T5 E)
    have hP2:=rB hyK okE (D7Q.1.trans cd) (by omega);have eP:N3 (kK E (yX E) (F5 E (yX E))) E 0=L.drop k:=by
     rw [D7Q.2.1,<-en,MX.img,<-eI,eM,A85,<-eL]
    rw [eP] at hP2;have okR:okW (L.drop k):=λx hx=>okL x (List.mem_of_mem_drop hx)
    have lR:(L.drop k).length=L.length-k:=E0f;obtain ⟨Y,hY⟩:∃ Y,Y=K++[rT (fG (L.drop k))]:=⟨_,rfl⟩;rw [<-hY] at hP2;have h5:Has Y (sV g.length 0 D.length 256) 256 D.length (C8 D):=by rw [hY,hK];exact (hxH.more _).more _
    have h6:Has Y (sV G.length 0 L.length 257) 257 L.length (fG L):=by rw [hY,hK];exact (hwH.more _).more _
    have h9:Has Y (sV H.length 0 E.length 256) 256 E.length (C8 E):=by rw [hY];exact hyK.more _
    have h10:Has Y (sV K.length 0 (L.drop k).length 257) 257 (L.drop k).length (fG (L.drop k)):=by rw [hY];exact Has.tr (by rw [I1];rfl) (jM okR) (B35 _)
    have aD:cQ (L.length:Nat) D 0 L=I:=by
     have h1:cQ (L.length:Nat) D 0 (N3 I D 0)=A5G L.length I D:=by rw [B1F,D9N]
     rw [<-eL] at h1;rw [h1];exact B8L (i:=0) lI (by rw [<-eL];exact D9x _)
    have aE:cQ ((L.drop k).length:Nat) E 0 (L.drop k)=I:=by
     have e0:N3 I E 0=L.drop k:=by rw [eM,A85,<-eL]
     have h1:cQ ((L.drop k).length:Nat) E 0 (N3 I E 0)=A5G (L.drop k).length I E:=by rw [B1F,D9N]
     rw [e0] at h1;rw [h1];exact B8L (i:=0) (lI.trans lE.symm) (by rw [e0];exact D9x _)
    obtain ⟨g',e1⟩:=D69 (q:=600) hD okE okI lE lI (by omega) (D58.1.trans cd) (by rw [D58.2.1,<-en];exact D6c) okL (by omega) hk h5 h6 h9 h10 aD aE (L.drop k).length 0 600 (by omega) (by omega);have z0:((0:Nat):Int)=0:=rfl;rw [z0] at e1;have wc:D9B .i64 (c:Int)=(c:Int):=wrap_i64 (by omega) (by omega);have wl:D9B .i64 ((L.length:Int)+1)=((L.length+1:Nat):Int):=by rw [wrap_i64 (by omega) (by omega)];omega
    have rm:K6 .rem (iV (c:Int)) (iV ((L.length+1:Nat):Int))=A4 (iV (k:Int)):=by
     rw [C3B (by omega) (by omega),ek];simp
    have ws:D9B .i64 ((L.length:Int)-(k:Int))=(((L.drop k).length:Nat):Int):=by rw [wrap_i64 (by omega) (by omega),lR];omega
    refine ⟨g',?_⟩;generalize (L.drop k).length=lR' at *;simp only [esc,D56,C9M,D25,eq_self,hl,c0,hT,hP,wc,wl,rm,hA,hP2,ws];exact e1
 obtain ⟨g',e⟩:=key (ro h) hv.ro;exact A7H e rfl
section
def A5V:List Char:=(([104,97,114,110,101,115,115,32,56,100,99,52,54,56,52,49,50,50,98,56,100,56,57,54,55,55,57,56,55,57,56,97,56,55,97,99,49,97,56,54,53,57,102,48,52,55,97,57,97,50,51,49,56,55,101,102,53,55,49,51,51,97,53,52,102,98,56,99,49,101,56,100,32,99,117,116,32,97,116,32,101,115,99,104,101,97,116,47,101,115,99,104,101,97,116,108,97,119,52,49,46,67,108,97,105,109,79,102,32,101,115,99,104,101,97,116,47,101,115,99,104,101,97,116,108,97,119,52,49,46,67,108,97,105,109,73,109,97,103,101,32,101,115,99,104,101,97,116,47,101,115,99,104,101,97,116,108,97,119,52,50,46,77,101,110,100,80,108,97,110,115,32,101,115,99,104,101,97,116,47,101,115,99,104,101,97,116,108,97,119,52,50,46,77,101,110,100,67,111,117,110,116,115,32,101,115,99,104,101,97,116,47,101,115,99,104,101,97,116,108,97,119,52,50,46,77,101,110,100,67,117,116,115,32,101,115,99,104,101,97,116,47,101,115,99,104,101,97,116,108,97,119,52,49,46,67,108,97,105,109,82,105,103,104,116,32,101,115,99,104,101,97,116,47,101,115,99,104,101,97,116,108,97,119,52,49,46,67,108,97,105,109,75,101,101,112,115,32,101,115,99,104,101,97,116,47,101,115,99,104,101,97,116,108,97,119,52,50,46,77,101,110,100,87,104,111,108,101]:List Nat).map Char.ofNat)
set_option maxRecDepth 100000
def D7h:ownKnob Tryz.prog.godebug=A7:=by kernel_rfl
def D5j:laidOutB A8=A5:=by kernel_rfl
def start_eq:Tryz.prog.initOrder=String.ofList A5V:=by kernel_rfl
def C9h:Tryz.prog.initOrder.toList=A5V:=by rw [start_eq,String.toList_ofList]
def startRest:List (List Char):=(([[99,117,116],[97,116],[101,115,99,104,101,97,116,47,101,115,99,104,101,97,116,108,97,119,52,49,46,67,108,97,105,109,79,102],[101,115,99,104,101,97,116,47,101,115,99,104,101,97,116,108,97,119,52,49,46,67,108,97,105,109,73,109,97,103,101],[101,115,99,104,101,97,116,47,101,115,99,104,101,97,116,108,97,119,52,50,46,77,101,110,100,80,108,97,110,115],[101,115,99,104,101,97,116,47,101,115,99,104,101,97,116,108,97,119,52,50,46,77,101,110,100,67,111,117,110,116,115],[101,115,99,104,101,97,116,47,101,115,99,104,101,97,116,108,97,119,52,50,46,77,101,110,100,67,117,116,115],[101,115,99,104,101,97,116,47,101,115,99,104,101,97,116,108,97,119,52,49,46,67,108,97,105,109,82,105,103,104,116],[101,115,99,104,101,97,116,47,101,115,99,104,101,97,116,108,97,119,52,49,46,67,108,97,105,109,75,101,101,112,115],[101,115,99,104,101,97,116,47,101,115,99,104,101,97,116,108,97,119,52,50,46,77,101,110,100,87,104,111,108,101]]:List (List Nat)).map (λl=>l.map Char.ofNat))
def D4n:wordsSigns A5V=(([104,97,114,110,101,115,115]:List Nat).map Char.ofNat)::(([56,100,99,52,54,56,52,49,50,50,98,56,100,56,57,54,55,55,57,56,55,57,56,97,56,55,97,99,49,97,56,54,53,57,102,48,52,55,97,57,97,50,51,49,56,55,101,102,53,55,49,51,51,97,53,52,102,98,56,99,49,101,56,100]:List Nat).map Char.ofNat)::startRest:=by kernel_rfl
def D7u:isSumSigns ((([56,100,99,52,54,56,52,49,50,50,98,56,100,56,57,54,55,55,57,56,55,57,56,97,56,55,97,99,49,97,56,54,53,57,102,48,52,55,97,57,97,50,51,49,56,55,101,102,53,55,49,51,51,97,53,52,102,98,56,99,49,101,56,100]:List Nat).map Char.ofNat))=A5:=by decide +kernel
def C8x : ((([104, 97, 114, 110, 101, 115, 115] : List Nat).map Char.ofNat) == "harness".toList) = true := by decide +kernel
def C73 (h s : List Char) (r : List (List Char)) (h1 : (h == "harness".toList) = true) (h2 : isSumSigns s = true) : behindMainWord (h :: s :: r) = r := by
 unfold behindMainWord;simp only [h1,h2,Bool.true_or,D9R,if_true]
def D0B:behindMainWord (wordsSigns A5V)=startRest:=by rw [D4n];exact C73 _ _ _ C8x D7u
def start_words:behindMainWord (wordsSigns Tryz.prog.initOrder.toList)=startRest:=by rw [C9h];exact D0B
def D1Q:List (List Char):=startRest.drop 1
def C48 : startRest = "cut".toList :: D1Q := by decide +kernel
def D3w {P : Program} {rest : List (List Char)} (h : behindMainWord (wordsSigns P.initOrder.toList) = "cut".toList :: rest) : P.make = some .cut := by
 have e1 : ("cut".toList == "gc".toList) = false := by decide +kernel
 have e2 : ("cut".toList == "spec".toList) = false := by decide +kernel
 have e3 : ("cut".toList == "cut".toList) = true := by decide +kernel
 unfold Program.make;rw [h];simp only [e1,e2,e3,Bool.or_self,Bool.true_or,E0v,if_false,if_true]
def D5o:Tryz.prog.make=A4 .cut:=D3w (start_words.trans C48)
def C1s {w:List Char} {ws:List (List Char)}:∀ os:List String,(os.all λo=>!(w==o.toList))=A5->stripLifts os (w::ws)=([],w::ws)
 | [],_=>rfl
 | o::os,h=>by
  simp only [E0j,D9v,E0e] at h;unfold stripLifts;rw [h.1,if_neg (by simp)];exact C1s os h.2
def C3N (rest : List (List Char)) : stripLifts liftWords ("cut".toList :: rest) = ([], "cut".toList :: rest) := C1s _ (by decide +kernel)
def D3p:Tryz.prog.laysLater=A6:=by kernel_rfl
def C82:Tryz.prog.bearsReflect=A6:=by kernel_rfl
def D43:Tryz.prog.doorFits []=A5:=by kernel_rfl
def D0Q {P : Program} {rest : List (List Char)} (h : behindMainWord (wordsSigns P.initOrder.toList) = "cut".toList :: rest) (h1 : P.laysLater = false) (h2 : P.bearsReflect = false) (h3 : P.doorFits [] = true) : P.mayEnter = true := by
 unfold Program.mayEnter;rw [h];simp only [C3N,h1,h2,h3];simp
def C6P:Tryz.prog.mayEnter=A5:=D0Q (start_words.trans C48) D3p C82 D43
def D1c {P : Program} {rest : List (List Char)} (h : behindMainWord (wordsSigns P.initOrder.toList) = "cut".toList :: rest) : P.liftsFinal = false := by
 unfold Program.liftsFinal Program.headLifts;rw [h];simp only [C3N];simp
def D3s:Tryz.prog.liftsFinal=A6:=D1c (start_words.trans C48)
end
end Go.Proofs.YtbnkgnfhgbhblaaGreat
